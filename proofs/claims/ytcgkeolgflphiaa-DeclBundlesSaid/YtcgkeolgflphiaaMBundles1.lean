/-
  Merged: WWords, Region, Lv, WLast, Ops, LvA, LvS, LvW, LvK, LvC, Tm, TmK, FoMa, May, LvO, Nf, LvR, MayR, RefMay, TName, TMay, TMayC, WireP, WireT, WireU, WireR, WShare, WMore, WireB, WireC, Dlv, RdP, TMayR, RdQ.
-/
import Derived.Below
import Derived.Deep.Draws
import Derived.Deep.AppendLies
import Derived.Maps.AppendAt
import Derived.OwnWalk
import Derived.Laws.BytesArg
import Derived.Laws.MakeOwn
import Derived.Laws.OwnMore
import Derived.Deep.OwnRows
import Derived.Tactics
import Derived.Lib.ConvBytes
import Derived.Laws.Slices
import Derived.WalkKit
import Derived.KernelRfl
import Derived.RowKit3
import Derived.Deep.LoopGhost
import Derived.Deep.QuietTactic
import Derived.BigQuiet
import Derived.WideLaws
import Derived.Deep.DeepCutAuto
import Derived.Deep.CutBlock
import Derived.Deep.RegionHeld3
import Derived.Laws.Rows
import Derived.Lib.AppendStr
import Derived.ArgAppend
import Derived.Laws.IdiomCopy
import Derived.RowKit
import Derived.Orders
import Derived.OrdersHeld
import Derived.Laws.BitsLemmas
import Derived.Test.YtcgkeolgflphiaaProg
import Derived.Deep.DeepMust
import Derived.Deep.RegionLaw
import Derived.RangeFuncNested
import Derived.RangeFuncBound
import Derived.RangeFuncCalls
import Derived.RangeFuncLeaves
import Derived.Shelf.Abstract
import Derived.OwnWalkIn
import Derived.TacticsInMore
import Derived.LoopNIn
import Derived.LoopIn
import Derived.Laws.BitsAllLaws
import Derived.Laws.CopyOwn
import Derived.Shelf.Bits.Mul64
set_option linter.unusedVariables false
set_option linter.unusedSimpArgs false
namespace Go.Proofs.YtcgkeolgflphiaaW.PrintWords
open Go.RowKit

structure Aside0 (p:Prop):Prop where mk :: (out:p)
theorem Ak {p:Prop} (h:p):Aside0 p:=⟨h⟩
def rd (xs:List Int) (i:Int):Int:=xs.getD i.toNat 0
def bt (s:ByteArray) (i:Int):Int:=if h:i.toNat<s.size then ((s[i.toNat]'h).toNat:Int) else 0
def nums (k:IntKind) (xs:List Int):List Value:=xs.map fun x=>.int k x
theorem nums_length (k:IntKind) (xs:List Int):(nums k xs).length=xs.length:=by simp [nums]
theorem below_alloc {w W:World} (h:Below w.heap.size w W) (o:Obj):Below w.heap.size w (W.alloc o):=h.alloc h.size o
theorem below_drew {B:Nat} {w W:World} (h:Below B w W):Below B w W.drew:=⟨h.os,h.tape,h.output,h.size,h.block⟩
theorem pw_below_drewN {B:Nat} {w W:World} (h:Below B w W) (n:Nat):Below B w (W.drewN n):=⟨h.os,h.tape,h.output,h.size,h.block⟩
theorem below_then {B:Nat} {w w1 w2:World} (h:Below B w w1) (hB:B≤w1.heap.size) (k:Below w1.heap.size w1 w2):Below B w w2:=
 h.trans ⟨k.os,k.tape,k.output,k.size,fun i hi=>k.block i (Nat.lt_of_lt_of_le hi hB)⟩
theorem grown_of_below {w w1:World} (h:Below w.heap.size w w1) (row:Option Nat):w.grownBy w1 row:=⟨h.os,h.tape,h.output,h.size,fun i hi _=>h.block i hi⟩
theorem pw_cell_below {w w1:World} (h:Below w.heap.size w w1) {a:Addr} {v:Value} (hc:w.cell? a=some v):w1.cell? a=some v:=(h.cell (World.block_lt_of_cell? w a hc)).trans hc

theorem add_plain (g j:Nat):(⟨g,0,none⟩:Addr).add j=⟨g,j,none⟩:=by unfold Addr.add;split <;> simp_all

def ReadsInt (w:World) (k:IntKind) (A:Option Addr) (n:Nat) (xs:List Int):Prop:=
 xs.length=n∧n≤9223372036854775807∧(0<n→∃ ad,A=some ad∧∀ j,j<n→w.cell? (ad.add j)=some (.int k (xs.getD j 0)))
theorem ReadsInt.at_ {w:World} {k:IntKind} {A:Option Addr} {n:Nat} {xs:List Int} (h:ReadsInt w k A n xs) (i:Int) (h0:0≤i) (h1:i<n):∃ ad,A=some ad∧w.cell? (ad.add i.toNat)=some (.int k (rd xs i)):=by
 obtain ⟨ad,e,hc⟩:=h.2.2 (by omega)
 exact ⟨ad,e,hc _ (by omega)⟩
theorem ReadsInt.below {w w1:World} {k:IntKind} {A:Option Addr} {n:Nat} {xs:List Int} (h:ReadsInt w k A n xs) (hb:Below w.heap.size w w1):ReadsInt w1 k A n xs:=
 ⟨h.1,h.2.1,fun hn=>by
  obtain ⟨ad,e,hc⟩:=h.2.2 hn
  exact ⟨ad,e,fun j hj=>pw_cell_below hb (hc j hj)⟩⟩

theorem own_nil (W:World) (base:Nat) (e:TypeId) (size:Nat):W.ownsRow base e size (.slice none 0 0) 0 []:=⟨by simp,.inl ⟨rfl,rfl⟩⟩
theorem own_base {w:World} {base:Nat} {e:TypeId} {size n:Nat} {v:Value} {xs:List Value} (h:w.ownsRow base e size v n xs) (k:Nat) (hk:v.ownBlock=some k):base≤k:=by
 rcases h.2 with ⟨rfl,_⟩ | ⟨g,cap,cur,rfl,hb,_⟩
 ·simp [Value.ownBlock] at hk
 ·have:g=k:=by simpa [Value.ownBlock] using hk
  omega
theorem own_lt {w:World} {base:Nat} {e:TypeId} {size n:Nat} {v:Value} {xs:List Value} (h:w.ownsRow base e size v n xs) (k:Nat) (hk:v.ownBlock=some k):k<w.heap.size:=by
 rcases h.2 with ⟨rfl,_⟩ | ⟨g,cap,cur,rfl,hb,hh,_⟩
 ·simp [Value.ownBlock] at hk
 ·have:g=k:=by simpa [Value.ownBlock] using hk
  subst this
  exact (Array.getElem?_eq_some_iff.1 hh).1
theorem pw_own_below {w w1:World} {base:Nat} {e:TypeId} {size n:Nat} {v:Value} {xs:List Value} (h:w.ownsRow base e size v n xs) (hb:Below w.heap.size w w1):w1.ownsRow base e size v n xs:=
 h.kept (grown_of_below hb none) (by cases v.ownBlock <;> simp)
theorem own_reads {w:World} {base n:Nat} {e:TypeId} {k:IntKind} {v:Value} {xs:List Int} (h:w.ownsRow base e 1 v n (nums k xs)):∃ A c,v=.slice A n c∧ReadsInt w k A n xs:=by
 have hl:xs.length=n:=by have:=h.1;simp [nums] at this;exact this
 rcases Nat.eq_zero_or_pos n with h0 | h0
 ·rcases h.2 with ⟨rfl,rfl⟩ | ⟨g,cap,cur,rfl,_⟩
  ·exact ⟨none,0,rfl,hl,by omega,fun hp=>absurd hp (by omega)⟩
  ·exact ⟨_,cap,rfl,hl,by omega,fun hp=>absurd hp (by omega)⟩
 ·obtain ⟨g,cap,rfl,_,_⟩:=h.form h0
  have hm:n≤9223372036854775807:=by
   rcases h.2 with ⟨_,h1⟩ | ⟨g',cap',cur,he,_,_,h1,h2,_⟩
   ·omega
   ·simp only [maxLen] at h2
    omega
  refine ⟨_,cap,rfl,hl,hm,fun _=>⟨_,rfl,fun j hj=>h.cells (g:=g) rfl j _ ?_⟩⟩
  simp [nums,List.getElem?_eq_getElem (show j<xs.length by omega),List.getD_eq_getElem?_getD]
theorem own_slice {w:World} {base n:Nat} {e:TypeId} {size:Nat} {v:Value} {xs:List Value} (h:w.ownsRow base e size v n xs):∃ A c,v=.slice A n c:=by
 rcases h.2 with ⟨rfl,rfl⟩ | ⟨g,cap,cur,rfl,_⟩
 ·exact ⟨none,0,rfl⟩
 ·exact ⟨_,cap,rfl⟩
section
variable {P:Program} {ops:Array Oper} {rest:List Oper} {o:Oper} {a:Act} {Q:Exit→Act→World→Prop}

theorem print_append {w0 W:World} (base:Nat) (hgd:o.guard=none) (s x:Operand) (t e:TypeId) (z:Value) (bytes:Nat)
  (ho:o.op=.call { callee:=.builtin .append,args:=#[s,x],argTypes:=#[t,t] })
  (ht:P.underlying t=some (.slice e)) (hinfo:(P.info? e).map (fun i=>(i.zero,i.size,i.bytes))=some (some z,1,bytes)) (hz:z.cells.size=1) (hb0:0<bytes)
  (v:Value) (xs:List Value) (y:Value) (hs:a.eval s=v) (hx:a.eval x=.slice (some ⟨W.heap.size,0,none⟩) 1 1) (h1:y.oneCell'=true)
  (HO:W.ownsRow base e 1 v xs.length xs) (HB:Below base w0 W) (hbase:base≤W.heap.size) (hl:(xs.length+1) * bytes≤140737488355328)
  (h:∀ v1 w1,w1.ownsRow base e 1 v1 (xs ++ [y]).length (xs ++ [y])→Below base w0 w1→W.grownBy w1 v.ownBlock→(v1.ownBlock=v.ownBlock∨∃ b,v1.ownBlock=some b∧W.heap.size≤b)→wpList P ops Q rest (a.put o.dst v1) w1) :
  wpList P ops Q (o :: rest) a (W.alloc (.cells #[y] e)):=by
 obtain ⟨i0,hi,hzz⟩:=Option.map_eq_some_iff.1 hinfo
 simp only [Prod.mk.injEq] at hzz
 obtain ⟨hz0,hz1,hz2⟩:=hzz
 have hlen:xs.length+1≤140737488355328:=Nat.le_trans (Nat.le_mul_of_pos_right _ hb0) hl
 refine wpList_append_own_at (W.alloc (.cells #[y] e)) hgd s x t ho base e i0 z 1 bytes ht hi hz0 hz1 hz2 hz (by omega) v xs.length xs hs (HO.alloc _) ⟨W.heap.size,0,none⟩ 1 1 [y] hx rfl
  (World.news_of_block (cs:=#[y]) (t:=e) (fr:=(0,0)) (heap_alloc_new W _)) (by simpa using h1) (by simp only [maxLen];omega) hl (by simp;omega) ?_
 intro v1 w1 hown hg _ hat
 refine h v1 w1 (by simpa using hown) ((HB.alloc hbase _).grown hg (by simp;omega) (own_base HO)) (World.grownBy.trans (World.grownBy_alloc W _ _) hg) ?_
 rcases hat with hat | hat
 ·exact .inl hat
 ·exact .inr ⟨_,hat,by simp⟩

theorem print_append_num {w0 W:World} (base:Nat) (hgd:o.guard=none) (s x:Operand) (t e:TypeId) (k:IntKind) (bytes:Nat)
  (ho:o.op=.call { callee:=.builtin .append,args:=#[s,x],argTypes:=#[t,t] })
  (ht:P.underlying t=some (.slice e)) (hinfo:(P.info? e).map (fun i=>(i.zero,i.size,i.bytes))=some (some (.int k 0),1,bytes)) (hb0:0<bytes)
  (v:Value) (xs:List Int) (y:Int) (hs:a.eval s=v) (hx:a.eval x=.slice (some ⟨W.heap.size,0,none⟩) 1 1)
  (HO:W.ownsRow base e 1 v xs.length (nums k xs)) (HB:Below base w0 W) (hbase:base≤W.heap.size) (hl:(xs.length+1) * bytes≤140737488355328)
  (h:∀ v1 w1,w1.ownsRow base e 1 v1 (xs ++ [y]).length (nums k (xs ++ [y]))→Below base w0 w1→W.grownBy w1 v.ownBlock→(v1.ownBlock=v.ownBlock∨∃ b,v1.ownBlock=some b∧W.heap.size≤b)→wpList P ops Q rest (a.put o.dst v1) w1) :
  wpList P ops Q (o :: rest) a (W.alloc (.cells #[.int k y] e)):=
 print_append base hgd s x t e (.int k 0) bytes ho ht hinfo rfl hb0 v (nums k xs) (.int k y) hs hx rfl (by rw [nums_length];exact HO) HB hbase (by rw [nums_length];exact hl)
  fun v1 w1 hown hB hg hat=>h v1 w1 (by simpa [nums] using hown) hB hg hat
end

section
variable {P:Program} {ops:Array Oper} {rest:List Oper} {o:Oper} {a:Act} {Q:Exit→Act→World→Prop}
theorem print_append_row {w0 W:World} (base:Nat) (hgd:o.guard=none) (s x:Operand) (t e:TypeId) (k:IntKind) (bytes:Nat)
  (ho:o.op=.call { callee:=.builtin .append,args:=#[s,x],argTypes:=#[t,t] })
  (ht:P.underlying t=some (.slice e)) (hinfo:(P.info? e).map (fun i=>(i.zero,i.size,i.bytes))=some (some (.int k 0),1,bytes)) (hb0:0<bytes)
  (v:Value) (xs ys:List Int) (A:Option Addr) (m c:Nat) (hs:a.eval s=v) (hx:a.eval x=.slice A m c)
  (HO:W.ownsRow base e 1 v xs.length (nums k xs)) (HR:ReadsInt W k A m ys) (HB:Below base w0 W) (hbase:base≤W.heap.size) (hl:(xs.length+m) * bytes≤140737488355328)
  (h:∀ v1 w1,w1.ownsRow base e 1 v1 (xs ++ ys).length (nums k (xs ++ ys))→Below base w0 w1→W.grownBy w1 v.ownBlock→(v1.ownBlock=v.ownBlock∨∃ b,v1.ownBlock=some b∧W.heap.size≤b)→wpList P ops Q rest (a.put o.dst v1) w1) :
  wpList P ops Q (o :: rest) a W:=by
 obtain ⟨i0,hi,hzz⟩:=Option.map_eq_some_iff.1 hinfo
 simp only [Prod.mk.injEq] at hzz
 obtain ⟨hz0,hz1,hz2⟩:=hzz
 have hm:ys.length=m:=HR.1
 have hlen:xs.length+m≤140737488355328:=Nat.le_trans (Nat.le_mul_of_pos_right _ hb0) hl
 have hrun:∃ v1 w1,(Builtin.append_ #[t,t] o.type #[v,.slice A m c]).run P W=.ok v1 w1∧w1.ownsRow base e 1 v1 (xs ++ ys).length (nums k (xs ++ ys))∧W.grownBy w1 v.ownBlock∧(v1.ownBlock=v.ownBlock∨v1.ownBlock=some W.heap.size):=by
  rcases A with _ | ad
  ·have h0:m=0:=by
    rcases Nat.eq_zero_or_pos m with h0 | h0
    ·exact h0
    ·obtain ⟨ad,h,_⟩:=HR.2.2 h0
     cases h
   subst h0
   obtain rfl:ys=[]:=List.eq_nil_of_length_eq_zero hm
   refine ⟨v,W,?_,by simpa using HO,World.grownBy.refl W _,.inl rfl⟩
   rcases HO.2 with ⟨rfl,hn⟩ | ⟨g,cap,cur,rfl,_,_,hnc,_⟩
   ·simp [Builtin.append_,run_underlying ht,sizeOf,typeInfo,hi,Builtin.lenOf,Builtin.firstCells]
   ·simp [Builtin.append_,run_underlying ht,sizeOf,typeInfo,hi,Builtin.lenOf,Builtin.firstCells,hnc,storeCells]
  ·have hcells:∀ j u,(nums k ys)[j]?=some u→W.cell? (ad.add j)=some u:=by
    intro j u hu
    have hj:j<ys.length:=by
     rcases Nat.lt_or_ge j ys.length with h | h
     ·exact h
     ·simp [nums,List.getElem?_eq_none h] at hu
    obtain ⟨ad',h',hc⟩:=HR.2.2 (by omega)
    injection h' with h'
    subst h'
    have:=hc j (by omega)
    simp [nums,List.getElem?_eq_getElem hj] at hu
    subst hu
    rw [this]
    simp [List.getD_eq_getElem?_getD,List.getElem?_eq_getElem hj]
   obtain ⟨v1,w1,hr,h2,h3,_,h5⟩:=run_append_own_at (P:=P) W base t o.type e i0 (.int k 0) 1 bytes ht hi hz0 hz1 hz2 rfl (by omega) v xs.length (nums k xs) HO ad m c (nums k ys) (by simp [nums,hm]) hcells
    (by intro u hu;simp only [nums,List.mem_map] at hu;obtain ⟨q,_,rfl⟩:=hu;rfl) (by simp only [maxLen];omega) hl hbase
   exact ⟨v1,w1,hr,by simpa [nums,hm] using h2,h3,h5⟩
 obtain ⟨v1,w1,hr,hown,hg,hat⟩:=hrun
 refine wpList_plain hgd fun K hK=>?_
 unfold Oper.wp execOp
 simp only [ho,resolve,invoke,builtin,Sem.run_bind,Sem.run_pure,Result.andThen_ok,List.map_toArray,List.map_cons,List.map_nil,hs,hx,hr]
 refine hK _ _ (h v1 w1 hown (HB.grown hg hbase (own_base HO)) hg ?_)
 rcases hat with hat | hat
 ·exact .inl hat
 ·exact .inr ⟨_,hat,Nat.le_refl _⟩
end

def bytesOf (s:ByteArray):List Int:=s.data.toList.map fun b=>(b.toNat:Int)
theorem data_length (s:ByteArray):s.data.toList.length=s.size:=by rw [Array.length_toList];rfl
theorem bytesOf_length (s:ByteArray):(bytesOf s).length=s.size:=by rw [bytesOf,List.length_map,data_length]
theorem print_bytes {P:Program} (src dst e:TypeId) {u:TypeDesc} (hs:P.underlying src=some u) (hd:P.underlying dst=some (.slice e)) (he:P.underlying e=some (.int .u8)) (s:ByteArray) (W:World) :
  (convert src dst (.string s)).run P W=.ok (.slice (some ⟨W.heap.size,0,none⟩) s.size (grownCap W s.size 0 e)) (Lib.bytesWorld W e s):=Lib.run_convert_string_bytes W src dst e s hs hd he
theorem bytes_reads (W:World) (e:TypeId) (s:ByteArray) (hs:s.size≤9223372036854775807):ReadsInt (Lib.bytesWorld W e s) .u8 (some ⟨W.heap.size,0,none⟩) s.size (bytesOf s):=by
 refine ⟨bytesOf_length s,hs,fun _=>⟨_,rfl,fun j hj=>?_⟩⟩
 rw [add_plain,Lib.bytesWorld_cell W e s j hj]
 have h':j<s.data.toList.length:=by rw [data_length];exact hj
 simp [bytesOf,List.getD_eq_getElem?_getD,List.getElem?_eq_getElem h']
theorem bytes_below {B:Nat} {w W:World} (h:Below B w W) (hB:B≤W.heap.size) (e:TypeId) (s:ByteArray):Below B w (Lib.bytesWorld W e s):=
 h.trans ⟨rfl,rfl,rfl,by rw [Lib.bytesWorld_size];omega,fun i hi=>Lib.bytesWorld_at_old W e s i (by omega)⟩
theorem ReadsInt.take_ {w:World} {k:IntKind} {A:Option Addr} {n:Nat} {xs:List Int} (h:ReadsInt w k A n xs) (i:Nat) (hi:i≤n):ReadsInt w k A i (xs.take i):=by
 refine ⟨by rw [List.length_take,h.1];omega,by have:=h.2.1;omega,fun hp=>?_⟩
 obtain ⟨ad,e,hc⟩:=h.2.2 (by omega)
 refine ⟨ad,e,fun j hj=>?_⟩
 rw [hc j (by omega)]
 simp [List.getD_eq_getElem?_getD,hj]
theorem ReadsInt.drop_ {w:World} {k:IntKind} {A:Option Addr} {n c:Nat} {xs:List Int} (h:ReadsInt w k A n xs) (i:Nat) (hi:i≤n) (hc:n≤c):ReadsInt w k (if c=i then A else A.map (·.add i)) (n - i) (xs.drop i):=by
 refine ⟨by rw [List.length_drop,h.1],by have:=h.2.1;omega,fun hp=>?_⟩
 obtain ⟨ad,rfl,hcell⟩:=h.2.2 (by omega)
 rw [if_neg (by omega)]
 refine ⟨ad.add i,rfl,fun j hj=>?_⟩
 have ha:(ad.add i).add j=ad.add (i+j):=by
  unfold Addr.add
  by_cases h1:i=0 <;> by_cases h2:j=0 <;> simp [h1,h2,Nat.add_assoc]
 rw [ha,hcell (i+j) (by omega)]
 simp [List.getD_eq_getElem?_getD,List.getElem?_drop]
section
variable {P:Program} {ops:Array Oper} {rest:List Oper} {o:Oper} {a:Act} {Q:Exit→Act→World→Prop}
theorem print_append_cells {w0 W:World} (base:Nat) (hgd:o.guard=none) (s x:Operand) (t e:TypeId) (z:Value) (size bytes:Nat)
  (ho:o.op=.call { callee:=.builtin .append,args:=#[s,x],argTypes:=#[t,t] })
  (ht:P.underlying t=some (.slice e)) (hinfo:(P.info? e).map (fun i=>(i.zero,i.size,i.bytes))=some (some z,size,bytes)) (hz:z.cells.size=size) (hs0:0<size) (hb0:0<bytes)
  (v:Value) (n:Nat) (xs ys:List Value) (hs:a.eval s=v) (hx:a.eval x=.slice (some ⟨W.heap.size,0,none⟩) 1 1) (hys:ys.length=size) (h1:∀ u∈ys,u.oneCell'=true)
  (HO:W.ownsRow base e size v n xs) (HB:Below base w0 W) (hbase:base≤W.heap.size) (hl:(n+1) * bytes≤140737488355328)
  (h:∀ v1 w1,w1.ownsRow base e size v1 (n+1) (xs ++ ys)→Below base w0 w1→W.grownBy w1 v.ownBlock→(v1.ownBlock=v.ownBlock∨∃ b,v1.ownBlock=some b∧W.heap.size≤b)→wpList P ops Q rest (a.put o.dst v1) w1) :
  wpList P ops Q (o :: rest) a (W.alloc (.cells ys.toArray e)):=by
 obtain ⟨i0,hi,hzz⟩:=Option.map_eq_some_iff.1 hinfo
 simp only [Prod.mk.injEq] at hzz
 obtain ⟨hz0,hz1,hz2⟩:=hzz
 have hlen:n+1≤140737488355328:=Nat.le_trans (Nat.le_mul_of_pos_right _ hb0) hl
 refine wpList_append_own_at (W.alloc (.cells ys.toArray e)) hgd s x t ho base e i0 z size bytes ht hi hz0 hz1 hz2 hz hs0 v n xs hs (HO.alloc _) ⟨W.heap.size,0,none⟩ 1 1 ys hx (by rw [hys];simp)
  (by simpa using World.news_of_block (cs:=ys.toArray) (t:=e) (fr:=(0,0)) (heap_alloc_new W (.cells ys.toArray e))) h1 (by simp only [maxLen];omega) hl (by simp;omega) ?_
 intro v1 w1 hown hg _ hat
 refine h v1 w1 hown ((HB.alloc hbase _).grown hg (by simp;omega) (own_base HO)) (World.grownBy.trans (World.grownBy_alloc W _ _) hg) ?_
 rcases hat with hat | hat
 ·exact .inl hat
 ·exact .inr ⟨_,hat,by simp⟩
end

theorem blk_set {w:World} {g:Nat} {t:TypeId} {cs:Array Value} (h:w.heap[g]?=some (.cells cs t (0,0))) (i:Nat) (u:Value):(w.setCell ⟨g,i,none⟩ u).heap[g]?=some (.cells (cs.setIfInBounds i u) t (0,0)):=by
 simp [World.setCell,Array.getElem?_modify,h]
theorem blk_lt {w:World} {g:Nat} {o:Obj} (h:w.heap[g]?=some o):g<w.heap.size:=(Array.getElem?_eq_some_iff.1 h).1
theorem blk_frozen {w:World} {g:Nat} {t:TypeId} {cs:Array Value} (h:w.heap[g]?=some (.cells cs t (0,0))) (i:Nat):w.frozen? ⟨g,i,none⟩=false:=by simp [World.frozen?,h]
section
variable {P:Program} {ops:Array Oper} {o:Oper} {a:Act} {Q:Exit→Act→World→Prop} {K:Act→World→Prop}
theorem step_append_cells {w0 W:World} (base:Nat) (hw:Region.wanted o (yielded ops a.tmps)=true) (s x:Operand) (t e:TypeId) (z:Value) (size bytes:Nat)
  (ho:o.op=.call { callee:=.builtin .append,args:=#[s,x],argTypes:=#[t,t] })
  (ht:P.underlying t=some (.slice e)) (hinfo:(P.info? e).map (fun i=>(i.zero,i.size,i.bytes))=some (some z,size,bytes)) (hz:z.cells.size=size) (hs0:0<size) (hb0:0<bytes)
  (v:Value) (n:Nat) (xs ys:List Value) (hs:a.eval s=v) (hx:a.eval x=.slice (some ⟨W.heap.size,0,none⟩) 1 1) (hys:ys.length=size) (h1:∀ u∈ys,u.oneCell'=true)
  (HO:W.ownsRow base e size v n xs) (HB:Below base w0 W) (hbase:base≤W.heap.size) (hl:(n+1) * bytes≤140737488355328)
  (h:∀ v1 w1,w1.ownsRow base e size v1 (n+1) (xs ++ ys)→Below base w0 w1→W.grownBy w1 v.ownBlock→(v1.ownBlock=v.ownBlock∨∃ b,v1.ownBlock=some b∧W.heap.size≤b)→K (a.put o.dst v1) w1) :
  if Region.wanted o (yielded ops a.tmps)=true then Oper.wp P o a (W.alloc (.cells ys.toArray e)) K Q else K (a.put o.dst undef) (W.alloc (.cells ys.toArray e)):=by
 obtain ⟨i0,hi,hzz⟩:=Option.map_eq_some_iff.1 hinfo
 simp only [Prod.mk.injEq] at hzz
 obtain ⟨hz0,hz1,hz2⟩:=hzz
 have hlen:n+1≤140737488355328:=Nat.le_trans (Nat.le_mul_of_pos_right _ hb0) hl
 rw [if_pos hw]
 obtain ⟨v1,w1,hr,hown,hg,_,hat⟩:=run_append_own_at (P:=P) (W.alloc (.cells ys.toArray e)) base t o.type e i0 z size bytes ht hi hz0 hz1 hz2 hz hs0 v n xs (HO.alloc _) ⟨W.heap.size,0,none⟩ 1 1 ys (by rw [hys];simp)
  (by simpa using World.news_of_block (cs:=ys.toArray) (t:=e) (fr:=(0,0)) (heap_alloc_new W (.cells ys.toArray e))) h1 (by simp only [maxLen];omega) hl (by simp;omega)
 unfold Oper.wp execOp
 simp only [ho,resolve,invoke,builtin,Sem.run_bind,Sem.run_pure,Result.andThen_ok,List.map_toArray,List.map_cons,List.map_nil,hs,hx,hr]
 refine h v1 w1 hown ((HB.alloc hbase _).grown hg (by simp;omega) (own_base HO)) (World.grownBy.trans (World.grownBy_alloc W _ _) hg) ?_
 rcases hat with hat | hat
 ·exact .inl hat
 ·exact .inr ⟨_,hat,by simp⟩
end
theorem own_weaken {w:World} {base base':Nat} {e:TypeId} {size n:Nat} {v:Value} {xs:List Value} (h:w.ownsRow base e size v n xs) (hb:base'≤base):w.ownsRow base' e size v n xs:=by
 obtain ⟨h1,h2⟩:=h
 refine ⟨h1,?_⟩
 rcases h2 with h2 | ⟨g,cap,cur,rfl,hg,r⟩
 ·exact .inl h2
 ·exact .inr ⟨g,cap,cur,rfl,Nat.le_trans hb hg,r⟩

theorem blk_alloc {w:World} {g:Nat} {o:Obj} (h:w.heap[g]?=some o) (o':Obj):(w.alloc o').heap[g]?=some o:=(Below.heap_alloc w o' g (blk_lt h)).trans h
theorem blk_below {w w1:World} {g:Nat} {o:Obj} (h:w.heap[g]?=some o) (hb:Below w.heap.size w w1):w1.heap[g]?=some o:=(hb.block g (blk_lt h)).trans h
theorem blk_new (w:World) (o:Obj):(w.alloc o).heap[w.heap.size]?=some o:=heap_alloc_new w o
section
variable {P:Program}
theorem results_ct {fn:Func} {p u:Tmp} {ty:TypeId} (h:fn.results = #[.cell p ty,.tmp u]) (tmps:Array Value) (w:World) (g:Nat) (t:TypeId) (cs:Array Value) (fr:Nat × Nat) (d:TypeDesc)
  (hp:tmps.getD p undef=.pointer (some ⟨g,0,none⟩)) (hg:w.heap[g]?=some (.cells cs t fr))
  (hu:P.underlying ty=some d) (hd:(match d with | .struct _ | .array _ _=>true | _=>false)=true) (hi:(P.info? ty).map (·.size)=some cs.size) :
  (results fn tmps).run P w=.ok (.tuple #[.agg cs,tmps.getD u undef]) w:=by
 have hp':tmps[p]?.getD undef=.pointer (some ⟨g,0,none⟩):=by simpa using hp
 simp [results,h,hp',asAddr,run_loadVar_row w g t ty cs fr d hg hu hd hi]
theorem results_ctt {fn:Func} {p u v:Tmp} {ty:TypeId} (h:fn.results = #[.cell p ty,.tmp u,.tmp v]) (tmps:Array Value) (w:World) (g:Nat) (t:TypeId) (cs:Array Value) (fr:Nat × Nat) (d:TypeDesc)
  (hp:tmps.getD p undef=.pointer (some ⟨g,0,none⟩)) (hg:w.heap[g]?=some (.cells cs t fr))
  (hu:P.underlying ty=some d) (hd:(match d with | .struct _ | .array _ _=>true | _=>false)=true) (hi:(P.info? ty).map (·.size)=some cs.size) :
  (results fn tmps).run P w=.ok (.tuple #[.agg cs,tmps.getD u undef,tmps.getD v undef]) w:=by
 have hp':tmps[p]?.getD undef=.pointer (some ⟨g,0,none⟩):=by simpa using hp
 simp [results,h,hp',asAddr,run_loadVar_row w g t ty cs fr d hg hu hd hi]
end
theorem own_le {w:World} {base n m c size:Nat} {e:TypeId} {A:Option Addr} {xs:List Value} (h:w.ownsRow base e size (.slice A m c) n xs):m≤c:=by
 rcases h.2 with ⟨he,_⟩ | ⟨g,cap,cur,he,_,_,hnc,_⟩
 ·injection he with _ h2 h3
  omega
 ·injection he with _ h2 h3
  omega

namespace Kd

end Kd
namespace Kd

end Kd
theorem string_of_reads {P:Program} {w:World} {src dst e:TypeId} {A:Option Addr} {n c:Nat} {xs:List Int} (hs:P.underlying src=some (.slice e)) (he:P.underlying e=some (.int .u8)) (hd:P.underlying dst=some .string)
  (h:ReadsInt w .u8 A n xs):(convert src dst (.slice A n c)).run P w=.ok (.string (strOfNums xs)) w:=by
 have hn:xs.length=n:=h.1
 rcases A with _ | ad
 ·have h0:n=0:=by
   rcases Nat.eq_zero_or_pos n with h0 | h0
   ·exact h0
   ·obtain ⟨ad,h',_⟩:=h.2.2 h0
    cases h'
  subst h0
  obtain rfl:xs=[]:=List.eq_nil_of_length_eq_zero hn
  exact run_convert_bytes_nil w src e hs he 0 c dst hd
 ·have hl:(loadCells ad n).run P w=.ok (xs.map (Value.int .u8)).toArray w:=by
   have:=run_loadCells_list (P:=P) w ad (xs.map (Value.int .u8)) (fun j v hj=>by
    have hjl:j<xs.length:=by
     rcases Nat.lt_or_ge j xs.length with h' | h'
     ·exact h'
     ·rw [List.getElem?_eq_none (by rw [List.length_map];exact h')] at hj
      cases hj
    obtain ⟨ad',he',hc⟩:=h.2.2 (by omega)
    injection he' with he'
    subst he'
    rw [hc j (by omega)]
    rw [List.getElem?_map,List.getElem?_eq_getElem hjl] at hj
    simp at hj
    subst hj
    simp [List.getD_eq_getElem?_getD,List.getElem?_eq_getElem hjl])
   simpa [hn] using this
  rw [run_convert_bytes_string w src dst e _ n c hs he hd,run_bytesToString w ad n c xs hl,foldl_push_bytes]
  simp [strOfNums,ByteArray.empty,ByteArray.emptyWithCapacity]
  rfl
theorem ReadsInt.nil (W:World) (k:IntKind):ReadsInt W k none ([]:List Int).length []:=⟨rfl,by simp,fun h=>absurd h (Nat.lt_irrefl 0)⟩
theorem ReadsInt.ofRow {k:IntKind} {w:World} {a:Option Addr} {len cap:Nat} {zs:List Int} (h:(a=none∧len=0∧cap=0∧zs=[])∨∃ x,a=some x∧len≤cap∧cap≤maxLen∧zs.length=cap∧(∀ i,i<zs.length→w.cell? (x.add i)=some (.int k (zs.getD i 0)))∧∀ n∈zs,(Lit.int k n).wf=true) :
  ∃ l:List Int,len=l.length∧ReadsInt w k a l.length l∧l.length≤maxLen∧∀ x∈l,(Lit.int k x).wf=true:=by
 rcases h with ⟨rfl,rfl,rfl,rfl⟩ | ⟨x,rfl,hl,hm,hz,hc,hw⟩
 ·exact ⟨[],rfl,ReadsInt.nil _ _,Nat.zero_le _,fun x hx=>by simp at hx⟩
 ·have e:(zs.take len).length=len:=by simp;omega
  have hm':len≤maxLen:=Nat.le_trans hl hm
  refine ⟨zs.take len,e.symm,⟨rfl,by rw [e];simpa [maxLen] using hm',fun _=>⟨x,rfl,fun j hj=>?_⟩⟩,by rw [e];exact hm',fun y hy=>hw y (List.mem_of_mem_take hy)⟩
  rw [e] at hj
  rw [hc j (by omega)]
  simp [List.getD,List.getElem?_take,hj]
theorem add_block (a:Addr) (i:Nat):(a.add i).block=a.block:=by unfold Addr.add;split <;> rfl
theorem blk_put {w:World} {g:Nat} {t:TypeId} {cs cs':Array Value} (h:w.heap[g]?=some (.cells cs t (0,0))) (i:Nat) (u:Value) (e:cs.setIfInBounds i u=cs'):(w.setCell ⟨g,i,none⟩ u).heap[g]?=some (.cells cs' t (0,0)):=e ▸ blk_set h i u
theorem own_cap {W:World} {base n c:Nat} {e:TypeId} {size:Nat} {A:Option Addr} {xs:List Value} (h:W.ownsRow base e size (.slice A n c) n xs):n≤c:=by
 rcases h.2 with ⟨h1,h2⟩ | ⟨g,cap,cur,h1,_,_,h2,_⟩
 ·injection h1 with _ h3 h4
  omega
 ·injection h1 with _ _ h4
  omega
theorem ReadsInt.ofRowC {k:IntKind} {w:World} {a:Option Addr} {len cap:Nat} {zs:List Int} (h:(a=none∧len=0∧cap=0∧zs=[])∨∃ x,a=some x∧len≤cap∧cap≤maxLen∧zs.length=cap∧(∀ i,i<zs.length→w.cell? (x.add i)=some (.int k (zs.getD i 0)))∧∀ n∈zs,(Lit.int k n).wf=true) :
  ∃ l:List Int,len=l.length∧ReadsInt w k a l.length l∧l.length≤maxLen∧(∀ x∈l,(Lit.int k x).wf=true)∧l.length≤cap:=by
 have hl:len≤cap:=by
  rcases h with ⟨_,rfl,rfl,_⟩ | ⟨_,_,h,_⟩
  ·exact Nat.le_refl _
  ·exact h
 obtain ⟨l,e,h1,h2,h3⟩:=ReadsInt.ofRow h
 exact ⟨l,e,h1,h2,h3,e ▸ hl⟩
section
variable {P:Program} {ops:Array Oper} {o:Oper} {a:Act} {Q:Exit→Act→World→Prop} {Kc:Act→World→Prop}
namespace Kd
variable {α:Type}
end Kd
end

end Go.Proofs.YtcgkeolgflphiaaW.PrintWords

namespace Go.RegionInvYtcgkeolgflphiaa
open Go.RowKit

section
variable {P:Program} {ops:Array Oper} {Q:Exit→Act→World→Prop} {B:Nat} {C:Nat→List Nat} {F:Nat→Value→World→(Nat→Prop)→Prop} {a0:Act} {w0:World}

def initialB (ops:Array Oper) (j t:Nat):Bool:=
 (List.range ops.size).all fun i=>i == j || (match ops[i]? with | some o=>o.dst != some t || o.after.toList.any (fun e=>e.on == j && Region.binds .any e) | none=>true)

def nwB (ops:Array Oper) (t:Nat):Bool:=ops.toList.all fun o=>o.dst != some t
theorem initialB_of_nw {ops:Array Oper} {t j:Nat} (h:nwB ops t=true):initialB ops j t=true:=by
 unfold initialB nwB at *
 rw [List.all_eq_true]
 intro i hi
 have hlt:=List.mem_range.1 hi
 rw [Array.getElem?_eq_getElem hlt]
 have:=List.all_eq_true.1 h _ (Array.mem_toList_iff.2 (Array.getElem_mem hlt))
 simp only [this,Bool.true_or,Bool.or_true]

def predB (o:Oper) (i:Nat):Bool:=o.after.toList.any fun e=>e.on == i && Region.binds .any e

structure Chg (S:Nat→Prop) (w w':World):Prop where
 os:w'.os=w.os
 tape:w'.tape=w.tape
 output:w'.output=w.output
 size:w.heap.size≤w'.heap.size
 block:∀ k,k<w.heap.size→¬ S k→w'.heap[k]?=w.heap[k]?
theorem Chg.refl (S:Nat→Prop) (w:World):Chg S w w:=⟨rfl,rfl,rfl,Nat.le_refl _,fun _ _ _=>rfl⟩
theorem Chg.mono {S S':Nat→Prop} {w w':World} (h:Chg S w w') (k:∀ i,S i→S' i):Chg S' w w':=⟨h.os,h.tape,h.output,h.size,fun i hi hs=>h.block i hi fun x=>hs (k i x)⟩
theorem Chg.of_below {S:Nat→Prop} {w w':World} (h:Below w.heap.size w w'):Chg S w w':=⟨h.os,h.tape,h.output,h.size,fun i hi _=>h.block i hi⟩
theorem Chg.below {S:Nat→Prop} {B:Nat} {w w':World} (h:Chg S w w') (hS:∀ k,S k→B≤k) (hB:B≤w.heap.size):Below B w w':=
 ⟨h.os,h.tape,h.output,h.size,fun i hi=>h.block i (by omega) (fun x=>by have:=hS i x;omega)⟩
theorem Chg.trans_below {S:Nat→Prop} {B:Nat} {a w w':World} (h:Below B a w) (k:Chg S w w') (hS:∀ k,S k→B≤k) (hB:B≤w.heap.size):Below B a w':=h.trans (k.below hS hB)

def Grew (v0 v:Value) (w w':World):Prop:=Chg (fun k=>v0.ownBlock=some k) w w'∧∀ k,v.ownBlock=some k→v0.ownBlock=some k∨w.heap.size≤k
theorem Grew.refl (v:Value) (w:World):Grew v v w w:=⟨Chg.refl _ _,fun _ h=>.inl h⟩
theorem Grew.trans {v0 v1 v2:Value} {w w1 w2:World} (h:Grew v0 v1 w w1) (k:Grew v1 v2 w1 w2):Grew v0 v2 w w2:=by
 refine ⟨⟨k.1.os.trans h.1.os,k.1.tape.trans h.1.tape,k.1.output.trans h.1.output,Nat.le_trans h.1.size k.1.size,fun i hi hs=>?_⟩,fun i hi=>?_⟩
 ·rw [k.1.block i (Nat.lt_of_lt_of_le hi h.1.size) (fun e=>?_),h.1.block i hi hs]
  rcases h.2 i e with e | e
  ·exact hs e
  ·omega
 ·rcases k.2 i hi with e | e
  ·exact h.2 i e
  ·exact .inr (Nat.le_trans h.1.size e)
theorem Grew.of_append {v v1:Value} {w w1:World} (hg:w.grownBy w1 v.ownBlock) (hat:v1.ownBlock=v.ownBlock∨∃ b,v1.ownBlock=some b∧w.heap.size≤b):Grew v v1 w w1:=by
 refine ⟨⟨hg.os,hg.tape,hg.output,hg.size,fun k hk hs=>hg.block k hk (fun e=>hs e.symm)⟩,fun k hk=>?_⟩
 rcases hat with e | ⟨b,e,hb⟩
 ·exact .inl (e ▸ hk)
 ·rw [e] at hk;obtain rfl:=Option.some.inj hk;exact .inr hb
theorem Grew.below {v0 v:Value} {w w':World} {B:Nat} (h:Grew v0 v w w') (hB:∀ k,v0.ownBlock=some k→B≤k) (hz:B≤w.heap.size):Below B w w':=h.1.below hB hz

def Stable (B:Nat) (G:Value→World→(Nat→Prop)→Prop):Prop:=
 ∀ v w w' O,G v w O→w.heap.size≤w'.heap.size→(∀ k,k<w.heap.size→(k<B∨O k)→w'.heap[k]?=w.heap[k]?)→G v w' O

def freeB (C:Nat→List Nat) (n i j:Nat):Bool:=(List.range n).all fun k=>k == j || !(C k).contains i

structure Known (ops:Array Oper) (B:Nat) (C:Nat→List Nat) (F:Nat→Value→World→(Nat→Prop)→Prop) (a0:Act) (w0:World) (j:Nat) (o:Oper) (a:Act) (w:World) (O:Nat→Nat→Prop):Prop where
 fact:∀ i oi d,ops[i]?=some oi→oi.dst=some d→predB o i=true→freeB C ops.size i j=true→F i (a.tmps.getD d undef) w (O i)
 owns:∀ i,predB o i=true→freeB C ops.size i j=true→∀ k,O i k→B≤k∧k<w.heap.size
 init:∀ t,initialB ops j t=true→a.tmps.getD t undef=a0.tmps.getD t undef
 size:a.tmps.size=a0.tmps.size
 world:Below B w0 w
 base:B≤w.heap.size

def Owes (P:Program) (ops:Array Oper) (Q:Exit→Act→World→Prop) (Cj:List Nat) (O:Nat→Nat→Prop) (G:Value→World→(Nat→Prop)→Prop) (o:Oper) (a:Act) (w:World):Prop:=
 if Region.wanted o (yielded ops a.tmps) then o.wp P a w (fun a' w'=>∃ v O',a'=a.put o.dst v∧G v w' O'∧Chg (fun k=>∃ i∈Cj,O i k) w w' ∧
  (∀ k,O' k→(∃ i∈Cj,O i k)∨(w.heap.size≤k∧k<w'.heap.size))) Q
 else G undef w (fun _=>False)

def Obs (P:Program) (ops:Array Oper) (Q:Exit→Act→World→Prop) (B:Nat) (C:Nat→List Nat) (F:Nat→Value→World→(Nat→Prop)→Prop) (a0:Act) (w0:World):List Oper→Nat→Prop
 | [],_=>True
 | o :: r,j=>(Stable B (F j)∧∀ a w O,Known ops B C F a0 w0 j o a w O→Owes P ops Q (C j) O (F j) o a w)∧Obs P ops Q B C F a0 w0 r (j+1)

theorem Obs.at_:∀ (l:List Oper) (k:Nat),Obs P ops Q B C F a0 w0 l k→∀ j o,l[j]?=some o→Stable B (F (k+j))∧∀ a w O,Known ops B C F a0 w0 (k+j) o a w O→Owes P ops Q (C (k+j)) O (F (k+j)) o a w:=by
 intro l
 induction l with
 | nil=>intro k _ j o h;simp at h
 | cons x r ih =>
  intro k h j o hj
  cases j with
  | zero =>
   obtain rfl:x=o:=by simpa using hj
   exact h.1
  | succ j =>
   have:=ih (k+1) h.2 j o (by simpa using hj)
   rwa [show k+1+j=k+(j+1) by omega] at this

def okB (ops:Array Oper) (n:Nat):Bool:=
 ((List.range ops.size).all fun i=>match ops[i]? with
  | some o=>(o.after.toList.all fun e=>!Region.binds .any e || decide (e.on<i)) &&
   (match o.dst with | some d=>decide (d<n) && ((List.range i).all fun k=>match ops[k]? with | some o'=>o'.dst != some d | none=>true) | none=>true)
  | none=>true)

theorem okB.edges {n:Nat} (h:okB ops n=true) {i:Nat} {o:Oper} (hi:ops[i]?=some o):∀ e∈o.after,Region.binds .any e=true→e.on<i:=by
 unfold okB at h
 have hlt:=(Array.getElem?_eq_some_iff.1 hi).1
 have:=List.all_eq_true.1 h i (List.mem_range.2 hlt)
 simp only [hi,Bool.and_eq_true] at this
 intro e he hb
 have h2:=List.all_eq_true.1 this.1 e (Array.mem_toList_iff.2 he)
 simpa [hb] using h2
theorem okB.size {n:Nat} (h:okB ops n=true) {i d:Nat} {o:Oper} (hi:ops[i]?=some o) (hd:o.dst=some d):d<n:=by
 unfold okB at h
 have hlt:=(Array.getElem?_eq_some_iff.1 hi).1
 have:=List.all_eq_true.1 h i (List.mem_range.2 hlt)
 simp only [hi,hd,Bool.and_eq_true] at this
 simpa using this.2.1
theorem okB.once {n:Nat} (h:okB ops n=true) {i k d:Nat} {o o':Oper} (hi:ops[i]?=some o) (hd:o.dst=some d) (hk:ops[k]?=some o') (hd':o'.dst=some d):i=k:=by
 have key:∀ {i k:Nat} {o o':Oper},ops[i]?=some o→o.dst=some d→ops[k]?=some o'→o'.dst=some d→¬ k<i:=by
  intro i k o o' hi hd hk hd' hlt
  unfold okB at h
  have hl:=(Array.getElem?_eq_some_iff.1 hi).1
  have:=List.all_eq_true.1 h i (List.mem_range.2 hl)
  simp only [hi,hd,Bool.and_eq_true] at this
  have h2:=List.all_eq_true.1 this.2.2 k (List.mem_range.2 hlt)
  simp [hk,hd'] at h2
 have h1:=key hi hd hk hd'
 have h2:=key hk hd' hi hd
 omega

def consB (ops:Array Oper) (C:Nat→List Nat):Bool:=
 (List.range ops.size).all fun j=>(C j).all fun i=>freeB C ops.size i j && (match ops[j]? with | some o=>predB o i | none=>false)

theorem freeB.spec {n i j k:Nat} (h:freeB C n i j=true) (hk:k<n) (hne:k≠j):i∉C k:=by
 unfold freeB at h
 have:=List.all_eq_true.1 h k (List.mem_range.2 hk)
 simp only [Bool.or_eq_true,beq_iff_eq,Bool.not_eq_true'] at this
 rcases this with e | e
 ·exact absurd e hne
 ·intro hm;rw [List.contains_iff_mem.2 hm] at e;cases e
theorem consB.spec (h:consB ops C=true) {j i:Nat} {o:Oper} (hj:ops[j]?=some o) (hi:i∈C j):freeB C ops.size i j=true∧predB o i=true:=by
 unfold consB at h
 have h1:=List.all_eq_true.1 h j (List.mem_range.2 (Array.getElem?_eq_some_iff.1 hj).1)
 have h2:=List.all_eq_true.1 h1 i hi
 rw [hj] at h2
 simpa using h2

def live (ops:Array Oper) (C:Nat→List Nat) (L:Array Bool) (i:Nat):Prop:=L.getD i false=true∧∀ k,k<ops.size→L.getD k false=true→i∉C k

structure Inv (ops:Array Oper) (B:Nat) (C:Nat→List Nat) (F:Nat→Value→World→(Nat→Prop)→Prop) (a0:Act) (w0:World) (L:Array Bool) (O:Nat→Nat→Prop) (a:Act) (w:World):Prop where
 defers:a.defers=a0.defers
 size:a.tmps.size=a0.tmps.size
 fact:∀ i o d,ops[i]?=some o→o.dst=some d→live ops C L i→F i (a.tmps.getD d undef) w (O i)
 owns:∀ i,live ops C L i→∀ k,O i k→B≤k∧k<w.heap.size
 apart:∀ i j,live ops C L i→live ops C L j→i≠j→∀ k,O i k→¬ O j k
 same:∀ t,(∀ i o,ops[i]?=some o→L.getD i false=true→o.dst≠some t)→a.tmps.getD t undef=a0.tmps.getD t undef
 closed:∀ i o,ops[i]?=some o→L.getD i false=true→∀ e∈o.after,Region.binds .any e=true→L.getD e.on false=true
 world:Below B w0 w
 base:B≤w.heap.size
 len:L.size=ops.size

theorem getD_put_same {a:Act} {d:Nat} {v:Value} (h:d<a.tmps.size):(a.put (some d) v).tmps.getD d undef=v:=by
 simp [Act.put,Array.getD,h]
theorem getD_put_ne {a:Act} {dst:Option Tmp} {v:Value} {t:Nat} (h:dst≠some t):(a.put dst v).tmps.getD t undef=a.tmps.getD t undef:=by
 cases dst with
 | none=>rfl
 | some d =>
  have hne:d≠t:=fun e=>h (by rw [e])
  simp only [Act.put,Array.getD_eq_getD_getElem?,Array.getElem?_setIfInBounds_ne hne]
theorem size_put (a:Act) (dst:Option Tmp) (v:Value):(a.put dst v).tmps.size=a.tmps.size:=by
 cases dst <;> simp [Act.put]
theorem defers_put (a:Act) (dst:Option Tmp) (v:Value):(a.put dst v).defers=a.defers:=by
 cases dst <;> simp [Act.put]

theorem nwB.spec {ops:Array Oper} {t:Nat} (h:nwB ops t=true):∀ (i:Nat) (o:Oper),ops[i]?=some o→o.dst≠some t:=by
 intro i o hi hd
 have:=List.all_eq_true.1 h o (Array.mem_toList_iff.2 (Array.mem_of_getElem? hi))
 simp [hd] at this
theorem lit (t:Array Value) (n:Nat) (h:t.size=n):t=((List.range n).map fun i=>t.getD i undef).toArray:=by
 apply Array.ext
 ·simp [h]
 ·intro i h1 h2
  simp [Array.getD,h1]
end
end Go.RegionInvYtcgkeolgflphiaa

namespace Go.Proofs.Ytcgkeolgflphiaa
open Go.RowKit Go.Proofs.YtcgkeolgflphiaaW.PrintWords Go.RegionInvYtcgkeolgflphiaa

inductive Lv where
 | mk (kind n:Int) (kids:List Lv)
namespace Lv
def kind:Lv→Int | mk k _ _=>k
def num:Lv→Int | mk _ n _=>n
def kids:Lv→List Lv | mk _ _ ks=>ks
end Lv
def CellsAt (w:World) (S:Nat→Prop) (A:Option Addr) (i:Nat) (a b:Int) (A':Option Addr) (n' c':Nat):Prop:=
 ∃ ad,A=some ad∧S ad.block∧ad.spot=none∧w.cell? (ad.add (i * 3))=some (.int .i64 a)∧w.cell? (ad.add (i * 3+1))=some (.int .i64 b)∧w.cell? (ad.add (i * 3+2))=some (.slice A' n' c')

inductive LvS (w:World) (S:Nat→Prop):Option Addr→Nat→Lv→Prop
 | mk {A:Option Addr} {c:Nat} {k n:Int} {kids:List Lv} (fA:Nat→Option Addr) (fc:Nat→Nat) (hc:kids.length≤c) (hm:c≤9223372036854775807)
   (hcell:∀ (i:Nat) (x:Lv),kids[i]?=some x→CellsAt w S A i x.kind x.num (fA i) x.kids.length (fc i)) (hk:∀ (i:Nat) (x:Lv),kids[i]?=some x→LvS w S (fA i) (fc i) x):LvS w S A c (.mk k n kids)
abbrev LvIn (w:World) (B:Nat):Option Addr→Nat→Lv→Prop:=LvS w fun k=>k<B

def lvV (A:Option Addr) (c:Nat) (l:Lv):Value:=.agg #[.int .i64 l.kind,.int .i64 l.num,.slice A l.kids.length c]

theorem cell_same {w w':World} {p:Addr} (h:w'.heap[p.block]?=w.heap[p.block]?):w'.cell? p=w.cell? p:=by simp [World.cell?,h]
theorem CellsAt.same {w w':World} {S:Nat→Prop} {A:Option Addr} {i:Nat} {a b:Int} {A':Option Addr} {n' c':Nat} (h:CellsAt w S A i a b A' n' c') (hs:∀ k,S k→k<w.heap.size→w'.heap[k]?=w.heap[k]?):CellsAt w' S A i a b A' n' c':=by
 obtain ⟨ad,e,hlt,hsp,h1,h2,h3⟩:=h
 have hb:∀ j,(ad.add j).block=ad.block:=fun j=>by unfold Addr.add;split <;> rfl
 have hz:ad.block<w.heap.size:=by have:=World.block_lt_of_cell? w _ h1;rwa [hb] at this
 have key:∀ j,w'.cell? (ad.add j)=w.cell? (ad.add j):=fun j=>cell_same (by rw [hb];exact hs _ hlt hz)
 exact ⟨ad,e,hlt,hsp,(key _).trans h1,(key _).trans h2,(key _).trans h3⟩
theorem LvS.same {w w':World} {S:Nat→Prop} {A:Option Addr} {c:Nat} {l:Lv} (h:LvS w S A c l) (hs:∀ k,S k→k<w.heap.size→w'.heap[k]?=w.heap[k]?):LvS w' S A c l:=by
 induction h with
 | mk fA fc hc hm hcell _ ih=>exact .mk fA fc hc hm (fun i x hx=>(hcell i x hx).same hs) ih
theorem LvS.mono {w:World} {S S':Nat→Prop} {A:Option Addr} {c:Nat} {l:Lv} (h:LvS w S A c l) (hS:∀ k,S k→k<w.heap.size→S' k):LvS w S' A c l:=by
 induction h with
 | mk fA fc hc hm hcell _ ih =>
  refine .mk fA fc hc hm (fun i x hx=>?_) ih
  obtain ⟨ad,e,hlt,hsp,h1,r⟩:=hcell i x hx
  have hb:(ad.add (i * 3)).block=ad.block:=by unfold Addr.add;split <;> rfl
  exact ⟨ad,e,hS _ hlt (by have:=World.block_lt_of_cell? w _ h1;rwa [hb] at this),hsp,h1,r⟩
theorem LvIn.stay {w w':World} {B:Nat} {A:Option Addr} {c:Nat} {l:Lv} (h:LvIn w B A c l) (hb:Below B w w'):LvIn w' B A c l:=LvS.same h fun k hk _=>hb.block k hk
theorem LvS.later {w w':World} {S:Nat→Prop} {A:Option Addr} {c:Nat} {l:Lv} (h:LvS w S A c l) (hb:Below w.heap.size w w'):LvS w' S A c l:=h.same fun k _ hk=>hb.block k hk
theorem LvS.all {w:World} {S:Nat→Prop} {A:Option Addr} {c:Nat} {l:Lv} (h:LvS w S A c l):LvIn w w.heap.size A c l:=h.mono fun _ _ hk=>hk
theorem LvS.len {w:World} {S:Nat→Prop} {A:Option Addr} {c:Nat} {l:Lv} (h:LvS w S A c l):l.kids.length≤c∧c≤9223372036854775807:=by
 cases h with
 | mk fA fc hc hm _ _=>exact ⟨hc,hm⟩
theorem LvS.kid {w:World} {S:Nat→Prop} {A:Option Addr} {c:Nat} {l:Lv} (h:LvS w S A c l) (i:Nat) (x:Lv) (hx:l.kids[i]?=some x):∃ A' c',CellsAt w S A i x.kind x.num A' x.kids.length c'∧LvS w S A' c' x:=by
 cases h with
 | mk fA fc hc hm hcell hk=>exact ⟨fA i,fc i,hcell i x hx,hk i x hx⟩
theorem LvIn.mono {w:World} {B B':Nat} {A:Option Addr} {c:Nat} {l:Lv} (h:LvIn w B A c l) (hB:B≤B'):LvIn w B' A c l:=LvS.mono h fun _ hk _=>Nat.lt_of_lt_of_le hk hB

mutual
def walkP (f:Lv→Int→Int→Int × Int):Lv→Int→Int→Int × Int
 | .mk k n kids,d,s=>if (f (.mk k n kids) d s).1≠0 then f (.mk k n kids) d s else walkKs f kids (d+1) (f (.mk k n kids) d s).2
def walkKs (f:Lv→Int→Int→Int × Int):List Lv→Int→Int→Int × Int
 | [],_,s=>(0,s)
 | x :: r,d,s=>if (walkP f x d s).1≠0 then walkP f x d s else walkKs f r d (walkP f x d s).2
end
theorem walkP_stop {f:Lv→Int→Int→Int × Int} {l:Lv} {d s:Int} (h:(f l d s).1≠0):walkP f l d s=f l d s:=by
 cases l;rw [walkP,if_pos h]
theorem walkP_go {f:Lv→Int→Int→Int × Int} {l:Lv} {d s:Int} (h:(f l d s).1=0):walkP f l d s=walkKs f l.kids (d+1) (f l d s).2:=by
 cases l;rw [walkP,if_neg (by simpa using h)];rfl
theorem walkKs_stop {f:Lv→Int→Int→Int × Int} {x:Lv} {r:List Lv} {d s:Int} (h:(walkP f x d s).1≠0):walkKs f (x :: r) d s=walkP f x d s:=by
 rw [walkKs,if_pos h]
theorem walkKs_go {f:Lv→Int→Int→Int × Int} {x:Lv} {r:List Lv} {d s:Int} (h:(walkP f x d s).1=0):walkKs f (x :: r) d s=walkKs f r d (walkP f x d s).2:=by
 rw [walkKs,if_neg (by simpa using h)]
end Go.Proofs.Ytcgkeolgflphiaa

namespace Go.Proofs.YtcgkeolgflphiaaW.PrintLast

section
variable {P:Program} {ops:Array Oper} {Q:Exit→Act→World→Prop} {md:Region.Mode} {S:World→Prop} {ds:List Nat}

def Region.reachB (md:Region.Mode) (ops:Array Oper) (i:Nat):Nat→Nat→Bool
 | 0,_=>false
 | fuel+1,d=>match ops[d]? with
  | some o=>o.after.any fun e=>Region.binds md e && (e.on == i || Region.reachB md ops i fuel e.on)
  | none=>false

def Region.closedB (md:Region.Mode) (ops:Array Oper) (listed:Array Bool):Bool:=
 (List.range ops.size).all fun j=>!listed.getD j false || match ops[j]? with
  | some o=>o.after.all fun e=>!Region.binds md e || listed.getD e.on false
  | none=>true

def Region.lastB (md:Region.Mode) (ops:Array Oper) (listed:Array Bool) (ds:List Nat) (i:Nat):Bool:=
 ds.all fun d=>listed.getD d true || Region.reachB md ops i ops.size d

def ListedClosed (md:Region.Mode) (ops:Array Oper) (listed:Array Bool):Prop:=
 ∀ j oj,ops[j]?=some oj→listed.getD j false=true→∀ e∈oj.after,Region.binds md e=true→listed.getD e.on false=true

theorem Region.closedB_spec {listed:Array Bool} (h:Region.closedB md ops listed=true):ListedClosed md ops listed:=by
 intro j oj hj hl e he hb
 have hlt:j<ops.size:=(Array.getElem?_eq_some_iff.1 hj).1
 have h1:=List.all_eq_true.1 h j (List.mem_range.2 hlt)
 simp only [hl,hj,Bool.not_true,Bool.false_or] at h1
 have h2:=Array.all_eq_true_iff_forall_mem.1 h1 e he
 simpa [hb] using h2

theorem ListedClosed.set {listed:Array Bool} {i:Nat} (h:ListedClosed md ops listed) (hi:i∈Region.ready md ops listed):ListedClosed md ops (listed.setIfInBounds i true):=by
 obtain ⟨_,oi,hoi,hall⟩:=mem_ready.1 hi
 intro j oj hj hl e he hb
 by_cases hij:i=j
 ·subst hij
  have:oj=oi:=Option.some.inj (hj.symm.trans hoi)
  subst this
  exact getD_set_true (hall e he hb)
 ·rw [getD_set_ne false hij] at hl
  exact getD_set_true (h j oj hj hl e he hb)

theorem Region.reach_listed {listed:Array Bool} {i:Nat} (hc:ListedClosed md ops listed):∀ (fuel d:Nat),Region.reachB md ops i fuel d=true→listed.getD d false=true→listed.getD i false=true
 | 0,_,h,_=>by simp [Region.reachB] at h
 | fuel+1,d,h,hl=>by
  unfold Region.reachB at h
  cases ho:ops[d]? with
  | none=>rw [ho] at h;simp at h
  | some o =>
   rw [ho] at h
   obtain ⟨e,he,h1⟩:=Array.any_eq_true'.1 h
   simp only [Bool.and_eq_true,Bool.or_eq_true,beq_iff_eq] at h1
   have hle:=hc d o ho hl e he h1.1
   rcases h1.2 with h2 | h2
   ·rw [← h2];exact hle
   ·exact Region.reach_listed hc fuel e.on h2 hle

theorem Region.reach_not_ready {listed:Array Bool} {i d fuel:Nat} (hc:ListedClosed md ops listed) (hr:Region.reachB md ops i fuel d=true) (hun:listed.getD i true=false):d∉Region.ready md ops listed:=by
 intro hd
 obtain ⟨_,o,ho,hall⟩:=mem_ready.1 hd
 have hi:listed.getD i false=true:=by
  cases fuel with
  | zero=>simp [Region.reachB] at hr
  | succ n =>
   unfold Region.reachB at hr
   rw [ho] at hr
   obtain ⟨e,he,h1⟩:=Array.any_eq_true'.1 hr
   simp only [Bool.and_eq_true,Bool.or_eq_true,beq_iff_eq] at h1
   have hle:=hall e he h1.1
   rcases h1.2 with h2 | h2
   ·rw [← h2];exact hle
   ·exact Region.reach_listed hc n e.on h2 hle
 rcases Nat.lt_or_ge i listed.size with h' | h'
 ·simp [h'] at hun hi
  rw [hun] at hi
  cases hi
 ·simp [Array.getElem?_eq_none h'] at hun

def wpAnyLast (P:Program) (md:Region.Mode) (ops:Array Oper) (Q:Exit→Act→World→Prop) (S:World→Prop) (ds:List Nat):Nat→Array Bool→Act→World→Prop
 | 0,listed,a,w=>Region.ready md ops listed=[]∧Q .normal a w
 | fuel+1,listed,a,w =>
  (Region.ready md ops listed=[]→Q .normal a w) ∧
  ∀ i∈Region.ready md ops listed,wpOp P ops Q i (fun a' w'=>(i∉ds→S w→S w')∧wpAnyLast P md ops Q S ds fuel (listed.setIfInBounds i true) a' w') a w

theorem wpAnyLast_first {i:Nat} {oi:Oper} {v:Value} (hi:ops[i]?=some oi) (hsel:∀ (j:Nat) (o:Oper) cs b,ops[j]?=some o→o.op≠.select cs b)
  (hQ:∀ c a w,Q (.panic c) (a.put oi.dst v) w→Q (.panic c) a w) (n:Nat) :
  ∀ (fuel:Nat) (listed:Array Bool) (a:Act) (w:World),
   (∀ j oj,ops[j]?=some oj→j≠i→listed.getD j true=false→(∀ e∈oj.after,Region.binds md e=true→e.on≠i)→oi.apart ops oj=true) →
   ListedClosed md ops listed→(∀ d∈ds,listed.getD d true=false→Region.reachB md ops i n d=true) →
   i∈Region.ready md ops listed→YieldsIf P ops S oi v a→S w →
   wpAnyLast P md ops Q S ds fuel (listed.setIfInBounds i true) (a.put oi.dst v) w→wpAnyLast P md ops Q S ds (fuel+1) listed a w:=by
 intro fuel
 induction fuel with
 | zero =>
  intro listed a w _ _ _ hr hy hS H
  refine ⟨fun h=>(by rw [h] at hr;cases hr),fun j hj=>?_⟩
  by_cases hji:j=i
  ·subst hji;exact hy.wpOp hi hS ⟨fun _ h=>h,H⟩
  ·have:=ready_mono hj hji
   rw [H.1] at this
   cases this
 | succ fuel ih =>
  intro listed a w hfree hc hd hr hy hS H
  refine ⟨fun h=>(by rw [h] at hr;cases hr),fun j hj=>?_⟩
  by_cases hji:j=i
  ·subst hji;exact hy.wpOp hi hS ⟨fun _ h=>h,H⟩
  ·have h1:=H.2 j (ready_mono hj hji)
   obtain ⟨hjun,oj,hoj,hall⟩:=mem_ready.1 hj
   have hiun:=(mem_ready.1 hr).1
   have hnot:∀ e∈oj.after,Region.binds md e=true→e.on≠i:=fun e he hb heq=>by
    have h1:=hall e he hb
    rw [heq] at h1
    rcases Nat.lt_or_ge i listed.size with h' | h'
    ·simp [h'] at hiun h1;rw [hiun] at h1;cases h1
    ·simp [Array.getElem?_eq_none h'] at h1
   have hjd:j∉ds:=fun hm=>Region.reach_not_ready hc (hd j hm hjun) hiun hj
   have h2:=wpOp_putIf hoj (hfree j oj hoj hji hjun hnot) (fun cs b=>hsel i oi cs b hi) (fun cs b=>hsel j oj cs b hoj) hQ hy h1
   have hfree':∀ k ok,ops[k]?=some ok→k≠i→(listed.setIfInBounds j true).getD k true=false →
     (∀ e∈ok.after,Region.binds md e=true→e.on≠i)→oi.apart ops ok=true:=fun k ok hk hki hun hno=>by
    refine hfree k ok hk hki ?_ hno
    by_cases hjk:j=k
    ·subst hjk;exact hjun
    ·rw [getD_set_ne true hjk] at hun;exact hun
   have hd':∀ d∈ds,(listed.setIfInBounds j true).getD d true=false→Region.reachB md ops i n d=true:=fun d hm hun=>by
    refine hd d hm ?_
    by_cases hjk:j=d
    ·subst hjk;exact hjun
    ·rw [getD_set_ne true hjk] at hun;exact hun
   refine wpOp_mono (fun a' w' h3=>⟨h3.2.1,ih (listed.setIfInBounds j true) a' w' hfree' (hc.set hj) hd' (ready_mono hr (Ne.symm hji)) h3.1 (h3.2.1 hjd hS) ?_⟩) h2
   rw [Array.setIfInBounds_comm _ _ hji]
   exact h3.2.2

theorem wpAnyLast_take {i:Nat} {oi:Oper} {v:Value} {fuel:Nat} {listed:Array Bool} {a:Act} {w:World} (hi:ops[i]?=some oi)
  (hs:Region.noSelect ops=true) (hf:Region.free md ops listed i=true) (hr:(Region.ready md ops listed).contains i=true)
  (hc:Region.closedB md ops listed=true) (hl:Region.lastB md ops listed ds i=true)
  (hQ:∀ c a w,Q (.panic c) (a.put oi.dst v) w→Q (.panic c) a w) (hy:YieldsIf P ops S oi v a) (hS:S w)
  (h:wpAnyLast P md ops Q S ds fuel (listed.setIfInBounds i true) (a.put oi.dst v) w):wpAnyLast P md ops Q S ds (fuel+1) listed a w:=
 wpAnyLast_first hi (Region.noSelect_spec hs) hQ ops.size fuel listed a w (Region.free_spec hi hf) (Region.closedB_spec hc)
  (fun d hm hun=>by have:=List.all_eq_true.1 hl d hm;rw [hun] at this;simpa using this) (by simpa using hr) hy hS h

end

section
variable {P:Program} {ops:Array Oper} {Q:Exit→Act→World→Prop} {md:Region.Mode} {S:World→Prop} {ds:List Nat}

def AllReadyL (P:Program) (md:Region.Mode) (ops:Array Oper) (Q:Exit→Act→World→Prop) (S:World→Prop) (ds:List Nat) (fuel:Nat) (listed:Array Bool) (a:Act) (w:World) (rs:List Nat):Prop:=
 ∀ i∈rs,wpOp P ops Q i (fun a' w'=>(i∉ds→S w→S w')∧wpAnyLast P md ops Q S ds fuel (listed.setIfInBounds i true) a' w') a w
theorem AllReadyL.nil {fuel:Nat} {listed:Array Bool} {a:Act} {w:World}:AllReadyL P md ops Q S ds fuel listed a w []:=fun _ h=>by cases h
theorem AllReadyL.cons {fuel:Nat} {listed:Array Bool} {a:Act} {w:World} {i:Nat} {o:Oper} {rs:List Nat} (ho:ops[i]?=some o) (hd:i∉ds)
  (h:∀ K':Act→World→Prop,Shut (∀ a w,S w→(S w→wpAnyLast P md ops Q S ds fuel (listed.setIfInBounds i true) a w)→K' a w)→if Region.wanted o (yielded ops a.tmps)=true then Oper.wp P o a w K' Q else K' (a.put o.dst undef) w)
  (hs:AllReadyL P md ops Q S ds fuel listed a w rs):AllReadyL P md ops Q S ds fuel listed a w (i :: rs):=fun j hj=>by
 rcases List.mem_cons.1 hj with rfl | hj
 ·exact wpOp_step ho (fun K' hK=>h K' (fun a w hS hW=>hK a w ⟨fun _ _=>hS,hW hS⟩))
 ·exact hs j hj
def takeB (md:Region.Mode) (ops:Array Oper) (ds:List Nat) (l l':Array Bool) (i:Nat):Bool:=
 Region.noSelect ops && Region.free md ops l i && (Region.ready md ops l).contains i && Region.closedB md ops l && Region.lastB md ops l ds i && (l.setIfInBounds i true == l')
theorem take_ {i:Nat} {N:Option Tmp} {oi:Oper} {v:Value} {fuel:Nat} {l:Array Bool} {a:Act} {w:World} (l':Array Bool) (hi:ops[i]?=some oi) (hN:oi.dst=N) (hc:takeB md ops ds l l' i=true)
  (hQ:∀ c a w,Q (.panic c) (a.put oi.dst v) w→Q (.panic c) a w) (hy:YieldsIf P ops S oi v a) (hS:S w) {a':Act} (ha:a.put N v=a')
  (h:wpAnyLast P md ops Q S ds fuel l' a' w):wpAnyLast P md ops Q S ds (fuel+1) l a w:=by
 subst ha
 subst hN
 simp only [takeB,Bool.and_eq_true,beq_iff_eq] at hc
 obtain ⟨⟨⟨⟨⟨h1,h2⟩,h3⟩,h4⟩,h5⟩,h6⟩:=hc
 subst h6
 exact wpAnyLast_take hi h1 h2 h3 h4 h5 hQ hy hS h
theorem enters_ {f:FuncId} {fn:Func} (hf:P.funcs[f]?=some fn) (hname:(fn.name == "runtime.NumGoroutine")=false) (hb:fn.body.isSome=true) (args:Array Value) (w:World):(callFunc f args).run P w=.ok (.enter f args) w:=by
 have h1:fn.name ≠ "runtime.NumGoroutine":=by simpa using hname
 obtain ⟨c,hc⟩:=Option.isSome_iff_exists.1 hb
 simp [callFunc,hf,h1,hc]
end
end Go.Proofs.YtcgkeolgflphiaaW.PrintLast

namespace Go.RegionInvYtcgkeolgflphiaa
open Go.RowKit Go.Proofs.YtcgkeolgflphiaaW.PrintWords

section
variable {P:Program} {ops:Array Oper} {Q:Exit→Act→World→Prop} {B:Nat} {Cj:List Nat} {O:Nat→Nat→Prop} {G:Value→World→(Nat→Prop)→Prop} {a:Act} {w:World} {o:Oper}

theorem wanted_none {y:Nat→Option Bool} (h:o.guard=none):Region.wanted o y=true:=by unfold Region.wanted;rw [h]
theorem yielded_of {j d:Nat} {oj:Oper} {c:Bool} (hj:ops[j]?=some oj) (hd:oj.dst=some d) (hv:a.tmps.getD d undef=.bool c):yielded ops a.tmps j=some c:=by
 unfold yielded
 rw [hj,Option.bind_some,hd,Option.bind_some]
 have hlt:d<a.tmps.size:=by
  rcases Nat.lt_or_ge d a.tmps.size with h | h
  ·exact h
  ·simp [Array.getD,Nat.not_lt.2 h,undef] at hv
 rw [Array.getElem?_eq_getElem hlt]
 have:a.tmps[d]=.bool c:=by simpa [Array.getD,hlt] using hv
 rw [this]
theorem wanted_of {j d:Nat} {oj:Oper} {b:Bool} (hg:o.guard=some (j,b)) (hj:ops[j]?=some oj) (hd:oj.dst=some d) (hv:a.tmps.getD d undef=.bool b):Region.wanted o (yielded ops a.tmps)=true:=by
 unfold Region.wanted;rw [hg];simp only [];rw [yielded_of hj hd hv];simp
theorem ob_run {v:Value} (hw:Region.wanted o (yielded ops a.tmps)=true) (hr:(execOp a.eval o).run P w=.ok (.value v) w) (hG:G v w fun _=>False):Owes P ops Q Cj O G o a w:=by
 unfold Owes;rw [if_pos hw];unfold Oper.wp;rw [hr]
 exact ⟨v,_,rfl,hG,Chg.refl _ _,fun _ h=>h.elim⟩
theorem ob_runO {v:Value} (O':Nat→Prop) (hw:Region.wanted o (yielded ops a.tmps)=true) (hr:(execOp a.eval o).run P w=.ok (.value v) w) (hG:G v w O') (hO:∀ k,O' k→∃ i∈Cj,O i k):Owes P ops Q Cj O G o a w:=by
 unfold Owes;rw [if_pos hw];unfold Oper.wp;rw [hr]
 exact ⟨v,O',rfl,hG,Chg.refl _ _,fun k h=>.inl (hO k h)⟩
theorem ob_move {x:Operand} {v:Value} (ho:o.op=.move x) (hx:a.eval x=v) (hw:Region.wanted o (yielded ops a.tmps)=true) (hG:G v w fun _=>False):Owes P ops Q Cj O G o a w:=
 ob_run hw (by unfold execOp;rw [ho];simp only [];rw [hx];rfl) hG
theorem ob_assign {x:Operand} {v:Value} (ho:o.op=.assign x) (hx:a.eval x=v) (hw:Region.wanted o (yielded ops a.tmps)=true) (hG:G v w fun _=>False):Owes P ops Q Cj O G o a w:=
 ob_run hw (by unfold execOp;rw [ho];simp only [];rw [hx];rfl) hG
theorem ob_assignO {x:Operand} {v:Value} (O':Nat→Prop) (ho:o.op=.assign x) (hx:a.eval x=v) (hw:Region.wanted o (yielded ops a.tmps)=true) (hG:G v w O') (hO:∀ k,O' k→∃ i∈Cj,O i k):Owes P ops Q Cj O G o a w:=
 ob_runO O' hw (by unfold execOp;rw [ho];simp only [];rw [hx];rfl) hG hO
theorem ob_pick {c x y:Operand} {b:Bool} {v:Value} (ho:o.op=.pick c x y) (hc:a.eval c=.bool b) (hx:a.eval (if b then x else y)=v) (hw:Region.wanted o (yielded ops a.tmps)=true) (hG:G v w fun _=>False):Owes P ops Q Cj O G o a w:=
 ob_run hw (by
  unfold execOp;rw [ho];simp only [];rw [hc]
  cases b <;> simp_all [asBool]) hG
theorem ob_neqInt {t t':TypeId} {k:IntKind} {x y:Operand} {m n:Int} (b:Bool) (ho:o.op=.binOp .neq t x y t') (hx:a.eval x=.int k m) (hy:a.eval y=.int k n) (hb:(m != n)=b)
  (hw:Region.wanted o (yielded ops a.tmps)=true) (hG:G (.bool b) w fun _=>False):Owes P ops Q Cj O G o a w:=
 ob_run hw (by unfold execOp;rw [ho];simp only [];rw [hx,hy];subst hb;simp [go_sem]) hG
theorem ob_len {t e:TypeId} {x:Operand} {A:Option Addr} {n c:Nat} (ho:o.op=.call { callee:=.builtin .len,args:=#[x],argTypes:=#[t] }) (hx:a.eval x=.slice A n c) (hu:P.underlying t=some (.slice e))
  (hw:Region.wanted o (yielded ops a.tmps)=true) (hG:G (.int .i64 n) w fun _=>False):Owes P ops Q Cj O G o a w:=
 ob_run hw (by
  unfold execOp;rw [ho]
  simp only [resolve,invoke,builtin,Sem.run_bind,Sem.run_pure,Result.andThen_ok,List.map_toArray,List.map_cons,List.map_nil,hx]
  simp [go_sem,Builtin.len_,run_underlying hu,goInt]) hG
def OwnO (B:Nat) (e:TypeId) (size:Nat) (n:Nat) (xs:List Value) (v:Value) (w:World) (O:Nat→Prop):Prop:=w.ownsRow B e size v n xs∧∀ k,v.ownBlock=some k→O k
theorem ownsRow_same {w w':World} {base:Nat} {e:TypeId} {size n:Nat} {v:Value} {xs:List Value} (h:w.ownsRow base e size v n xs) (hs:∀ k,v.ownBlock=some k→w'.heap[k]?=w.heap[k]?):w'.ownsRow base e size v n xs:=by
 obtain ⟨h1,h2⟩:=h
 refine ⟨h1,?_⟩
 rcases h2 with h2 | ⟨g,cap,cur,hv,hg,hh,r⟩
 ·exact .inl h2
 ·refine .inr ⟨g,cap,cur,hv,hg,?_,r⟩
  rw [hs g (by rw [hv];rfl)]
  exact hh
end
end Go.RegionInvYtcgkeolgflphiaa

namespace Go.Proofs.Ytcgkeolgflphiaa
open Go.RowKit Go.Proofs.YtcgkeolgflphiaaW.PrintWords Go.RegionInvYtcgkeolgflphiaa

def arityP (k:Int):Int:=if k=1∨k=2 then 0 else if k=3 then 1 else if k=4 then 2 else -1
theorem arity_12 {k:Int} (h:k=1∨k=2):arityP k=0:=by unfold arityP;rw [if_pos h]
theorem arity_no {k:Int} (h1:k≠1) (h2:k≠2) (h3:k≠3) (h4:k≠4):arityP k = -1:=by unfold arityP;rw [if_neg (by omega),if_neg h3,if_neg h4]

set_option maxHeartbeats 2000000 in
theorem kids_calls (k:Int) (w:World):Calls Try.prog 118 #[.int .i64 k] w fun e w'=>e=.returned (.int .i64 (arityP k))∧w'=w:=by
 go_enter Try.func118,Try.ntmps118
 by_cases h1:k=1
 ·have H:=Ak (arity_12 (.inl h1))
  have e1:(k == 1)=true:=by simp [h1]
  clear h1
  go_wp2
  go_ret
  exact ⟨by rw [H.out];rfl,rfl⟩
 ·have e1:(k == 1)=false:=by simp [h1]
  by_cases h2:k=2
  ·have H:=Ak (arity_12 (.inr h2))
   have e2:(k == 2)=true:=by simp [h2]
   clear h1 h2
   go_wp2
   go_ret
   exact ⟨by rw [H.out];rfl,rfl⟩
  ·have e2:(k == 2)=false:=by simp [h2]
   by_cases h3:k=3
   ·have H:=Ak (show arityP k=1 by rw [h3];decide)
    have e3:(k == 3)=true:=by simp [h3]
    clear h1 h2 h3
    go_wp2
    go_ret
    exact ⟨by rw [H.out];rfl,rfl⟩
   ·have e3:(k == 3)=false:=by simp [h3]
    by_cases h4:k=4
    ·have H:=Ak (show arityP k=2 by rw [h4];decide)
     have e4:(k == 4)=true:=by simp [h4]
     clear h1 h2 h3 h4
     go_wp2
     go_ret
     exact ⟨by rw [H.out];rfl,rfl⟩
    ·have H:=Ak (arity_no h1 h2 h3 h4)
     have e4:(k == 4)=false:=by simp [h4]
     clear h1 h2 h3 h4
     go_wp2
     go_ret
     exact ⟨by rw [H.out];rfl,rfl⟩

def rightP (l:Lv) (most mostV:Int):Bool:=
 if (l.kids.length:Int)≠arityP l.kind then false else
 if l.kind=1 then decide (0≤l.num∧l.num≤most) else if l.kind=3 then decide (1≤l.num∧l.num≤most) else if l.kind=2 then decide (0≤l.num∧l.num≤mostV) else true

theorem right_bad {k n:Int} {ks:List Lv} {most mostV:Int} (h:(ks.length:Int)≠arityP k):rightP (.mk k n ks) most mostV=false:=by unfold rightP;exact if_pos h
theorem right_num {n:Int} {ks:List Lv} {most mostV:Int} (h:(ks.length:Int)=arityP 1):rightP (.mk 1 n ks) most mostV=decide (0≤n∧n≤most):=by
 show (if (ks.length:Int)≠arityP 1 then false else decide (0≤n∧n≤most))=_
 exact if_neg (fun x=>x h)
theorem right_succ {n:Int} {ks:List Lv} {most mostV:Int} (h:(ks.length:Int)=arityP 3):rightP (.mk 3 n ks) most mostV=decide (1≤n∧n≤most):=by
 show (if (ks.length:Int)≠arityP 3 then false else decide (1≤n∧n≤most))=_
 exact if_neg (fun x=>x h)
theorem right_var {n:Int} {ks:List Lv} {most mostV:Int} (h:(ks.length:Int)=arityP 2):rightP (.mk 2 n ks) most mostV=decide (0≤n∧n≤mostV):=by
 show (if (ks.length:Int)≠arityP 2 then false else decide (0≤n∧n≤mostV))=_
 exact if_neg (fun x=>x h)
theorem right_else {k n:Int} {ks:List Lv} {most mostV:Int} (h:(ks.length:Int)=arityP k) (h1:k≠1) (h2:k≠2) (h3:k≠3):rightP (.mk k n ks) most mostV=true:=by
 unfold rightP
 exact (if_neg (fun x=>x h)).trans ((if_neg h1).trans ((if_neg h3).trans (if_neg h2)))

set_option maxHeartbeats 2000000 in
theorem right_calls (A:Option Addr) (c:Nat) (l:Lv) (most mostV:Int) (w:World) (hc:l.kids.length≤9223372036854775807) :
  Calls Try.prog 102 #[lvV A c l,.int .i64 most,.int .i64 mostV] w fun e w'=>e=.returned (.bool (rightP l most mostV))∧Below w.heap.size w w':=by
 obtain ⟨k,n,ks⟩:=l
 unfold lvV
 simp only [Lv.kind,Lv.num,Lv.kids] at hc ⊢
 obtain ⟨m,hm⟩:∃ m,m=ks.length:=⟨_,rfl⟩
 rw [← hm] at hc ⊢
 go_enter Try.func102,Try.ntmps102
 by_cases h0:(m:Int)=arityP k
 ·have e0:((m:Int) != arityP k)=false:=by simp [h0]
  by_cases h1:k=1
  ·have e1:(k == 1)=true:=by simp [h1]
   have H:=Ak (show rightP (.mk k n ks) most mostV=decide (0≤n∧n≤most) by rw [h1];exact right_num (by rw [← hm,h0,h1]))
   clear h0 h1 hm
   by_cases q1:0≤n
   ·by_cases q2:n≤most
    ·go_wp2
     go_quiet ((go_at_call 118;exact Calls.quiet_of_same (kids_calls _ _)))
     go_wp2
     go_ret
     exact ⟨congrArg (fun b=>Ending.returned (.bool b)) (H.out ▸ by first | exact (decide_eq_false (by omega)).symm | exact (decide_eq_true (by omega)).symm | exact decide_eq_decide.2 (by omega)),pw_below_drewN (below_alloc (Below.refl _ _) _) _⟩
    ·go_wp2
     go_quiet ((go_at_call 118;exact Calls.quiet_of_same (kids_calls _ _)))
     go_wp2
     go_ret
     exact ⟨congrArg (fun b=>Ending.returned (.bool b)) (H.out ▸ by first | exact (decide_eq_false (by omega)).symm | exact (decide_eq_true (by omega)).symm | exact decide_eq_decide.2 (by omega)),pw_below_drewN (below_alloc (Below.refl _ _) _) _⟩
   ·go_wp2
    go_quiet ((go_at_call 118;exact Calls.quiet_of_same (kids_calls _ _)))
    go_wp2
    go_ret
    exact ⟨congrArg (fun b=>Ending.returned (.bool b)) (H.out ▸ by first | exact (decide_eq_false (by omega)).symm | exact (decide_eq_true (by omega)).symm | exact decide_eq_decide.2 (by omega)),pw_below_drewN (below_alloc (Below.refl _ _) _) _⟩
  ·have e1:(k == 1)=false:=by simp [h1]
   by_cases h3:k=3
   ·have e3:(k == 3)=true:=by simp [h3]
    have H:=Ak (show rightP (.mk k n ks) most mostV=decide (1≤n∧n≤most) by rw [h3];exact right_succ (by rw [← hm,h0,h3]))
    clear h0 h1 h3 hm
    by_cases q1:1≤n
    ·by_cases q2:n≤most
     ·go_wp2
      go_quiet ((go_at_call 118;exact Calls.quiet_of_same (kids_calls _ _)))
      go_wp2
      go_ret
      exact ⟨congrArg (fun b=>Ending.returned (.bool b)) (H.out ▸ by first | exact (decide_eq_false (by omega)).symm | exact (decide_eq_true (by omega)).symm | exact decide_eq_decide.2 (by omega)),pw_below_drewN (below_alloc (Below.refl _ _) _) _⟩
     ·go_wp2
      go_quiet ((go_at_call 118;exact Calls.quiet_of_same (kids_calls _ _)))
      go_wp2
      go_ret
      exact ⟨congrArg (fun b=>Ending.returned (.bool b)) (H.out ▸ by first | exact (decide_eq_false (by omega)).symm | exact (decide_eq_true (by omega)).symm | exact decide_eq_decide.2 (by omega)),pw_below_drewN (below_alloc (Below.refl _ _) _) _⟩
    ·go_wp2
     go_quiet ((go_at_call 118;exact Calls.quiet_of_same (kids_calls _ _)))
     go_wp2
     go_ret
     exact ⟨congrArg (fun b=>Ending.returned (.bool b)) (H.out ▸ by first | exact (decide_eq_false (by omega)).symm | exact (decide_eq_true (by omega)).symm | exact decide_eq_decide.2 (by omega)),pw_below_drewN (below_alloc (Below.refl _ _) _) _⟩
   ·have e3:(k == 3)=false:=by simp [h3]
    by_cases h2:k=2
    ·have e2:(k == 2)=true:=by simp [h2]
     have H:=Ak (show rightP (.mk k n ks) most mostV=decide (0≤n∧n≤mostV) by rw [h2];exact right_var (by rw [← hm,h0,h2]))
     clear h0 h1 h3 h2 hm
     by_cases q1:0≤n
     ·by_cases q2:n≤mostV
      ·go_wp2
       go_quiet ((go_at_call 118;exact Calls.quiet_of_same (kids_calls _ _)))
       go_wp2
       go_ret
       exact ⟨congrArg (fun b=>Ending.returned (.bool b)) (H.out ▸ by first | exact (decide_eq_false (by omega)).symm | exact (decide_eq_true (by omega)).symm | exact decide_eq_decide.2 (by omega)),pw_below_drewN (below_alloc (Below.refl _ _) _) _⟩
      ·go_wp2
       go_quiet ((go_at_call 118;exact Calls.quiet_of_same (kids_calls _ _)))
       go_wp2
       go_ret
       exact ⟨congrArg (fun b=>Ending.returned (.bool b)) (H.out ▸ by first | exact (decide_eq_false (by omega)).symm | exact (decide_eq_true (by omega)).symm | exact decide_eq_decide.2 (by omega)),pw_below_drewN (below_alloc (Below.refl _ _) _) _⟩
     ·go_wp2
      go_quiet ((go_at_call 118;exact Calls.quiet_of_same (kids_calls _ _)))
      go_wp2
      go_ret
      exact ⟨congrArg (fun b=>Ending.returned (.bool b)) (H.out ▸ by first | exact (decide_eq_false (by omega)).symm | exact (decide_eq_true (by omega)).symm | exact decide_eq_decide.2 (by omega)),pw_below_drewN (below_alloc (Below.refl _ _) _) _⟩
    ·have e2:(k == 2)=false:=by simp [h2]
     have H:=Ak (right_else (n:=n) (ks:=ks) (most:=most) (mostV:=mostV) (by rw [← hm];exact h0) h1 h2 h3)
     clear h0 h1 h2 h3 hm
     go_wp2
     go_quiet ((go_at_call 118;exact Calls.quiet_of_same (kids_calls _ _)))
     go_wp2
     go_ret
     exact ⟨by rw [H.out];rfl,pw_below_drewN (below_alloc (Below.refl _ _) _) _⟩
 ·have e0:((m:Int) != arityP k)=true:=by simp [h0]
  have H:=Ak (right_bad (n:=n) (ks:=ks) (most:=most) (mostV:=mostV) (by rw [← hm];exact h0))
  clear h0 hm
  go_wp2
  go_quiet ((go_at_call 118;exact Calls.quiet_of_same (kids_calls _ _)))
  go_wp2
  go_ret
  exact ⟨by rw [H.out];rfl,pw_below_drewN (below_alloc (Below.refl _ _) _) _⟩
end Go.Proofs.Ytcgkeolgflphiaa

namespace Go.Proofs.Ytcgkeolgflphiaa
open Go.RowKit Go.Proofs.YtcgkeolgflphiaaW.PrintWords Go.RegionInvYtcgkeolgflphiaa

theorem chg_set (w:World) (g j:Nat) (v:Value):Chg (fun k=>k=g) w (w.setCell ⟨g,j,none⟩ v):=
 ⟨rfl,rfl,rfl,by simp [World.setCell],fun i _ hne=>Below.heap_setCell w ⟨g,j,none⟩ v i hne⟩
theorem chg_trans {S:Nat→Prop} {a w w':World} (h:Chg S a w) (k:Chg S w w'):Chg S a w':=
 ⟨k.os.trans h.os,k.tape.trans h.tape,k.output.trans h.output,Nat.le_trans h.size k.size,fun i hi hs=>(k.block i (Nat.lt_of_lt_of_le hi h.size) hs).trans (h.block i hi hs)⟩
theorem chg_alloc (S:Nat→Prop) (w:World) (o:Obj):Chg S w (w.alloc o):=Chg.of_below ((Below.refl _ _).alloc (Nat.le_refl _) _)
theorem chg_drewN {S:Nat→Prop} {w w':World} (h:Chg S w w') (n:Nat):Chg S w (w'.drewN n):=⟨h.os,h.tape,h.output,h.size,h.block⟩
def NumAt (w:World) (g:Nat) (s:Int):Prop:=w.heap[g]?=some (.cells #[.int .i64 s] 3 (0,0))
theorem NumAt.cell {w:World} {g:Nat} {s:Int} (h:NumAt w g s):w.cell? ⟨g,0,none⟩=some (.int .i64 s):=by
 rw [cell_of_row w g 0 _ 3 (0,0) h];rfl
theorem NumAt.set {w:World} {g:Nat} {s:Int} (h:NumAt w g s) (x:Int):NumAt (w.setCell ⟨g,0,none⟩ (.int .i64 x)) g x:=blk_put h 0 _ rfl
theorem NumAt.below {w w':World} {g:Nat} {s:Int} (h:NumAt w g s) (hb:Below w.heap.size w w'):NumAt w' g s:=blk_below h hb
theorem NumAt.alloc {w:World} {g:Nat} {s:Int} (h:NumAt w g s) (o:Obj):NumAt (w.alloc o) g s:=blk_alloc h o

def VisitPost (w:World) (g:Nat) (r:Int × Int) (e:Ending) (w':World):Prop:=e=.returned (.int .i64 r.1)∧NumAt w' g r.2∧Chg (fun k=>k=g) w w'

def Small (f:Lv→Int→Int→Int × Int) (m:Int):Prop:=∀ l d s,0≤s→(f l d s).1=0→0≤(f l d s).2∧(f l d s).2≤m
mutual
theorem walkP_small {f:Lv→Int→Int→Int × Int} {m:Int} (hf:Small f m):(l:Lv)→(d s:Int)→0≤s→(walkP f l d s).1=0→0≤(walkP f l d s).2∧(walkP f l d s).2≤m
 | .mk k n ks,d,s,h0,h=>by
  by_cases h1:(f (.mk k n ks) d s).1=0
  ·rw [walkP_go h1] at h ⊢
   have h2:=hf _ _ _ h0 h1
   exact walkKs_small hf ks (d+1) _ h2.1 h2.2 h
  ·rw [walkP_stop h1] at h;exact absurd h h1
theorem walkKs_small {f:Lv→Int→Int→Int × Int} {m:Int} (hf:Small f m):(ks:List Lv)→(d s:Int)→0≤s→s≤m→(walkKs f ks d s).1=0→0≤(walkKs f ks d s).2∧(walkKs f ks d s).2≤m
 | [],d,s,h0,h1,_=>by rw [walkKs];exact ⟨h0,h1⟩
 | x :: r,d,s,h0,h1,h=>by
  by_cases h2:(walkP f x d s).1=0
  ·rw [walkKs_go h2] at h ⊢
   have h3:=walkP_small hf x d s h0 h2
   exact walkKs_small hf r d _ h3.1 h3.2 h
  ·rw [walkKs_stop h2] at h;exact absurd h h2
end
end Go.Proofs.Ytcgkeolgflphiaa

namespace Go.Proofs.Ytcgkeolgflphiaa
open Go.RowKit Go.Proofs.YtcgkeolgflphiaaW.PrintWords Go.RegionInvYtcgkeolgflphiaa

theorem kid_small {k n:Int} {ks:List Lv} {i:Nat} {x:Lv} (h:ks[i]?=some x):SizeOf.sizeOf x<SizeOf.sizeOf (Lv.mk k n ks):=by
 have:=List.sizeOf_lt_of_mem (List.mem_of_getElem? h)
 simp only [Lv.mk.sizeOf_spec]
 omega
theorem drop_kid {ks:List Lv} {i:Nat} {x:Lv} (h:ks[i]?=some x):ks.drop i=x :: ks.drop (i+1):=by
 obtain ⟨hi,e⟩:=List.getElem?_eq_some_iff.1 h
 rw [List.drop_eq_getElem_cons hi,e]
theorem chg_below {w w':World} {g B:Nat} (h:Chg (fun k=>k=g) w w') (hB:B≤g) (hz:B≤w.heap.size):Below B w w':=h.below (fun _ e=>e ▸ hB) hz

theorem chg_cell {w w':World} {g:Nat} (h:Chg (fun k=>k=g) w w') {p:Addr} {v:Value} (hc:w.cell? p=some v) (hne:p.block≠g):w'.cell? p=some v:=by
 have hb:=h.block p.block (World.block_lt_of_cell? w p hc) hne
 simpa [World.cell?,hb] using hc
theorem box_cell (w:World) (cs:Array Value) (t:TypeId) (i:Nat) (v:Value) (h:cs[i]?=some v):(w.alloc (.cells cs t (0,0))).cell? ⟨w.heap.size,i,none⟩=some v:=by
 rw [cell_of_row _ _ _ cs t (0,0) (heap_alloc_new w _)];exact h
theorem add_flat (b o j:Nat):(⟨b,o,none⟩:Addr).add j=⟨b,o+j,none⟩:=by unfold Addr.add;split <;> simp_all
theorem CellsAt.facts {w:World} {S:Nat→Prop} {A:Option Addr} {i:Nat} {a b:Int} {A':Option Addr} {n' c':Nat} (h:CellsAt w S A i a b A' n' c'):∃ ad,A=some ad∧w.cell? (ad.add (i * 3))=some (.int .i64 a) ∧
  w.cell? ⟨(ad.add (i * 3)).block,(ad.add (i * 3)).off+1,none⟩=some (.int .i64 b)∧w.cell? ⟨(ad.add (i * 3)).block,(ad.add (i * 3)).off+2,none⟩=some (.slice A' n' c'):=by
 obtain ⟨ad,e,_,hs,h1,h2,h3⟩:=h
 obtain ⟨b,o,sp⟩:=ad
 obtain rfl:sp=none:=hs
 refine ⟨_,e,h1,?_,?_⟩
 ·rw [← h2,add_flat,add_flat];rfl
 ·rw [← h3,add_flat,add_flat];rfl
theorem two_below {w w':World} {o o':Obj} (h:Chg (fun k=>k=w.heap.size+1) ((w.alloc o).alloc o') w'):Below w.heap.size w w':=
 Chg.trans_below (below_alloc (below_alloc (Below.refl _ _) _) _) h (fun _ e=>by omega) (by simp;omega)
end Go.Proofs.Ytcgkeolgflphiaa

namespace Go.Proofs.Ytcgkeolgflphiaa
open Go.RowKit Go.Proofs.YtcgkeolgflphiaaW.PrintWords Go.RegionInvYtcgkeolgflphiaa

def KidsAt (w:World) (lo:Nat) (V:Value) (xs:List Lv):Prop:=
 ∃ (cells:List Value) (fA:Nat→Option Addr) (fc:Nat→Nat),w.ownsRow lo 24 3 V xs.length cells ∧
  ∀ (i:Nat) (x:Lv),xs[i]?=some x→cells[i * 3]?=some (.int .i64 x.kind)∧cells[i * 3+1]?=some (.int .i64 x.num)∧cells[i * 3+2]?=some (.slice (fA i) x.kids.length (fc i))∧LvS w (fun b=>lo≤b∧V.ownBlock≠some b) (fA i) (fc i) x
theorem KidsAt.nil (w:World) (lo:Nat):KidsAt w lo (.slice none 0 0) []:=⟨[],fun _=>none,fun _=>0,own_nil _ _ _ _,fun i x h=>by simp at h⟩
theorem KidsAt.later {w w':World} {lo:Nat} {V:Value} {xs:List Lv} (h:KidsAt w lo V xs) (hb:Below w.heap.size w w'):KidsAt w' lo V xs:=by
 obtain ⟨cells,fA,fc,ho,hk⟩:=h
 exact ⟨cells,fA,fc,pw_own_below ho hb,fun i x hx=>⟨(hk i x hx).1,(hk i x hx).2.1,(hk i x hx).2.2.1,(hk i x hx).2.2.2.later hb⟩⟩
theorem own_len {w:World} {base n:Nat} {e:TypeId} {size:Nat} {v:Value} {xs:List Value} (h:w.ownsRow base e size v n xs):xs.length=n * size:=h.1
theorem KidsAt.other {w w':World} {lo g:Nat} {V:Value} {xs:List Lv} (h:KidsAt w lo V xs) (hc:Chg (fun k=>k=g) w w') (hg:g<lo):KidsAt w' lo V xs:=by
 obtain ⟨cells,fA,fc,ho,hk⟩:=h
 refine ⟨cells,fA,fc,ownsRow_same ho fun k hk=>hc.block k (own_lt ho k hk) (by have:=own_base ho k hk;omega),fun i x hx=>?_⟩
 obtain ⟨h1,h2,h3,h4⟩:=hk i x hx
 exact ⟨h1,h2,h3,h4.same fun k hs hz=>hc.block k hz (by omega)⟩
theorem KidsAt.push {w w1:World} {lo:Nat} {V v1:Value} {xs:List Lv} {x:Lv} {A:Option Addr} {c:Nat} {cells:List Value} {fA:Nat→Option Addr} {fc:Nat→Nat} (ho:w.ownsRow lo 24 3 V xs.length cells)
  (hk:∀ (i:Nat) (x:Lv),xs[i]?=some x→cells[i * 3]?=some (.int .i64 x.kind)∧cells[i * 3+1]?=some (.int .i64 x.num)∧cells[i * 3+2]?=some (.slice (fA i) x.kids.length (fc i))∧LvS w (fun b=>lo≤b∧V.ownBlock≠some b) (fA i) (fc i) x)
  (hx:LvS w (fun b=>lo≤b∧V.ownBlock≠some b) A c x) (ho1:w1.ownsRow lo 24 3 v1 (xs.length+1) (cells ++ [.int .i64 x.kind,.int .i64 x.num,.slice A x.kids.length c]))
  (hg:w.grownBy w1 V.ownBlock) (hat:v1.ownBlock=V.ownBlock∨∃ b,v1.ownBlock=some b∧w.heap.size≤b):KidsAt w1 lo v1 (xs ++ [x]):=by
 have keep:∀ {A:Option Addr} {c:Nat} {y:Lv},LvS w (fun b=>lo≤b∧V.ownBlock≠some b) A c y→LvS w1 (fun b=>lo≤b∧v1.ownBlock≠some b) A c y:=by
  intro A c y h
  have h1:LvS w (fun b=>(lo≤b∧V.ownBlock≠some b)∧v1.ownBlock≠some b) A c y:=h.mono fun k hk hz=>⟨hk,by
   rcases hat with e | ⟨b,e,hb⟩
   ·rw [e];exact hk.2
   ·rw [e];intro h;injection h with h;omega⟩
  exact (h1.same fun k hs hz=>hg.block k hz fun e=>hs.1.2 e.symm).mono fun k hs _=>⟨hs.1.1,hs.2⟩
 have hl:=own_len ho
 refine ⟨_,fun i=>if i=xs.length then A else fA i,fun i=>if i=xs.length then c else fc i,by simpa using ho1,fun i y hy=>?_⟩
 rcases Nat.lt_or_ge i xs.length with hi | hi
 ·rw [List.getElem?_append_left hi] at hy
  obtain ⟨h1,h2,h3,h4⟩:=hk i y hy
  rw [List.getElem?_append_left (by omega),List.getElem?_append_left (by omega),List.getElem?_append_left (by omega)]
  simp only [if_neg (show ¬ i=xs.length by omega)]
  exact ⟨h1,h2,h3,keep h4⟩
 ·rw [List.getElem?_append_right hi] at hy
  have hi2:i=xs.length:=by
   cases e:i - xs.length with
   | zero=>omega
   | succ j=>rw [e] at hy;simp at hy
  subst hi2
  obtain rfl:x=y:=by simpa using hy
  rw [List.getElem?_append_right (by omega),List.getElem?_append_right (by omega),List.getElem?_append_right (by omega)]
  simp only [↓reduceIte]
  rw [show xs.length * 3 - cells.length=0 by omega,show xs.length * 3+1 - cells.length=1 by omega,show xs.length * 3+2 - cells.length=2 by omega]
  exact ⟨rfl,rfl,rfl,keep hx⟩
theorem KidsAt.level {w:World} {lo:Nat} {V:Value} {xs:List Lv} (h:KidsAt w lo V xs):∃ A c,V=.slice A xs.length c∧∀ k n,LvS w (fun b=>lo≤b) A c (.mk k n xs):=by
 obtain ⟨cells,fA,fc,ho,hk⟩:=h
 obtain ⟨A,c,rfl⟩:=own_slice ho
 refine ⟨A,c,rfl,fun k n=>.mk fA fc (own_cap ho) ?_ (fun i x hx=>?_) (fun i x hx=>(hk i x hx).2.2.2.mono fun b hb _=>hb.1)⟩
 ·rcases ho.2 with ⟨h1,_⟩ | ⟨g,cap,cur,h1,_,_,h2,h3,_⟩
  ·injection h1 with _ _ h1;omega
  ·injection h1 with _ _ h1
   subst h1
   simp only [maxLen] at h3
   omega
 ·have hi:i<xs.length:=by
   rcases Nat.lt_or_ge i xs.length with h | h
   ·exact h
   ·rw [List.getElem?_eq_none h] at hx;cases hx
  obtain ⟨g,cap,hv,hb,_⟩:=ho.form (by omega)
  obtain ⟨h1,h2,h3,_⟩:=hk i x hx
  have hv':=hv
  injection hv with hA
  exact ⟨⟨g,0,none⟩,hA,hb,rfl,ho.cells (g:=g) (by rw [hv'];rfl) _ _ h1,ho.cells (g:=g) (by rw [hv'];rfl) _ _ h2,ho.cells (g:=g) (by rw [hv'];rfl) _ _ h3⟩

inductive Good:Lv→Prop
 | mk {k n:Int} {ks:List Lv} (h:rightP (.mk k n ks) 1099511627776 1000=true) (hk:∀ x∈ks,Good x):Good (.mk k n ks)
theorem Good.kid {k n:Int} {ks:List Lv} (h:Good (.mk k n ks)) {i:Nat} {x:Lv} (hx:ks[i]?=some x):Good x:=by
 cases h with
 | mk _ hk=>exact hk x (List.mem_of_getElem? hx)
end Go.Proofs.Ytcgkeolgflphiaa

namespace Go.Proofs.Ytcgkeolgflphiaa
open Go.RowKit Go.Proofs.YtcgkeolgflphiaaW.PrintWords Go.RegionInvYtcgkeolgflphiaa

theorem infoLv:(Try.prog.info? 24).map (fun i=>(i.zero,i.size,i.bytes))=some (some (.agg #[.int .i64 0,.int .i64 0,.slice none 0 0]),3,40):=by kernel_rfl
structure CpIn (w w5:World) (lk n':Int) (V:Value) (xs:List Lv) (A5:Option Addr) (c5:Nat) (x:Lv):Prop where
 o:w5.heap[w.heap.size+1+1]?=some (.cells #[.int .i64 lk,.int .i64 n',V] 24 (0,0))
 res:w5.heap[w.heap.size+1]?=some (.cells #[.int .i64 0,.int .i64 0,.slice none 0 0] 24 (0,0))
 kids:KidsAt w5 (w.heap.size+3) V xs
 bel:Below w.heap.size w w5
 kid:LvS w5 (fun b=>w.heap.size+3≤b∧V.ownBlock≠some b) A5 c5 x
theorem CpIn.cell {w w5:World} {lk n':Int} {V:Value} {xs:List Lv} {A5:Option Addr} {c5:Nat} {x:Lv} (h:CpIn w w5 lk n' V xs A5 c5 x):w5.cell? ⟨w.heap.size+1+1,2,none⟩=some V:=by
 rw [cell_of_row _ _ _ _ _ _ h.o];rfl
theorem CpIn.cell2 {w w5:World} {lk n':Int} {V:Value} {xs:List Lv} {A5:Option Addr} {c5:Nat} {x:Lv} (h:CpIn w w5 lk n' V xs A5 c5 x) (ob:Obj):(w5.alloc ob).cell? ⟨w.heap.size+1+1,2,none⟩=some V:=by
 rw [cell_of_row _ _ _ _ _ _ (blk_alloc h.o ob)];rfl
theorem CpIn.drew {w w5:World} {lk n':Int} {V:Value} {xs:List Lv} {A5:Option Addr} {c5:Nat} {x:Lv} (h:CpIn w w5 lk n' V xs A5 c5 x):CpIn w w5.drew lk n' V xs A5 c5 x:=
 ⟨h.o,h.res,h.kids.later (below_drew (Below.refl _ _)),below_drew h.bel,h.kid.later (below_drew (Below.refl _ _))⟩
structure CpOut (w w6:World) (lk n':Int) (V V6:Value) (xs:List Lv):Prop where
 o:w6.heap[w.heap.size+1+1]?=some (.cells #[.int .i64 lk,.int .i64 n',V] 24 (0,0))
 res:w6.heap[w.heap.size+1]?=some (.cells #[.int .i64 0,.int .i64 0,.slice none 0 0] 24 (0,0))
 kids:KidsAt w6 (w.heap.size+3) V6 xs
 bel:Below w.heap.size w w6
theorem CpOut.cell {w w6:World} {lk n':Int} {V V6:Value} {xs:List Lv} (h:CpOut w w6 lk n' V V6 xs):w6.cell? ⟨w.heap.size+1+1,2,none⟩=some V:=by
 rw [cell_of_row _ _ _ _ _ _ h.o];rfl
theorem results_c {P:Program} {fn:Func} {p:Tmp} {ty:TypeId} (h:fn.results = #[.cell p ty]) (tmps:Array Value) (w:World) (g:Nat) (t:TypeId) (cs:Array Value) (fr:Nat × Nat) (d:TypeDesc)
  (hp:tmps.getD p undef=.pointer (some ⟨g,0,none⟩)) (hg:w.heap[g]?=some (.cells cs t fr))
  (hu:P.underlying ty=some d) (hd:(match d with | .struct _ | .array _ _=>true | _=>false)=true) (hi:(P.info? ty).map (·.size)=some cs.size) :
  (results fn tmps).run P w=.ok (.agg cs) w:=by
 have hp':tmps[p]?.getD undef=.pointer (some ⟨g,0,none⟩):=by simpa using hp
 simp [results,h,hp',asAddr,run_loadVar_row w g t ty cs fr d hg hu hd hi]
theorem set3 {w:World} {g:Nat} {x y z a b c:Value} {t:TypeId} (h:w.heap[g]?=some (.cells #[x,y,z] t (0,0))) :
  (((w.setCell ⟨g,0,none⟩ a).setCell ⟨g,1,none⟩ b).setCell ⟨g,2,none⟩ c).heap[g]?=some (.cells #[a,b,c] t (0,0)):=blk_put (blk_put (blk_put h 0 a rfl) 1 b rfl) 2 c rfl
theorem chg_set3 (w:World) (g:Nat) (a b c:Value):Chg (fun k=>k=g) w (((w.setCell ⟨g,0,none⟩ a).setCell ⟨g,1,none⟩ b).setCell ⟨g,2,none⟩ c):=chg_trans (chg_trans (chg_set _ _ _ _) (chg_set _ _ _ _)) (chg_set _ _ _ _)
end Go.Proofs.Ytcgkeolgflphiaa

namespace Go.Proofs.Ytcgkeolgflphiaa
open Go.RowKit Go.Proofs.YtcgkeolgflphiaaW.PrintWords Go.RegionInvYtcgkeolgflphiaa

structure Pl where
 A:Option Addr
 c:Nat
 B:Option Addr
 d:Nat
 K:Option Addr
 e:Nat
instance:Inhabited Pl:=⟨⟨none,0,none,0,none,0⟩⟩
inductive Tm where
 | mk (kind num:Int) (name:ByteArray) (lv:Lv) (ls:List Lv) (kids:List Tm)
def Tm.kind:Tm→Int | .mk k _ _ _ _ _=>k
def Tm.num:Tm→Int | .mk _ n _ _ _ _=>n
def Tm.name:Tm→ByteArray | .mk _ _ s _ _ _=>s
def Tm.lv:Tm→Lv | .mk _ _ _ l _ _=>l
def Tm.ls:Tm→List Lv | .mk _ _ _ _ l _=>l
def Tm.kids:Tm→List Tm | .mk _ _ _ _ _ k=>k
instance:Inhabited Tm:=⟨.mk 0 0 ByteArray.empty (.mk 0 0 []) [] []⟩
def tmC (p:Pl) (t:Tm):List Value:=[.int .i64 t.kind,.int .i64 t.num,.string t.name,.int .i64 t.lv.kind,.int .i64 t.lv.num,.slice p.A t.lv.kids.length p.c,.slice p.B t.ls.length p.d,.slice p.K t.kids.length p.e]
def tmV (p:Pl) (t:Tm):Value:=.agg #[.int .i64 t.kind,.int .i64 t.num,.string t.name,.int .i64 t.lv.kind,.int .i64 t.lv.num,.slice p.A t.lv.kids.length p.c,.slice p.B t.ls.length p.d,.slice p.K t.kids.length p.e]
theorem tmC_len (p:Pl) (t:Tm):(tmC p t).length=8:=rfl
def KidAt (w:World) (S:Nat→Prop) (K:Option Addr) (i:Nat) (q:Pl) (x:Tm):Prop:=
 ∃ b o,K=some ⟨b,o,none⟩∧S b∧∀ (j:Nat) (v:Value),(tmC q x)[j]?=some v→w.cell? ⟨b,o+i * 8+j,none⟩=some v
def Fit (n:Int) (nm:ByteArray) (ls:List Lv):Prop:=(-9223372036854775808≤n∧n≤9223372036854775807)∧nm.size≤140737488355328∧ls.length * 40≤140737488355328
inductive TmS (w:World) (S:Nat→Prop):Pl→Tm→Prop
 | mk {p:Pl} {k n:Int} {nm:ByteArray} {lv:Lv} {ls:List Lv} {ks:List Tm} (q:Nat→Pl) (hlv:LvS w S p.A p.c lv) (hls:LvS w S p.B p.d (.mk 0 0 ls)) (hc:ks.length≤p.e) (hm:p.e≤9223372036854775807) (hf:Fit n nm ls)
   (hcell:∀ (i:Nat) (x:Tm),ks[i]?=some x→KidAt w S p.K i (q i) x) (hk:∀ (i:Nat) (x:Tm),ks[i]?=some x→TmS w S (q i) x):TmS w S p (.mk k n nm lv ls ks)
abbrev TmIn (w:World) (B:Nat):Pl→Tm→Prop:=TmS w fun k=>k<B
theorem KidAt.same {w w':World} {S:Nat→Prop} {K:Option Addr} {i:Nat} {q:Pl} {x:Tm} (h:KidAt w S K i q x) (hs:∀ k,S k→k<w.heap.size→w'.heap[k]?=w.heap[k]?):KidAt w' S K i q x:=by
 obtain ⟨b,o,e,hb,hc⟩:=h
 have hz:b<w.heap.size:=World.block_lt_of_cell? w _ (hc 0 _ rfl)
 exact ⟨b,o,e,hb,fun j v hv=>(cell_same (hs b hb hz)).trans (hc j v hv)⟩
theorem KidAt.mono {w:World} {S S':Nat→Prop} {K:Option Addr} {i:Nat} {q:Pl} {x:Tm} (h:KidAt w S K i q x) (hs:∀ k,S k→k<w.heap.size→S' k):KidAt w S' K i q x:=by
 obtain ⟨b,o,e,hb,hc⟩:=h
 exact ⟨b,o,e,hs b hb (World.block_lt_of_cell? w _ (hc 0 _ rfl)),hc⟩
theorem TmS.same {w w':World} {S:Nat→Prop} {p:Pl} {t:Tm} (h:TmS w S p t) (hs:∀ k,S k→k<w.heap.size→w'.heap[k]?=w.heap[k]?):TmS w' S p t:=by
 induction h with
 | mk q hlv hls hc hm hf hcell _ ih=>exact .mk q (hlv.same hs) (hls.same hs) hc hm hf (fun i x hx=>(hcell i x hx).same hs) ih
theorem TmS.mono {w:World} {S S':Nat→Prop} {p:Pl} {t:Tm} (h:TmS w S p t) (hs:∀ k,S k→k<w.heap.size→S' k):TmS w S' p t:=by
 induction h with
 | mk q hlv hls hc hm hf hcell _ ih=>exact .mk q (hlv.mono hs) (hls.mono hs) hc hm hf (fun i x hx=>(hcell i x hx).mono hs) ih
theorem TmS.later {w w':World} {S:Nat→Prop} {p:Pl} {t:Tm} (h:TmS w S p t) (hb:Below w.heap.size w w'):TmS w' S p t:=h.same fun k _ hk=>hb.block k hk
theorem TmIn.stay {w w':World} {B:Nat} {p:Pl} {t:Tm} (h:TmIn w B p t) (hb:Below B w w'):TmIn w' B p t:=TmS.same h fun k hk _=>hb.block k hk
theorem TmS.all {w:World} {S:Nat→Prop} {p:Pl} {t:Tm} (h:TmS w S p t):TmIn w w.heap.size p t:=h.mono fun _ _ hk=>hk
theorem TmIn.mono {w:World} {B B':Nat} {p:Pl} {t:Tm} (h:TmIn w B p t) (hB:B≤B'):TmIn w B' p t:=TmS.mono h fun _ hk _=>Nat.lt_of_lt_of_le hk hB
theorem TmS.lv {w:World} {S:Nat→Prop} {p:Pl} {t:Tm} (h:TmS w S p t):LvS w S p.A p.c t.lv:=by cases h;assumption
theorem TmS.ls {w:World} {S:Nat→Prop} {p:Pl} {t:Tm} (h:TmS w S p t):LvS w S p.B p.d (.mk 0 0 t.ls):=by cases h;assumption
theorem TmS.len {w:World} {S:Nat→Prop} {p:Pl} {t:Tm} (h:TmS w S p t):t.kids.length≤p.e∧p.e≤9223372036854775807:=by
 cases h with
 | mk q hlv hls hc hm hf hcell hk=>exact ⟨hc,hm⟩
theorem TmS.fit {w:World} {S:Nat→Prop} {p:Pl} {t:Tm} (h:TmS w S p t):Fit t.num t.name t.ls:=by
 cases h with
 | mk q hlv hls hc hm hf hcell hk=>exact hf
theorem TmS.kid {w:World} {S:Nat→Prop} {p:Pl} {t:Tm} (h:TmS w S p t):∃ q:Nat→Pl,∀ (i:Nat) (x:Tm),t.kids[i]?=some x→KidAt w S p.K i (q i) x∧TmS w S (q i) x:=by
 cases h with
 | mk q hlv hls hc hm hf hcell hk=>exact ⟨q,fun i x hx=>⟨hcell i x hx,hk i x hx⟩⟩
def arZ (k:Int):Int:=if k=1∨k=2∨k=7 then 0 else if k=3∨k=4∨k=6 then 2 else if k=5 then 3 else -1
theorem arZ_in (k:Int):-1≤arZ k∧arZ k≤3:=by unfold arZ;split;omega;split;omega;split <;> omega
def nK (t:Tm):Nat:=if (t.kids.length:Int)<arZ t.kind then 0 else (arZ t.kind).toNat
theorem nK_le (t:Tm):nK t≤t.kids.length:=by unfold nK;have:=arZ_in t.kind;split <;> omega
theorem nK_le3 (t:Tm):nK t≤3:=by unfold nK;have:=arZ_in t.kind;split <;> omega
def moreZ (t:Tm) (i:Nat):Int:=if (i:Int)=arZ t.kind - 1∧t.kind≠6 then 1 else 0
theorem moreZ_in (t:Tm) (i:Nat):0≤moreZ t i∧moreZ t i≤1:=by unfold moreZ;split <;> omega
def kidF (t:Tm) (i:Fin (nK t)):Tm:=t.kids[i.1]'(Nat.lt_of_lt_of_le i.2 (nK_le t))
theorem kidF_get (t:Tm) (i:Fin (nK t)):t.kids[i.1]?=some (kidF t i):=List.getElem?_eq_getElem _
theorem kidF_lt (t:Tm) (i:Fin (nK t)):SizeOf.sizeOf (kidF t i)<SizeOf.sizeOf t:=by
 obtain ⟨k,n,nm,lv,ls,ks⟩:=t
 have h:SizeOf.sizeOf (kidF (.mk k n nm lv ls ks) i)<SizeOf.sizeOf ks:=List.sizeOf_lt_of_mem (List.getElem_mem _)
 simp only [Tm.mk.sizeOf_spec]
 omega
def runL {α σ:Type} (f:α→σ→Bool × σ):List α→σ→Bool × σ
 | [],s=>(true,s)
 | i :: r,s=>if (f i s).1=true then runL f r (f i s).2 else (false,(f i s).2)
theorem runL_snoc {α σ:Type} (f:α→σ→Bool × σ) (pre:List α) (x:α):∀ s:σ,runL f (pre ++ [x]) s=if (runL f pre s).1=true then f x (runL f pre s).2 else runL f pre s:=by
 induction pre with
 | nil =>
  intro s
  show (if (f x s).1=true then (true,(f x s).2) else (false,(f x s).2))=if true=true then f x s else (true,s)
  rw [if_pos rfl]
  cases h:(f x s).1 <;> simp [h] <;> (rw [← h])
 | cons y r ih =>
  intro s
  rw [List.cons_append,runL,runL]
  by_cases h:(f y s).1=true
  ·rw [if_pos h,if_pos h,ih]
  ·rw [if_neg h,if_neg h];rfl
theorem runL_false {α σ:Type} (f:α→σ→Bool × σ) {pre xs:List α} (hp:pre <+: xs):∀ s:σ,(runL f pre s).1=false→runL f xs s=runL f pre s:=by
 obtain ⟨r,rfl⟩:=hp
 induction pre with
 | nil=>intro s h;cases h
 | cons y q ih =>
  intro s h
  rw [List.cons_append,runL,runL] at *
  by_cases hy:(f y s).1=true
  ·rw [if_pos hy] at h;rw [if_pos hy,if_pos hy];exact ih _ h
  ·rw [if_neg hy,if_neg hy]
def foldP {σ:Type} (F:Tm→Int→Int→σ→Bool × σ) (t:Tm) (d b:Int) (s:σ):Bool × σ:=
 if (F t d b s).1=true then runL (fun (i:Fin (nK t)) s=>foldP F (kidF t i) (d+1) (b+moreZ t i) s) (List.finRange (nK t)) (F t d b s).2 else (false,(F t d b s).2)
termination_by SizeOf.sizeOf t
decreasing_by exact kidF_lt t i
theorem foldP_go {σ:Type} {F:Tm→Int→Int→σ→Bool × σ} {t:Tm} {d b:Int} {s:σ} (h:(F t d b s).1=true) :
  foldP F t d b s=runL (fun (i:Fin (nK t)) s=>foldP F (kidF t i) (d+1) (b+moreZ t i) s) (List.finRange (nK t)) (F t d b s).2:=by rw [foldP,if_pos h]
theorem foldP_stop {σ:Type} {F:Tm→Int→Int→σ→Bool × σ} {t:Tm} {d b:Int} {s:σ} (h:(F t d b s).1=false):foldP F t d b s=F t d b s:=by
 rw [foldP,if_neg (by rw [h];decide)];exact Prod.ext h.symm rfl
end Go.Proofs.Ytcgkeolgflphiaa

namespace Go.Proofs.Ytcgkeolgflphiaa
open Go.RowKit Go.Shelf Go.Proofs.YtcgkeolgflphiaaW.PrintWords Go.RegionInvYtcgkeolgflphiaa
attribute [local go_sem] Oper.semAt_some

theorem tar_calls (k:Int) (w:World):Calls Try.prog 83 #[.int .i64 k] w fun e w'=>e=.returned (.int .i64 (arZ k))∧w'=w:=by
 go_enter Try.func83,Try.ntmps83
 by_cases h1:k=1
 ·subst h1;go_wp2;go_ret;exact ⟨rfl,rfl⟩
 ·by_cases h2:k=2
  ·subst h2;go_wp2;go_ret;exact ⟨rfl,rfl⟩
  ·by_cases h7:k=7
   ·subst h7;go_wp2;go_ret;exact ⟨rfl,rfl⟩
   ·by_cases h3:k=3
    ·subst h3;go_wp2;go_ret;exact ⟨rfl,rfl⟩
    ·by_cases h4:k=4
     ·subst h4;go_wp2;go_ret;exact ⟨rfl,rfl⟩
     ·by_cases h6:k=6
      ·subst h6;go_wp2;go_ret;exact ⟨rfl,rfl⟩
      ·by_cases h5:k=5
       ·subst h5;go_wp2;go_ret;exact ⟨rfl,rfl⟩
       ·have HE:=Ak (show arZ k = -1 by unfold arZ;rw [if_neg (by omega),if_neg (by omega),if_neg h5])
        have b1:(k == 1)=false:=by simp [h1]
        have b2:(k == 2)=false:=by simp [h2]
        have b3:(k == 3)=false:=by simp [h3]
        have b4:(k == 4)=false:=by simp [h4]
        have b5:(k == 5)=false:=by simp [h5]
        have b6:(k == 6)=false:=by simp [h6]
        have b7:(k == 7)=false:=by simp [h7]
        go_wp2
        go_ret
        rw [HE.out]
        exact ⟨rfl,rfl⟩
abbrev tmO (p:Pl) (t:Tm):Obj:=.cells #[.int .i64 t.kind,.int .i64 t.num,.string t.name,.int .i64 t.lv.kind,.int .i64 t.lv.num,.slice p.A t.lv.kids.length p.c,.slice p.B t.ls.length p.d,.slice p.K t.kids.length p.e] 27 (0,0)
theorem row8 {w:World} {g:Nat} {p:Pl} {t:Tm} (h:w.heap[g]?=some (tmO p t)) :
  w.cell? ⟨g,0,none⟩=some (.int .i64 t.kind)∧w.cell? ⟨g,1,none⟩=some (.int .i64 t.num)∧w.cell? ⟨g,2,none⟩=some (.string t.name)∧w.cell? ⟨g,3,none⟩=some (.int .i64 t.lv.kind)∧w.cell? ⟨g,4,none⟩=some (.int .i64 t.lv.num) ∧
   w.cell? ⟨g,5,none⟩=some (.slice p.A t.lv.kids.length p.c)∧w.cell? ⟨g,6,none⟩=some (.slice p.B t.ls.length p.d)∧w.cell? ⟨g,7,none⟩=some (.slice p.K t.kids.length p.e):=by
 refine ⟨?_,?_,?_,?_,?_,?_,?_,?_⟩ <;> (rw [cell_of_row _ _ _ _ _ _ h];rfl)
theorem tkids_calls (p:Pl) (t:Tm) (w:World):Calls Try.prog 82 #[tmV p t] w fun e w'=>e=.returned (.func (.func 99) #[] #[.pointer (some ⟨w.heap.size,0,none⟩)])∧w'=w.alloc (tmO p t):=by
 unfold tmV
 go_enter Try.func82,Try.ntmps82
 go_wp2
 go_ret
 exact ⟨rfl,rfl⟩
structure KpG (n₀:Nat) (G:Nat→Prop) (W W':World):Prop where
 size:W.heap.size≤W'.heap.size
 block:∀ k,k<n₀→¬ G k→W'.heap[k]?=W.heap[k]?
theorem kpG_refl (n₀:Nat) (G:Nat→Prop) (W:World):KpG n₀ G W W:=⟨Nat.le_refl _,fun _ _ _=>rfl⟩
theorem kpG_trans {n₀:Nat} {G:Nat→Prop} {A B C:World} (h:KpG n₀ G A B) (k:KpG n₀ G B C):KpG n₀ G A C:=⟨Nat.le_trans h.size k.size,fun i hi hg=>(k.block i hi hg).trans (h.block i hi hg)⟩
theorem kpG_put {n₀:Nat} {G:Nat→Prop} {w:World} (hn:n₀≤w.heap.size) (W:World) (l:Nat) (o o':Obj) (hl:w.heap.size≤l) (_:W.heap[l]?=some o) (_:o.isCells=false) (_:o.isWalk=false):KpG n₀ G W (W.putObj l o'):=
 ⟨by simp,fun k hk _=>World.putObj_heap_other (by omega)⟩
abbrev encK (t:Tm) (q:Nat→Pl) (i:Fin (nK t)):Array Value:=#[.int .i64 (moreZ t i),tmV (q i) (kidF t i)]
theorem take_fin {n k:Nat} (h:k<n):(List.finRange n).take (k+1)=(List.finRange n).take k ++ [⟨k,h⟩]:=by
 rw [List.take_add_one,List.getElem?_eq_getElem (by simpa using h)]
 simp
set_option maxRecDepth 100000 in
set_option maxHeartbeats 4000000 in
theorem kids1_in (n:Nat) (hn:1≤n) (p:Pl) (t:Tm) (q:Nat→Pl) (l z n₀:Nat) (G S:Nat→Prop) (J Jx:List (Fin (nK t))→World→Prop)
  (hY:∀ (pre:List (Fin (nK t))) (x:Fin (nK t)) (W:World),J pre W→pre.length<nK t→YieldAt Fence.wide (n - 1) Try.prog l (encK t q x) W fun e W' =>
   (e=.returned (.bool true)∧J (pre ++ [x]) W'∧KpG n₀ G W W')∨(e=.returned (.bool false)∧Jx (pre ++ [x]) W'))
  (W:World) (hz:W.heap[z]?=some (tmO p t)) (hz0:z<n₀) (hzG:¬ G z) (hS:∀ k,S k→k<n₀∧¬ G k) (hlen:t.kids.length≤9223372036854775807) (hkid:∀ (i:Nat) (x:Tm),t.kids[i]?=some x→KidAt W S p.K i (q i) x) (h0:J [] W) :
  CallsIn Fence.wide n Try.prog 99 #[.func (.yield l) #[] #[],.pointer (some ⟨z,0,none⟩)] W fun e W'=>(∃ v,e=.returned v) ∧
   ((∃ ys,ys=List.finRange (nK t)∧J ys W')∨(∃ pre,pre <+: List.finRange (nK t)∧Jx pre W')):=by
 refine callsIn_of_wp Try.func99 rfl trivial ?_ rfl
 simp only [Try.ntmps99,List.size_toArray,List.length_cons,List.length_nil,Nat.reduceAdd,Nat.reduceSub,Array.replicate_succ,Array.replicate_zero,List.push_toArray,List.append_toArray,List.nil_append,List.cons_append]
 obtain ⟨pA,pc,pB,pd,pK,pe⟩:=p
 obtain ⟨c0,c1,c2,c3,c4,c5,c6,c7⟩:=row8 hz
 dsimp only at c5 c6 c7
 have HZ:=Ak hz
 have HK:=Ak hkid
 have HS:=Ak hS
 have har:=arZ_in t.kind
 obtain ⟨L,hL⟩:∃ L,L=t.kids.length:=⟨_,rfl⟩
 have HL:=Ak hL
 rw [← hL] at c7 hlen
 have HN:=Ak (show nK t=if (L:Int)<arZ t.kind then 0 else (arZ t.kind).toNat by rw [hL];rfl)
 obtain ⟨ar,hra⟩:∃ ar,ar=arZ t.kind:=⟨_,rfl⟩
 have HAC:=Ak (show Calls Try.prog 83 #[.int .i64 t.kind] W fun e w'=>e=.returned (.int .i64 ar)∧w'=W by rw [hra];exact tar_calls _ _)
 have HAR:=Ak hra
 rw [← hra] at har HN
 clear hz hkid hS hL hra
 by_cases hlt:(L:Int)<ar
 ·have hd:decide ((L:Int)<ar)=true:=decide_eq_true hlt
  have HN0:=Ak (show nK t=0 by rw [HN.out,if_pos hlt])
  gi_wp2_with (refine ⟨trivial,?_⟩;gi_at_call 83;refine (callsIn_wide.2 HAC.out).mono ?_;rintro e w' ⟨rfl,hw⟩;rw [hw];clear hw w')
  refine bodyPost_ret (results_none rfl _ _ _) rfl ?_
  refine ⟨⟨_,rfl⟩,.inl ⟨_,rfl,?_⟩⟩
  have:List.finRange (nK t)=[]:=List.eq_nil_of_length_eq_zero (by simp [HN0.out])
  rw [this];exact h0
 ·by_cases hpos:ar≤0
  ·have HN0:=Ak (show nK t=0 by rw [HN.out,if_neg hlt];omega)
   gi_wp2_with (refine ⟨trivial,?_⟩;gi_at_call 83;refine (callsIn_wide.2 HAC.out).mono ?_;rintro e w' ⟨rfl,hw⟩;rw [hw];clear hw w')
   gi_loopw [16] (fun i wr=>i=.int .i64 0∧J [] wr) (fun _ _=>0)
   case atStart=>exact ⟨rfl,h0⟩
   case round =>
    obtain ⟨rfl,hJs⟩:=hrel
    gi_wp2
    go_end0
    refine ⟨⟨_,rfl⟩,.inl ⟨_,rfl,?_⟩⟩
    have:List.finRange (nK t)=[]:=List.eq_nil_of_length_eq_zero (by simp [HN0.out])
    rw [this];exact hJs
  obtain ⟨m,rfl⟩:∃ m:Nat,ar=(m:Int):=⟨ar.toNat,by omega⟩
  have HNM:=Ak (show nK t=m by rw [HN.out,if_neg hlt];omega)
  have hm3:m≤3:=by omega
  have hm0:0<m:=by omega
  have hmL:m≤L:=by omega
  have hd2:decide (L<m)=false:=decide_eq_false (by omega)
  clear hlt hpos har
  gi_wp2_with (refine ⟨trivial,?_⟩;gi_at_call 83;refine (callsIn_wide.2 HAC.out).mono ?_;rintro e w' ⟨rfl,hw⟩;rw [hw];clear hw w')
  gi_loopw [16] (fun i wr=>∃ k:Nat,k≤m∧i=.int .i64 k∧J ((List.finRange (nK t)).take k) wr∧KpG n₀ G W wr) (fun i _=>m - (intOf i).toNat)
  case atStart=>exact ⟨0,Nat.zero_le _,rfl,h0,kpG_refl _ _ _⟩
  case round =>
   clear c0 c1 c2 c3 c4 c5 c6 c7
   obtain ⟨k,hk,rfl,hJs,hkp⟩:=hrel
   have HZR:=Ak ((hkp.block z hz0 hzG).trans HZ.out)
   obtain ⟨c0,c1,c2,c3,c4,c5,c6,c7⟩:=row8 HZR.out
   dsimp only at c5 c6 c7
   rw [← HL.out] at c7
   by_cases hlk:k<m
   ·have hkn:k<nK t:=by rw [HNM.out];exact hlk
    obtain ⟨fn,tmps,assign,body,hy,hR⟩:=hY _ ⟨k,hkn⟩ wr hJs (by simp;omega)
    unfold encK tmV at hy
    dsimp only at hy
    have HTK:=Ak (take_fin hkn)
    obtain ⟨b,o,hKa,hSb,hcells⟩:=(HK.out k _ (kidF_get t ⟨k,hkn⟩)).same (w':=wr) fun j hj _=>hkp.block j (HS.out j hj).1 (HS.out j hj).2
    obtain ⟨x,hx⟩:∃ x,x=kidF t ⟨k,hkn⟩:=⟨_,rfl⟩
    rw [← hx] at hy hcells
    subst hKa
    have e0:=hcells 0 _ rfl
    have e1:=hcells 1 _ rfl
    have e2:=hcells 2 _ rfl
    have e3:=hcells 3 _ rfl
    have e4:=hcells 4 _ rfl
    have e5:=hcells 5 _ rfl
    have e6:=hcells 6 _ rfl
    have e7:=hcells 7 _ rfl
    clear hcells hx
    rw [Nat.add_zero] at e0
    by_cases hkm:(k:Int)=(m:Int) - 1
    ·have hb1:((k:Int) == (m:Int) - 1)=true:=by simp [hkm]
     have HKM:=Ak hkm
     clear hkm
     by_cases h6:t.kind=6
     ·have hb6:(t.kind != 6)=false:=by simp [h6]
      have H6:=Ak h6
      clear h6
      have HM:=Ak (show moreZ t k=0 by unfold moreZ;rw [← HAR.out,if_neg (fun h=>h.2 H6.out)])
      rw [HM.out] at hy
      gi_wp2
      refine hR.mono ?_
      rintro e W3 (⟨rfl,hJ3,hk3⟩ | ⟨rfl,hJx3⟩)
      ·gi_wp2
       go_roundw
       case rel=>exact ⟨k+1,by omega,by go_num,by rw [HTK.out];exact hJ3,kpG_trans hkp hk3⟩
       case measure=>(simp [intOf];try omega)
      ·gi_wp2
       refine bodyPost_ret (results_none rfl _ _ _) rfl ?_
       exact ⟨⟨_,rfl⟩,.inr ⟨_,by rw [← HTK.out];exact List.take_prefix _ _,hJx3⟩⟩
     ·have hb6:(t.kind != 6)=true:=by simp [h6]
      have HM:=Ak (show moreZ t k=1 by unfold moreZ;rw [← HAR.out,if_pos ⟨HKM.out,h6⟩])
      rw [HM.out] at hy
      gi_wp2
      refine hR.mono ?_
      rintro e W3 (⟨rfl,hJ3,hk3⟩ | ⟨rfl,hJx3⟩)
      ·gi_wp2
       go_roundw
       case rel=>exact ⟨k+1,by omega,by go_num,by rw [HTK.out];exact hJ3,kpG_trans hkp hk3⟩
       case measure=>(simp [intOf];try omega)
      ·gi_wp2
       refine bodyPost_ret (results_none rfl _ _ _) rfl ?_
       exact ⟨⟨_,rfl⟩,.inr ⟨_,by rw [← HTK.out];exact List.take_prefix _ _,hJx3⟩⟩
    ·have hb1:((k:Int) == (m:Int) - 1)=false:=by simp [hkm]
     have HKM:=Ak hkm
     clear hkm
     have HM:=Ak (show moreZ t k=0 by unfold moreZ;rw [← HAR.out,if_neg (fun h=>HKM.out h.1)])
     rw [HM.out] at hy
     gi_wp2
     refine hR.mono ?_
     rintro e W3 (⟨rfl,hJ3,hk3⟩ | ⟨rfl,hJx3⟩)
     ·gi_wp2
      go_roundw
      case rel=>exact ⟨k+1,by omega,by go_num,by rw [HTK.out];exact hJ3,kpG_trans hkp hk3⟩
      case measure=>(simp [intOf];try omega)
     ·gi_wp2
      refine bodyPost_ret (results_none rfl _ _ _) rfl ?_
      exact ⟨⟨_,rfl⟩,.inr ⟨_,by rw [← HTK.out];exact List.take_prefix _ _,hJx3⟩⟩
   ·obtain rfl:k=m:=by omega
    have hlk':decide ((k:Int)<k)=false:=by simp
    gi_wp2
    go_end0
    exact ⟨⟨_,rfl⟩,.inl ⟨_,rfl,by rwa [List.take_of_length_le (by simp [HNM.out])] at hJs⟩⟩
theorem kids_stops (n:Nat) (hn:1≤n) (p:Pl) (t:Tm) (q:Nat→Pl) (z n₀:Nat) (G S:Nat→Prop) (w:World) (hz:w.heap[z]?=some (tmO p t)) (hz0:z<n₀) (hn0:n₀≤w.heap.size) (hzG:¬ G z) (hS:∀ k,S k→k<n₀∧¬ G k)
  (hlen:t.kids.length≤9223372036854775807) (hkid:∀ (i:Nat) (x:Tm),t.kids[i]?=some x→KidAt w S p.K i (q i) x) :
  SeqStopsK Fence.wide n Try.prog 99 #[.pointer (some ⟨z,0,none⟩)] (encK t q) (KpG n₀ G) (fun ys=>ys=List.finRange (nK t)) (fun pre=>pre <+: List.finRange (nK t)) (nK t) w:=fun l J Jx W hW _ _ hY h0 =>
 kids1_in n hn p t q l z n₀ G S J Jx hY W (blk_below hz hW) hz0 hzG hS hlen (fun i x hx=>(hkid i x hx).same fun k _ hk=>hW.block k hk) h0
theorem chg_cut {G:Nat→Prop} {w w0 w1 w2:World} (h0:Chg G w w0) (h1:Chg (fun k=>G k∨w.heap.size≤k) w0 w1) (h2:Chg (fun k=>G k∨w.heap.size≤k) w1 w2):Chg G w w2:=by
 have hz0:=h0.size
 have hz1:=h1.size
 have hz2:=h2.size
 refine ⟨h2.os.trans (h1.os.trans h0.os),h2.tape.trans (h1.tape.trans h0.tape),h2.output.trans (h1.output.trans h0.output),by omega,fun k hk hg=>?_⟩
 have hn:¬ (G k∨w.heap.size≤k):=fun h=>h.elim hg (by omega)
 exact (h2.block k (by omega) hn).trans ((h1.block k (by omega) hn).trans (h0.block k hk hg))
theorem chg_grown {S:Nat→Prop} {w X Y:World} {row:Option Nat} (h:Chg S w X) (hg:X.grownBy Y row) (hr:∀ r,row=some r→w.heap.size≤r):Chg S w Y:=
 ⟨hg.os.trans h.os,hg.tape.trans h.tape,hg.output.trans h.output,Nat.le_trans h.size hg.size,fun k hk hn=>(hg.block k (Nat.lt_of_lt_of_le hk h.size) (fun e=>by have:=hr k e.symm;omega)).trans (h.block k hk hn)⟩
theorem KeepsFrom.of_chg {S:Nat→Prop} {B:Nat} {W W':World} (h:Chg S W W') (hS:∀ k,S k→k<B):Go.KeepsFrom B W W':=
 ⟨h.size,fun k o hB ho _=>(h.block k (Array.getElem?_eq_some_iff.1 ho).1 (fun hs=>by have:=hS k hs;omega)).trans ho⟩
theorem chg_put (W:World) (D:Nat) (o:Obj):Chg (fun k=>k=D) W (W.putObj D o):=⟨rfl,rfl,rfl,by simp,fun k _ hn=>World.putObj_heap_other (fun e=>hn (by omega))⟩
def FoldPost {σ:Type} (Rep:σ→World→Prop) (G:Nat→Prop) (w:World) (r:Bool × σ) (e:Ending) (w':World):Prop:=e=.returned (.bool r.1)∧Rep r.2 w'∧Chg G w w'
theorem foldP_inv {σ:Type} {F:Tm→Int→Int→σ→Bool × σ} {Inv:σ→Prop} {P:Tm→Int→Prop} (hF:∀ (t:Tm) (d b:Int) (s:σ),P t d→Inv s→(F t d b s).1=true→Inv (F t d b s).2∧∀ i:Fin (nK t),P (kidF t i) (d+1)) (N:Nat) :
  ∀ (t:Tm),SizeOf.sizeOf t<N→∀ (d b:Int) (s:σ),P t d→Inv s→(foldP F t d b s).1=true→Inv (foldP F t d b s).2:=by
 induction N with
 | zero=>intro t h;omega
 | succ N ih =>
  intro t hN d b s hP hI h
  by_cases h1:(F t d b s).1=true
  ·rw [foldP_go h1] at h ⊢
   have h2:=hF t d b s hP hI h1
   have key:∀ (xs:List (Fin (nK t))) (s:σ),Inv s→(runL (fun (i:Fin (nK t)) s=>foldP F (kidF t i) (d+1) (b+moreZ t i) s) xs s).1=true→Inv (runL (fun (i:Fin (nK t)) s=>foldP F (kidF t i) (d+1) (b+moreZ t i) s) xs s).2:=by
    intro xs
    induction xs with
    | nil=>intro s hs _;exact hs
    | cons x r ihr =>
     intro s hs h
     rw [runL] at h ⊢
     by_cases hx:(foldP F (kidF t x) (d+1) (b+moreZ t x) s).1=true
     ·rw [if_pos hx] at h ⊢
      exact ihr _ (ih (kidF t x) (by have:=kidF_lt t x;omega) _ _ _ (h2.2 x) hs hx) h
     ·rw [if_neg hx] at h;cases h
   exact key _ _ h2.1 h
  ·rw [foldP_stop (by simpa using h1)] at h;exact absurd h h1
end Go.Proofs.Ytcgkeolgflphiaa

namespace Go.Proofs.Ytcgkeolgflphiaa
open Go.RowKit Go.Shelf Go.Proofs.YtcgkeolgflphiaaW.PrintWords Go.RegionInvYtcgkeolgflphiaa
attribute [local go_sem] Oper.semAt_some

abbrev vfMa (g1 g2 g3:Nat):Value:=.func (.func 62) #[] #[.pointer (some ⟨g1,0,none⟩),.pointer (some ⟨g2,0,none⟩),.pointer (some ⟨g3,0,none⟩)]
abbrev foWMa (w:World) (p:Pl) (t:Tm) (d b:Int) (g1 g2 g3:Nat):World:=
 ((((w.alloc (tmO p t)).alloc (.cells #[.int .i64 d] 3 (0,0))).alloc (.cells #[.int .i64 b] 3 (0,0))).alloc (.cells #[vfMa g1 g2 g3] 92 (0,0))).alloc (.cells #[.bool false] 4 (0,0))
set_option maxRecDepth 100000 in
set_option maxHeartbeats 16000000 in
theorem fold_Ma {σ:Type} (F:Tm→Int→Int→σ→Bool × σ) (Rep:σ→World→Prop) (Inv:σ→Prop) (P:Tm→Int→Prop) (G:Nat→Prop) (B g0:Nat) (g1 g2 g3:Nat)
  (hG:∀ k,G k→B≤k∧k<g0) (hBg:B≤g0) (hRep:∀ (s:σ) (W W':World),Rep s W→(∀ k,G k→W'.heap[k]?=W.heap[k]?)→Rep s W')
  (hvis:∀ (t:Tm) (p:Pl) (d b:Int) (s:σ) (w:World),P t d→0≤b→b≤d→Inv s→g0≤w.heap.size→TmIn w B p t→Rep s w→Calls Try.prog 62 #[tmV p t,.int .i64 d,.int .i64 b,.pointer (some ⟨g1,0,none⟩),.pointer (some ⟨g2,0,none⟩),.pointer (some ⟨g3,0,none⟩)] w (FoldPost Rep G w (F t d b s)))
  (hF:∀ (t:Tm) (d b:Int) (s:σ),P t d→Inv s→(F t d b s).1=true→Inv (F t d b s).2∧∀ i:Fin (nK t),P (kidF t i) (d+1)) (hP:∀ t d,P t d→0≤d∧d≤100000)
  (N:Nat):∀ (t:Tm),SizeOf.sizeOf t<N→∀ (p:Pl) (d b:Int) (s:σ) (w:World),P t d→0≤b→b≤d→Inv s→g0≤w.heap.size→TmIn w B p t→Rep s w →
  Calls Try.prog 61 #[tmV p t,.int .i64 d,.int .i64 b,vfMa g1 g2 g3] w (FoldPost Rep G w (foldP F t d b s)):=by
 induction N with
 | zero=>intro t h;omega
 | succ N ih =>
  intro t hN p d b s w hPd hb0 hbd hI hg hin hR
  have IH:=Ak ih
  have HG:=Ak hG
  have HRP:=Ak hRep
  have HVS:=Ak hvis
  have HF:=Ak hF
  have HP:=Ak hPd
  have HI:=Ak hI
  have HIN:=Ak hin
  have HR:=Ak hR
  have HNN:=Ak hN
  have hd:=hP t d hPd
  have HPP:=Ak hP
  have hz0:(foWMa w p t d b g1 g2 g3).heap.size=w.heap.size+5:=by simp
  have hb0w:Below w.heap.size w (foWMa w p t d b g1 g2 g3):=below_alloc (below_alloc (below_alloc (below_alloc (below_alloc (Below.refl _ _) _) _) _) _) _
  have HZ0:=Ak hz0
  have HB0:=Ak hb0w
  have HX0:=Ak (show (foWMa w p t d b g1 g2 g3).heap[w.heap.size]?=some (tmO p t) from blk_alloc (blk_alloc (blk_alloc (blk_alloc (blk_new _ _) _) _) _) _)
  have HX1:=Ak (show (foWMa w p t d b g1 g2 g3).heap[w.heap.size+1]?=some (.cells #[.int .i64 d] 3 (0,0)) by have:=blk_new (w.alloc (tmO p t)) (.cells #[.int .i64 d] 3 (0,0));simp only [World.size_alloc] at this;exact blk_alloc (blk_alloc (blk_alloc this _) _) _)
  have HX2:=Ak (show (foWMa w p t d b g1 g2 g3).heap[w.heap.size+1+1]?=some (.cells #[.int .i64 b] 3 (0,0)) by have:=blk_new ((w.alloc (tmO p t)).alloc (.cells #[.int .i64 d] 3 (0,0))) (.cells #[.int .i64 b] 3 (0,0));simp only [World.size_alloc] at this;exact blk_alloc (blk_alloc this _) _)
  have HX3:=Ak (show (foWMa w p t d b g1 g2 g3).heap[w.heap.size+1+1+1]?=some (.cells #[vfMa g1 g2 g3] 92 (0,0)) by have:=blk_new (((w.alloc (tmO p t)).alloc (.cells #[.int .i64 d] 3 (0,0))).alloc (.cells #[.int .i64 b] 3 (0,0))) (.cells #[vfMa g1 g2 g3] 92 (0,0));simp only [World.size_alloc] at this;exact blk_alloc this _)
  have HX4:=Ak (show (foWMa w p t d b g1 g2 g3).heap[w.heap.size+1+1+1+1]?=some (.cells #[.bool false] 4 (0,0)) by have:=blk_new ((((w.alloc (tmO p t)).alloc (.cells #[.int .i64 d] 3 (0,0))).alloc (.cells #[.int .i64 b] 3 (0,0))).alloc (.cells #[vfMa g1 g2 g3] 92 (0,0))) (.cells #[.bool false] 4 (0,0));simp only [World.size_alloc] at this;exact this)
  have hR0:Rep s (foWMa w p t d b g1 g2 g3):=hRep _ _ _ hR fun k hk=>hb0w.block k (Nat.lt_of_lt_of_le (hG k hk).2 hg)
  have HR0:=Ak hR0
  have HIN0:=Ak (hin.stay (hb0w.mono (Nat.le_trans hBg hg)))
  have HGG:=Ak (show ∀ k,G k→k<w.heap.size from fun k hk=>Nat.lt_of_lt_of_le (hG k hk).2 hg)
  clear ih hG hRep hvis hF hPd hI hin hR hN hP hz0 hb0w hR0
  unfold tmV vfMa
  refine (callsIn_wide (n:=5)).1 ?_
  refine callsIn_of_wp_marks Try.func61 rfl trivial ?_ rfl
  simp only [Try.ntmps61,List.size_toArray,List.length_cons,List.length_nil,Nat.reduceAdd,Nat.reduceSub,Array.replicate_succ,Array.replicate_zero,List.push_toArray,List.append_toArray,List.nil_append,List.cons_append]
  obtain ⟨e1,s1,hes⟩:∃ x y,F t d b s=(x,y):=⟨_,_,rfl⟩
  have HV:=Ak hes
  cases e1 with
  | false =>
   have HE:=Ak (show foldP F t d b s=(false,s1) by rw [foldP_stop (by rw [hes]),hes])
   clear hes
   gi_wp2
   refine ⟨trivial,?_⟩
   gi_at_call 62
   refine (callsIn_wide.2 (HVS.out t p d b s _ HP.out hb0 hbd HI.out (Nat.le_trans hg HB0.out.size) HIN0.out HR0.out)).mono ?_
   rintro e w1 ⟨rfl,hR1,hC1⟩
   rw [HV.out] at hR1 ⊢
   have HR1:=Ak hR1
   have HC1:=Ak hC1
   have hx4:=(hC1.block _ (by rw [HZ0.out];omega) (fun h=>by have:=HGG.out _ h;omega)).trans HX4.out
   have HX41:=Ak hx4
   have c4:w1.cell? ⟨w.heap.size+1+1+1+1,0,none⟩=some (.bool false):=by (rw [cell_of_row _ _ _ _ _ _ hx4];rfl)
   have f4:=blk_frozen hx4 0
   clear hR1 hC1 hx4
   gi_wp2
   have hc5:(w1.setCell ⟨w.heap.size+1+1+1+1,0,none⟩ (.bool false)).cell? ⟨w.heap.size+1+1+1+1,0,none⟩=some (.bool false):=World.cell?_setCell_same' _ _ _ (by rw [c4];rfl)
   refine ⟨.bool false,?_,?_⟩
   ·simp [results,Try.f61,go_sem,hc5]
   ·rw [HE.out]
    refine ⟨rfl,HRP.out _ _ _ HR1.out (fun k hk=>(chg_set w1 (w.heap.size+1+1+1+1) 0 (.bool false)).block k (by have:=HC1.out.size;have:=HZ0.out;have:=HGG.out k hk;omega) (fun e=>by have:=HGG.out k hk;omega)),?_⟩
    exact chg_cut (Chg.of_below HB0.out) (HC1.out.mono fun k h=>.inl h) ((chg_set w1 _ 0 _).mono fun k h=>.inr (by have h:k=w.heap.size+1+1+1+1:=h;omega))
  | true =>
   have h2:=HF.out t d b s HP.out HI.out (by rw [hes])
   rw [hes] at h2
   have HI1:=Ak h2.1
   have HPK:=Ak h2.2
   have HE:=Ak (show foldP F t d b s=runL (fun (i:Fin (nK t)) s=>foldP F (kidF t i) (d+1) (b+moreZ t i) s) (List.finRange (nK t)) s1 by rw [foldP_go (by rw [hes]),hes])
   clear hes h2
   gi_wp2
   refine ⟨trivial,?_⟩
   gi_at_call 62
   refine (callsIn_wide.2 (HVS.out t p d b s _ HP.out hb0 hbd HI.out (Nat.le_trans hg HB0.out.size) HIN0.out HR0.out)).mono ?_
   rintro e w1 ⟨rfl,hR1,hC1⟩
   rw [HV.out] at hR1 ⊢
   have HR1:=Ak hR1
   have HC1:=Ak hC1
   have hgn:∀ j,w.heap.size≤j→¬ G j:=fun j hj h=>by have:=HGG.out j h;omega
   have hX0:=(hC1.block w.heap.size (by rw [HZ0.out];omega) (hgn _ (by omega))).trans HX0.out
   have hX1:=(hC1.block _ (by rw [HZ0.out];omega) (hgn _ (by omega))).trans HX1.out
   have hX2:=(hC1.block _ (by rw [HZ0.out];omega) (hgn _ (by omega))).trans HX2.out
   have hX3:=(hC1.block _ (by rw [HZ0.out];omega) (hgn _ (by omega))).trans HX3.out
   have hX4:=(hC1.block _ (by rw [HZ0.out];omega) (hgn _ (by omega))).trans HX4.out
   have hz1:=hC1.size
   rw [HZ0.out] at hz1
   have HX01:=Ak hX0
   have HX11:=Ak hX1
   have HX21:=Ak hX2
   have HX31:=Ak hX3
   have HX41:=Ak hX4
   have HGN:=Ak hgn
   have HIN1:=Ak (HIN0.out.same (w':=w1) fun k hk hz=>hC1.block k hz (fun h=>by have:=(HG.out k h).1;omega))
   obtain ⟨c0,c1,c2,c3,c4,c5,c6,c7⟩:=row8 hX0
   clear hR1 hC1 hX0 hX1 hX2 hX3 hX4 hgn
   gi_wp2
   refine ⟨trivial,?_⟩
   gi_at_call 82
   refine (callsIn_wide.2 (tkids_calls p t _)).mono ?_
   rintro e w2 ⟨rfl,hw2⟩
   have HZX2:=Ak (show w2.heap[w1.heap.size]?=some (tmO p t) by rw [hw2];exact blk_new _ _)
   have HB2:=Ak (show Below w1.heap.size w1 w2 by rw [hw2];exact below_alloc (Below.refl _ _) _)
   clear hw2 c0 c1 c2 c3 c4 c5 c6 c7
   gi_wp2
   obtain ⟨q,hq⟩:=(HIN1.out.later HB2.out).kid
   have HQ:=Ak hq
   have hlen:=HIN1.out.len
   have hz2:=HB2.out.size
   have hzz:=blk_lt HZX2.out
   have hgl:∀ k,G k→k<w2.heap.size:=fun k hk=>by have:=HGG.out k hk;omega
   have HGL:=Ak hgl
   have HINV:=Ak (foldP_inv HF.out)
   clear hq
   refine wpIn_rangeFunc_ownH (F:=Fence.wide) rfl (by decide) (gf:=99) (lb:=#[.pointer (some ⟨w1.heap.size,0,none⟩)]) rfl trivial (enters_of Try.func99 (by kernel_rfl) rfl)
    (kids_stops (5 - 1) (by decide) p t q w1.heap.size w2.heap.size G (fun k=>k<B) w2 HZX2.out hzz (Nat.le_refl _) (HGN.out _ (by omega)) (fun k hk=>⟨by omega,fun h=>by have:=(HG.out k h).1;omega⟩) (by omega) (fun i x hx=>(HQ.out i x hx).1))
    kpG_trans (kpG_put (Nat.le_refl _)) (Below.refl _ _) (fun _=>rfl)
    (fun pre W=>((runL (fun (i:Fin (nK t)) s=>foldP F (kidF t i) (d+1) (b+moreZ t i) s) pre s1).1=true∧Inv (runL (fun (i:Fin (nK t)) s=>foldP F (kidF t i) (d+1) (b+moreZ t i) s) pre s1).2)∧Rep (runL (fun (i:Fin (nK t)) s=>foldP F (kidF t i) (d+1) (b+moreZ t i) s) pre s1).2 W∧Chg G w2 W)
    (fun c pre W=>(c=.ret∧(runL (fun (i:Fin (nK t)) s=>foldP F (kidF t i) (d+1) (b+moreZ t i) s) pre s1).1=false)∧(Rep (runL (fun (i:Fin (nK t)) s=>foldP F (kidF t i) (d+1) (b+moreZ t i) s) pre s1).2 W∧W.heap[w.heap.size+1+1+1+1]?=some (.cells #[.bool false] 4 (0,0)))∧Chg (fun k=>G k∨k=w.heap.size+1+1+1+1) w2 W)
    (fun pre X Y row hs hg hr=>⟨hs.1,HRP.out _ X Y hs.2.1 (fun k hk=>hg.block k (Nat.lt_of_lt_of_le (HGL.out k hk) hs.2.2.size) (fun e=>by have:=(hr k e.symm).1;have:=HGL.out k hk;omega)),chg_grown hs.2.2 hg (fun r e=>(hr r e).1)⟩)
    (fun c pre X Y row hs hg hr=>⟨hs.1,⟨HRP.out _ X Y hs.2.1.1 (fun k hk=>hg.block k (Nat.lt_of_lt_of_le (HGL.out k hk) hs.2.2.size) (fun e=>by have:=(hr k e.symm).1;have:=HGL.out k hk;omega)),(hg.block _ (blk_lt hs.2.1.2) (fun e=>by have:=(hr _ e.symm).1;omega)).trans hs.2.1.2⟩,chg_grown hs.2.2 hg (fun r e=>(hr r e).1)⟩)
    ⟨⟨rfl,HI1.out⟩,HRP.out _ w1 w2 HR1.out (fun k hk=>HB2.out.block k (by have:=HGG.out k hk;omega)),Chg.refl _ _⟩
    (fun x a' W=>∃ Bx,w2.heap.size≤Bx∧W.heap[Bx]?=some (tmO (q x) (kidF t x))∧a' = { tmps:=#[tmV p t,.int .i64 d,.int .i64 b,vfMa g1 g2 g3,.pointer (some ⟨w.heap.size,0,none⟩),.pointer (some ⟨w.heap.size+1,0,none⟩),.pointer (some ⟨w.heap.size+1+1,0,none⟩),.pointer (some ⟨w.heap.size+1+1+1,0,none⟩),.pointer (some ⟨w.heap.size+1+1+1+1,0,none⟩),.int .i64 (moreZ t x),.pointer (some ⟨Bx,0,none⟩),vfMa g1 g2 g3,tmV p t,.int .i64 d,.int .i64 b,.bool true,.bool false,tmV p t,.func (.func 99) #[] #[.pointer (some ⟨w1.heap.size,0,none⟩)],.int .i64 (moreZ t x),tmV (q x) (kidF t x),undef,undef,undef,undef,undef,undef,undef,undef,undef],defers:=[] })
    (fun x a' _ X Y row hs hg hr=>by obtain ⟨Bx,h1,h2,h3⟩:=hs;exact ⟨Bx,h1,(hg.block _ (blk_lt h2) (fun e=>by obtain ⟨o,ho,hc⟩:=(hr _ e.symm).2;rw [h2] at ho;cases ho;cases hc)).trans h2,h3⟩)
    ?assign ?body ?done ?stop
   case assign =>
    rintro l pre x W K ⟨hA,hRW,hCW⟩ hK
    dsimp only [encK,tmV]
    have hAA:=Ak hA
    have hb1:Below W.heap.size W (W.alloc (tmO (q x) (kidF t x))):=below_alloc (Below.refl _ _) _
    have HKK:=Ak (hK { tmps:=#[tmV p t,.int .i64 d,.int .i64 b,vfMa g1 g2 g3,.pointer (some ⟨w.heap.size,0,none⟩),.pointer (some ⟨w.heap.size+1,0,none⟩),.pointer (some ⟨w.heap.size+1+1,0,none⟩),.pointer (some ⟨w.heap.size+1+1+1,0,none⟩),.pointer (some ⟨w.heap.size+1+1+1+1,0,none⟩),.int .i64 (moreZ t x),.pointer (some ⟨W.heap.size,0,none⟩),vfMa g1 g2 g3,tmV p t,.int .i64 d,.int .i64 b,.bool true,.bool false,tmV p t,.func (.func 99) #[] #[.pointer (some ⟨w1.heap.size,0,none⟩)],.int .i64 (moreZ t x),tmV (q x) (kidF t x),undef,undef,undef,undef,undef,undef,undef,undef,undef],defers:=[] } _ (KeepsFrom.of_chg (Chg.of_below (S:=fun _=>False) hb1) (fun k h=>h.elim)) ⟨hb1.size,fun k hk _=>hb1.block k (by have:=hCW.size;omega)⟩ ⟨hA,HRP.out _ _ _ hRW (fun k hk=>hb1.block k (by have:=HGL.out k hk;have:=hCW.size;omega)),chg_trans hCW (Chg.of_below hb1)⟩ ⟨W.heap.size,hCW.size,blk_new _ _,rfl⟩)
    clear hK hA hAA hb1
    gi_wp2
    exact HKK.out
   case body =>
    rintro l pre x a' W hl ⟨r,hr⟩ ⟨⟨hA,hIv⟩,hRW,hCW⟩ ⟨Bx,hBx,bX,rfl⟩ hlt
    obtain ⟨sp,hsp⟩:∃ sp,runL (fun (i:Fin (nK t)) s=>foldP F (kidF t i) (d+1) (b+moreZ t i) s) pre s1=(true,sp):=⟨_,Prod.ext hA rfl⟩
    rw [hsp] at hIv hRW
    have HSP:=Ak hsp
    obtain ⟨ev,s2,hev⟩:∃ ev s2,foldP F (kidF t x) (d+1) (b+moreZ t x) sp=(ev,s2):=⟨_,_,rfl⟩
    have HEV:=Ak hev
    have HSN:=Ak (show runL (fun (i:Fin (nK t)) s=>foldP F (kidF t i) (d+1) (b+moreZ t i) s) (pre ++ [x]) s1=(ev,s2) by rw [runL_snoc,hsp];exact hev)
    have HIV2:=Ak (show ev=true→Inv s2 from fun h=>by have:=HINV.out _ (kidF t x) (Nat.lt_succ_self _) (d+1) (b+moreZ t x) sp (HPK.out x) hIv (by rw [hev];exact h);rwa [hev] at this)
    have HIV:=Ak hIv
    have HRW:=Ak hRW
    have HCW:=Ak hCW
    have HKD:=Ak ((HQ.out x _ (kidF_get t x)).2.same (w':=W) fun k hk hz=>hCW.block k hz (fun h=>by have:=(HG.out k h).1;omega))
    have hszW:=hCW.size
    have st:∀ j,w.heap.size≤j→j<w1.heap.size→W.heap[j]?=w1.heap[j]?:=fun j h1 h2=>(hCW.block j (by omega) (HGN.out j h1)).trans (HB2.out.block j h2)
    have c1:W.cell? ⟨w.heap.size+1,0,none⟩=some (.int .i64 d):=by rw [cell_of_row _ _ _ _ _ _ ((st _ (by omega) (by omega)).trans HX11.out)];rfl
    have c2:W.cell? ⟨w.heap.size+1+1,0,none⟩=some (.int .i64 b):=by rw [cell_of_row _ _ _ _ _ _ ((st _ (by omega) (by omega)).trans HX21.out)];rfl
    have c3:W.cell? ⟨w.heap.size+1+1+1,0,none⟩=some (vfMa g1 g2 g3):=by rw [cell_of_row _ _ _ _ _ _ ((st _ (by omega) (by omega)).trans HX31.out)];rfl
    have X4:=Ak ((st _ (by omega) (by omega)).trans HX41.out)
    obtain ⟨b0,b1,b2,b3,b4,b5,b6,b7⟩:=row8 bX
    obtain ⟨hd0,hd1⟩:=hd
    have hmz:=moreZ_in t x
    obtain ⟨hm0,hm1⟩:=hmz
    have HMZ:=Ak (show b+moreZ t x≤d+1 by omega)
    clear hA hIv hRW hCW hsp hev st bX hr hlt
    cases ev with
    | true =>
     gi_wp2
     refine ⟨trivial,?_⟩
     gi_at_call 61
     refine (CallsIn.inRound l (callsIn_wide.2 (IH.out (kidF t x) (by have:=kidF_lt t x;have:=HNN.out;omega) (q x) (d+1) (b+moreZ t x) sp W (HPK.out x) (by omega) HMZ.out HIV.out (by omega) HKD.out HRW.out))).mono ?_
     rintro e w3 ⟨rfl,hR3,hC3⟩
     rw [HEV.out] at hR3 ⊢
     have HR3:=Ak hR3
     have HC3:=Ak hC3
     clear hR3 hC3
     gi_wp2
     refine ⟨KeepsFrom.of_chg HC3.out HGL.out,⟨HC3.out.size,fun k hk hg=>HC3.out.block k (by omega) hg⟩,⟨?_,?_⟩,?_,chg_trans HCW.out HC3.out⟩
     ·rw [HSN.out]
     ·rw [HSN.out];exact HIV2.out (by simp)
     ·rw [HSN.out];exact HR3.out
    | false =>
     gi_wp2
     refine ⟨trivial,?_⟩
     gi_at_call 61
     refine (CallsIn.inRound l (callsIn_wide.2 (IH.out (kidF t x) (by have:=kidF_lt t x;have:=HNN.out;omega) (q x) (d+1) (b+moreZ t x) sp W (HPK.out x) (by omega) HMZ.out HIV.out (by omega) HKD.out HRW.out))).mono ?_
     rintro e w3 ⟨rfl,hR3,hC3⟩
     rw [HEV.out] at hR3 ⊢
     have HR3:=Ak hR3
     have HC3:=Ak hC3
     have hx4:=(hC3.block _ (by omega) (HGN.out _ (by omega))).trans X4.out
     have X43:=Ak hx4
     have c4:w3.cell? ⟨w.heap.size+1+1+1+1,0,none⟩=some (.bool false):=by (rw [cell_of_row _ _ _ _ _ _ hx4];rfl)
     have f4:=blk_frozen hx4 0
     clear hR3 hC3 hx4
     gi_wp2
     have hch:=chg_set w3 (w.heap.size+1+1+1+1) 0 (.bool false)
     have hsz3:=HC3.out.size
     refine ⟨KeepsFrom.of_chg (S:=fun k=>G k∨k=w.heap.size+1+1+1+1) (chg_trans (HC3.out.mono fun k h=>.inl h) (hch.mono fun k h=>.inr h)) (fun k h=>h.elim (fun h=>HGL.out k h) (fun h=>by omega)),⟨rfl,?_⟩,⟨?_,?_⟩,?_⟩
     ·rw [HSN.out]
     ·rw [HSN.out];exact HRP.out _ _ _ HR3.out fun k hk=>hch.block k (by have:=HGL.out k hk;omega) (fun e=>HGN.out k (by have e:k=_:=e;omega) hk)
     ·exact blk_put X43.out 0 _ rfl
     ·exact chg_trans (HCW.out.mono fun k h=>.inl h) (chg_trans (HC3.out.mono fun k h=>.inl h) (hch.mono fun k h=>.inr h))
   case done =>
    rintro D ys W hD rfl ⟨⟨hA,hIv⟩,hRW,hCW⟩ hK
    obtain ⟨sp,hsp⟩:∃ sp,runL (fun (i:Fin (nK t)) s=>foldP F (kidF t i) (d+1) (b+moreZ t i) s) (List.finRange (nK t)) s1=(true,sp):=⟨_,Prod.ext hA rfl⟩
    rw [hsp] at hRW
    have HRES:=Ak hsp
    have hszW:=hCW.size
    have hx4:=(hCW.block _ (by omega) (HGN.out _ (by omega))).trans ((HB2.out.block _ (by omega)).trans HX41.out)
    have X4:=Ak hx4
    have HRW:=Ak hRW
    have HCW:=Ak hCW
    have HKD:=Ak hK
    have c4:W.cell? ⟨w.heap.size+1+1+1+1,0,none⟩=some (.bool false):=by (rw [cell_of_row _ _ _ _ _ _ hx4];rfl)
    have f4:=blk_frozen hx4 0
    clear hA hIv hsp hRW hCW hx4 hK
    gi_wp2
    have hch:=chg_set W (w.heap.size+1+1+1+1) 0 (.bool true)
    obtain ⟨WW,hWW⟩:∃ WW,WW=W.setCell ⟨w.heap.size+1+1+1+1,0,none⟩ (.bool true):=⟨_,rfl⟩
    have hx5:WW.heap[w.heap.size+1+1+1+1]?=some (.cells #[.bool true] 4 (0,0)):=by rw [hWW];exact blk_put X4.out 0 _ rfl
    rw [← hWW] at hch ⊢
    clear hWW
    have hszV:=hch.size
    have hKW:WW.heap[D]?=some (.deferred (some [])):=(hch.block D (blk_lt HKD.out) (by omega)).trans HKD.out
    have hRWW:Rep sp WW:=HRP.out _ _ _ HRW.out fun k hk=>hch.block k (by have:=HGL.out k hk;omega) (fun e=>HGN.out k (by have e:k=_:=e;omega) hk)
    have hCWW:Chg (fun k=>G k∨w.heap.size≤k) w2 WW:=chg_trans (HCW.out.mono fun k h=>.inl h) (hch.mono fun k h=>.inr (by have h:k=_:=h;omega))
    have hgD:∀ k,G k→k≠D:=fun k hk e=>by have:=HGL.out k hk;omega
    have hp:=chg_put WW D (.deferred none)
    have hc5:(WW.putObj D (.deferred none)).cell? ⟨w.heap.size+1+1+1+1,0,none⟩=some (.bool true):=by
     rw [cell_of_row _ _ _ _ _ _ ((hp.block _ (blk_lt hx5) (by omega)).trans hx5)];rfl
    refine ⟨by simp,.inl ⟨_,_,rfl,run_takeDeferred hKW,?_⟩⟩
    refine ⟨.bool true,?_,?_⟩
    ·simp [results,Try.f61,go_sem,hc5]
    ·rw [HE.out,HRES.out]
     refine ⟨rfl,HRP.out _ _ _ hRWW (fun k hk=>hp.block k (by have:=HGL.out k hk;omega) (hgD k hk)),?_⟩
     refine chg_cut (Chg.of_below HB0.out) (HC1.out.mono fun k h=>.inl h) (chg_trans (chg_trans (Chg.of_below HB2.out) hCWW) (hp.mono fun k h=>.inr (by have h:k=D:=h;omega)))
   case stop =>
    rintro D c pre WW hD hSp ⟨⟨rfl,hA⟩,⟨hRWW,hx5⟩,hCW⟩ hKW
    obtain ⟨sp,hsp⟩:∃ sp,runL (fun (i:Fin (nK t)) s=>foldP F (kidF t i) (d+1) (b+moreZ t i) s) pre s1=(false,sp):=⟨_,Prod.ext hA rfl⟩
    have HRES:=Ak (show runL (fun (i:Fin (nK t)) s=>foldP F (kidF t i) (d+1) (b+moreZ t i) s) (List.finRange (nK t)) s1=(false,sp) by rw [runL_false _ hSp _ hA,hsp])
    rw [hsp] at hRWW
    have hszV:=hCW.size
    have hCWW:Chg (fun k=>G k∨w.heap.size≤k) w2 WW:=hCW.mono fun k h=>h.elim .inl fun h=>.inr (by omega)
    clear hA hsp hSp hCW
    gi_wp2
    have hgD:∀ k,G k→k≠D:=fun k hk e=>by have:=HGL.out k hk;omega
    have hp:=chg_put WW D (.deferred none)
    have hc5:(WW.putObj D (.deferred none)).cell? ⟨w.heap.size+1+1+1+1,0,none⟩=some (.bool false):=by
     rw [cell_of_row _ _ _ _ _ _ ((hp.block _ (blk_lt hx5) (by omega)).trans hx5)];rfl
    refine ⟨by simp,.inl ⟨_,_,rfl,run_takeDeferred hKW,?_⟩⟩
    refine ⟨.bool false,?_,?_⟩
    ·simp [results,Try.f61,go_sem,hc5]
    ·rw [HE.out,HRES.out]
     refine ⟨rfl,HRP.out _ _ _ hRWW (fun k hk=>hp.block k (by have:=HGL.out k hk;omega) (hgD k hk)),?_⟩
     refine chg_cut (Chg.of_below HB0.out) (HC1.out.mono fun k h=>.inl h) (chg_trans (chg_trans (Chg.of_below HB2.out) hCWW) (hp.mono fun k h=>.inr (by have h:k=D:=h;omega)))
end Go.Proofs.Ytcgkeolgflphiaa

namespace Go.Proofs.Ytcgkeolgflphiaa
open Go.RowKit Go.Proofs.YtcgkeolgflphiaaW.PrintWords Go.RegionInvYtcgkeolgflphiaa

def mayF (v:Int) (l:Lv) (d s:Int):Int × Int:=
 if 32<d∨100<s+1 then (2,s+1) else if l.kind=2∧l.kids=[] then (if l.num<0∨v≤l.num then (10,s+1) else (0,s+1)) else if rightP l 1048576 0=false then (1,s+1) else (0,s+1)
theorem mayF_long {v:Int} {l:Lv} {d s:Int} (h:32<d∨100<s+1):mayF v l d s=(2,s+1):=if_pos h
theorem mayF_var {v:Int} {l:Lv} {d s:Int} (h:¬ (32<d∨100<s+1)) (h2:l.kind=2∧l.kids=[]):mayF v l d s=(if l.num<0∨v≤l.num then (10,s+1) else (0,s+1)):=(if_neg h).trans (if_pos h2)
theorem mayF_rest {v:Int} {l:Lv} {d s:Int} (h:¬ (32<d∨100<s+1)) (h2:¬ (l.kind=2∧l.kids=[])):mayF v l d s=(if rightP l 1048576 0=false then (1,s+1) else (0,s+1)):=(if_neg h).trans (if_neg h2)
theorem mayF_small' {v:Int} {l:Lv} {d s:Int} (_hs:0≤s) (h:(mayF v l d s).1=0):s+1≤100∧d≤32∧True∧mayF v l d s=(0,s+1):=by
 by_cases h1:32<d∨100<s+1
 ·rw [mayF_long h1] at h;simp at h
 ·refine ⟨by omega,by omega,trivial,?_⟩
  by_cases h2:l.kind=2∧l.kids=[]
  ·rw [mayF_var h1 h2] at h ⊢
   split at h
   ·simp at h
   ·rename_i h3;rw [if_neg h3]
  ·rw [mayF_rest h1 h2] at h ⊢
   split at h
   ·simp at h
   ·rename_i h3;rw [if_neg h3]
theorem mayF_small (v:Int):Small (mayF v) 100:=fun l d s h0 h=>by
 have:=mayF_small' h0 h
 rw [this.2.2.2]
 exact ⟨by show 0≤s+1;omega,this.1⟩
theorem NumAt.chg {w w':World} {g gv:Nat} {s:Int} (h:NumAt w gv s) (hc:Chg (fun k=>k=g) w w') (hne:g≠gv):NumAt w' gv s:=(hc.block gv (blk_lt h) (fun e=>hne e.symm)).trans h
theorem right_at (A:Option Addr) (c:Nat) (l:Lv) (most mostV:Int) (m:Nat) (hm:m=l.kids.length) (hc:l.kids.length≤9223372036854775807) (w:World) :
  Calls Try.prog 102 #[.agg #[.int .i64 l.kind,.int .i64 l.num,.slice A m c],.int .i64 most,.int .i64 mostV] w fun e w'=>e=.returned (.bool (rightP l most mostV))∧Below w.heap.size w w':=by
 subst hm
 exact right_calls A c l most mostV w hc
abbrev mayFn (g gv:Nat):Value:=.func (.func 101) #[] #[.pointer (some ⟨g,0,none⟩),.pointer (some ⟨gv,0,none⟩)]
set_option maxHeartbeats 4000000 in
theorem may1_calls (A:Option Addr) (c:Nat) (l:Lv) (d s v:Int) (g gv:Nat) (w:World) (hc:l.kids.length≤9223372036854775807) (hg:NumAt w g s) (hgv:NumAt w gv v) (hne:g≠gv) (hs0:0≤s) (hs1:s≤100) (hd0:0≤d) (hd1:d≤33) :
  Calls Try.prog 101 #[lvV A c l,.int .i64 d,.pointer (some ⟨g,0,none⟩),.pointer (some ⟨gv,0,none⟩)] w (VisitPost w g (mayF v l d s)):=by
 have HG:=Ak hg
 have hcell:=hg.cell
 have hfz:=blk_frozen hg 0
 have hc2:=(hg.alloc (.cells #[.int .i64 l.kind,.int .i64 l.num,.slice A l.kids.length c] 24 (0,0))).cell
 have HC:=Ak hc
 have hglt:=blk_lt hg
 have hgvlt:=blk_lt hgv
 have hgne:g≠w.heap.size:=Nat.ne_of_lt hglt
 have hgvne:gv≠w.heap.size:=Nat.ne_of_lt hgvlt
 have hcv:=((hgv.chg (chg_set w g 0 (.int .i64 (s+1))) hne).alloc (.cells #[.int .i64 l.kind,.int .i64 l.num,.slice A l.kids.length c] 24 (0,0))).cell
 have hcv0:=hgv.cell
 have hne':gv≠g:=fun e=>hne e.symm
 obtain ⟨m,hm⟩:∃ m,m=l.kids.length:=⟨_,rfl⟩
 have HM:=Ak hm
 clear hg hgv hc
 unfold lvV
 go_enter Try.func101,Try.ntmps101
 have hfin:NumAt ((w.setCell ⟨g,0,none⟩ (.int .i64 (s+1))).alloc (.cells #[.int .i64 l.kind,.int .i64 l.num,.slice A l.kids.length c] 24 (0,0))) g (s+1):=(HG.out.set _).alloc _
 have hch:Chg (fun k=>k=g) w ((w.setCell ⟨g,0,none⟩ (.int .i64 (s+1))).alloc (.cells #[.int .i64 l.kind,.int .i64 l.num,.slice A l.kids.length c] 24 (0,0))):=chg_trans (chg_set _ _ _ _) (chg_alloc _ _ _)
 have HF:=Ak (And.intro hfin hch)
 rw [← hm] at hc2 hcv HF ⊢
 clear hfin hch hm
 by_cases h1:32<d
 ·have HE:=Ak (mayF_long (v:=v) (l:=l) (s:=s) (.inl h1))
  go_wp2
  go_ret
  rw [HE.out]
  exact ⟨rfl,HF.out.1,HF.out.2⟩
 ·by_cases h2:100<s+1
  ·have HE:=Ak (mayF_long (v:=v) (l:=l) (d:=d) (.inr h2))
   go_wp2
   go_ret
   rw [HE.out]
   exact ⟨rfl,HF.out.1,HF.out.2⟩
  ·by_cases hk:l.kind=2
   ·have hk':(l.kind == 2)=true:=by simp [hk]
    by_cases hm0:m=0
    ·have hkids:l.kids=[]:=List.eq_nil_of_length_eq_zero (by rw [← HM.out];exact hm0)
     have HE:=Ak (mayF_var (v:=v) (d:=d) (s:=s) (by omega) ⟨hk,hkids⟩)
     have hm0':((m:Int) == 0)=true:=by simp [hm0]
     clear hkids hk hm0
     by_cases hn0:l.num<0
     ·have HR:=Ak (HE.out.trans (if_pos (.inl hn0)))
      go_wp2
      go_ret
      rw [HR.out]
      exact ⟨rfl,HF.out.1,HF.out.2⟩
     ·by_cases hnv:v≤l.num
      ·have HR:=Ak (HE.out.trans (if_pos (.inr hnv)))
       go_wp2
       go_ret
       rw [HR.out]
       exact ⟨rfl,HF.out.1,HF.out.2⟩
      ·have HR:=Ak (HE.out.trans (if_neg (by omega)))
       go_wp2
       go_ret
       rw [HR.out]
       exact ⟨rfl,HF.out.1,HF.out.2⟩
    ·have hm0':((m:Int) == 0)=false:=by simp;omega
     have HE:=Ak (mayF_rest (v:=v) (d:=d) (s:=s) (by omega) (l:=l) (fun h=>hm0 (by rw [HM.out,h.2];rfl)))
     clear hk
     cases hR:rightP l 1048576 0 with
     | false =>
      have HR:=Ak hR
      have HE2:=Ak (HE.out.trans (if_pos hR))
      clear hR
      go_wp2_with (go_at_call 102;go_must (refine (right_at A c l 1048576 0 m HM.out HC.out _).mono ?_;rintro e w1 ⟨rfl,hb⟩;rw [HR.out];have HB:=Ak hb;clear hb))
      go_ret
      rw [HE2.out]
      exact ⟨rfl,HF.out.1.below HB.out,chg_trans HF.out.2 (Chg.of_below HB.out)⟩
     | true =>
      have HR:=Ak hR
      have HE2:=Ak (HE.out.trans (if_neg (by rw [hR];decide)))
      clear hR
      go_wp2_with (go_at_call 102;go_must (refine (right_at A c l 1048576 0 m HM.out HC.out _).mono ?_;rintro e w1 ⟨rfl,hb⟩;rw [HR.out];have HB:=Ak hb;clear hb))
      go_ret
      rw [HE2.out]
      exact ⟨rfl,HF.out.1.below HB.out,chg_trans HF.out.2 (Chg.of_below HB.out)⟩
   ·have hk':(l.kind == 2)=false:=by simp [hk]
    have HE:=Ak (mayF_rest (v:=v) (d:=d) (s:=s) (by omega) (l:=l) (fun h=>hk h.1))
    clear hk
    cases hR:rightP l 1048576 0 with
    | false =>
     have HR:=Ak hR
     have HE2:=Ak (HE.out.trans (if_pos hR))
     clear hR
     go_wp2_with (go_at_call 102;go_must (refine (right_at A c l 1048576 0 m HM.out HC.out _).mono ?_;rintro e w1 ⟨rfl,hb⟩;rw [HR.out];have HB:=Ak hb;clear hb))
     go_ret
     rw [HE2.out]
     exact ⟨rfl,HF.out.1.below HB.out,chg_trans HF.out.2 (Chg.of_below HB.out)⟩
    | true =>
     have HR:=Ak hR
     have HE2:=Ak (HE.out.trans (if_neg (by rw [hR];decide)))
     clear hR
     go_wp2_with (go_at_call 102;go_must (refine (right_at A c l 1048576 0 m HM.out HC.out _).mono ?_;rintro e w1 ⟨rfl,hb⟩;rw [HR.out];have HB:=Ak hb;clear hb))
     go_ret
     rw [HE2.out]
     exact ⟨rfl,HF.out.1.below HB.out,chg_trans HF.out.2 (Chg.of_below HB.out)⟩
theorem may1_at (A:Option Addr) (c:Nat) (k n:Int) (ks:List Lv) (m:Nat) (d s v:Int) (g gv:Nat) (w:World) (hm:m=ks.length) (hc:m≤9223372036854775807) (hg:NumAt w g s) (hgv:NumAt w gv v) (hne:g≠gv) (hs0:0≤s) (hs1:s≤100) (hd0:0≤d) (hd1:d≤33) :
  Calls Try.prog 101 #[.agg #[.int .i64 k,.int .i64 n,.slice A m c],.int .i64 d,.pointer (some ⟨g,0,none⟩),.pointer (some ⟨gv,0,none⟩)] w (VisitPost w g (mayF v (.mk k n ks) d s)):=by
 subst hm
 exact may1_calls A c (.mk k n ks) d s v g gv w hc hg hgv hne hs0 hs1 hd0 hd1
set_option maxHeartbeats 4000000 in
theorem walk_may (v:Int) (gv:Nat) (N:Nat):∀ (l:Lv),SizeOf.sizeOf l<N→∀ (A:Option Addr) (c:Nat) (d s:Int) (g B:Nat) (w:World),LvIn w B A c l→NumAt w g s→NumAt w gv v→g≠gv→B≤g→0≤s→s≤100→0≤d→d≤33 →
  Calls Try.prog 100 #[lvV A c l,.int .i64 d,mayFn g gv] w (VisitPost w g (walkP (mayF v) l d s)):=by
 induction N with
 | zero=>intro l h;omega
 | succ N ih =>
  rintro ⟨lk,ln,ks⟩ hN A c d s g B w hin hg hgv hne hBg hs0 hs1 hd0 hd1
  have IH:=Ak ih
  have HIN:=Ak hin
  have HG:=Ak hg
  have HGV:=Ak hgv
  have hlen:=hin.len
  simp only [Lv.kids] at hlen
  have hl9:ks.length≤9223372036854775807:=by omega
  have hglt:=blk_lt hg
  clear ih hin hg hgv hlen
  unfold mayFn lvV
  simp only [Lv.kind,Lv.num,Lv.kids]
  obtain ⟨m,hm⟩:∃ m,m=ks.length:=⟨_,rfl⟩
  rw [← hm] at hl9 ⊢
  have HM:=Ak hm
  clear hm
  go_enter Try.func100,Try.ntmps100
  by_cases h1:((mayF v) (.mk lk ln ks) d s).1=0
  ·have HE:=Ak (walkP_go h1)
   have hsm:=mayF_small' hs0 h1
   have HV:=Ak hsm.2.2.2
   rw [HV.out] at HE
   simp only [Lv.kids] at HE
   have hs3:=hsm.1
   have hd3:=hsm.2.1
   clear h1 hsm
   go_wp2_with (go_at_call 101;go_must (refine (may1_at A c lk ln ks m d s v g gv _ HM.out hl9 (HG.out.alloc _) (HGV.out.alloc _) hne hs0 hs1 hd0 hd1).mono ?_;rintro e w1 ⟨rfl,hg1,hc1⟩;rw [HV.out] at hg1 ⊢;have HG1:=Ak hg1;have hbox:=chg_cell hc1 (box_cell w #[.int .i64 lk,.int .i64 ln,.slice A m c] 24 2 _ rfl) (Nat.ne_of_gt hglt);have HC1:=Ak (chg_trans (chg_alloc _ _ _) hc1);clear hg1 hc1))
   go_loopw [21] (fun i wr=>∃ (k:Nat) (s':Int),i=.int .i64 k∧k≤m∧0≤s'∧s'≤100∧Aside0 (walkKs (mayF v) (ks.drop k) (d+1) s'=walkP (mayF v) (.mk lk ln ks) d s)∧Aside0 (NumAt wr g s')∧Aside0 (Chg (fun k=>k=g) w wr)) (fun i _=>m - (intOf i).toNat)
   case atStart=>exact ⟨0,s+1,rfl,Nat.zero_le _,by omega,by omega,⟨HE.out.symm⟩,HG1,HC1⟩
   case round =>
    clear HE HV HG1 HC1 hbox
    obtain ⟨k,s',rfl,hk,hs4,hs5,HE,HG1,HC1⟩:=hrel
    have HIN2:=Ak (LvIn.stay HIN.out (chg_below HC1.out hBg (Nat.le_of_lt (Nat.lt_of_le_of_lt hBg hglt))))
    by_cases hlt:k<m
    ·have hlt2:k<ks.length:=by rw [← HM.out];exact hlt
     obtain ⟨x,hx⟩:∃ x,ks[k]?=some x:=⟨_,List.getElem?_eq_getElem hlt2⟩
     obtain ⟨A',c',hcs,hin⟩:=HIN2.out.kid k x hx
     obtain ⟨ad,rfl,hc1,hc2,hc3⟩:=hcs.facts
     clear hcs
     have HX:=Ak hx
     have HXIN:=Ak hin
     clear hx hin hlt2
     have hglt2:=blk_lt HG1.out
     by_cases h2:(walkP (mayF v) x (d+1) s').1=0
     ·have hsm:=walkP_small (mayF_small v) x (d+1) s' hs4 h2
      have HK:=Ak ((walkKs_go (r:=ks.drop (k+1)) h2).symm.trans ((congrArg (fun l=>walkKs (mayF v) l (d+1) s') (drop_kid HX.out)).symm.trans HE.out))
      obtain ⟨e2,s2,hes⟩:∃ a b,walkP (mayF v) x (d+1) s'=(a,b):=⟨_,_,rfl⟩
      have HV:=Ak hes
      rw [hes] at hsm h2 HK
      simp only at hsm h2 HK
      subst h2
      have hs6:=hsm.1
      have hs7:=hsm.2
      clear hes hsm
      go_wp2_with (go_at_call 100;go_must (refine (IH.out x (Nat.lt_of_lt_of_le (kid_small HX.out) (Nat.le_of_lt_succ hN)) A' c' (d+1) s' g B _ (LvIn.stay HXIN.out ((Below.refl _ _).alloc (Nat.le_of_lt (Nat.lt_of_le_of_lt hBg hglt2)) _)) (HG1.out.alloc _) ((HGV.out.chg HC1.out hne).alloc _) hne hBg hs4 hs5 (by omega) (by omega)).mono ?_;rintro e w2 ⟨rfl,hg1,hc1⟩;rw [HV.out] at hg1 ⊢;have HG2:=Ak hg1;have HC2:=Ak (chg_trans HC1.out (chg_trans (chg_alloc _ _ _) hc1));clear hg1 hc1))
      go_roundw
      case rel=>exact ⟨k+1,s2,by go_num,by omega,hs6,hs7,HK,HG2,HC2⟩
      case measure=>(simp [intOf];try omega)
     ·have HK:=Ak ((walkKs_stop (r:=ks.drop (k+1)) h2).symm.trans ((congrArg (fun l=>walkKs (mayF v) l (d+1) s') (drop_kid HX.out)).symm.trans HE.out))
      obtain ⟨e2,s2,hes⟩:∃ a b,walkP (mayF v) x (d+1) s'=(a,b):=⟨_,_,rfl⟩
      have HV:=Ak hes
      rw [hes] at h2
      have h2':(e2 != 0)=true:=by simpa using h2
      clear hes h2
      go_wp2_with (go_at_call 100;go_must (refine (IH.out x (Nat.lt_of_lt_of_le (kid_small HX.out) (Nat.le_of_lt_succ hN)) A' c' (d+1) s' g B _ (LvIn.stay HXIN.out ((Below.refl _ _).alloc (Nat.le_of_lt (Nat.lt_of_le_of_lt hBg hglt2)) _)) (HG1.out.alloc _) ((HGV.out.chg HC1.out hne).alloc _) hne hBg hs4 hs5 (by omega) (by omega)).mono ?_;rintro e w2 ⟨rfl,hg1,hc1⟩;rw [HV.out] at hg1 ⊢;have HG2:=Ak hg1;have HC2:=Ak (chg_trans HC1.out (chg_trans (chg_alloc _ _ _) hc1));clear hg1 hc1))
      go_ret
      rw [← HK.out,HV.out]
      exact ⟨rfl,HG2.out,HC2.out⟩
    ·obtain rfl:k=m:=by omega
     have hlt':decide ((k:Int)<k)=false:=by simp
     have HW:=Ak (show walkP (mayF v) (.mk lk ln ks) d s=(0,s') by rw [← HE.out,List.drop_of_length_le (by rw [← HM.out];exact Nat.le_refl _),walkKs])
     go_wp2
     go_ret
     rw [HW.out]
     exact ⟨rfl,HG1.out,HC1.out⟩
  ·have HE:=Ak (walkP_stop h1)
   have h1':(((mayF v) (.mk lk ln ks) d s).1 != 0)=true:=by simp [h1]
   obtain ⟨e1,s1,hes⟩:∃ a b,(mayF v) (.mk lk ln ks) d s=(a,b):=⟨_,_,rfl⟩
   have HV:=Ak hes
   rw [hes] at h1'
   simp only at h1'
   clear h1 hes
   go_wp2_with (go_at_call 101;go_must (refine (may1_at A c lk ln ks m d s v g gv _ HM.out hl9 (HG.out.alloc _) (HGV.out.alloc _) hne hs0 hs1 hd0 hd1).mono ?_;rintro e w1 ⟨rfl,hg1,hc1⟩;rw [HV.out] at hg1 ⊢;have HG1:=Ak hg1;have HC1:=Ak (chg_trans (chg_alloc _ _ _) hc1);clear hg1 hc1))
   go_ret
   rw [HE.out,HV.out]
   exact ⟨rfl,HG1.out,HC1.out⟩
end Go.Proofs.Ytcgkeolgflphiaa

namespace Go.Proofs.Ytcgkeolgflphiaa
open Go.RowKit Go.Proofs.YtcgkeolgflphiaaW.PrintWords Go.RegionInvYtcgkeolgflphiaa

theorem row3 {w:World} {g:Nat} {a b c:Value} {t:TypeId} (h:w.heap[g]?=some (.cells #[a,b,c] t (0,0))) :
  w.cell? ⟨g,0,none⟩=some a∧w.cell? ⟨g,1,none⟩=some b∧w.cell? ⟨g,2,none⟩=some c∧w.frozen? ⟨g,0,none⟩=false∧w.frozen? ⟨g,1,none⟩=false∧w.frozen? ⟨g,2,none⟩=false:=by
 refine ⟨?_,?_,?_,blk_frozen h 0,blk_frozen h 1,blk_frozen h 2⟩ <;> (rw [cell_of_row _ _ _ _ _ _ h];rfl)
theorem box0 (w:World) (o o':Obj):((w.alloc o).alloc o').heap[w.heap.size]?=some o:=blk_alloc (blk_new w o) o'
theorem box1 (w:World) (o o':Obj):((w.alloc o).alloc o').heap[w.heap.size+1]?=some o':=by
 have:=blk_new (w.alloc o) o'
 simpa using this

theorem LvS.leaf (w:World) (S:Nat→Prop) (k n:Int):LvS w S none 0 (.mk k n []):=.mk (fun _=>none) (fun _=>0) (by simp) (by omega) (fun i x h=>by simp at h) (fun i x h=>by simp at h)
theorem LvS.one {w:World} {S:Nat→Prop} {g:Nat} {A:Option Addr} {c:Nat} {x:Lv} {t:TypeId} (h:w.heap[g]?=some (.cells #[.int .i64 x.kind,.int .i64 x.num,.slice A x.kids.length c] t (0,0))) (hx:LvS w S A c x) (hS:S g) (k n:Int):LvS w S (some ⟨g,0,none⟩) 1 (.mk k n [x]):=by
 obtain ⟨h0,h1,h2,_⟩:=row3 h
 refine .mk (fun _=>A) (fun _=>c) (by simp) (by omega) (fun i y hy=>?_) (fun i y hy=>?_)
 ·cases i with
  | zero =>
   obtain rfl:x=y:=by simpa using hy
   exact ⟨_,rfl,hS,rfl,by rw [add_flat];exact h0,by rw [add_flat];exact h1,by rw [add_flat];exact h2⟩
  | succ i=>simp at hy
 ·cases i with
  | zero =>
   obtain rfl:x=y:=by simpa using hy
   exact hx
  | succ i=>simp at hy
end Go.Proofs.Ytcgkeolgflphiaa

namespace Go.Proofs.Ytcgkeolgflphiaa
open Go.RowKit Go.Proofs.YtcgkeolgflphiaaW.PrintWords Go.RegionInvYtcgkeolgflphiaa

def IntsS (w:World) (S:Nat→Prop) (A:Option Addr) (n:Nat) (ks:List Int):Prop:=ReadsInt w .i64 A n ks∧(0<n→∃ ad,A=some ad∧S ad.block)
theorem IntsS.same {w w':World} {S:Nat→Prop} {A:Option Addr} {n:Nat} {ks:List Int} (h:IntsS w S A n ks) (hs:∀ k,S k→k<w.heap.size→w'.heap[k]?=w.heap[k]?):IntsS w' S A n ks:=by
 refine ⟨⟨h.1.1,h.1.2.1,fun hn=>?_⟩,h.2⟩
 obtain ⟨ad,e,hc⟩:=h.1.2.2 hn
 obtain ⟨ad',e',hS⟩:=h.2 hn
 rw [e] at e'
 obtain rfl:=Option.some.inj e'
 refine ⟨ad,e,fun j hj=>?_⟩
 have hb:(ad.add j).block=ad.block:=add_block _ _
 have hx:=hc j hj
 exact (cell_same (w:=w) (w':=w') (by rw [hb];exact hs _ hS (by have:=World.block_lt_of_cell? w _ hx;rwa [hb] at this))).trans hx
theorem IntsS.later {w w':World} {S:Nat→Prop} {A:Option Addr} {n:Nat} {ks:List Int} (h:IntsS w S A n ks) (hb:Below w.heap.size w w'):IntsS w' S A n ks:=h.same fun k _ hk=>hb.block k hk
theorem IntsS.mono {w:World} {S S':Nat→Prop} {A:Option Addr} {n:Nat} {ks:List Int} (h:IntsS w S A n ks) (hS:∀ k,S k→k<w.heap.size→S' k):IntsS w S' A n ks:=by
 refine ⟨h.1,fun hn=>?_⟩
 obtain ⟨ad,e,hs⟩:=h.2 hn
 obtain ⟨ad',e',hc⟩:=h.1.2.2 hn
 rw [e] at e'
 obtain rfl:=Option.some.inj e'
 exact ⟨ad,e,hS _ hs (by have:=World.block_lt_of_cell? w _ (hc 0 hn);rwa [add_block] at this)⟩
theorem IntsS.nil (w:World) (S:Nat→Prop):IntsS w S none 0 []:=⟨⟨rfl,by omega,fun h=>absurd h (by omega)⟩,fun h=>absurd h (by omega)⟩
end Go.Proofs.Ytcgkeolgflphiaa

namespace Go.Proofs.Ytcgkeolgflphiaa
open Go.RowKit Go.Proofs.YtcgkeolgflphiaaW.PrintWords Go.RegionInvYtcgkeolgflphiaa

set_option maxHeartbeats 2000000 in
theorem arity_calls (k:Int) (w:World):Calls Try.prog 77 #[.int .i64 k] w fun e w'=>e=.returned (.int .i64 (arityP k))∧w'=w:=by
 go_enter Try.func77,Try.ntmps77
 by_cases h1:k=1
 ·have H:=Ak (arity_12 (.inl h1))
  have e1:(k == 1)=true:=by simp [h1]
  clear h1
  go_wp2
  go_ret
  exact ⟨by rw [H.out];rfl,rfl⟩
 ·have e1:(k == 1)=false:=by simp [h1]
  by_cases h2:k=2
  ·have H:=Ak (arity_12 (.inr h2))
   have e2:(k == 2)=true:=by simp [h2]
   clear h1 h2
   go_wp2
   go_ret
   exact ⟨by rw [H.out];rfl,rfl⟩
  ·have e2:(k == 2)=false:=by simp [h2]
   by_cases h3:k=3
   ·have H:=Ak (show arityP k=1 by rw [h3];decide)
    have e3:(k == 3)=true:=by simp [h3]
    clear h1 h2 h3
    go_wp2
    go_ret
    exact ⟨by rw [H.out];rfl,rfl⟩
   ·have e3:(k == 3)=false:=by simp [h3]
    by_cases h4:k=4
    ·have H:=Ak (show arityP k=2 by rw [h4];decide)
     have e4:(k == 4)=true:=by simp [h4]
     clear h1 h2 h3 h4
     go_wp2
     go_ret
     exact ⟨by rw [H.out];rfl,rfl⟩
    ·have H:=Ak (arity_no h1 h2 h3 h4)
     have e4:(k == 4)=false:=by simp [h4]
     clear h1 h2 h3 h4
     go_wp2
     go_ret
     exact ⟨by rw [H.out];rfl,rfl⟩


end Go.Proofs.Ytcgkeolgflphiaa

namespace Go.Proofs.Ytcgkeolgflphiaa
open Go.RowKit Go.Proofs.YtcgkeolgflphiaaW.PrintWords Go.RegionInvYtcgkeolgflphiaa

def mayB (v:Int) (l:Lv):Int:=(walkP (mayF v) l 1 0).1
set_option maxHeartbeats 4000000 in
theorem may_calls (A:Option Addr) (c:Nat) (l:Lv) (v:Int) (w:World) (hin:LvIn w w.heap.size A c l) :
  Calls Try.prog 84 #[lvV A c l,.int .i64 v] w fun e w'=>e=.returned (.int .i64 (mayB v l))∧Below w.heap.size w w':=by
 have HIN:=Ak hin
 clear hin
 unfold lvV
 go_enter Try.func84,Try.ntmps84
 obtain ⟨w3,hw3⟩:∃ w3,w3=(((w.alloc (.cells #[.int .i64 l.kind,.int .i64 l.num,.slice A l.kids.length c] 24 (0,0))).alloc (.cells #[.int .i64 v] 3 (0,0))).alloc (.cells #[.int .i64 0] 3 (0,0))):=⟨_,rfl⟩
 have hnew:NumAt w3 (w.heap.size+1+1) 0:=by
  have:=blk_new ((w.alloc (.cells #[.int .i64 l.kind,.int .i64 l.num,.slice A l.kids.length c] 24 (0,0))).alloc (.cells #[.int .i64 v] 3 (0,0))) (.cells #[.int .i64 0] 3 (0,0))
  rw [hw3]
  simpa [NumAt] using this
 have hvar:NumAt w3 (w.heap.size+1) v:=by
  have:=blk_alloc (blk_new (w.alloc (.cells #[.int .i64 l.kind,.int .i64 l.num,.slice A l.kids.length c] 24 (0,0))) (.cells #[.int .i64 v] 3 (0,0))) (.cells #[.int .i64 0] 3 (0,0))
  rw [hw3]
  simpa [NumAt] using this
 have hb3:Below w.heap.size w w3:=by rw [hw3];exact below_alloc (below_alloc (below_alloc (Below.refl _ _) _) _) _
 have HNEW:=Ak hnew
 have HVAR:=Ak hvar
 have HB3:=Ak hb3
 have HW3:=Ak hw3
 clear hnew hvar hb3 hw3
 go_wp2_with (go_at_call 100;go_must (rw [← HW3.out];refine (walk_may v (w.heap.size+1) _ l (Nat.lt_succ_self _) A c 1 0 (w.heap.size+1+1) w.heap.size _ (LvIn.stay HIN.out HB3.out) HNEW.out HVAR.out (by omega) (by omega) (by decide) (by decide) (by decide) (by decide)).mono ?_;rintro e w1 ⟨rfl,-,hc⟩;have HB:=Ak (Chg.trans_below HB3.out hc (fun _ e=>by omega) HB3.out.size);clear hc))
 go_ret
 exact ⟨rfl,HB.out⟩
theorem may_bad {v:Int} {l:Lv} {d s:Int} {e:Int} (h:mayF v l d s=(e,s+1)) (he:e≠0):walkP (mayF v) l d s=(e,s+1):=by rw [walkP_stop (by rw [h];exact he),h]
set_option maxRecDepth 4000 in
set_option maxHeartbeats 8000000 in
theorem ref_may (v:Int) (N:Nat):∀ (l:Lv),SizeOf.sizeOf l<N→∀ (A:Option Addr) (c:Nat) (d s:Int) (g B:Nat) (w:World),LvIn w B A c l→NumAt w g s→B≤g→0≤s→s≤100→0≤d→d≤33 →
  Calls Try.prog 103 #[lvV A c l,.int .i64 v,.int .i64 d,.pointer (some ⟨g,0,none⟩)] w (VisitPost w g (walkP (mayF v) l d s)):=by
 induction N with
 | zero=>intro l h;omega
 | succ N ih =>
  rintro ⟨lk,ln,ks⟩ hN A c d s g B w hin hg hBg hs0 hs1 hd0 hd1
  have IH:=Ak ih
  have HIN:=Ak hin
  have HG:=Ak hg
  have hcell:=hg.cell
  have hfz:=blk_frozen hg 0
  have hlen:=hin.len
  simp only [Lv.kids] at hlen
  have hl9:ks.length≤9223372036854775807:=by omega
  have hglt:=blk_lt hg
  have hgne:g≠w.heap.size:=Nat.ne_of_lt hglt
  clear ih hin hg hlen
  unfold lvV
  simp only [Lv.kind,Lv.num,Lv.kids]
  obtain ⟨m,hm⟩:∃ m,m=ks.length:=⟨_,rfl⟩
  rw [← hm] at hl9 ⊢
  have HM:=Ak hm
  clear hm
  have hfin:NumAt ((w.setCell ⟨g,0,none⟩ (.int .i64 (s+1))).alloc (.cells #[.int .i64 lk,.int .i64 ln,.slice A m c] 24 (0,0))) g (s+1):=(HG.out.set _).alloc _
  have hch:Chg (fun k=>k=g) w ((w.setCell ⟨g,0,none⟩ (.int .i64 (s+1))).alloc (.cells #[.int .i64 lk,.int .i64 ln,.slice A m c] 24 (0,0))):=chg_trans (chg_set _ _ _ _) (chg_alloc _ _ _)
  have HF:=Ak (And.intro hfin hch)
  have hc2:=hfin.cell
  clear hfin hch
  go_enter Try.func103,Try.ntmps103
  by_cases h1:32<d
  ·have hw:=Ak (may_bad (mayF_long (v:=v) (l:=.mk lk ln ks) (s:=s) (.inl h1)) (by decide))
   go_wp2
   go_ret
   rw [hw.out]
   exact ⟨rfl,HF.out.1,HF.out.2⟩
  ·by_cases h2:100<s+1
   ·have hw:=Ak (may_bad (mayF_long (v:=v) (l:=.mk lk ln ks) (d:=d) (.inr h2)) (by decide))
    go_wp2
    go_ret
    rw [hw.out]
    exact ⟨rfl,HF.out.1,HF.out.2⟩
   ·by_cases h3:(m:Int)=arityP lk
    ·have h3':((m:Int) != arityP lk)=false:=by simp [h3]
     have h3n:0≤arityP lk:=by omega
     have HAR:=Ak h3
     clear h3
     go_upto_block 0 with (fail)
     go_cut [] (fun w2=>Aside0 (mayF v (.mk lk ln ks) d s=(0,s+1))∧Aside0 (NumAt w2 g (s+1))∧Aside0 (Chg (fun k=>k=g) w w2)∧w2.cell? ⟨w.heap.size,2,none⟩=some (.slice A m c))
     case first =>
      have hbx:((w.setCell ⟨g,0,none⟩ (.int .i64 (s+1))).alloc (.cells #[.int .i64 lk,.int .i64 ln,.slice A m c] 24 (0,0))).cell? ⟨w.heap.size,2,none⟩=some (.slice A m c):=by
       have:=box_cell (w.setCell ⟨g,0,none⟩ (.int .i64 (s+1))) #[.int .i64 lk,.int .i64 ln,.slice A m c] 24 2 (.slice A m c) rfl
       rwa [show (w.setCell ⟨g,0,none⟩ (.int .i64 (s+1))).heap.size=w.heap.size by simp [World.setCell]] at this
      have HBX:=Ak hbx
      clear hbx
      by_cases k1:lk=1
      ·have e1:(lk == 1)=true:=by simp [k1]
       have e2:(lk == 2)=false:=by simp [k1]
       have e3:(lk == 3)=false:=by simp [k1]
       have HR:=Ak (mayF_rest (v:=v) (l:=.mk lk ln ks) (d:=d) (s:=s) (by omega) (fun h=>by have:=h.1;simp only [Lv.kind] at this;omega))
       have HRR:=Ak (show rightP (.mk lk ln ks) 1048576 0=decide (0≤ln∧ln≤1048576) by rw [k1];exact right_num (by rw [← HM.out,HAR.out,k1]))
       clear k1
       by_cases q0:ln<0
       ·have hw:=Ak (may_bad (HR.out.trans (if_pos (by rw [HRR.out];exact decide_eq_false (by omega)))) (by decide))
        go_upto_region 4 with (fail)
        go_quiet ((go_at_call 77;exact Calls.quiet_of_same (arity_calls _ _)))
        go_wp2
        go_ret
        rw [hw.out]
        exact ⟨rfl,HF.out.1,chg_drewN HF.out.2 _⟩
       ·by_cases q1:1048576<ln
        ·have hw:=Ak (may_bad (HR.out.trans (if_pos (by rw [HRR.out];exact decide_eq_false (by omega)))) (by decide))
         go_upto_region 4 with (fail)
         go_quiet ((go_at_call 77;exact Calls.quiet_of_same (arity_calls _ _)))
         go_wp2
         go_ret
         rw [hw.out]
         exact ⟨rfl,HF.out.1,chg_drewN HF.out.2 _⟩
        ·have HOK:=Ak (HR.out.trans (if_neg (by rw [HRR.out,decide_eq_true (by omega)];decide)))
         go_upto_region 4 with (fail)
         go_quiet ((go_at_call 77;exact Calls.quiet_of_same (arity_calls _ _)))
         go_wp2
         go_meet
         case rel=>exact ⟨HOK,⟨HF.out.1⟩,⟨chg_drewN HF.out.2 _⟩,HBX.out⟩
      ·have e1:(lk == 1)=false:=by simp [k1]
       by_cases k2:lk=2
       ·have e2:(lk == 2)=true:=by simp [k2]
        have e3:(lk == 3)=false:=by simp [k2]
        have HKS:=Ak (show ks=[] from List.eq_nil_of_length_eq_zero (by have:=HAR.out;rw [k2,← HM.out] at *;simp [arityP] at this;omega))
        have HR:=Ak (mayF_var (v:=v) (l:=.mk lk ln ks) (d:=d) (s:=s) (by omega) ⟨k2,HKS.out⟩)
        clear k1 k2
        by_cases q0:ln<0
        ·have hw:=Ak (may_bad (HR.out.trans (if_pos (.inl q0))) (by decide))
         go_upto_region 4 with (fail)
         go_quiet ((go_at_call 77;exact Calls.quiet_of_same (arity_calls _ _)))
         go_wp2
         go_ret
         rw [hw.out]
         exact ⟨rfl,HF.out.1,chg_drewN HF.out.2 _⟩
        ·by_cases q1:v≤ln
         ·have hw:=Ak (may_bad (HR.out.trans (if_pos (.inr q1))) (by decide))
          go_upto_region 4 with (fail)
          go_quiet ((go_at_call 77;exact Calls.quiet_of_same (arity_calls _ _)))
          go_wp2
          go_ret
          rw [hw.out]
          exact ⟨rfl,HF.out.1,chg_drewN HF.out.2 _⟩
         ·have HOK:=Ak (HR.out.trans (if_neg (by simp only [Lv.num];omega)))
          go_upto_region 4 with (fail)
          go_quiet ((go_at_call 77;exact Calls.quiet_of_same (arity_calls _ _)))
          go_wp2
          go_meet
          case rel=>exact ⟨HOK,⟨HF.out.1⟩,⟨chg_drewN HF.out.2 _⟩,HBX.out⟩
       ·have e2:(lk == 2)=false:=by simp [k2]
        have HR:=Ak (mayF_rest (v:=v) (l:=.mk lk ln ks) (d:=d) (s:=s) (by omega) (fun h=>k2 h.1))
        by_cases k3:lk=3
        ·have e3:(lk == 3)=true:=by simp [k3]
         have HRR:=Ak (show rightP (.mk lk ln ks) 1048576 0=decide (1≤ln∧ln≤1048576) by rw [k3];exact right_succ (by rw [← HM.out,HAR.out,k3]))
         clear k1 k2 k3
         by_cases q0:ln<1
         ·have hw:=Ak (may_bad (HR.out.trans (if_pos (by rw [HRR.out];exact decide_eq_false (by omega)))) (by decide))
          go_upto_region 4 with (fail)
          go_quiet ((go_at_call 77;exact Calls.quiet_of_same (arity_calls _ _)))
          go_wp2
          go_ret
          rw [hw.out]
          exact ⟨rfl,HF.out.1,chg_drewN HF.out.2 _⟩
         ·by_cases q1:1048576<ln
          ·have hw:=Ak (may_bad (HR.out.trans (if_pos (by rw [HRR.out];exact decide_eq_false (by omega)))) (by decide))
           go_upto_region 4 with (fail)
           go_quiet ((go_at_call 77;exact Calls.quiet_of_same (arity_calls _ _)))
           go_wp2
           go_ret
           rw [hw.out]
           exact ⟨rfl,HF.out.1,chg_drewN HF.out.2 _⟩
          ·have HOK:=Ak (HR.out.trans (if_neg (by rw [HRR.out,decide_eq_true (by omega)];decide)))
           go_upto_region 4 with (fail)
           go_quiet ((go_at_call 77;exact Calls.quiet_of_same (arity_calls _ _)))
           go_wp2
           go_meet
           case rel=>exact ⟨HOK,⟨HF.out.1⟩,⟨chg_drewN HF.out.2 _⟩,HBX.out⟩
        ·have e3:(lk == 3)=false:=by simp [k3]
         have HOK:=Ak (HR.out.trans (if_neg (by rw [right_else (n:=ln) (ks:=ks) (most:=1048576) (mostV:=0) (by rw [← HM.out];exact HAR.out) k1 k2 k3];decide)))
         clear k1 k2 k3
         go_upto_region 4 with (fail)
         go_quiet ((go_at_call 77;exact Calls.quiet_of_same (arity_calls _ _)))
         go_wp2
         go_meet
         case rel=>exact ⟨HOK,⟨HF.out.1⟩,⟨chg_drewN HF.out.2 _⟩,HBX.out⟩
     case rest =>
      obtain ⟨HRT,HG0,HC0,hbox2⟩:=hcut
      have hz:(mayF v (.mk lk ln ks) d s).1=0:=by rw [HRT.out]
      have HE:=Ak (walkP_go hz)
      rw [HRT.out] at HE
      simp only [Lv.kids] at HE
      have hs3:s+1≤100:=by omega
      clear hz
      go_wp2
      go_loopw [87] (fun i wr=>∃ (k:Nat) (s':Int),i=.int .i64 k∧k≤m∧0≤s'∧s'≤100∧Aside0 (walkKs (mayF v) (ks.drop k) (d+1) s'=walkP (mayF v) (.mk lk ln ks) d s)∧Aside0 (NumAt wr g s')∧Aside0 (Chg (fun k=>k=g) w wr)) (fun i _=>m - (intOf i).toNat)
      case atStart=>exact ⟨0,s+1,rfl,Nat.zero_le _,by omega,by omega,⟨HE.out.symm⟩,HG0,HC0⟩
      case round =>
       clear HE HG0 HC0 hbox2
       obtain ⟨k,s',rfl,hk,hs4,hs5,HE,HG1,HC1⟩:=hrel
       have HIN2:=Ak (LvIn.stay HIN.out (chg_below HC1.out hBg (Nat.le_of_lt (Nat.lt_of_le_of_lt hBg hglt))))
       by_cases hlt:k<m
       ·have hlt2:k<ks.length:=by rw [← HM.out];exact hlt
        obtain ⟨x,hx⟩:∃ x,ks[k]?=some x:=⟨_,List.getElem?_eq_getElem hlt2⟩
        obtain ⟨A',c',hcs,hin⟩:=HIN2.out.kid k x hx
        obtain ⟨ad,rfl,hc1,hc2,hc3⟩:=hcs.facts
        clear hcs
        have HX:=Ak hx
        have HXIN:=Ak hin
        clear hx hin hlt2
        have hglt2:=blk_lt HG1.out
        by_cases h2:(walkP (mayF v) x (d+1) s').1=0
        ·have hsm:=walkP_small (mayF_small v) x (d+1) s' hs4 h2
         have HK:=Ak ((walkKs_go (r:=ks.drop (k+1)) h2).symm.trans ((congrArg (fun l=>walkKs (mayF v) l (d+1) s') (drop_kid HX.out)).symm.trans HE.out))
         obtain ⟨e2,s2,hes⟩:∃ a b,walkP (mayF v) x (d+1) s'=(a,b):=⟨_,_,rfl⟩
         have HV:=Ak hes
         rw [hes] at hsm h2 HK
         simp only at hsm h2 HK
         subst h2
         have hs6:=hsm.1
         have hs7:=hsm.2
         clear hes hsm
         go_wp2_with (go_at_call 103;go_must (refine (IH.out x (Nat.lt_of_lt_of_le (kid_small HX.out) (Nat.le_of_lt_succ hN)) A' c' (d+1) s' g B _ (LvIn.stay HXIN.out ((Below.refl _ _).alloc (Nat.le_of_lt (Nat.lt_of_le_of_lt hBg hglt2)) _)) (HG1.out.alloc _) hBg hs4 hs5 (by omega) (by omega)).mono ?_;rintro e w2 ⟨rfl,hg1,hc1⟩;rw [HV.out] at hg1 ⊢;have HG2:=Ak hg1;have HC2:=Ak (chg_trans HC1.out (chg_trans (chg_alloc _ _ _) hc1));clear hg1 hc1))
         go_roundw
         case rel=>exact ⟨k+1,s2,by go_num,by omega,hs6,hs7,HK,HG2,HC2⟩
         case measure=>(simp [intOf];try omega)
        ·have HK:=Ak ((walkKs_stop (r:=ks.drop (k+1)) h2).symm.trans ((congrArg (fun l=>walkKs (mayF v) l (d+1) s') (drop_kid HX.out)).symm.trans HE.out))
         obtain ⟨e2,s2,hes⟩:∃ a b,walkP (mayF v) x (d+1) s'=(a,b):=⟨_,_,rfl⟩
         have HV:=Ak hes
         rw [hes] at h2
         have h2':(e2 != 0)=true:=by simpa using h2
         clear hes h2
         go_wp2_with (go_at_call 103;go_must (refine (IH.out x (Nat.lt_of_lt_of_le (kid_small HX.out) (Nat.le_of_lt_succ hN)) A' c' (d+1) s' g B _ (LvIn.stay HXIN.out ((Below.refl _ _).alloc (Nat.le_of_lt (Nat.lt_of_le_of_lt hBg hglt2)) _)) (HG1.out.alloc _) hBg hs4 hs5 (by omega) (by omega)).mono ?_;rintro e w2 ⟨rfl,hg1,hc1⟩;rw [HV.out] at hg1 ⊢;have HG2:=Ak hg1;have HC2:=Ak (chg_trans HC1.out (chg_trans (chg_alloc _ _ _) hc1));clear hg1 hc1))
         go_ret
         rw [← HK.out,HV.out]
         exact ⟨rfl,HG2.out,HC2.out⟩
       ·obtain rfl:k=m:=by omega
        have hlt':decide ((k:Int)<k)=false:=by simp
        have HW:=Ak (show walkP (mayF v) (.mk lk ln ks) d s=(0,s') by rw [← HE.out,List.drop_of_length_le (by rw [← HM.out];exact Nat.le_refl _),walkKs])
        go_wp2
        go_ret
        rw [HW.out]
        exact ⟨rfl,HG1.out,HC1.out⟩
    ·have hbad:rightP (.mk lk ln ks) 1048576 0=false:=right_bad (by rw [← HM.out];exact h3)
     have hw:=Ak (may_bad ((mayF_rest (v:=v) (l:=.mk lk ln ks) (d:=d) (s:=s) (by omega) (fun h=>h3 (by rw [HM.out,show lk=2 from h.1,show ks=[] from h.2];rfl))).trans (if_pos hbad)) (by decide))
     have h3':((m:Int) != arityP lk)=true:=by simp [h3]
     clear hbad h3
     go_upto_region 4 with (fail)
     by_cases h4:arityP lk<0
     ·go_quiet ((go_at_call 77;exact Calls.quiet_of_same (arity_calls _ _)))
      go_wp2
      go_ret
      rw [hw.out]
      exact ⟨rfl,HF.out.1,chg_drewN HF.out.2 _⟩
     ·go_quiet ((go_at_call 77;exact Calls.quiet_of_same (arity_calls _ _)))
      go_wp2
      go_ret
      rw [hw.out]
      exact ⟨rfl,HF.out.1,chg_drewN HF.out.2 _⟩
end Go.Proofs.Ytcgkeolgflphiaa

namespace Go.Proofs.Ytcgkeolgflphiaa
open Go.RowKit Go.Proofs.YtcgkeolgflphiaaW.PrintWords Go.RegionInvYtcgkeolgflphiaa

set_option maxHeartbeats 4000000 in
theorem refMay_calls (A:Option Addr) (c:Nat) (l:Lv) (v:Int) (w:World) (hin:LvIn w w.heap.size A c l) :
  Calls Try.prog 85 #[lvV A c l,.int .i64 v] w fun e w'=>e=.returned (.int .i64 (mayB v l))∧Below w.heap.size w w':=by
 have HIN:=Ak hin
 clear hin
 unfold lvV
 go_enter Try.func85,Try.ntmps85
 have hnew:NumAt ((w.alloc (.cells #[.int .i64 l.kind,.int .i64 l.num,.slice A l.kids.length c] 24 (0,0))).alloc (.cells #[.int .i64 0] 3 (0,0))) (w.heap.size+1) 0:=by
  have:=blk_new (w.alloc (.cells #[.int .i64 l.kind,.int .i64 l.num,.slice A l.kids.length c] 24 (0,0))) (.cells #[.int .i64 0] 3 (0,0))
  simpa [NumAt] using this
 have HNEW:=Ak hnew
 clear hnew
 go_wp2_with (go_at_call 103;go_must (refine (ref_may v _ l (Nat.lt_succ_self _) A c 1 0 (w.heap.size+1) w.heap.size _ (LvIn.stay HIN.out (below_alloc (below_alloc (Below.refl _ _) _) _)) HNEW.out (Nat.le_succ _) (by decide) (by decide) (by decide) (by decide)).mono ?_;rintro e w1 ⟨rfl,-,hc⟩;have HB:=Ak (two_below hc);clear hc))
 go_ret
 exact ⟨rfl,HB.out⟩
end Go.Proofs.Ytcgkeolgflphiaa

namespace Go.Proofs.Ytcgkeolgflphiaa
open Go.RowKit Go.Proofs.YtcgkeolgflphiaaW.PrintWords Go.RegionInvYtcgkeolgflphiaa

def bt (s:ByteArray) (i:Nat):Nat:=(s.data.toList.getD i 0).toNat
theorem bt_get (s:ByteArray) (i:Nat) (h:i<s.size):(s[i]'h).toNat=bt s i:=by
 obtain ⟨⟨l⟩⟩:=s
 have hl:i<l.length:=h
 unfold bt
 simp only [List.getD,List.getElem?_eq_getElem hl,Option.getD_some]
 rfl
def nchP (x:Nat):Prop:=97≤x∧x≤122∨48≤x∧x≤57∨x=95∨x=46
instance (x:Nat):Decidable (nchP x):=by unfold nchP;infer_instance
def NameP (s:ByteArray):Prop:=(1≤s.size∧s.size≤32)∧(97≤bt s 0∧bt s 0≤122)∧∀ i,i<s.size→nchP (bt s i)
instance (s:ByteArray):Decidable (NameP s):=by unfold NameP;infer_instance
def nameB (s:ByteArray):Bool:=decide (NameP s)
theorem name_no {s:ByteArray} (h:¬ NameP s):nameB s=false:=decide_eq_false h
theorem name_yes {s:ByteArray} (h:NameP s):nameB s=true:=decide_eq_true h
set_option maxHeartbeats 4000000 in
theorem name_calls (s:ByteArray) (w:World) :
  Calls Try.prog 33 #[.string s] w fun e w'=>e=.returned (.bool (nameB s))∧Below w.heap.size w w':=by
 go_enter Try.func33,Try.ntmps33
 by_cases h1:s.size<1
 ·have HR:=Ak (name_no (s:=s) (fun h=>by have:=h.1.1;omega))
  go_wp2
  go_ret
  rw [HR.out]
  exact ⟨rfl,Below.refl _ _⟩
 by_cases h2:32<s.size
 ·have HR:=Ak (name_no (s:=s) (fun h=>by have:=h.1.2;omega))
  go_wp2
  go_ret
  rw [HR.out]
  exact ⟨rfl,Below.refl _ _⟩
 have h0:0<s.size:=by omega
 have hb0:=bt_get s 0 h0
 obtain ⟨x0,hx0⟩:∃ x0,x0=bt s 0:=⟨_,rfl⟩
 rw [← hx0] at hb0
 have HX0:=Ak hx0
 clear hx0
 by_cases h3:x0<97
 ·have HR:=Ak (name_no (s:=s) (fun h=>by have:=h.2.1.1;have:=HX0.out;omega))
  go_wp2
  go_ret
  rw [HR.out]
  exact ⟨rfl,Below.refl _ _⟩
 by_cases h4:122<x0
 ·have HR:=Ak (name_no (s:=s) (fun h=>by have:=h.2.1.2;have:=HX0.out;omega))
  go_wp2
  go_ret
  rw [HR.out]
  exact ⟨rfl,Below.refl _ _⟩
 go_wp2
 go_loopw [25] (fun i wr=>∃ k:Nat,i=.int .i64 k∧k≤s.size∧Aside0 (∀ j,j<k→nchP (bt s j))∧Aside0 (Below w.heap.size w wr)) (fun i _=>s.size - (intOf i).toNat)
 case atStart=>exact ⟨0,rfl,Nat.zero_le _,⟨fun j h=>by omega⟩,⟨Below.refl _ _⟩⟩
 case round =>
  obtain ⟨k,rfl,hk,HK,HBW⟩:=hrel
  by_cases hlt:k<s.size
  ·have hbk:=bt_get s k hlt
   obtain ⟨x,hx⟩:∃ x,x=bt s k:=⟨_,rfl⟩
   rw [← hx] at hbk
   have HX:=Ak hx
   have hxx:x<256:=by rw [← hbk];exact (s[k]'hlt).toNat_lt
   clear hx
   by_cases hn:nchP x
   ·have HN:=Ak (show ∀ j,j<k+1→nchP (bt s j) from fun j hj=>by
     by_cases h:j<k
     ·exact HK.out j h
     ·have:j=k:=by omega
      rw [this,← HX.out];exact hn)
    unfold nchP at hn
    rcases hn with ⟨q1,q2⟩ | ⟨q1,q2⟩ | q1 | q1
    ·have b1:((x:Int) != 95)=true:=by simp;omega
     have b2:((x:Int) != 46)=true:=by simp;omega
     go_wp2
     go_roundw
     case rel=>exact ⟨k+1,by go_num,by omega,HN,HBW⟩
     case measure=>(simp [intOf];try omega)
    ·have b1:((x:Int) != 95)=true:=by simp;omega
     have b2:((x:Int) != 46)=true:=by simp;omega
     have q3:x<97:=by omega
     go_wp2
     go_roundw
     case rel=>exact ⟨k+1,by go_num,by omega,HN,HBW⟩
     case measure=>(simp [intOf];try omega)
    ·have b1:((x:Int) != 95)=false:=by simp;omega
     have q3:x<97:=by omega
     have q4:57<x:=by omega
     have b2:((x:Int) != 46)=true:=by simp;omega
     clear q1
     go_wp2
     go_roundw
     case rel=>exact ⟨k+1,by go_num,by omega,HN,HBW⟩
     case measure=>(simp [intOf];try omega)
    ·have b1:((x:Int) != 95)=true:=by simp;omega
     have b2:((x:Int) != 46)=false:=by simp;omega
     have q3:x<97:=by omega
     have q4:(x:Int)<48:=by omega
     have q5:decide ((x:Int)<48)=true:=by simpa using q4
     clear q1
     go_wp2
     go_roundw
     case rel=>exact ⟨k+1,by go_num,by omega,HN,HBW⟩
     case measure=>(simp [intOf];try omega)
   ·have HR:=Ak (name_no (s:=s) (fun h=>hn (by rw [HX.out];exact h.2.2 k hlt)))
    unfold nchP at hn
    have b1:((x:Int) != 95)=true:=by simp;omega
    have b2:((x:Int) != 46)=true:=by simp;omega
    have hc:x<48∨57<x∧x<97∨122<x:=by omega
    clear hn
    rcases hc with q1 | ⟨q1,q2⟩ | q1
    all_goals go_wp2
    all_goals go_ret
    all_goals rw [HR.out]
    all_goals exact ⟨rfl,HBW.out⟩
  ·have hks:k=s.size:=by omega
   have HR:=Ak (name_yes (s:=s) ⟨⟨by omega,by omega⟩,⟨by have:=HX0.out;omega,by have:=HX0.out;omega⟩,fun i hi=>HK.out i (by omega)⟩)
   clear hks
   go_wp2
   go_ret
   rw [HR.out]
   exact ⟨rfl,HBW.out⟩
set_option maxHeartbeats 4000000 in
theorem refname_calls (s:ByteArray) (w:World) (hs:s.size≤140737488355328) :
  Calls Try.prog 36 #[.string s] w fun e w'=>e=.returned (.bool (nameB s))∧Below w.heap.size w w':=by
 go_enter Try.func36,Try.ntmps36
 go_wp2
 go_loopw [8] (fun i wr=>∃ k:Nat,i=.int .i64 k∧k≤s.size∧Aside0 ((∀ j,j<k→nchP (bt s j))∧(0<k→97≤bt s 0∧bt s 0≤122))∧Aside0 (Below w.heap.size w wr)) (fun i _=>s.size - (intOf i).toNat)
 case atStart=>exact ⟨0,rfl,Nat.zero_le _,⟨fun j h=>by omega,fun h=>by omega⟩,⟨Below.refl _ _⟩⟩
 case round =>
  obtain ⟨k,rfl,hk,HK,HBW⟩:=hrel
  by_cases hlt:k<s.size
  ·have hbk:=bt_get s k hlt
   obtain ⟨x,hx⟩:∃ x,x=bt s k:=⟨_,rfl⟩
   rw [← hx] at hbk
   have HX:=Ak hx
   have hxx:x<256:=by rw [← hbk];exact (s[k]'hlt).toNat_lt
   clear hx
   by_cases hn:nchP x∧(k=0→97≤x∧x≤122)
   ·have HN:=Ak (show (∀ j,j<k+1→nchP (bt s j))∧(0<k+1→97≤bt s 0∧bt s 0≤122) from ⟨fun j hj=>by
     by_cases h:j<k
     ·exact HK.out.1 j h
     ·have:j=k:=by omega
      rw [this,← HX.out];exact hn.1,fun _=>by
     by_cases h:0<k
     ·exact HK.out.2 h
     ·have h0:k=0:=by omega
      have:=hn.2 h0
      rw [HX.out,h0] at this
      exact this⟩)
    unfold nchP at hn
    rcases hn with ⟨q1,q2⟩ | ⟨q1,q2⟩ | q1 | q1
    ·have b1:((x:Int) != 95)=true:=by simp;omega
     have b2:((x:Int) != 46)=true:=by simp;omega
     go_wp2
     go_roundw
     case rel=>exact ⟨k+1,by go_num,by omega,HN,HBW⟩
     case measure=>(simp [intOf];try omega)
    ·have b1:((x:Int) != 95)=true:=by simp;omega
     have b2:((x:Int) != 46)=true:=by simp;omega
     have q3:x<97:=by omega
     go_wp2
     go_roundw
     case rel=>exact ⟨k+1,by go_num,by omega,HN,HBW⟩
     case measure=>(simp [intOf];try omega)
    ·have b1:((x:Int) != 95)=false:=by simp;omega
     have q3:x<97:=by omega
     have q4:57<x:=by omega
     have b2:((x:Int) != 46)=true:=by simp;omega
     clear q1
     go_wp2
     go_roundw
     case rel=>exact ⟨k+1,by go_num,by omega,HN,HBW⟩
     case measure=>(simp [intOf];try omega)
    ·have b1:((x:Int) != 95)=true:=by simp;omega
     have b2:((x:Int) != 46)=false:=by simp;omega
     have q3:x<97:=by omega
     have q4:(x:Int)<48:=by omega
     have q5:decide ((x:Int)<48)=true:=by simpa using q4
     clear q1
     go_wp2
     go_roundw
     case rel=>exact ⟨k+1,by go_num,by omega,HN,HBW⟩
     case measure=>(simp [intOf];try omega)
   ·have HR:=Ak (name_no (s:=s) (fun h=>hn ⟨by rw [HX.out];exact h.2.2 k hlt,fun h0=>by subst h0;rw [HX.out];exact h.2.1⟩))
    unfold nchP at hn
    by_cases ha:97≤x∧x≤122
    ·exact absurd ⟨.inl ha,fun _=>ha⟩ hn
    ·have ha':x<97∨122<x:=by omega
     by_cases hz:k=0
     ·have kb:((k:Int) == 0)=true:=by simp [hz]
      clear hn ha hz
      rcases ha' with q1 | q1
      all_goals go_wp2
      all_goals first
       | (go_ret;rw [HR.out];exact ⟨rfl,HBW.out⟩)
       | (exfalso;simp_all;omega)
     ·have kb:((k:Int) == 0)=false:=by simp [hz]
      have b1:((x:Int) != 95)=true:=by simp;omega
      have b2:((x:Int) != 46)=true:=by simp;omega
      have hc:x<48∨57<x∧x<97∨122<x:=by omega
      clear hn ha ha' hz
      rcases hc with q1 | ⟨q1,q2⟩ | q1
      all_goals go_wp2
      all_goals first
       | (go_ret;rw [HR.out];exact ⟨rfl,HBW.out⟩)
       | (exfalso;simp_all;omega)
  ·have hks:k=s.size:=by omega
   have HR:=Ak (show nameB s=decide (1≤s.size∧s.size≤32) by
    unfold nameB
    congr 1
    apply propext
    constructor
    ·exact fun h=>h.1
    ·exact fun h=>⟨h,HK.out.2 (by omega),fun i hi=>HK.out.1 i (by omega)⟩)
   clear hks
   by_cases q1:1≤s.size
   ·by_cases q2:s.size≤32
    ·have HE:=Ak (HR.out.trans (decide_eq_true ⟨q1,q2⟩))
     go_wp2
     go_ret
     rw [HE.out]
     refine ⟨?_,HBW.out⟩
     simp
     try omega
    ·have HE:=Ak (HR.out.trans (decide_eq_false (fun h=>q2 h.2)))
     go_wp2
     go_ret
     rw [HE.out]
     refine ⟨?_,HBW.out⟩
     simp
     try omega
   ·have HE:=Ak (HR.out.trans (decide_eq_false (fun h=>q1 h.1)))
    go_wp2
    go_ret
    rw [HE.out]
    exact ⟨rfl,HBW.out⟩
end Go.Proofs.Ytcgkeolgflphiaa

namespace Go.Proofs.Ytcgkeolgflphiaa
open Go.RowKit Go.Proofs.YtcgkeolgflphiaaW.PrintWords Go.RegionInvYtcgkeolgflphiaa

def mayLs (v:Int):List Lv→Int
 | []=>0
 | l :: r=>if mayB v l=0 then mayLs v r else mayB v l
theorem mayLs_go {v:Int} {l:Lv} {r:List Lv} (h:mayB v l=0):mayLs v (l :: r)=mayLs v r:=by rw [mayLs,if_pos h]
theorem mayLs_stop {v:Int} {l:Lv} {r:List Lv} (h:mayB v l≠0):mayLs v (l :: r)=mayB v l:=by rw [mayLs,if_neg h]
def mnP (v:Int) (t:Tm):Int:=
 if (t.kids.length:Int)≠arZ t.kind then 1 else if t.kind=1∧(t.num<0∨1048576<t.num) then 1 else
 if t.kind=2 then mayB v t.lv else if t.kind≠7 then 0 else if nameB t.name=false then 8 else if 6<t.ls.length then 2 else mayLs v t.ls
theorem mn_kids {v:Int} {t:Tm} (h:(t.kids.length:Int)≠arZ t.kind):mnP v t=1:=if_pos h
theorem mn_num {v:Int} {t:Tm} (h0:(t.kids.length:Int)=arZ t.kind) (h:t.kind=1∧(t.num<0∨1048576<t.num)):mnP v t=1:=by
 unfold mnP;rw [if_neg (fun h=>h h0),if_pos h]
theorem mn_sort {v:Int} {t:Tm} (h0:(t.kids.length:Int)=arZ t.kind) (h:t.kind=2):mnP v t=mayB v t.lv:=by
 unfold mnP;rw [if_neg (fun h=>h h0),if_neg (fun h'=>by have:=h'.1;omega),if_pos h]
theorem mn_else {v:Int} {t:Tm} (h0:(t.kids.length:Int)=arZ t.kind) (h1:¬ (t.kind=1∧(t.num<0∨1048576<t.num))) (h2:t.kind≠2) (h7:t.kind≠7):mnP v t=0:=by
 unfold mnP;rw [if_neg (fun h=>h h0),if_neg h1,if_neg h2,if_pos h7]
theorem mn_const {v:Int} {t:Tm} (h0:(t.kids.length:Int)=arZ t.kind) (h:t.kind=7):mnP v t=if nameB t.name=false then 8 else if 6<t.ls.length then 2 else mayLs v t.ls:=by
 unfold mnP;rw [if_neg (fun h=>h h0),if_neg (fun h'=>by have:=h'.1;omega),if_neg (by omega),if_neg (by omega)]
theorem mn_arity {v:Int} {t:Tm} (h:mnP v t=0):(t.kids.length:Int)=arZ t.kind:=by
 by_cases h1:(t.kids.length:Int)=arZ t.kind
 ·exact h1
 ·rw [mn_kids h1] at h;exact absurd h (by decide)
theorem mn_nK {v:Int} {t:Tm} (h:mnP v t=0):nK t=t.kids.length:=by
 have h1:=mn_arity h
 unfold nK
 rw [if_neg (by omega)]
 omega
theorem blw_drewN {B:Nat} {a w:World} (h:Below B a w) (n:Nat):Below B a (w.drewN n):=h.trans ⟨rfl,rfl,rfl,Nat.le_refl _,fun _ _=>rfl⟩
theorem LvIn.stay' {w:World} {A:Option Addr} {c:Nat} {l:Lv} {o:Obj} (h:LvIn w w.heap.size A c l):LvIn (w.alloc o) (w.alloc o).heap.size A c l:=(h.stay ((Below.refl _ _).alloc (Nat.le_refl _) o)).all
theorem may_at (A:Option Addr) (c m:Nat) (k n:Int) (l:Lv) (v:Int) (w:World) (hk:l.kind=k) (hn:l.num=n) (hm:l.kids.length=m) (hin:LvIn w w.heap.size A c l) :
  Calls Try.prog 84 #[.agg #[.int .i64 k,.int .i64 n,.slice A m c],.int .i64 v] w fun e w'=>e=.returned (.int .i64 (mayB v l))∧Below w.heap.size w w':=by
 subst hk;subst hn;subst hm
 exact may_calls A c l v w hin
set_option maxRecDepth 100000 in
set_option maxHeartbeats 8000000 in
theorem maynode_calls (t:Tm) (p:Pl) (v:Int) (w:World) (hin:TmIn w w.heap.size p t) :
  Calls Try.prog 63 #[tmV p t,.int .i64 v] w fun e w'=>e=.returned (.int .i64 (mnP v t))∧Below w.heap.size w w':=by
 obtain ⟨W,hW⟩:∃ W,W=w.alloc (tmO p t):=⟨_,rfl⟩
 have hb:Below w.heap.size w W:=by rw [hW];exact below_alloc (Below.refl _ _) _
 have HX:=Ak (show W.heap[w.heap.size]?=some (tmO p t) by rw [hW];exact blk_new _ _)
 have hin1:=hin.stay hb
 have HB:=Ak hb
 have HLV:=Ak (hin1.lv.all)
 have HLS:=Ak (hin1.ls.all)
 have hlen:=hin1.len
 have hll:=hin1.ls.len
 clear hin hb hin1
 obtain ⟨pA,pc,pB,pd,pK,pe⟩:=p
 obtain ⟨tk,tn,nm,lv,ls,ks⟩:=t
 unfold tmV
 dsimp only [Tm.kind,Tm.num,Tm.name,Tm.lv,Tm.ls,Tm.kids] at hlen hll HX HLV HLS ⊢
 simp only [Lv.kids] at hll
 obtain ⟨c0,c1,c2,c3,c4,c5,c6,c7⟩:=row8 HX.out
 dsimp only [Tm.kind,Tm.num,Tm.name,Tm.lv,Tm.ls,Tm.kids] at c0 c1 c2 c3 c4 c5 c6 c7
 obtain ⟨lk,hlk⟩:∃ x,lv.kind=x:=⟨_,rfl⟩
 obtain ⟨ln,hln⟩:∃ x,lv.num=x:=⟨_,rfl⟩
 obtain ⟨lm,hlm⟩:∃ x,lv.kids.length=x:=⟨_,rfl⟩
 obtain ⟨L,hL⟩:∃ x,ks.length=x:=⟨_,rfl⟩
 obtain ⟨M,hM⟩:∃ x,ls.length=x:=⟨_,rfl⟩
 rw [show tmO ⟨pA,pc,pB,pd,pK,pe⟩ (.mk tk tn nm lv ls ks)=.cells #[.int .i64 tk,.int .i64 tn,.string nm,.int .i64 lv.kind,.int .i64 lv.num,.slice pA lv.kids.length pc,.slice pB ls.length pd,.slice pK ks.length pe] 27 (0,0) from rfl] at hW
 rw [hlk,hln,hlm,hM,hL] at hW ⊢
 rw [hlk] at c3
 rw [hln] at c4
 rw [hlm] at c5
 rw [hM] at c6
 rw [hL] at c7
 rw [hL] at hlen
 rw [hM] at hll
 have HLK:=Ak hlk
 have HLN:=Ak hln
 have HLM:=Ak hlm
 have HL:=Ak hL
 have HM:=Ak hM
 clear hlk hln hlm hL hM
 have hM9:M≤9223372036854775807:=by omega
 have hL9:L≤9223372036854775807:=by omega
 clear hlen hll
 go_enter Try.func63,Try.ntmps63
 go_upto_region 1 with (fail)
 rw [← hW]
 clear hW
 obtain ⟨ar,har⟩:∃ x,x=arZ tk:=⟨_,rfl⟩
 have HAR:=Ak har
 have HAC:=Ak (show ∀ w,Calls Try.prog 83 #[.int .i64 tk] w fun e w'=>e=.returned (.int .i64 ar)∧w'=w from fun w=>by rw [har];exact tar_calls _ _)
 clear har
 by_cases h0:(L:Int)=ar
 ·have h0':((L:Int) != ar)=false:=by simp [h0]
  have H0:=Ak (show (Tm.kids (.mk tk tn nm lv ls ks)).length=arZ (Tm.kind (.mk tk tn nm lv ls ks)) by dsimp only [Tm.kids,Tm.kind];rw [HL.out,h0,HAR.out])
  clear h0
  by_cases k1:tk=1∧(tn<0∨1048576<tn)
  ·have HR:=Ak (mn_num (v:=v) H0.out k1)
   obtain ⟨k1,kn⟩:=k1
   have e1:(tk == 1)=true:=by simp [k1]
   clear k1
   by_cases hn0:tn<0
   ·go_quiet ((go_at_call 83;exact Calls.quiet_of_same (HAC.out _)))
    go_wp2
    go_ret
    rw [HR.out]
    refine ⟨rfl,?_⟩
    exact (blw_drewN HB.out _)
   ·have hn1:1048576<tn:=by omega
    go_quiet ((go_at_call 83;exact Calls.quiet_of_same (HAC.out _)))
    go_wp2
    go_ret
    rw [HR.out]
    refine ⟨rfl,?_⟩
    exact (blw_drewN HB.out _)
  ·by_cases k2:tk=2
   ·have HR:=Ak (mn_sort (v:=v) H0.out k2)
    have e1:(tk == 1)=false:=by simp [k2]
    have e2:(tk == 2)=true:=by simp [k2]
    clear k1 k2
    go_quiet ((go_at_call 83;exact Calls.quiet_of_same (HAC.out _)))
    go_wp2_with (go_at_call 84;go_must (refine (may_at pA pc lm lk ln lv v _ HLK.out HLN.out HLM.out (by exact LvS.same HLV.out (fun _ _ _=>rfl))).mono ?_;rintro e w1 ⟨rfl,hb⟩;have HB1:=Ak hb;clear hb))
    go_ret
    rw [HR.out]
    refine ⟨rfl,?_⟩
    refine Below.trans ?_ (HB1.out.mono HB.out.size)
    exact (blw_drewN HB.out _)
   ·have e2:(tk == 2)=false:=by simp [k2]
    by_cases k7:tk=7
    ·have e1:(tk == 1)=false:=by simp [k7]
     have e7:(tk != 7)=false:=by simp [k7]
     have HC:=Ak (show mnP v (.mk tk tn nm lv ls ks)=if nameB nm=false then 8 else if 6<ls.length then 2 else mayLs v ls from mn_const H0.out k7)
     clear k1 k2 k7
     cases hnm:nameB nm with
     | false =>
      have HR:=Ak (HC.out.trans (if_pos hnm))
      have HNM:=Ak hnm
      clear hnm
      go_quiet ((go_at_call 83;exact Calls.quiet_of_same (HAC.out _)))
      go_wp2_with (go_at_call 33;go_must (refine (name_calls nm _).mono ?_;rintro e w1 ⟨rfl,hb⟩;rw [HNM.out];have HB1:=Ak hb;clear hb))
      go_ret
      rw [HR.out]
      refine ⟨rfl,?_⟩
      refine Below.trans ?_ (HB1.out.mono HB.out.size)
      exact (blw_drewN HB.out _)
     | true =>
      have HNM:=Ak hnm
      have HC2:=Ak (HC.out.trans (if_neg (by rw [hnm];decide)))
      clear hnm
      by_cases h6:6<M
      ·have HR:=Ak (HC2.out.trans (if_pos (by rw [HM.out];exact h6)))
       have h6':(6:Int)<M:=by omega
       go_quiet ((go_at_call 83;exact Calls.quiet_of_same (HAC.out _)))
       go_wp2_with (go_at_call 33;go_must (refine (name_calls nm _).mono ?_;rintro e w1 ⟨rfl,hb⟩;rw [HNM.out];have c6:=(hb.cell (p:=⟨w.heap.size,6,none⟩) (blk_lt HX.out)).trans c6;have HB1:=Ak hb;clear hb))
       go_ret
       rw [HR.out]
       refine ⟨rfl,?_⟩
       refine Below.trans ?_ (HB1.out.mono HB.out.size)
       exact (blw_drewN HB.out _)
      ·have HR:=Ak (HC2.out.trans (if_neg (by rw [HM.out];exact h6)))
       have h6':¬ ((6:Int)<M):=by omega
       clear h6
       go_quiet ((go_at_call 83;exact Calls.quiet_of_same (HAC.out _)))
       go_wp2_with (go_at_call 33;go_must (refine (name_calls nm _).mono ?_;rintro e w1 ⟨rfl,hb⟩;rw [HNM.out];have c6:=(hb.cell (p:=⟨w.heap.size,6,none⟩) (blk_lt HX.out)).trans c6;have HLS1:=Ak (LvS.same HLS.out (w':=w1) (fun k _ hk=>hb.block k hk));have HB1:=Ak hb;clear hb))
       have HB2:=Ak (show Below w.heap.size w w1 from Below.trans ((blw_drewN HB.out _)) (HB1.out.mono HB.out.size))
       go_loopw [55] (fun i wr=>∃ k:Nat,i=.int .i64 k∧k≤M∧Aside0 (mayLs v (ls.drop k)=mayLs v ls)∧Aside0 (Below w1.heap.size w1 wr)) (fun i _=>M - (intOf i).toNat)
       case atStart=>exact ⟨0,rfl,Nat.zero_le _,⟨rfl⟩,⟨Below.refl _ _⟩⟩
       case round =>
        obtain ⟨k,rfl,hk,HK,HBW⟩:=hrel
        by_cases hlt:k<M
        ·have hlt2:k<ls.length:=by rw [HM.out];exact hlt
         obtain ⟨x,hx⟩:∃ x,ls[k]?=some x:=⟨_,List.getElem?_eq_getElem hlt2⟩
         obtain ⟨A',c',hcs,hin⟩:=(LvS.same HLS1.out (w':=wr) (fun j hj _=>HBW.out.block j (Nat.lt_of_lt_of_le hj HB1.out.size))).kid k x hx
         obtain ⟨ad,rfl,d1,d2,d3⟩:=hcs.facts
         have HX:=Ak hx
         have HXIN:=Ak hin.all
         obtain ⟨xk,hxk⟩:∃ y,x.kind=y:=⟨_,rfl⟩
         obtain ⟨xn,hxn⟩:∃ y,x.num=y:=⟨_,rfl⟩
         obtain ⟨xm,hxm⟩:∃ y,x.kids.length=y:=⟨_,rfl⟩
         rw [hxk] at d1
         rw [hxn] at d2
         rw [hxm] at d3
         have HXK:=Ak hxk
         have HXN:=Ak hxn
         have HXM:=Ak hxm
         clear hcs hx hin hlt2 hxk hxn hxm
         by_cases h2:mayB v x=0
         ·have HK2:=Ak (show mayLs v (ls.drop (k+1))=mayLs v ls by rw [← HK.out,drop_kid HX.out,mayLs_go h2])
          have HV:=Ak h2
          clear h2
          go_wp2_with (go_at_call 84;go_must (refine (may_at A' c' xm xk xn x v _ HXK.out HXN.out HXM.out (by exact LvIn.stay' HXIN.out)).mono ?_;rintro e w2 ⟨rfl,hb⟩;rw [HV.out];have HB3:=Ak hb;clear hb))
          go_roundw
          case rel=>exact ⟨k+1,by go_num,by omega,HK2,⟨Below.trans (Below.alloc HBW.out HBW.out.size _) (HB3.out.mono (by simp;have:=HBW.out.size;omega))⟩⟩
          case measure=>(simp [intOf];try omega)
         ·have HV:=Ak (show mayLs v ls=mayB v x by rw [← HK.out,drop_kid HX.out,mayLs_stop h2])
          obtain ⟨e2,he2⟩:∃ e2,e2=mayB v x:=⟨_,rfl⟩
          rw [← he2] at h2
          have h2':(e2 != 0)=true:=by simpa using h2
          have HE2:=Ak he2
          clear h2 he2
          go_wp2_with (go_at_call 84;go_must (refine (may_at A' c' xm xk xn x v _ HXK.out HXN.out HXM.out (by exact LvIn.stay' HXIN.out)).mono ?_;rintro e w2 ⟨rfl,hb⟩;rw [← HE2.out];have HB3:=Ak hb;clear hb))
          go_ret
          rw [HR.out,HV.out,HE2.out]
          exact ⟨rfl,Below.trans HB2.out ((Below.trans (Below.alloc HBW.out HBW.out.size _) (HB3.out.mono (by simp;have:=HBW.out.size;omega))).mono HB2.out.size)⟩
        ·obtain rfl:k=M:=by omega
         have hlt':decide ((k:Int)<k)=false:=by simp
         have HZ:=Ak (show mayLs v ls=0 by rw [← HK.out,List.drop_of_length_le (by rw [HM.out];exact Nat.le_refl _),mayLs])
         go_wp2
         go_ret
         rw [HR.out,HZ.out]
         exact ⟨rfl,Below.trans HB2.out (HBW.out.mono HB2.out.size)⟩
    ·have e7:(tk != 7)=true:=by simp [k7]
     have HR:=Ak (mn_else (v:=v) H0.out k1 k2 k7)
     by_cases k1':tk=1
     ·have e1:(tk == 1)=true:=by simp [k1']
      have q1:0≤tn:=by omega
      have q2:tn≤1048576:=by omega
      clear k1 k2 k7 k1'
      go_quiet ((go_at_call 83;exact Calls.quiet_of_same (HAC.out _)))
      go_wp2
      go_ret
      rw [HR.out]
      refine ⟨rfl,?_⟩
      exact (blw_drewN HB.out _)
     ·have e1:(tk == 1)=false:=by simp [k1']
      clear k1 k2 k7 k1'
      go_quiet ((go_at_call 83;exact Calls.quiet_of_same (HAC.out _)))
      go_wp2
      go_ret
      rw [HR.out]
      refine ⟨rfl,?_⟩
      exact (blw_drewN HB.out _)
 ·have h0':((L:Int) != ar)=true:=by simp [h0]
  have HR:=Ak (mn_kids (v:=v) (t:=.mk tk tn nm lv ls ks) (show (ks.length:Int)≠arZ tk by rw [HL.out,← HAR.out];exact h0))
  clear h0
  go_quiet ((go_at_call 83;exact Calls.quiet_of_same (HAC.out _)))
  go_wp2
  go_ret
  rw [HR.out]
  refine ⟨rfl,?_⟩
  exact (blw_drewN HB.out _)
end Go.Proofs.Ytcgkeolgflphiaa

namespace Go.Proofs.Ytcgkeolgflphiaa
open Go.RowKit Go.Proofs.YtcgkeolgflphiaaW.PrintWords Go.RegionInvYtcgkeolgflphiaa

def ErrAt (w:World) (g:Nat) (n:Int):Prop:=w.heap[g]?=some (.cells #[.int .i64 n] 32 (0,0))
theorem ErrAt.cell {w:World} {g:Nat} {n:Int} (h:ErrAt w g n):w.cell? ⟨g,0,none⟩=some (.int .i64 n):=by rw [cell_of_row _ _ _ _ _ _ h];rfl
theorem ErrAt.set {w:World} {g:Nat} {n:Int} (h:ErrAt w g n) (m:Int):ErrAt (w.setCell ⟨g,0,none⟩ (.int .i64 m)) g m:=blk_put h 0 _ rfl
def mtF (v:Int) (t:Tm) (d _:Int) (s:Int × Int):Bool × (Int × Int):=
 if 64<d∨400<s.1+1 then (false,(s.1+1,2)) else (decide (mnP v t=0),(s.1+1,mnP v t))
theorem mtF_long {v:Int} {t:Tm} {d b:Int} {s:Int × Int} (h:64<d∨400<s.1+1):mtF v t d b s=(false,(s.1+1,2)):=if_pos h
theorem mtF_node {v:Int} {t:Tm} {d b:Int} {s:Int × Int} (h:¬ (64<d∨400<s.1+1)):mtF v t d b s=(decide (mnP v t=0),(s.1+1,mnP v t)):=if_neg h
def RepY (g1 g2 g3:Nat) (v:Int) (s:Int × Int) (w:World):Prop:=NumAt w g1 s.1∧ErrAt w g2 s.2∧NumAt w g3 v
def InvY (s:Int × Int):Prop:=0≤s.1∧s.1≤400
def GY (g1 g2 g3:Nat) (k:Nat):Prop:=k=g1∨k=g2∨k=g3
theorem mtF_ok {v:Int} {t:Tm} {d b:Int} {s:Int × Int} (hd:0≤d∧d≤65) (hI:InvY s) (h:(mtF v t d b s).1=true):InvY (mtF v t d b s).2∧∀ _:Fin (nK t),0≤d+1∧d+1≤65:=by
 by_cases h1:64<d∨400<s.1+1
 ·rw [mtF_long h1] at h;cases h
 ·rw [mtF_node h1] at h ⊢
  obtain ⟨i1,i2⟩:=hI
  unfold InvY
  simp only
  exact ⟨by omega,fun _=>by omega⟩
def mayT (v:Int) (t:Tm):Int:=(foldP (mtF v) t 1 0 (0,0)).2.2
theorem maynode_at (t:Tm) (p:Pl) (v:Int) (w W:World) (B:Nat) (a:Value) (ha:a=tmV p t) (hin:TmIn W B p t) (hb:Below B W w) :
  Calls Try.prog 63 #[a,.int .i64 v] w fun e w'=>e=.returned (.int .i64 (mnP v t))∧Below w.heap.size w w':=by
 subst ha
 exact maynode_calls t p v w (TmS.all (hin.stay hb))
set_option maxHeartbeats 4000000 in
theorem mat1_calls (t:Tm) (p:Pl) (d b v:Int) (s:Int × Int) (w:World) (g1 g2 g3 B:Nat) (h12:g1≠g2) (h13:g1≠g3) (h23:g2≠g3) (hB1:B≤g1) (hB2:B≤g2) (_hd0:0≤d) (_hd1:d≤65) (hI:InvY s) (hin:TmIn w B p t) (hR:RepY g1 g2 g3 v s w) :
  Calls Try.prog 62 #[tmV p t,.int .i64 d,.int .i64 b,.pointer (some ⟨g1,0,none⟩),.pointer (some ⟨g2,0,none⟩),.pointer (some ⟨g3,0,none⟩)] w (FoldPost (RepY g1 g2 g3 v) (GY g1 g2 g3) w (mtF v t d b s)):=by
 obtain ⟨n,er⟩:=s
 obtain ⟨h1,h2,h3⟩:=hR
 obtain ⟨i1,i2⟩:=hI
 simp only at h1 h2 h3 i1 i2
 have HIN:=Ak hin
 obtain ⟨W,hW⟩:∃ W,W=(w.setCell ⟨g1,0,none⟩ (.int .i64 (n+1))).alloc (tmO p t):=⟨_,rfl⟩
 have hz1:=blk_lt h1
 have hz2:=blk_lt h2
 have hz3:=blk_lt h3
 have cs:=chg_set w g1 0 (.int .i64 (n+1))
 have hch:Chg (fun k=>k=g1) w W:=by rw [hW];exact chg_trans cs (chg_alloc _ _ _)
 have k1:NumAt W g1 (n+1):=by rw [hW];exact (h1.set _).alloc _
 have k2:ErrAt W g2 er:=(hch.block g2 hz2 (fun e=>h12 e.symm)).trans h2
 have k3:NumAt W g3 v:=(hch.block g3 hz3 (fun e=>h13 e.symm)).trans h3
 have HCH:=Ak hch
 have K1:=Ak k1
 have K2:=Ak k2
 have K3:=Ak k3
 have HX:=Ak (show W.heap[w.heap.size]?=some (tmO p t) by rw [hW];have:=blk_new (w.setCell ⟨g1,0,none⟩ (.int .i64 (n+1))) (tmO p t);simpa [World.setCell] using this)
 have c1:=h1.cell
 have f1:=blk_frozen h1 0
 clear h1 h2 h3 cs hch k1 k2 k3 hin
 unfold tmV
 unfold tmO at hW
 go_enter Try.func62,Try.ntmps62
 go_upto_region 2 with (fail)
 rw [← hW]
 clear hW
 have c1':=K1.out.cell
 have c2':=K2.out.cell
 have c3':=K3.out.cell
 have f2':=blk_frozen K2.out 0
 obtain ⟨b0,b1,b2,b3,b4,b5,b6,b7⟩:=row8 HX.out
 by_cases q:64<d∨400<n+1
 ·have HE:=Ak (mtF_long (v:=v) (t:=t) (b:=b) (s:=(n,er)) q)
  have HS:Chg (fun k=>k=g2) W (W.setCell ⟨g2,0,none⟩ (.int .i64 2)):=chg_set _ _ _ _
  have HF:=Ak (show RepY g1 g2 g3 v (n+1,2) (W.setCell ⟨g2,0,none⟩ (.int .i64 2))∧Chg (GY g1 g2 g3) w (W.setCell ⟨g2,0,none⟩ (.int .i64 2)) from
   ⟨⟨(HS.block g1 (blk_lt K1.out) h12).trans K1.out,K2.out.set 2,(HS.block g3 (blk_lt K3.out) (fun e=>h23 e.symm)).trans K3.out⟩,chg_trans (HCH.out.mono fun k h=>.inl h) (HS.mono fun k h=>.inr (.inl h))⟩)
  have hc9:(W.setCell ⟨g2,0,none⟩ (.int .i64 2)).cell? ⟨g2,0,none⟩=some (.int .i64 2):=(K2.out.set 2).cell
  clear HS
  rcases q with q | q
  ·go_wp2
   go_ret
   rw [HE.out]
   exact ⟨rfl,HF.out.1,HF.out.2⟩
  ·by_cases q2:64<d
   ·go_wp2
    go_ret
    rw [HE.out]
    exact ⟨rfl,HF.out.1,HF.out.2⟩
   ·go_wp2
    go_ret
    rw [HE.out]
    exact ⟨rfl,HF.out.1,HF.out.2⟩
 ·have HE:=Ak (mtF_node (v:=v) (t:=t) (b:=b) (s:=(n,er)) q)
  have q1:d≤64:=by omega
  have q2:n+1≤400:=by omega
  clear q
  obtain ⟨m,hm⟩:∃ m,m=mnP v t:=⟨_,rfl⟩
  rw [← hm] at HE
  have HM:=Ak hm
  clear hm
  go_wp2_with (go_at_call 63;go_must (refine (maynode_at t p v _ W B _ rfl (TmIn.stay HIN.out (HCH.out.below (fun k e=>by omega) (by omega))) (Below.refl _ _)).mono ?_;rintro e w2 ⟨rfl,hb⟩;rw [← HM.out];have c2':=(hb.cell (p:=⟨g2,0,none⟩) (blk_lt K2.out)).trans c2';have f2':=(hb.frozen (p:=⟨g2,0,none⟩) (blk_lt K2.out)).trans f2';have hc9:(w2.setCell ⟨g2,0,none⟩ (.int .i64 m)).cell? ⟨g2,0,none⟩=some (.int .i64 m):=World.cell?_setCell_same' _ _ _ (by rw [c2'];rfl);have HB:=Ak hb;clear hb))
  have L2:ErrAt w2 g2 er:=(HB.out.block g2 (blk_lt K2.out)).trans K2.out
  have HS:Chg (fun k=>k=g2) w2 (w2.setCell ⟨g2,0,none⟩ (.int .i64 m)):=chg_set _ _ _ _
  have hF:RepY g1 g2 g3 v (n+1,m) (w2.setCell ⟨g2,0,none⟩ (.int .i64 m))∧Chg (GY g1 g2 g3) w (w2.setCell ⟨g2,0,none⟩ (.int .i64 m)):=
   ⟨⟨(HS.block g1 (by have:=blk_lt K1.out;have:=HB.out.size;omega) h12).trans ((HB.out.block g1 (blk_lt K1.out)).trans K1.out),L2.set m,(HS.block g3 (by have:=blk_lt K3.out;have:=HB.out.size;omega) (fun e=>h23 e.symm)).trans ((HB.out.block g3 (blk_lt K3.out)).trans K3.out)⟩,
    chg_trans (HCH.out.mono fun k h=>.inl h) (chg_trans (Chg.of_below HB.out) (HS.mono fun k h=>.inr (.inl h)))⟩
  go_ret
  rw [HE.out]
  exact ⟨by by_cases hm:m=0 <;> simp [hm],hF.1,hF.2⟩
set_option maxHeartbeats 4000000 in
theorem foldMa_calls (t:Tm) (p:Pl) (B v:Int) (BB g1 g2 g3:Nat) (w:World) (h12:g1≠g2) (h13:g1≠g3) (h23:g2≠g3) (h1:BB≤g1) (h2:BB≤g2) (h3:BB≤g3) (hin:TmIn w BB p t) (hn1:NumAt w g1 0) (hn2:ErrAt w g2 0) (hn3:NumAt w g3 v) :
  Calls Try.prog 61 #[tmV p t,.int .i64 1,.int .i64 0,vfMa g1 g2 g3] w (FoldPost (RepY g1 g2 g3 v) (GY g1 g2 g3) w (foldP (mtF v) t 1 0 (0,0))):=
 fold_Ma (mtF v) (RepY g1 g2 g3 v) InvY (fun _ d=>0≤d∧d≤65) (GY g1 g2 g3) BB (max g1 (max g2 g3)+1) g1 g2 g3 (fun k h=>by rcases h with rfl | rfl | rfl <;> omega) (by omega)
  (fun s W W' h hs=>⟨(hs g1 (.inl rfl)).trans h.1,(hs g2 (.inr (.inl rfl))).trans h.2.1,(hs g3 (.inr (.inr rfl))).trans h.2.2⟩)
  (fun t p d b s w hP _ _ hI _ hin hR=>mat1_calls t p d b v s w g1 g2 g3 BB h12 h13 h23 h1 h2 hP.1 hP.2 hI hin hR)
  (fun t d b s hP hI h=>mtF_ok hP hI h) (fun t d h=>by omega) _ t (Nat.lt_succ_self _) p 1 0 (0,0) w (by omega) (by omega) (by omega) ⟨by decide,by decide⟩ (by have:=blk_lt hn1;have:=blk_lt hn2;have:=blk_lt hn3;omega) hin ⟨hn1,hn2,hn3⟩
set_option maxHeartbeats 4000000 in
theorem mayt_calls (t:Tm) (p:Pl) (v:Int) (w:World) (hin:TmIn w w.heap.size p t) :
  Calls Try.prog 34 #[tmV p t,.int .i64 v] w fun e w'=>e=.returned (.int .i64 (mayT v t))∧Below w.heap.size w w':=by
 have HIN:=Ak hin
 obtain ⟨W,hW⟩:∃ W,W=(((w.alloc (tmO p t)).alloc (.cells #[.int .i64 v] 3 (0,0))).alloc (.cells #[.int .i64 0] 3 (0,0))).alloc (.cells #[.int .i64 0] 32 (0,0)):=⟨_,rfl⟩
 have hb:Below w.heap.size w W:=by rw [hW];exact below_alloc (below_alloc (below_alloc (below_alloc (Below.refl _ _) _) _) _) _
 have HX:=Ak (show W.heap[w.heap.size]?=some (tmO p t) by rw [hW];exact blk_alloc (blk_alloc (blk_alloc (blk_new _ _) _) _) _)
 have HN3:=Ak (show NumAt W (w.heap.size+1) v by rw [hW];have:=blk_new (w.alloc (tmO p t)) (.cells #[.int .i64 v] 3 (0,0));simp only [World.size_alloc] at this;exact blk_alloc (blk_alloc this _) _)
 have HN1:=Ak (show NumAt W (w.heap.size+1+1) 0 by rw [hW];have:=blk_new ((w.alloc (tmO p t)).alloc (.cells #[.int .i64 v] 3 (0,0))) (.cells #[.int .i64 0] 3 (0,0));simp only [World.size_alloc] at this;exact blk_alloc this _)
 have HN2:=Ak (show ErrAt W (w.heap.size+1+1+1) 0 by rw [hW];have:=blk_new (((w.alloc (tmO p t)).alloc (.cells #[.int .i64 v] 3 (0,0))).alloc (.cells #[.int .i64 0] 3 (0,0))) (.cells #[.int .i64 0] 32 (0,0));simp only [World.size_alloc] at this;exact this)
 have HB:=Ak hb
 clear hin hb
 unfold tmV
 unfold tmO at hW
 go_enter Try.func34,Try.ntmps34
 go_upto_region 2 with (fail)
 rw [← hW]
 clear hW
 obtain ⟨c0,c1,c2,c3,c4,c5,c6,c7⟩:=row8 HX.out
 go_wp2_with (first
  | (go_at_call 61;go_must (refine (foldMa_calls t p 0 v w.heap.size (w.heap.size+1+1) (w.heap.size+1+1+1) (w.heap.size+1) W (by omega) (by omega) (by omega) (by omega) (by omega) (by omega) (HIN.out.stay HB.out) HN1.out HN2.out HN3.out).mono ?_;rintro e w2 ⟨rfl,hR,hC⟩;have c9:=hR.2.1.cell;have HB2:=Ak (Chg.trans_below HB.out hC (fun k h=>by rcases h with rfl | rfl | rfl <;> omega) HB.out.size);clear hR hC)))
 go_ret
 exact ⟨rfl,HB2.out⟩
end Go.Proofs.Ytcgkeolgflphiaa

namespace Go.Proofs.Ytcgkeolgflphiaa
open Go.RowKit Go.Proofs.YtcgkeolgflphiaaW.PrintWords

def Bytes (xs:List Int):Prop:=∀ x∈xs,0≤x∧x≤255
theorem Bytes.at_ {xs:List Int} (h:Bytes xs) (i:Int):0≤rd xs i∧rd xs i≤255:=by
 unfold rd
 rw [List.getD_eq_getElem?_getD]
 cases e:xs[i.toNat]? with
 | none=>simp
 | some v=>exact h v (List.mem_of_getElem? e)
theorem Bytes.append {xs ys:List Int} (h:Bytes xs) (k:Bytes ys):Bytes (xs ++ ys):=fun x hx=>(List.mem_append.1 hx).elim (h x) (k x)
theorem Bytes.drop {xs:List Int} (h:Bytes xs) (n:Nat):Bytes (xs.drop n):=fun x hx=>h x (List.mem_of_mem_drop hx)
theorem Bytes.take {xs:List Int} (h:Bytes xs) (n:Nat):Bytes (xs.take n):=fun x hx=>h x (List.mem_of_mem_take hx)
theorem Bytes.nil:Bytes []:=fun x hx=>by cases hx

theorem u8_or128_add {a:Int} (h0:0≤a) (h1:a<256):Go.bits .or .u8 a 128=a % 128+128:=by
 obtain ⟨n,rfl⟩:=Int.eq_ofNat_of_zero_le h0
 rw [show (128:Int)=((128:Nat):Int) from rfl,u8_or_nat n 128 (by omega) (by omega)]
 have hn:n<256:=by omega
 have:n ||| 128=n % 128+128:=by
  have h:∀ m:Fin 256,(m.1 ||| 128)=m.1 % 128+128:=by decide +kernel
  exact h ⟨n,hn⟩
 rw [this];omega

def putN (n:Int):List Int:=
 if h:128≤n then (n % 128+128) :: putN (n / 128) else [n]
termination_by n.toNat
decreasing_by omega
theorem putN_ge {n:Int} (h:128≤n):putN n=(n % 128+128) :: putN (n / 128):=by rw [putN];simp [h]
theorem putN_lt {n:Int} (h:n<128):putN n=[n]:=by rw [putN];simp [show ¬ 128≤n by omega]
theorem putN_ne (n:Int):putN n≠[]:=by rw [putN];split <;> simp
theorem putN_len (k:Nat):∀ n:Int,n<128 ^ (k+1)→(putN n).length≤k+1:=by
 induction k with
 | zero=>intro n h;rw [putN_lt (by omega)];simp
 | succ k ih =>
  intro n h
  by_cases h':128≤n
  ·rw [putN_ge h']
   have:=ih (n / 128) (by rw [Int.pow_succ] at h;omega)
   simp;omega
  ·rw [putN_lt (by omega)];simp
theorem putN_len10 {n:Int} (h:n≤18446744073709551615):(putN n).length≤10:=putN_len 9 n (by omega)
theorem putN_pos (n:Int):1≤(putN n).length:=by
 have:=putN_ne n
 cases h:putN n with
 | nil=>exact absurd h this
 | cons _ _=>simp
def lead:List Int→Nat
 | []=>0
 | b :: r=>if 128≤b then lead r+1 else 0
theorem lead_le (xs:List Int):lead xs≤xs.length:=by
 induction xs with
 | nil=>simp [lead]
 | cons b r ih=>simp only [lead];split <;> simp <;> omega
theorem lead_at {xs:List Int} {k:Nat} (h:k<xs.length) (ha:∀ j,j<k→128≤xs.getD j 0):(128≤xs.getD k 0→k<lead xs)∧(xs.getD k 0<128→lead xs=k):=by
 induction xs generalizing k with
 | nil=>simp at h
 | cons b r ih =>
  cases k with
  | zero =>
   simp only [lead,List.getD_cons_zero]
   refine ⟨fun hb=>?_,fun hb=>?_⟩
   ·rw [if_pos hb];omega
   ·rw [if_neg (by omega)]
  | succ k =>
   have hb:128≤b:=by simpa using ha 0 (by omega)
   have:=ih (k:=k) (by simpa using h) (fun j hj=>by simpa using ha (j+1) (by omega))
   simp only [lead,hb,if_true,List.getD_cons_succ]
   exact ⟨fun h=>by have:=this.1 h;omega,fun h=>by have:=this.2 h;omega⟩
theorem lead_all {xs:List Int} (ha:∀ j,j<xs.length→128≤xs.getD j 0):lead xs=xs.length:=by
 induction xs with
 | nil=>rfl
 | cons b r ih =>
  have hb:128≤b:=by simpa using ha 0 (by simp)
  simp only [lead,hb,if_true,List.length_cons]
  rw [ih (fun j hj=>by simpa using ha (j+1) (by simpa using hj))]
theorem lead_ge:∀ {xs:List Int} {j:Nat},j<lead xs→128≤xs.getD j 0:=by
 intro xs
 induction xs with
 | nil=>intro j hj;simp [lead] at hj
 | cons c s ih =>
  intro j hj
  by_cases hc:128≤c
  ·simp only [lead,hc,if_true] at hj
   cases j with
   | zero=>simpa using hc
   | succ j=>rw [List.getD_cons_succ];exact ih (by omega)
  ·simp [lead,hc] at hj
theorem lead_stop {xs:List Int} (h:lead xs<xs.length):xs[lead xs]<128:=by
 rcases Int.lt_or_le xs[lead xs] 128 with h' | h'
 ·exact h'
 ·have:=(lead_at h (fun j hj=>lead_ge hj)).1
  rw [List.getD_eq_getElem?_getD,List.getElem?_eq_getElem h] at this
  have:=this h';omega
def numOf:List Int→Int
 | []=>0
 | b :: r=>numOf r * 128+b % 128
theorem numOf_nonneg (xs:List Int):0≤numOf xs:=by
 induction xs with
 | nil=>simp [numOf]
 | cons b r ih=>simp only [numOf];omega
theorem numOf_lt (xs:List Int):numOf xs<128 ^ xs.length:=by
 induction xs with
 | nil=>simp [numOf]
 | cons b r ih=>simp only [numOf,List.length_cons,Int.pow_succ];omega
theorem numOf_drop (j:Nat):∀ xs:List Int,numOf (xs.drop j) * 128 ^ j≤numOf xs:=by
 induction j with
 | zero=>intro xs;simp
 | succ j ih =>
  intro xs
  cases xs with
  | nil=>simp [numOf]
  | cons b r =>
   have:=ih r
   simp only [List.drop_succ_cons,numOf,Int.pow_succ]
   rw [← Int.mul_assoc]
   omega
def badN (xs:List Int):Prop:=9<lead xs∨(lead xs=9∧1<rd xs 9)∨(0<lead xs∧rd xs (lead xs:Int)=0)
instance (xs:List Int):Decidable (badN xs):=by unfold badN;exact inferInstance
def takeN (xs:List Int):Int × Int × Int:=
 if lead xs=xs.length then (0,0,3) else if badN xs then (0,0,4) else (numOf (xs.take (lead xs+1)),(lead xs:Int)+1,0)
theorem takeN_short {xs:List Int} (h:lead xs=xs.length):takeN xs=(0,0,3):=by unfold takeN;rw [if_pos h]
theorem takeN_bad {xs:List Int} (h:lead xs≠xs.length) (hb:badN xs):takeN xs=(0,0,4):=by unfold takeN;rw [if_neg h,if_pos hb]
theorem takeN_ok {xs:List Int} (h:lead xs≠xs.length) (hb:¬ badN xs):takeN xs=(numOf (xs.take (lead xs+1)),(lead xs:Int)+1,0):=by unfold takeN;rw [if_neg h,if_neg hb]
theorem rd_nat (xs:List Int) (j:Nat):rd xs (j:Int)=xs.getD j 0:=by simp [rd]
theorem numOf_take10 (xs:List Int):numOf (xs.take 10)=numOf (xs.take 9)+(rd xs 9 % 128) * 128 ^ 9:=by
 rcases xs with _ | ⟨a0,_ | ⟨a1,_ | ⟨a2,_ | ⟨a3,_ | ⟨a4,_ | ⟨a5,_ | ⟨a6,_ | ⟨a7,_ | ⟨a8,_ | ⟨a9,r⟩⟩⟩⟩⟩⟩⟩⟩⟩⟩ <;> simp [numOf,rd] <;> omega
theorem numOf_small {xs:List Int} (hB:Bytes xs) (h1:lead xs<xs.length) (h2:¬ badN xs):numOf (xs.take (lead xs+1))≤18446744073709551615:=by
 unfold badN at h2
 by_cases h9:lead xs=9
 ·rw [h9,numOf_take10]
  have h3:=numOf_lt (xs.take 9)
  have h4:(xs.take 9).length≤9:=by simp;omega
  have h5:(128:Int) ^ (xs.take 9).length≤128 ^ 9:=by
   have:=Nat.pow_le_pow_right (n:=128) (by omega) h4
   exact_mod_cast this
  have h6:=hB.at_ 9
  have h7:¬ 1<rd xs 9:=fun h=>h2 (.inr (.inl ⟨h9,h⟩))
  have:rd xs 9 % 128≤1:=by omega
  omega
 ·have h8:lead xs+1≤9:=by omega
  have h3:=numOf_lt (xs.take (lead xs+1))
  have h4:(xs.take (lead xs+1)).length≤9:=by simp;omega
  have h5:(128:Int) ^ (xs.take (lead xs+1)).length≤128 ^ 9:=by
   have:=Nat.pow_le_pow_right (n:=128) (by omega) h4
   exact_mod_cast this
  omega

theorem u64_or_add {a z:Int} (h0:0≤a) (h1:a * 128≤18446744073709551615) (h2:0≤z) (h3:z<128):Go.bits .or .u64 (a * 128) z=a * 128+z:=by
 obtain ⟨n,rfl⟩:=Int.eq_ofNat_of_zero_le h0
 obtain ⟨m,rfl⟩:=Int.eq_ofNat_of_zero_le h2
 rw [show ((n:Int) * 128)=((n * 128:Nat):Int) by simp,u64_or_nat _ _ (by omega) (by omega),nat_join 7 _ _ (by omega) (by omega)]
 simp
theorem u8_and127 {z:Int} (h0:0≤z) (h1:z≤255):Go.bits .and .u8 z 127=z % 128:=by
 obtain ⟨n,rfl⟩:=Int.eq_ofNat_of_zero_le h0
 rw [show (127:Int)=((127:Nat):Int) from rfl,u8_and_nat n 127 (by omega) (by omega),nat_mask7]
 simp
theorem numOf_step (xs:List Int) (k j:Nat) (hj:j≤k) (hk:k<xs.length) (hs:numOf (xs.take (k+1))≤18446744073709551615) :
  numOf ((xs.take (k+1)).drop (j+1)) * 128≤18446744073709551615 ∧
  numOf ((xs.take (k+1)).drop j)=numOf ((xs.take (k+1)).drop (j+1)) * 128+rd xs (j:Int) % 128:=by
 have hlen:j<(xs.take (k+1)).length:=by simp;omega
 have e:(xs.take (k+1)).drop j=rd xs (j:Int) :: (xs.take (k+1)).drop (j+1):=by
  rw [List.drop_eq_getElem_cons hlen,rd_nat,List.getElem_take,List.getD_eq_getElem?_getD,List.getElem?_eq_getElem (by omega)];rfl
 refine ⟨?_,by rw [e];rfl⟩
 have h1:=numOf_drop j (xs.take (k+1))
 rw [e] at h1
 simp only [numOf] at h1
 have h3:=numOf_nonneg ((xs.take (k+1)).drop (j+1))
 have h4:(1:Int)≤128 ^ j:=by
  have:=Nat.pow_pos (n:=j) (show 0<128 by omega)
  exact_mod_cast this
 have h5:(numOf ((xs.take (k+1)).drop (j+1)) * 128+rd xs (j:Int) % 128) * 1≤(numOf ((xs.take (k+1)).drop (j+1)) * 128+rd xs (j:Int) % 128) * 128 ^ j:=Int.mul_le_mul_of_nonneg_left h4 (by omega)
 omega

theorem lead_put (k:Nat):∀ (n:Int) (ys:List Int),0≤n→n<128 ^ (k+1)→lead (putN n ++ ys)+1=(putN n).length:=by
 induction k with
 | zero=>intro n ys h0 h;rw [putN_lt (by omega)];simp [lead];omega
 | succ k ih =>
  intro n ys h0 h
  by_cases h':128≤n
  ·rw [putN_ge h']
   have:=ih (n / 128) ys (by omega) (by rw [Int.pow_succ] at h;omega)
   simp only [List.cons_append,lead,List.length_cons]
   rw [if_pos (by omega)];omega
  ·rw [putN_lt (by omega)];simp [lead];omega
theorem numOf_put (k:Nat):∀ (n:Int),0≤n→n<128 ^ (k+1)→numOf (putN n)=n:=by
 induction k with
 | zero=>intro n h0 h;rw [putN_lt (by omega)];simp [numOf];omega
 | succ k ih =>
  intro n h0 h
  by_cases h':128≤n
  ·rw [putN_ge h']
   have:=ih (n / 128) (by omega) (by rw [Int.pow_succ] at h;omega)
   simp only [numOf,this];omega
  ·rw [putN_lt (by omega)];simp [numOf];omega
theorem last_put (k:Nat):∀ (n:Int),0≤n→n<128 ^ (k+1)→(putN n).length=1∨1≤(putN n).getD ((putN n).length - 1) 0:=by
 induction k with
 | zero=>intro n h0 h;rw [putN_lt (by omega)];simp
 | succ k ih =>
  intro n h0 h
  by_cases h':128≤n
  ·rw [putN_ge h']
   have hp:=putN_pos (n / 128)
   right
   have:=ih (n / 128) (by omega) (by rw [Int.pow_succ] at h;omega)
   simp only [List.length_cons,Nat.add_sub_cancel]
   obtain ⟨m,hm⟩:∃ m,(putN (n/128)).length=m+1:=⟨(putN (n/128)).length - 1,by omega⟩
   rw [hm,List.getD_cons_succ]
   rw [hm] at this
   rcases this with h1 | h1
   ·obtain rfl:m=0:=by omega
    by_cases h2:128≤n / 128
    ·rw [putN_ge h2] at hm ⊢;simp;omega
    ·rw [putN_lt (by omega)];simp;omega
   ·simpa using h1
  ·rw [putN_lt (by omega)];simp
theorem putN_top (k:Nat):∀ (n:Int),0≤n→n<128 ^ (k+1)→(putN n).length=k+2 - 1→(putN n).getD k 0 * 128 ^ k≤n:=by
 induction k with
 | zero=>intro n h0 h _;rw [putN_lt (by omega)];simp
 | succ k ih =>
  intro n h0 h hl
  by_cases h':128≤n
  ·rw [putN_ge h'] at hl ⊢
   have:=ih (n / 128) (by omega) (by rw [Int.pow_succ] at h;omega) (by simp at hl;omega)
   rw [List.getD_cons_succ,Int.pow_succ,← Int.mul_assoc]
   omega
  ·rw [putN_lt (by omega)] at hl;simp at hl
theorem take_put {n:Int} (ys:List Int) (h0:0≤n) (h1:n≤18446744073709551615):takeN (putN n ++ ys)=(n,((putN n).length:Int),0):=by
 have hk:n<128 ^ (9+1):=by omega
 have hl:=lead_put 9 n ys h0 hk
 have hp:=putN_pos n
 have hr:∀ j,j<(putN n).length→(putN n ++ ys).getD j 0=(putN n).getD j 0:=fun j hj=>by
  simp [List.getD_eq_getElem?_getD,List.getElem?_append_left hj]
 unfold takeN
 rw [if_neg (by simp;omega),if_neg,hl,List.take_left,numOf_put 9 n h0 hk]
 ·congr 2;omega
 ·unfold badN
  have h10:=putN_len10 h1
  rintro (h | ⟨h,h'⟩ | ⟨h,h'⟩)
  ·omega
  ·rw [show (9:Int)=((9:Nat):Int) from rfl,rd_nat,hr 9 (by omega)] at h'
   have:=putN_top 9 n h0 hk (by omega)
   omega
  ·rw [rd_nat,hr _ (by omega)] at h'
   rcases last_put 9 n h0 hk with h2 | h2
   ·omega
   ·rw [show (putN n).length - 1=lead (putN n ++ ys) by omega] at h2;omega
theorem put_take_aux:∀ (xs:List Int),Bytes xs→lead xs<xs.length→(0<lead xs→rd xs (lead xs:Int)≠0)→putN (numOf (xs.take (lead xs+1)))=xs.take (lead xs+1):=by
 intro xs
 induction xs with
 | nil=>intro _ h;simp [lead] at h
 | cons b r ih =>
  intro hB h1 h2
  have hb:=hB b (by simp)
  by_cases h:128≤b
  ·have hl:lead (b :: r)=lead r+1:=by simp [lead,h]
   rw [hl] at h1 h2 ⊢
   have h3:rd r (lead r:Int)≠0:=by
    have:=h2 (by omega)
    rw [rd_nat] at this ⊢
    simpa using this
   have:=ih (fun x hx=>hB x (List.mem_cons_of_mem _ hx)) (by simpa using h1) (fun _=>h3)
   simp only [List.take_succ_cons,numOf]
   have hpos:1≤numOf (r.take (lead r+1)):=by
    have h4:=numOf_drop (lead r) (r.take (lead r+1))
    have h5:lead r<r.length:=by simpa using h1
    rw [List.drop_take,show lead r+1 - lead r=1 by omega] at h4
    rw [List.drop_eq_getElem_cons h5] at h4
    simp only [List.take_succ_cons,List.take_zero,numOf] at h4
    have h6:r[lead r]<128:=lead_stop h5
    have h7:r[lead r]≠0:=by
     rw [rd_nat,List.getD_eq_getElem?_getD,List.getElem?_eq_getElem h5] at h3;simpa using h3
    have h8:=hB r[lead r] (List.mem_cons_of_mem _ (List.getElem_mem h5))
    have h9:(1:Int)≤128 ^ lead r:=by
     have:=Nat.pow_pos (n:=lead r) (show 0<128 by omega)
     exact_mod_cast this
    have h10:r[lead r] % 128=r[lead r]:=by omega
    rw [h10] at h4
    have h11:1 * 1≤(0 * 128+r[lead r]) * 128 ^ lead r:=Int.mul_le_mul (by omega) h9 (by omega) (by omega)
    omega
   rw [putN_ge (by omega)]
   have e1:(numOf (r.take (lead r+1)) * 128+b % 128) / 128=numOf (r.take (lead r+1)):=by omega
   have e2:(numOf (r.take (lead r+1)) * 128+b % 128) % 128+128=b:=by omega
   rw [e1,e2,this]
  ·have hl:lead (b :: r)=0:=by simp [lead,h]
   rw [hl]
   simp only [Nat.zero_add,List.take_succ_cons,List.take_zero,numOf]
   rw [putN_lt (by omega)]
   congr 1;omega
theorem put_take {xs:List Int} {m k:Int} (hB:Bytes xs) (h:takeN xs=(m,k,0)):putN m=xs.take k.toNat∧0≤m∧m≤18446744073709551615∧1≤k∧k≤xs.length:=by
 unfold takeN at h
 split at h
 ·cases h
 ·rename_i h1
  have hle:=lead_le xs
  split at h
  ·cases h
  ·rename_i h2
   injection h with h3 h4
   injection h4 with h4 _
   subst h3 h4
   have h5:=put_take_aux xs hB (by omega) (fun hp he=>h2 (.inr (.inr ⟨hp,he⟩)))
   refine ⟨?_,numOf_nonneg _,numOf_small hB (by omega) h2,by omega,by omega⟩
   rw [h5];congr 1
theorem u64_and127 {u:Int} (h0:0≤u) (h1:u≤18446744073709551615):Go.bits .and .u64 u 127=u % 128:=by
 obtain ⟨n,rfl⟩:=Int.eq_ofNat_of_zero_le h0
 rw [show (127:Int)=((127:Nat):Int) from rfl,u64_and_nat n 127 (by omega) (by omega),nat_mask7];simp
theorem takeN_cases {xs:List Int} (hB:Bytes xs):takeN xs=(0,0,3)∨takeN xs=(0,0,4)∨∃ m k:Nat,takeN xs=((m:Int),(k:Int),0)∧m≤18446744073709551615∧1≤k∧k≤xs.length:=by
 have hle:=lead_le xs
 by_cases h:lead xs=xs.length
 ·exact .inl (takeN_short h)
 ·by_cases hb:badN xs
  ·exact .inr (.inl (takeN_bad h hb))
  ·refine .inr (.inr ⟨(numOf (xs.take (lead xs+1))).toNat,lead xs+1,?_,?_,by omega,by omega⟩)
   ·rw [takeN_ok h hb]
    have:=numOf_nonneg (xs.take (lead xs+1))
    congr 1
    ·omega
   ·have:=numOf_small hB (by omega) hb;omega
def takeB (xs:List Int) (most:Int):List Int × Int × Int:=
 let t:=takeN xs
 if t.2.2≠0 then ([],0,t.2.2) else if most<0∨most<t.1 then ([],0,2) else if (xs.length:Int) - t.2.1<t.1 then ([],0,3) else ((xs.drop t.2.1.toNat).take t.1.toNat,t.2.1+t.1,0)
theorem takeB_err {xs:List Int} {most e:Int} (h:takeN xs=(0,0,e)) (he:e≠0):takeB xs most=([],0,e):=by unfold takeB;rw [h];simp [he]
theorem takeB_long {xs:List Int} {most:Int} {m k:Nat} (h:takeN xs=((m:Int),(k:Int),0)) (hm:most<0∨most<m):takeB xs most=([],0,2):=by unfold takeB;rw [h];simp [hm]
theorem takeB_short {xs:List Int} {most:Int} {m k:Nat} (h:takeN xs=((m:Int),(k:Int),0)) (hm:¬ (most<0∨most<m)) (hs:(xs.length:Int) - k<m):takeB xs most=([],0,3):=by unfold takeB;rw [h];simp only [ne_eq,not_true_eq_false,if_false,if_neg hm,if_pos hs]
theorem takeB_ok {xs:List Int} {most:Int} {m k:Nat} (h:takeN xs=((m:Int),(k:Int),0)) (hm:¬ (most<0∨most<m)) (hs:¬ (xs.length:Int) - k<m):takeB xs most=((xs.drop k).take m,(k:Int)+m,0):=by unfold takeB;rw [h];simp only [ne_eq,not_true_eq_false,if_false,if_neg hm,if_neg hs,Int.toNat_natCast]
theorem takeB_used {xs:List Int} {most:Int} (hB:Bytes xs):0≤(takeB xs most).2.1∧(takeB xs most).2.1≤xs.length∧((takeB xs most).2.2=0→1≤(takeB xs most).2.1)∧((takeB xs most).2.2≠0→(takeB xs most).1=[]):=by
 rcases takeN_cases hB with h | h | ⟨m,k,h,hm,h1,h2⟩
 ·rw [takeB_err h (by decide)];simp
 ·rw [takeB_err h (by decide)];simp
 ·by_cases hl:most<0∨most<m
  ·rw [takeB_long h hl];simp
  ·by_cases hs:(xs.length:Int) - k<m
   ·rw [takeB_short h hl hs];simp
   ·rw [takeB_ok h hl hs];simp;omega
theorem takeN_range {xs:List Int} (hB:Bytes xs):0≤(takeN xs).1∧(takeN xs).1≤18446744073709551615:=by
 have hle:=lead_le xs
 by_cases h:lead xs=xs.length
 ·rw [takeN_short h];simp
 ·by_cases hb:badN xs
  ·rw [takeN_bad h hb];simp
  ·rw [takeN_ok h hb];exact ⟨numOf_nonneg _,numOf_small hB (by omega) hb⟩
end Go.Proofs.Ytcgkeolgflphiaa

namespace Go.Proofs.Ytcgkeolgflphiaa
open Go.RowKit Go.Proofs.YtcgkeolgflphiaaW.PrintWords

theorem infoU8:(Try.prog.info? 5).map (fun i=>(i.zero,i.size,i.bytes))=some (some (.int .u8 0),1,1):=by kernel_rfl

def OwnB (w:World) (base:Nat) (v:Value) (xs:List Int):Prop:=w.ownsRow base 5 1 v xs.length (nums .u8 xs)
theorem OwnB.reads {w:World} {base:Nat} {v:Value} {xs:List Int} (h:OwnB w base v xs):∃ A m c,v=.slice A m c∧m=xs.length∧m≤c∧ReadsInt w .u8 A m xs:=by
 obtain ⟨A,c,rfl,hr⟩:=own_reads h
 exact ⟨A,_,c,rfl,rfl,own_le h,hr⟩
set_option maxHeartbeats 1000000 in
theorem take_calls (A:Option Addr) (n c:Nat) (xs:List Int) (w:World) (hr:ReadsInt w .u8 A n xs) (hB:Bytes xs) (hl:n≤140737488355000) :
  Calls Try.prog 75 #[.slice A n c] w fun e w'=>e=.returned (.tuple #[.int .u64 (takeN xs).1,.int .i64 (takeN xs).2.1,.int .i64 (takeN xs).2.2])∧w'=w:=by
 have HR:=Ak hr
 have HN:=Ak hr.1
 have HL:=Ak (lead_le xs)
 clear hr
 go_enter Try.func75,Try.ntmps75
 go_upto_block 0 with (fail)
 go_cut [5] (fun v wc=>v=.int .i64 (lead xs)∧wc=w)
 case first =>
  go_wp2
  go_loop [5] (fun v=>∃ k:Nat,v=.int .i64 k∧k≤n∧Aside0 (∀ j,j<k→128≤xs.getD j 0)) (fun v=>n - (intOf v).toNat)
  case atStart=>exact ⟨0,rfl,Nat.zero_le _,⟨fun j hj=>absurd hj (Nat.not_lt_zero _)⟩⟩
  case round =>
   obtain ⟨k,rfl,hk,HA⟩:=hrel
   by_cases hlt:k<n
   ·have hlx:k<xs.length:=by have:=HN.out;omega
    have HL2:=Ak (lead_at hlx HA.out)
    clear hlx
    obtain ⟨ad,rfl,hc⟩:=HR.out.at_ k (by omega) (by omega)
    rw [rd_nat] at hc
    rw [Int.toNat_natCast] at hc
    by_cases hb:128≤xs.getD k 0
    ·have hb':decide (128≤xs.getD k 0)=true:=decide_eq_true hb
     have HB:=Ak hb
     clear hb
     obtain ⟨z,hz⟩:∃ z,z=xs.getD k 0:=⟨_,rfl⟩
     rw [← hz] at hc hb'
     clear hz
     go_wp2
     go_round
     case rel=>exact ⟨k+1,by go_num,by omega,⟨fun j hj=>by
      rcases Nat.lt_or_ge j k with h | h
      ·exact HA.out j h
      ·obtain rfl:j=k:=by omega
       exact HB.out⟩⟩
     case measure=>simp [intOf];omega
    ·have hb':decide (128≤xs.getD k 0)=false:=decide_eq_false hb
     have HB:=Ak (HL2.out.2 (by omega))
     clear hb
     obtain ⟨z,hz⟩:∃ z,z=xs.getD k 0:=⟨_,rfl⟩
     rw [← hz] at hc hb'
     clear hz
     go_wp2
     go_meet
     case rel=>exact ⟨by rw [HB.out],rfl⟩
   ·have HE:=Ak (lead_all (xs:=xs) (fun j hj=>HA.out j (by have:=HN.out;omega)))
    have hlt':decide ((k:Int)<n)=false:=decide_eq_false (by omega)
    go_wp2
    go_meet
    case rel=>exact ⟨by rw [HE.out,HN.out];congr 2;omega,rfl⟩
 case rest =>
  obtain ⟨rfl,rfl⟩:=hcut
  go_upto_block 2 with (fail)
  go_cut [] (fun w2=>Aside0 (lead xs<n∧¬ badN xs)∧w2=wc)
  case first =>
   by_cases h1:lead xs=n
   ·have HE:=Ak (takeN_short (xs:=xs) (by rw [h1,HN.out]))
    have h1':((lead xs:Int) == (n:Int))=true:=by simp [h1]
    clear h1
    generalize lead xs=k at *
    go_wp2
    go_ret3
    exact ⟨by rw [HE.out];rfl,rfl⟩
   ·have h2:lead xs<n:=by have:=HL.out;have:=HN.out;omega
    have hne:lead xs≠xs.length:=by rw [HN.out];exact h1
    obtain ⟨ad,rfl,hc⟩:=HR.out.at_ (lead xs) (by omega) (by omega)
    rw [Int.toNat_natCast] at hc
    have hz:=hB.at_ (lead xs)
    by_cases hb:badN xs
    ·have HE:=Ak (takeN_bad hne hb)
     have hb':=hb
     unfold badN at hb'
     clear hb
     have hk9:lead xs=9→rd xs 9=rd xs (lead xs:Int):=fun h=>by rw [h];rfl
     clear hne
     generalize lead xs=k at *
     obtain ⟨z,hzz⟩:∃ z,z=rd xs (k:Int):=⟨_,rfl⟩
     rw [← hzz] at hc hz hb' hk9
     clear hzz
     have h1':((k:Int) == (n:Int))=false:=by simp;omega
     clear h1
     rcases Nat.lt_or_ge 9 k with h3 | h3
     ·clear hb' hk9
      go_wp2
      go_ret3
      exact ⟨by rw [HE.out];rfl,rfl⟩
     ·have h7:decide (9<(k:Int))=false:=by simp;omega
      by_cases h4:k=9∧1<z
      ·obtain ⟨h4,h5⟩:=h4
       have h9:((k:Int) == 9)=true:=by simp;omega
       have h10:decide (1<z)=true:=decide_eq_true h5
       clear hb' hk9 h5 h4
       go_wp2
       go_ret3
       exact ⟨by rw [HE.out];rfl,rfl⟩
      ·have h6:0<k∧z=0:=by
        rcases hb' with h | ⟨h,h'⟩ | h
        ·omega
        ·rw [hk9 h] at h';exact absurd ⟨h,h'⟩ h4
        ·exact h
       obtain ⟨h6,rfl⟩:=h6
       have h12:0<k:=by omega
       clear hb' hk9 h4
       by_cases h8:k=9
       ·have h9:((k:Int) == 9)=true:=by simp;omega
        clear h8
        go_wp2
        go_ret3
        exact ⟨by rw [HE.out];rfl,rfl⟩
       ·have h9:((k:Int) == 9)=false:=by simp;omega
        clear h8
        go_wp2
        go_ret3
        exact ⟨by rw [HE.out];rfl,rfl⟩
    ·have HQ:=Ak (And.intro h2 hb)
     have hb':=hb
     unfold badN at hb'
     have hk9:lead xs=9→rd xs 9=rd xs (lead xs:Int):=fun h=>by rw [h];rfl
     have h3:lead xs≤9:=Nat.le_of_not_lt fun h=>hb' (.inl h)
     have h4:lead xs=9→rd xs (lead xs:Int)≤1:=fun h=>by
      rw [← hk9 h]
      exact Int.not_lt.1 fun h'=>hb' (.inr (.inl ⟨h,h'⟩))
     have h5:0<lead xs→rd xs (lead xs:Int)≠0:=fun h h'=>hb' (.inr (.inr ⟨h,h'⟩))
     clear hb' hb hk9 hne
     generalize lead xs=k at *
     have h1':((k:Int) == (n:Int))=false:=by simp;omega
     clear h1
     obtain ⟨z,hzz⟩:∃ z,z=rd xs (k:Int):=⟨_,rfl⟩
     rw [← hzz] at hc hz h4 h5
     clear hzz
     have h7:decide (9<(k:Int))=false:=by simp;omega
     by_cases h8:k=9
     ·have h9:((k:Int) == 9)=true:=by simp;omega
      have h12:0<k:=by omega
      have h10:decide (1<z)=false:=by have:=h4 h8;simp;omega
      have h11:(z == 0)=false:=by have:=h5 (by omega);simp;omega
      clear h4 h5 h8
      go_wp2
      go_meet
      case rel=>exact ⟨HQ,rfl⟩
     ·have h9:((k:Int) == 9)=false:=by simp;omega
      clear h4
      by_cases h10:0<k
      ·have h11:(z == 0)=false:=by have:=h5 h10;simp;omega
       clear h5 h8
       go_wp2
       go_meet
       case rel=>exact ⟨HQ,rfl⟩
      ·have h11:decide (0<(k:Int))=false:=by simp;omega
       clear h5 h8
       go_wp2
       go_meet
       case rel=>exact ⟨HQ,rfl⟩
  case rest =>
   obtain ⟨HQ,rfl⟩:=hcut
   have HE:=Ak (takeN_ok (xs:=xs) (by have:=HQ.out.1;have:=HN.out;omega) HQ.out.2)
   have HS:=Ak (numOf_small hB (by have:=HQ.out.1;have:=HN.out;omega) HQ.out.2)
   have h2:=HQ.out.1
   obtain ⟨k,hk⟩:∃ k,k=lead xs:=⟨_,rfl⟩
   rw [← hk] at HE HS h2 ⊢
   clear hk HQ HL
   go_wp2
   go_loop [6,7] (fun u v=>∃ j:Nat,j≤k+1∧v=.int .i64 ((j:Int) - 1)∧u=.int .u64 (numOf ((xs.take (k+1)).drop j))) (fun _ v=>(intOf v+1).toNat)
   case atStart=>exact ⟨k+1,by omega,by go_num,by rw [List.drop_of_length_le (by simp;omega)];rfl⟩
   case round =>
    obtain ⟨j,hj,rfl,rfl⟩:=hrel
    rcases j with _ | j
    ·go_wp2
     go_ret3
     exact ⟨by rw [HE.out];rfl,rfl⟩
    ·obtain ⟨ad,rfl,hc⟩:=HR.out.at_ j (by omega) (by omega)
     rw [Int.toNat_natCast] at hc
     have hz:=hB.at_ (j:Int)
     have HD:=Ak (numOf_step xs k j (by omega) (by have:=HN.out;omega) HS.out)
     have hd:=HD.out.1
     have hd0:=numOf_nonneg ((xs.take (k+1)).drop (j+1))
     obtain ⟨z,hzz⟩:∃ z,z=rd xs (j:Int):=⟨_,rfl⟩
     rw [← hzz] at hc hz HD
     clear hzz
     obtain ⟨d,hdd⟩:∃ d,d=numOf ((xs.take (k+1)).drop (j+1)):=⟨_,rfl⟩
     rw [← hdd] at hd hd0 HD ⊢
     clear hdd
     have e0:((j+1:Nat):Int) - 1=(j:Int):=by omega
     rw [e0]
     clear e0
     go_wp2
     rw [u8_and127 hz.1 hz.2,show IntKind.u64.wrap (z % 128)=z % 128 by simp [IntKind.wrap,IntKind.bits,IntKind.signed];try omega,u64_or_add hd0 hd (by omega) (by omega)]
     refine ⟨⟨j,by omega,rfl,by rw [HD.out.2]⟩,by simp [intOf]⟩
end Go.Proofs.Ytcgkeolgflphiaa

namespace Go.Proofs.Ytcgkeolgflphiaa
open Go.RowKit Go.Proofs.YtcgkeolgflphiaaW.PrintWords

set_option maxHeartbeats 1000000 in
theorem put_calls (A:Option Addr) (n c:Nat) (xs:List Int) (x:Int) (w:World) (hr:ReadsInt w .u8 A n xs) (h0:0≤x) (h1:x≤18446744073709551615) (hl:n≤140737488355000) :
  Calls Try.prog 57 #[.slice A n c,.int .u64 x] w fun e w'=>∃ v,e=.returned v∧OwnB w' w.heap.size v (xs ++ putN x)∧Below w.heap.size w w':=by
 have HR:=Ak hr
 have HL:=Ak hr.1
 have HP:=Ak (putN_len10 h1)
 clear hr
 go_enter Try.func57,Try.ntmps57
 go_wp2_with (first
  | (at_builtin;go_must (refine print_append_row w.heap.size rfl (.const (.slice none 0 0)) (.tmp 6) 31 5 .u8 1 rfl Try.underlying31 infoU8 (by decide) (.slice none 0 0) [] xs A n c rfl rfl (own_nil _ _ _ _) HR.out (Below.refl _ _) (Nat.le_refl _) (by simp;omega) ?_;intro v1 w1 ho hb _ _;have HO:=Ak ho;have HB:=Ak hb;clear ho hb)))
 go_loopw [1,5] (fun u v wr=>∃ (y:Int) (ys:List Int),u=.int .u64 y∧0≤y∧y≤18446744073709551615∧Aside0 (ys ++ putN y=xs ++ putN x)∧Aside0 (OwnB wr w.heap.size v ys)∧Aside0 (Below w.heap.size w wr)) (fun u _ _=>(intOf u).toNat)
 case atStart=>exact ⟨x,xs,rfl,h0,h1,⟨rfl⟩,⟨by unfold OwnB;simpa using HO.out⟩,HB⟩
 case round =>
  clear HO HB
  obtain ⟨y,ys,rfl,hy0,hy1,HE,HO,HB⟩:=hrel
  have HN:=Ak (show ys.length≤n+10 by
   have h:=congrArg List.length HE.out
   have h2:=HP.out
   have h3:=HL.out
   simp only [List.length_append] at h
   omega)
  by_cases hlt:128≤y
  ·go_wp2_with (first
    | (at_builtin;go_must (refine print_append_num w.heap.size rfl (.tmp 12) (.tmp 16) 31 5 .u8 1 rfl Try.underlying31 infoU8 (by decide) u5 ys (Go.bits .or .u8 (y % 256) 128) rfl rfl HO.out HB.out HB.out.size (by have:=HN.out;omega) ?_;intro v2 w2 ho hb _ _;have HO2:=Ak ho;have HB2:=Ak hb;clear ho hb)))
   go_roundw
   case rel=>exact ⟨y / 128,ys ++ [Go.bits .or .u8 (y % 256) 128],rfl,by omega,by omega,⟨by rw [← HE.out,putN_ge hlt,u8_or128_add (by omega) (by omega),show y % 256 % 128=y % 128 by omega];simp⟩,HO2,HB2⟩
   case measure=>simp [intOf];omega
  ·go_wp2_with (first
    | (at_builtin;go_must (refine print_append_num w.heap.size rfl (.tmp 18) (.tmp 21) 31 5 .u8 1 rfl Try.underlying31 infoU8 (by decide) u5 ys y rfl rfl HO.out HB.out HB.out.size (by have:=HN.out;omega) ?_;intro v2 w2 ho hb _ _;have HO2:=Ak ho;have HB2:=Ak hb;clear ho hb)))
   go_ret
   refine ⟨_,rfl,?_,HB2.out⟩
   rw [← HE.out,putN_lt (show y<128 by omega)];exact HO2.out

end Go.Proofs.Ytcgkeolgflphiaa

namespace Go.Proofs.Ytcgkeolgflphiaa
open Go.RowKit Go.Proofs.YtcgkeolgflphiaaW.PrintWords Go.RegionInvYtcgkeolgflphiaa

set_option maxHeartbeats 1000000 in
theorem refTake_calls (A:Option Addr) (n c:Nat) (xs:List Int) (w:World) (hr:ReadsInt w .u8 A n xs) (hB:Bytes xs) (hl:n≤140737488355000) :
  Calls Try.prog 76 #[.slice A n c] w fun e w'=>e=.returned (.tuple #[.int .u64 (takeN xs).1,.int .i64 (takeN xs).2.1,.int .i64 (takeN xs).2.2])∧w'=w:=by
 have HR:=Ak hr
 have HN:=Ak hr.1
 have HL:=Ak (lead_le xs)
 clear hr
 go_enter Try.func76,Try.ntmps76
 go_upto_block 0 with (fail)
 go_cut [5] (fun v wc=>v=.int .i64 (lead xs)∧wc=w)
 case first =>
  go_wp2
  go_loop [5] (fun v=>∃ k:Nat,v=.int .i64 k∧k≤n∧Aside0 (∀ j,j<k→128≤xs.getD j 0)) (fun v=>n - (intOf v).toNat)
  case atStart=>exact ⟨0,rfl,Nat.zero_le _,⟨fun j hj=>absurd hj (Nat.not_lt_zero _)⟩⟩
  case round =>
   obtain ⟨k,rfl,hk,HA⟩:=hrel
   by_cases hlt:k<n
   ·have hlx:k<xs.length:=by have:=HN.out;omega
    have HL2:=Ak (lead_at hlx HA.out)
    clear hlx
    obtain ⟨ad,rfl,hc⟩:=HR.out.at_ k (by omega) (by omega)
    rw [rd_nat] at hc
    rw [Int.toNat_natCast] at hc
    by_cases hb:128≤xs.getD k 0
    ·have hb':decide (128≤xs.getD k 0)=true:=decide_eq_true hb
     have HB:=Ak hb
     clear hb
     obtain ⟨z,hz⟩:∃ z,z=xs.getD k 0:=⟨_,rfl⟩
     rw [← hz] at hc hb'
     clear hz
     go_wp2
     go_round
     case rel=>exact ⟨k+1,by go_num,by omega,⟨fun j hj=>by
      rcases Nat.lt_or_ge j k with h | h
      ·exact HA.out j h
      ·obtain rfl:j=k:=by omega
       exact HB.out⟩⟩
     case measure=>simp [intOf];omega
    ·have hb':decide (128≤xs.getD k 0)=false:=decide_eq_false hb
     have HB:=Ak (HL2.out.2 (by omega))
     clear hb
     obtain ⟨z,hz⟩:∃ z,z=xs.getD k 0:=⟨_,rfl⟩
     rw [← hz] at hc hb'
     clear hz
     go_wp2
     go_meet
     case rel=>exact ⟨by rw [HB.out],rfl⟩
   ·have HE:=Ak (lead_all (xs:=xs) (fun j hj=>HA.out j (by have:=HN.out;omega)))
    have hlt':decide ((k:Int)<n)=false:=decide_eq_false (by omega)
    go_wp2
    go_meet
    case rel=>exact ⟨by rw [HE.out,HN.out];congr 2;omega,rfl⟩
 case rest =>
  obtain ⟨rfl,rfl⟩:=hcut
  by_cases h1:lead xs=n
  ·have HE:=Ak (takeN_short (xs:=xs) (by rw [h1,HN.out]))
   have h1':((lead xs:Int) == (n:Int))=true:=by simp [h1]
   clear h1
   generalize lead xs=k at *
   go_wp2
   go_ret3
   exact ⟨by rw [HE.out];rfl,rfl⟩
  ·have h2:lead xs<n:=by have:=HL.out;have:=HN.out;omega
   have h1':((lead xs:Int) == (n:Int))=false:=by simp;omega
   have hne:lead xs≠xs.length:=by rw [HN.out];exact h1
   obtain ⟨ad,rfl,hc⟩:=HR.out.at_ (lead xs) (by omega) (by omega)
   rw [Int.toNat_natCast] at hc
   have hz:=hB.at_ (lead xs)
   by_cases hb:badN xs
   ·have HE:=Ak (takeN_bad hne hb)
    have hb':=hb
    unfold badN at hb'
    clear hb
    have hk9:lead xs=9→rd xs 9=rd xs (lead xs:Int):=fun h=>by rw [h];rfl
    clear hne h1
    generalize lead xs=k at *
    obtain ⟨z,hzz⟩:∃ z,z=rd xs (k:Int):=⟨_,rfl⟩
    rw [← hzz] at hc hz hb' hk9
    clear hzz
    have h0:0<k:=by omega
    by_cases hz0:z=0
    ·have h11:(z == 0)=true:=by simp [hz0]
     clear hb' hk9 hz0
     go_wp2
     go_ret3
     exact ⟨by rw [HE.out];rfl,rfl⟩
    ·have h11:(z == 0)=false:=by simp [hz0]
     rcases Nat.lt_or_ge 9 k with h3 | h3
     ·clear hb' hk9 hz0
      go_wp2
      go_ret3
      exact ⟨by rw [HE.out];rfl,rfl⟩
     ·have h7:decide (9<(k:Int))=false:=by simp;omega
      have h4:k=9∧1<z:=by
       rcases hb' with h | ⟨h,h'⟩ | h
       ·omega
       ·rw [hk9 h] at h';exact ⟨h,h'⟩
       ·exact absurd h.2 hz0
      obtain ⟨h4,h5⟩:=h4
      have h9:((k:Int) == 9)=true:=by simp;omega
      have h10:decide (1<z)=true:=decide_eq_true h5
      clear hb' hk9 h5 h4 hz0
      go_wp2
      go_ret3
      exact ⟨by rw [HE.out];rfl,rfl⟩
   ·have HQ:=Ak (And.intro h2 hb)
    have hb':=hb
    unfold badN at hb'
    have hk9:lead xs=9→rd xs 9=rd xs (lead xs:Int):=fun h=>by rw [h];rfl
    have h3:lead xs≤9:=Nat.le_of_not_lt fun h=>hb' (.inl h)
    have h4:lead xs=9→rd xs (lead xs:Int)≤1:=fun h=>by
     rw [← hk9 h]
     exact Int.not_lt.1 fun h'=>hb' (.inr (.inl ⟨h,h'⟩))
    have h5:0<lead xs→rd xs (lead xs:Int)≠0:=fun h h'=>hb' (.inr (.inr ⟨h,h'⟩))
    have HE:=Ak (takeN_ok hne hb)
    have HS:=Ak (numOf_small hB (by have:=HN.out;omega) hb)
    clear hb' hb hk9 hne h1 HQ
    generalize lead xs=k at *
    obtain ⟨z,hzz⟩:∃ z,z=rd xs (k:Int):=⟨_,rfl⟩
    rw [← hzz] at hc hz h4 h5
    clear hzz
    have h7:decide (9<(k:Int))=false:=by simp;omega
    go_upto_region 6 with (fail)
    go_cut [48] (fun v w2=>v=.bool false∧w2=wc)
    case first =>
     by_cases h8:k=9
     ·have h9:((k:Int) == 9)=true:=by simp;omega
      have h12:0<k:=by omega
      have h10:decide (1<z)=false:=by have:=h4 h8;simp;omega
      have h11:(z == 0)=false:=by have:=h5 (by omega);simp;omega
      clear h4 h5 h8
      go_wp2
      go_meet
      case rel=>exact ⟨rfl,rfl⟩
     ·have h9:((k:Int) == 9)=false:=by simp;omega
      clear h4
      by_cases h10:0<k
      ·have h11:(z == 0)=false:=by have:=h5 h10;simp;omega
       clear h5 h8
       go_wp2
       go_meet
       case rel=>exact ⟨rfl,rfl⟩
      ·have h11:decide (0<(k:Int))=false:=by simp;omega
       clear h5 h8
       go_wp2
       go_meet
       case rel=>exact ⟨rfl,rfl⟩
    case rest =>
     obtain ⟨rfl,rfl⟩:=hcut
     clear h4 h5 hc hz h7 h1' h3 HL
     go_wp2
     go_loop [6,7] (fun u v=>∃ j:Nat,j≤k+1∧v=.int .i64 ((j:Int) - 1)∧u=.int .u64 (numOf ((xs.take (k+1)).drop j))) (fun _ v=>(intOf v+1).toNat)
     case atStart=>exact ⟨k+1,by omega,by go_num,by rw [List.drop_of_length_le (by simp;omega)];rfl⟩
     case round =>
      obtain ⟨j,hj,rfl,rfl⟩:=hrel
      rcases j with _ | j
      ·go_wp2
       go_ret3
       exact ⟨by rw [HE.out];rfl,rfl⟩
      ·obtain ⟨ad',hA,hc⟩:=HR.out.at_ j (by omega) (by omega)
       obtain rfl:=Option.some.inj hA
       rw [Int.toNat_natCast] at hc
       have hz:=hB.at_ (j:Int)
       have HD:=Ak (numOf_step xs k j (by omega) (by have:=HN.out;omega) HS.out)
       have hd:=HD.out.1
       have hd0:=numOf_nonneg ((xs.take (k+1)).drop (j+1))
       obtain ⟨z,hzz⟩:∃ z,z=rd xs (j:Int):=⟨_,rfl⟩
       rw [← hzz] at hc hz HD
       clear hzz
       obtain ⟨d,hdd⟩:∃ d,d=numOf ((xs.take (k+1)).drop (j+1)):=⟨_,rfl⟩
       rw [← hdd] at hd hd0 HD ⊢
       clear hdd
       have e0:((j+1:Nat):Int) - 1=(j:Int):=by omega
       rw [e0]
       clear e0
       go_wp2
       rw [u8_and127 hz.1 hz.2,show IntKind.u64.wrap (z % 128)=z % 128 by simp [IntKind.wrap,IntKind.bits,IntKind.signed];try omega,u64_or_add hd0 hd (by omega) (by omega)]
       refine ⟨⟨j,by omega,rfl,by rw [HD.out.2]⟩,by simp [intOf]⟩

set_option maxHeartbeats 1000000 in
theorem refPut_calls (base:Nat) (v:Value) (xs:List Int) (x:Int) (w:World) (ho:OwnB w base v xs) (hb:base≤w.heap.size) (h0:0≤x) (h1:x≤18446744073709551615) (hl:xs.length≤140737488355000) :
  Calls Try.prog 32 #[v,.int .u64 x] w fun e w'=>∃ v',e=.returned v'∧OwnB w' base v' (xs ++ putN x)∧Grew v v' w w':=by
 have HO:=Ak ho
 have HP:=Ak (putN_len10 h1)
 clear ho
 go_enter Try.func32,Try.ntmps32
 go_wp2
 go_loopw [0,1] (fun v' u wr=>∃ (y:Int) (ys:List Int),u=.int .u64 y∧0≤y∧y≤18446744073709551615∧Aside0 (ys ++ putN y=xs ++ putN x)∧Aside0 (OwnB wr base v' ys)∧Aside0 (Grew v v' w wr)) (fun _ u _=>(intOf u).toNat)
 case atStart=>exact ⟨x,xs,rfl,h0,h1,⟨rfl⟩,HO,⟨Grew.refl _ _⟩⟩
 case round =>
  clear HO
  obtain ⟨y,ys,rfl,hy0,hy1,HE,HO,HB⟩:=hrel
  have HN:=Ak (show ys.length≤140737488355100 by
   have h:=congrArg List.length HE.out
   have h2:=HP.out
   simp only [List.length_append] at h
   omega)
  have hbs:base≤wr.heap.size:=Nat.le_trans hb HB.out.1.size
  by_cases hlt:128≤y
  ·go_wp2_with (first
    | (at_builtin;go_must (refine print_append_num base rfl (.tmp 7) (.tmp 12) 31 5 .u8 1 rfl Try.underlying31 infoU8 (by decide) u0 ys (Go.bits .or .u8 (Go.bits .and .u64 y 127 % 256) 128) rfl rfl HO.out (Below.refl _ _) hbs (by have:=HN.out;omega) ?_;intro v2 w2 ho _ hg hat;have HO2:=Ak ho;have HB2:=Ak (HB.out.trans (Grew.of_append hg hat));clear ho hg hat)))
   go_roundw
   case rel=>exact ⟨y / 128,ys ++ [Go.bits .or .u8 (Go.bits .and .u64 y 127 % 256) 128],rfl,by omega,by omega,⟨by rw [← HE.out,putN_ge hlt,u64_and127 hy0 hy1,u8_or128_add (by omega) (by omega),show y % 128 % 256 % 128=y % 128 by omega];simp⟩,HO2,HB2⟩
   case measure=>simp [intOf];omega
  ·go_wp2_with (first
    | (at_builtin;go_must (refine print_append_num base rfl (.tmp 16) (.tmp 19) 31 5 .u8 1 rfl Try.underlying31 infoU8 (by decide) u0 ys y rfl rfl HO.out (Below.refl _ _) hbs (by have:=HN.out;omega) ?_;intro v2 w2 ho _ hg hat;have HO2:=Ak ho;have HB2:=Ak (HB.out.trans (Grew.of_append hg hat));clear ho hg hat)))
   go_ret
   refine ⟨_,rfl,?_,HB2.out⟩
   rw [← HE.out,putN_lt (show y<128 by omega)];exact HO2.out

end Go.Proofs.Ytcgkeolgflphiaa

namespace Go.Proofs.YtcgkeolgflphiaaW.PrintWords
open Go.RowKit
def Foot (P:World→Prop) (W:World) (ok:Nat→Prop):Prop:=∀ W':World,(∀ k,ok k→k<W.heap.size→W'.heap[k]?=W.heap[k]?)→P W'
theorem heap_lt {W W1:World} {k:Nat} (h:W1.heap[k]?=W.heap[k]?) (hlt:k<W.heap.size):k<W1.heap.size:=by
 rw [Array.getElem?_eq_getElem hlt] at h
 exact (Array.getElem?_eq_some_iff.1 h).1
namespace Foot
variable {P Q:World→Prop} {W W1:World} {ok ok':Nat→Prop}
theorem mono (h:Foot P W ok) (hok:∀ k,ok k→ok' k):Foot P W ok':=fun W' hW=>h W' (fun k hk hlt=>hW k (hok k hk) hlt)
theorem bound (h:Foot P W ok):Foot P W (fun k=>ok k∧k<W.heap.size):=fun W' hW=>h W' (fun k hk hlt=>hW k ⟨hk,hlt⟩ hlt)
theorem step (h:Foot P W ok) (hm:∀ k,ok k→k<W.heap.size→W1.heap[k]?=W.heap[k]?):Foot P W1 ok:=fun W' hW=>h W' (fun k hk hlt=>(hW k hk (heap_lt (hm k hk hlt) hlt)).trans (hm k hk hlt))
theorem imp (h:Foot P W ok) (hi:∀ W',P W'→Q W'):Foot Q W ok:=fun W' hW=>hi W' (h W' hW)
theorem old (h:Foot P W ok) (hb:Below W.heap.size W W1):Foot P W1 (fun k=>ok k∧k<W.heap.size):=(h.bound).step (fun k _ hlt=>hb.block k hlt)
end Foot
end Go.Proofs.YtcgkeolgflphiaaW.PrintWords

namespace Go.Proofs.YtcgkeolgflphiaaW.PrintMore
open Go.RowKit Go.Proofs.YtcgkeolgflphiaaW.PrintWords

end Go.Proofs.YtcgkeolgflphiaaW.PrintMore
namespace Go.Proofs.YtcgkeolgflphiaaW.PrintWords
open Go.RowKit
def mx (a b:Int):Int:=if a<b then b else a
end Go.Proofs.YtcgkeolgflphiaaW.PrintWords

namespace Go.Proofs.Ytcgkeolgflphiaa
open Go.RowKit Go.Proofs.YtcgkeolgflphiaaW.PrintWords Go.RegionInvYtcgkeolgflphiaa Go.Proofs.YtcgkeolgflphiaaW.PrintMore

set_option maxRecDepth 100000 in
theorem run_cut_mid {A:Option Addr} {n c:Nat} (k e:Nat) (hke:k≤e) (hen:e≤n) (hc:n≤c) :
  ∃ A',(∀ W,(Instr.slice 31 (.slice A n c) (some (.int .i64 (k:Int))) (some (.int .i64 (e:Int))) none).run Try.prog W=.ok (.slice A' (e - k) (c - k)) W) ∧
   ∀ w xs,ReadsInt w .u8 A n xs→ReadsInt w .u8 A' (e - k) ((xs.drop k).take (e - k)):=by
 refine ⟨if c=k then A else A.map (·.add k),fun W=>?_,fun w xs hr=>(hr.drop_ k (by omega) hc).take_ _ (by omega)⟩
 have hel:Try.prog.elem 31=5:=by kernel_rfl
 obtain ⟨i,hi,hz⟩:=Option.map_eq_some_iff.1 infoU8
 have hs:i.size=1:=by injection hz with _ hz;injection hz
 rw [run_slice_lh W 31 A n c (by rw [hel];exact Try.underlying31) .i64 .i64 k e (by omega) (by omega) (by omega),hel]
 simp [sizeOf,typeInfo,hi,hs,sliced,Result.andThen]
theorem reads_old {w w':World} {k:IntKind} {A:Option Addr} {n base:Nat} {xs:List Int} (h:ReadsInt w k A n xs) (ho:∀ i,i<n→∃ ad,A=some ad∧ad.block<base) (hb:Below base w w'):ReadsInt w' k A n xs:=by
 refine ⟨h.1,h.2.1,fun hn=>?_⟩
 obtain ⟨ad,e,hc⟩:=h.2.2 hn
 obtain ⟨ad',e',hlt⟩:=ho 0 hn
 rw [e] at e'
 obtain rfl:=Option.some.inj e'
 refine ⟨ad,e,fun j hj=>?_⟩
 rw [← hc j hj]
 refine hb.cell ?_
 unfold Addr.add;split <;> exact hlt
set_option maxHeartbeats 2000000 in
theorem takeBytes_calls (A:Option Addr) (n c:Nat) (xs:List Int) (most:Int) (w:World) (hr:ReadsInt w .u8 A n xs) (hc:n≤c) (hB:Bytes xs) (hl:n≤140737488355000) (hm0:-9223372036854775808≤most) (hm1:most≤9223372036854775807) :
  Calls Try.prog 105 #[.slice A n c,.int .i64 most] w fun e w'=>∃ v,e=.returned (.tuple #[v,.int .i64 (takeB xs most).2.1,.int .i64 (takeB xs most).2.2])∧OwnB w' w.heap.size v (takeB xs most).1∧Below w.heap.size w w':=by
 have HR:=Ak hr
 have hxn:=hr.1
 have HN:=Ak hxn
 go_enter Try.func105,Try.ntmps105
 rcases takeN_cases hB with hT | hT | ⟨m,k,hT,hm,hk1,hk2⟩
 ·have HE:=Ak (takeB_err (most:=most) hT (by decide))
  have HT:=Ak hT
  clear hT hr hxn
  go_wp2_with (go_at_call 75;go_must (refine (take_calls _ _ _ xs _ HR.out hB hl).mono ?_;rintro e w' ⟨rfl,hw⟩;obtain rfl:w=w':=hw.symm;rw [HT.out]))
  go_ret3
  exact ⟨.slice none 0 0,by rw [HE.out];rfl,by rw [HE.out];exact own_nil _ _ _ _,Below.refl _ _⟩
 ·have HE:=Ak (takeB_err (most:=most) hT (by decide))
  have HT:=Ak hT
  clear hT hr hxn
  go_wp2_with (go_at_call 75;go_must (refine (take_calls _ _ _ xs _ HR.out hB hl).mono ?_;rintro e w' ⟨rfl,hw⟩;obtain rfl:w=w':=hw.symm;rw [HT.out]))
  go_ret3
  exact ⟨.slice none 0 0,by rw [HE.out];rfl,by rw [HE.out];exact own_nil _ _ _ _,Below.refl _ _⟩
 ·have HT:=Ak hT
  by_cases hlong:most<0∨most<m
  ·have HE:=Ak (takeB_long hT hlong)
   clear hT hr hxn
   rcases Int.lt_or_le most 0 with h0 | h0
   ·clear hlong
    go_wp2_with (go_at_call 75;go_must (refine (take_calls _ _ _ xs _ HR.out hB hl).mono ?_;rintro e w' ⟨rfl,hw⟩;obtain rfl:w=w':=hw.symm;rw [HT.out]))
    go_ret3
    exact ⟨.slice none 0 0,by rw [HE.out];rfl,by rw [HE.out];exact own_nil _ _ _ _,Below.refl _ _⟩
   ·have h1:most<m:=by omega
    clear hlong
    go_wp2_with (go_at_call 75;go_must (refine (take_calls _ _ _ xs _ HR.out hB hl).mono ?_;rintro e w' ⟨rfl,hw⟩;obtain rfl:w=w':=hw.symm;rw [HT.out]))
    go_ret3
    exact ⟨.slice none 0 0,by rw [HE.out];rfl,by rw [HE.out];exact own_nil _ _ _ _,Below.refl _ _⟩
  ·have h0:0≤most:=by omega
   have h1:(m:Int)≤most:=by omega
   by_cases hs:(xs.length:Int) - k<m
   ·have HE:=Ak (takeB_short hT hlong hs)
    have hs2:(n:Int) - k<m:=by omega
    have hk3:(k:Int)≤n:=by omega
    clear hT hr hlong hs hxn
    go_wp2_with (go_at_call 75;go_must (refine (take_calls _ _ _ xs _ HR.out hB hl).mono ?_;rintro e w' ⟨rfl,hw⟩;obtain rfl:w=w':=hw.symm;rw [HT.out]))
    go_ret3
    exact ⟨.slice none 0 0,by rw [HE.out];rfl,by rw [HE.out];exact own_nil _ _ _ _,Below.refl _ _⟩
   ·have HE:=Ak (takeB_ok hT hlong hs)
    have hs2:(m:Int)≤(n:Int) - k:=by omega
    have hk3:(k:Int)≤n:=by omega
    obtain ⟨A',hcut,hrd⟩:=run_cut_mid (A:=A) (n:=n) (c:=c) k (k+m) (by omega) (by omega) hc
    have HRD:=Ak (hrd w xs HR.out)
    rw [show k+m - k=m by omega] at hcut HRD
    rw [Int.natCast_add] at hcut
    have hmn:m≤n:=by omega
    clear hT hr hlong hs hrd hxn
    go_wp2_with (first
     | (go_at_call 75;go_must (refine (take_calls _ _ _ xs _ HR.out hB hl).mono ?_;rintro e w' ⟨rfl,hw⟩;obtain rfl:w=w':=hw.symm;rw [HT.out]))
     | (at_builtin;go_must (refine print_append_row (w0:=w) w.heap.size rfl (.const (.slice none 0 0)) (.tmp 45) 31 5 .u8 1 rfl Try.underlying31 infoU8 (by decide) (.slice none 0 0) [] ((xs.drop k).take m) A' m (c - k) rfl rfl (own_nil _ _ _ _) HRD.out (Below.refl _ _) (Nat.le_refl _) (by simp;omega) ?_;intro v1 w1 ho hb _ _;have HO:=Ak ho;have HB:=Ak hb;clear ho hb)))
    go_ret3
    exact ⟨v1,by rw [HE.out];rfl,by rw [HE.out];exact HO.out,HB.out⟩

set_option maxHeartbeats 2000000 in
theorem refTakeBytes_calls (A:Option Addr) (n c:Nat) (xs:List Int) (most:Int) (w:World) (hr:ReadsInt w .u8 A n xs) (hc:n≤c) (hB:Bytes xs) (hl:n≤140737488355000) (hm0:-9223372036854775808≤most) (hm1:most≤9223372036854775807) :
  Calls Try.prog 110 #[.slice A n c,.int .i64 most] w fun e w'=>∃ v,e=.returned (.tuple #[v,.int .i64 (takeB xs most).2.1,.int .i64 (takeB xs most).2.2])∧OwnB w' w.heap.size v (takeB xs most).1∧Below w.heap.size w w':=by
 have HR:=Ak hr
 have hxn:=hr.1
 have HN:=Ak hxn
 go_enter Try.func110,Try.ntmps110
 rcases takeN_cases hB with hT | hT | ⟨m,k,hT,hm,hk1,hk2⟩
 ·have HE:=Ak (takeB_err (most:=most) hT (by decide))
  have HT:=Ak hT
  clear hT hr hxn
  go_wp2_with (go_at_call 76;go_must (refine (refTake_calls _ _ _ xs _ HR.out hB hl).mono ?_;rintro e w' ⟨rfl,hw⟩;obtain rfl:w=w':=hw.symm;rw [HT.out]))
  go_ret3
  exact ⟨.slice none 0 0,by rw [HE.out];rfl,by rw [HE.out];exact own_nil _ _ _ _,Below.refl _ _⟩
 ·have HE:=Ak (takeB_err (most:=most) hT (by decide))
  have HT:=Ak hT
  clear hT hr hxn
  go_wp2_with (go_at_call 76;go_must (refine (refTake_calls _ _ _ xs _ HR.out hB hl).mono ?_;rintro e w' ⟨rfl,hw⟩;obtain rfl:w=w':=hw.symm;rw [HT.out]))
  go_ret3
  exact ⟨.slice none 0 0,by rw [HE.out];rfl,by rw [HE.out];exact own_nil _ _ _ _,Below.refl _ _⟩
 ·have HT:=Ak hT
  by_cases hlong:most<0∨most<m
  ·have HE:=Ak (takeB_long hT hlong)
   clear hT hr hxn
   rcases Int.lt_or_le most 0 with h0 | h0
   ·clear hlong
    go_wp2_with (go_at_call 76;go_must (refine (refTake_calls _ _ _ xs _ HR.out hB hl).mono ?_;rintro e w' ⟨rfl,hw⟩;obtain rfl:w=w':=hw.symm;rw [HT.out]))
    go_ret3
    exact ⟨.slice none 0 0,by rw [HE.out];rfl,by rw [HE.out];exact own_nil _ _ _ _,Below.refl _ _⟩
   ·have h1:most<m:=by omega
    clear hlong
    go_wp2_with (go_at_call 76;go_must (refine (refTake_calls _ _ _ xs _ HR.out hB hl).mono ?_;rintro e w' ⟨rfl,hw⟩;obtain rfl:w=w':=hw.symm;rw [HT.out]))
    go_ret3
    exact ⟨.slice none 0 0,by rw [HE.out];rfl,by rw [HE.out];exact own_nil _ _ _ _,Below.refl _ _⟩
  ·have h0:0≤most:=by omega
   have h1:(m:Int)≤most:=by omega
   by_cases hs:(xs.length:Int) - k<m
   ·have HE:=Ak (takeB_short hT hlong hs)
    have hs2:(n:Int) - k<m:=by omega
    have hk3:(k:Int)≤n:=by omega
    clear hT hr hlong hs hxn
    go_wp2_with (go_at_call 76;go_must (refine (refTake_calls _ _ _ xs _ HR.out hB hl).mono ?_;rintro e w' ⟨rfl,hw⟩;obtain rfl:w=w':=hw.symm;rw [HT.out]))
    go_ret3
    exact ⟨.slice none 0 0,by rw [HE.out];rfl,by rw [HE.out];exact own_nil _ _ _ _,Below.refl _ _⟩
   ·have HE:=Ak (takeB_ok hT hlong hs)
    have hs2:(m:Int)≤(n:Int) - k:=by omega
    have hk3:(k:Int)≤n:=by omega
    obtain ⟨A',hcut,hrd⟩:=run_cut_mid (A:=A) (n:=n) (c:=c) k (k+m) (by omega) (by omega) hc
    have HRD:=Ak (hrd w xs HR.out)
    rw [show k+m - k=m by omega] at hcut HRD
    rw [Int.natCast_add] at hcut
    have hmn:m≤n:=by omega
    clear hT hr hlong hs hrd hxn
    go_wp2_with (first
     | (go_at_call 76;go_must (refine (refTake_calls _ _ _ xs _ HR.out hB hl).mono ?_;rintro e w' ⟨rfl,hw⟩;obtain rfl:w=w':=hw.symm;rw [HT.out]))
     | (at_builtin;go_must (refine print_append_row (w0:=w) w.heap.size rfl (.const (.slice none 0 0)) (.tmp 43) 31 5 .u8 1 rfl Try.underlying31 infoU8 (by decide) (.slice none 0 0) [] ((xs.drop k).take m) A' m (c - k) rfl rfl (own_nil _ _ _ _) HRD.out (Below.refl _ _) (Nat.le_refl _) (by simp;omega) ?_;intro v1 w1 ho hb _ _;have HO:=Ak ho;have HB:=Ak hb;clear ho hb)))
    go_ret3
    exact ⟨v1,by rw [HE.out];rfl,by rw [HE.out];exact HO.out,HB.out⟩

end Go.Proofs.Ytcgkeolgflphiaa

namespace Go.Proofs.Ytcgkeolgflphiaa
open Go.RowKit Go.Proofs.YtcgkeolgflphiaaW.PrintWords Go.RegionInvYtcgkeolgflphiaa Go.Proofs.YtcgkeolgflphiaaW.PrintMore

def putB (ys:List Int):List Int:=putN ys.length ++ ys
theorem putB_len (ys:List Int) (h:ys.length≤18446744073709551615):(putB ys).length≤ys.length+10:=by
 unfold putB
 have:=putN_len10 (n:=(ys.length:Int)) (by omega)
 simp only [List.length_append];omega
set_option maxHeartbeats 2000000 in
theorem putBytes_calls (A A2:Option Addr) (n c m c2:Nat) (xs ys:List Int) (w:World) (hr:ReadsInt w .u8 A n xs) (hr2:ReadsInt w .u8 A2 m ys) (hl:n+m≤140737488351232) :
  Calls Try.prog 55 #[.slice A n c,.slice A2 m c2] w fun e w'=>∃ v,e=.returned v∧OwnB w' w.heap.size v (xs ++ putB ys)∧Below w.heap.size w w':=by
 have HR:=Ak hr
 have HR2:=Ak hr2
 have hN:=hr.1
 have hM:=hr2.1
 have HN:=Ak hN
 have HM:=Ak hM
 have hp:=putN_len10 (n:=(m:Int)) (by omega)
 clear hr hr2 hN hM
 go_enter Try.func55,Try.ntmps55
 go_wp2_with (first
  | (go_at_call 57;go_must (refine (put_calls A n c xs (m:Int) _ HR.out (by omega) (by omega) (by omega)).mono ?_;rintro e w1 ⟨v,rfl,ho,hb⟩;have HO:=Ak ho;have HB:=Ak hb;clear ho hb))
  | (at_builtin;go_must (refine print_append_row (w0:=w) w.heap.size rfl (.tmp 9) (.tmp 10) 31 5 .u8 1 rfl Try.underlying31 infoU8 (by decide) v (xs ++ putN (m:Int)) ys A2 m c2 rfl rfl HO.out (HR2.out.below HB.out) HB.out HB.out.size (by have:=HN.out;simp only [List.length_append];omega) ?_;intro v2 w2 ho hb _ _;have HO2:=Ak ho;have HB2:=Ak hb;clear ho hb)))
 go_ret
 refine ⟨_,rfl,?_,HB2.out⟩
 unfold putB
 rw [HM.out,← List.append_assoc]
 exact HO2.out

end Go.Proofs.Ytcgkeolgflphiaa

namespace Go.Proofs.Ytcgkeolgflphiaa
open Go.RowKit Go.Proofs.YtcgkeolgflphiaaW.PrintWords Go.RegionInvYtcgkeolgflphiaa

mutual
def lvOk:Lv→Prop
 | .mk k n ks=>(1≤k∧k≤4)∧(k≠4→0≤n∧n≤1048576)∧lvsOk ks
def lvsOk:List Lv→Prop
 | []=>True
 | l :: r=>lvOk l∧lvsOk r
end
mutual
def lvB:Lv→List Int
 | .mk k n ks=>[k] ++ (if k=4 then [] else putN n) ++ lvsB ks
def lvsB:List Lv→List Int
 | []=>[]
 | l :: r=>lvB l ++ lvsB r
end
theorem lvsB_cons (x:Lv) (r:List Lv):lvsB (x :: r)=lvB x ++ lvsB r:=by rw [lvsB]
theorem right_ok {k n:Int} {ks:List Lv} (h:rightP (.mk k n ks) 1048576 0=true):(1≤k∧k≤4)∧(k≠4→0≤n∧n≤1048576):=by
 by_cases h0:(ks.length:Int)=arityP k
 ·have ha:0≤arityP k:=by omega
  by_cases h1:k=1
  ·subst h1;rw [right_num h0] at h;have:=of_decide_eq_true h;omega
  ·by_cases h2:k=2
   ·subst h2;rw [right_var h0] at h;have:=of_decide_eq_true h;omega
   ·by_cases h3:k=3
    ·subst h3;rw [right_succ h0] at h;have:=of_decide_eq_true h;omega
    ·by_cases h4:k=4
     ·exact ⟨by omega,fun h=>absurd h4 h⟩
     ·rw [arity_no h1 h2 h3 h4] at ha;omega
 ·rw [right_bad h0] at h;cases h
theorem mayF_ok {v:Int} (hv:v≤1048576) {k n:Int} {ks:List Lv} {d s:Int} (h:(mayF v (.mk k n ks) d s).1=0):(mayF v (.mk k n ks) d s).2=s+1∧(1≤k∧k≤4)∧(k≠4→0≤n∧n≤1048576):=by
 by_cases h1:32<d∨100<s+1
 ·rw [mayF_long h1] at h;cases h
 ·by_cases h2:k=2∧ks=[]
  ·have e:mayF v (.mk k n ks) d s=if n<0∨v≤n then (10,s+1) else (0,s+1):=mayF_var (v:=v) (l:=.mk k n ks) h1 h2
   rw [e] at h ⊢
   by_cases h3:n<0∨v≤n
   ·rw [if_pos h3] at h;cases h
   ·rw [if_neg h3];exact ⟨rfl,by omega,fun _=>by omega⟩
  ·have e:=mayF_rest (v:=v) (l:=.mk k n ks) h1 h2
   rw [e] at h ⊢
   by_cases h3:rightP (.mk k n ks) 1048576 0=false
   ·rw [if_pos h3] at h;cases h
   ·rw [if_neg h3]
    have:=right_ok (by simpa using h3)
    exact ⟨rfl,this.1,this.2⟩
theorem dl_node {k n:Int} (h:k≠4→0≤n∧n≤1048576):([k] ++ (if k=4 then [] else putN n)).length≤11:=by
 by_cases h4:k=4
 ·simp [h4]
 ·rw [if_neg h4]
  have:=h h4
  have:=putN_len10 (n:=n) (by omega)
  simp only [List.length_append,List.length_cons,List.length_nil]
  omega
mutual
theorem dl_walk {v:Int} (hv:v≤1048576):(l:Lv)→(d s:Int)→(walkP (mayF v) l d s).1=0→lvOk l∧((lvB l).length:Int)≤11 * ((walkP (mayF v) l d s).2 - s)
 | .mk k n ks,d,s,h=>by
  by_cases h1:(mayF v (.mk k n ks) d s).1=0
  ·rw [walkP_go h1] at h ⊢
   have h2:=mayF_ok hv h1
   have h3:=dl_walks hv ks (d+1) _ h
   have h4:=dl_node (k:=k) (n:=n) h2.2.2
   rw [lvOk,lvB,List.length_append]
   simp only [Lv.kids] at h3 ⊢
   refine ⟨⟨h2.2.1,h2.2.2,h3.1⟩,?_⟩
   have h5:=h3.2
   rw [h2.1] at h5 ⊢
   omega
  ·rw [walkP_stop h1] at h;exact absurd h h1
theorem dl_walks {v:Int} (hv:v≤1048576):(ls:List Lv)→(d s:Int)→(walkKs (mayF v) ls d s).1=0→lvsOk ls∧((lvsB ls).length:Int)≤11 * ((walkKs (mayF v) ls d s).2 - s)
 | [],d,s,_=>by
  rw [lvsOk,lvsB,walkKs]
  exact ⟨trivial,by simp⟩
 | x :: r,d,s,h=>by
  by_cases h2:(walkP (mayF v) x d s).1=0
  ·rw [walkKs_go h2] at h ⊢
   have h3:=dl_walk hv x d s h2
   have h4:=dl_walks hv r d _ h
   rw [lvsOk,lvsB,List.length_append]
   exact ⟨⟨h3.1,h4.1⟩,by have:=h3.2;have:=h4.2;omega⟩
  ·rw [walkKs_stop h2] at h;exact absurd h h2
end
theorem mayB_ok {v:Int} (hv:v≤1048576) {l:Lv} (h:mayB v l=0):lvOk l∧(lvB l).length≤1100:=by
 have h1:=dl_walk hv l 1 0 h
 have h2:=walkP_small (mayF_small v) l 1 0 (by decide) h
 exact ⟨h1.1,by have:=h1.2;omega⟩
theorem mayLs_ok {v:Int} (hv:v≤1048576):∀ (ls:List Lv),mayLs v ls=0→lvsOk ls∧(lvsB ls).length≤1100 * ls.length
 | [],_=>by rw [lvsOk,lvsB];exact ⟨trivial,by simp⟩
 | x :: r,h=>by
  by_cases h2:mayB v x=0
  ·rw [mayLs_go h2] at h
   have h3:=mayB_ok hv h2
   have h4:=mayLs_ok hv r h
   rw [lvsOk,lvsB,List.length_append,List.length_cons]
   exact ⟨⟨h3.1,h4.1⟩,by have:=h3.2;have:=h4.2;omega⟩
  ·rw [mayLs_stop h2] at h;exact absurd h h2
def ownOk (k n:Int) (nm:ByteArray) (lv:Lv) (ls:List Lv) (ks:List Tm):Prop:=
 (1≤k∧k≤7)∧(k=1→0≤n∧n≤1048576)∧(k=2→lvOk lv)∧(k=7→nm.size≤32∧lvsOk ls∧ls.length≤6)∧((k=1∨k=2∨k=7)→ks=[])∧ks.length≤3
def ownBy (k n:Int) (nm:ByteArray) (lv:Lv) (ls:List Lv):List Int:=
 if k=1 then putN n else if k=2 then lvB lv else if k=7 then putB (bytesOf nm) ++ (putN ls.length ++ lvsB ls) else []
mutual
def tmOk:Tm→Prop
 | .mk k n nm lv ls ks=>ownOk k n nm lv ls ks∧tmsOk ks
def tmsOk:List Tm→Prop
 | []=>True
 | t :: r=>tmOk t∧tmsOk r
end
mutual
def tmB:Tm→List Int
 | .mk k n nm lv ls ks=>[k] ++ ownBy k n nm lv ls ++ tmsB ks
def tmsB:List Tm→List Int
 | []=>[]
 | t :: r=>tmB t ++ tmsB r
end
theorem tmsB_cons (x:Tm) (r:List Tm):tmsB (x :: r)=tmB x ++ tmsB r:=by rw [tmsB]
theorem node_ok {v:Int} (hv:v≤1048576) {k n:Int} {nm:ByteArray} {lv:Lv} {ls:List Lv} {ks:List Tm} (h:mnP v (.mk k n nm lv ls ks)=0) :
  ownOk k n nm lv ls ks∧([k] ++ ownBy k n nm lv ls).length≤7000:=by
 have ha:(ks.length:Int)=arZ k:=mn_arity h
 have hI:=arZ_in k
 have hk:1≤k∧k≤7:=by
  unfold arZ at ha
  split at ha
  ·omega
  ·split at ha
   ·omega
   ·split at ha <;> omega
 have h0:(k=1∨k=2∨k=7)→ks=[]:=fun hh=>List.eq_nil_of_length_eq_zero (by unfold arZ at ha;rw [if_pos hh] at ha;omega)
 have h3:ks.length≤3:=by omega
 unfold ownOk ownBy
 by_cases k1:k=1
 ·subst k1
  have hn:0≤n∧n≤1048576:=by
   by_cases hb:n<0∨1048576<n
   ·have:=mn_num (v:=v) (t:=.mk 1 n nm lv ls ks) ha ⟨rfl,hb⟩
    rw [this] at h;cases h
   ·omega
  have:=putN_len10 (n:=n) (by omega)
  refine ⟨⟨hk,fun _=>hn,fun e=>by omega,fun e=>by omega,h0,h3⟩,?_⟩
  rw [if_pos rfl]
  simp only [List.length_append,List.length_cons,List.length_nil]
  omega
 ·by_cases k2:k=2
  ·subst k2
   have h1:=mn_sort (v:=v) (t:=.mk 2 n nm lv ls ks) ha rfl
   rw [h] at h1
   have h2:=mayB_ok hv (l:=lv) h1.symm
   refine ⟨⟨hk,fun e=>by omega,fun _=>h2.1,fun e=>by omega,h0,h3⟩,?_⟩
   rw [if_neg k1,if_pos rfl]
   have:=h2.2
   simp only [List.length_append,List.length_cons,List.length_nil]
   omega
  ·by_cases k7:k=7
   ·subst k7
    have h1:mnP v (.mk 7 n nm lv ls ks)=if nameB nm=false then 8 else if 6<ls.length then 2 else mayLs v ls:=mn_const (v:=v) (t:=.mk 7 n nm lv ls ks) ha rfl
    rw [h] at h1
    by_cases hn:nameB nm=false
    ·rw [if_pos hn] at h1;cases h1
    ·rw [if_neg hn] at h1
     have hnm:nm.size≤32:=(of_decide_eq_true (by simpa [nameB] using hn):NameP nm).1.2
     by_cases h6:6<ls.length
     ·rw [if_pos h6] at h1;cases h1
     ·rw [if_neg h6] at h1
      have h2:=mayLs_ok hv ls h1.symm
      refine ⟨⟨hk,fun e=>by omega,fun e=>by omega,fun _=>⟨hnm,h2.1,by omega⟩,h0,h3⟩,?_⟩
      rw [if_neg k1,if_neg k2,if_pos rfl]
      have hb:=putB_len (bytesOf nm) (by rw [bytesOf_length];omega)
      rw [bytesOf_length] at hb
      have hp:=putN_len10 (n:=(ls.length:Int)) (by omega)
      have:=h2.2
      simp only [List.length_append,List.length_cons,List.length_nil]
      omega
   ·refine ⟨⟨hk,fun e=>absurd e k1,fun e=>absurd e k2,fun e=>absurd e k7,h0,h3⟩,?_⟩
    rw [if_neg k1,if_neg k2,if_neg k7]
    simp
theorem fold_ok {v:Int} (hv:v≤1048576) (N:Nat):∀ (t:Tm),SizeOf.sizeOf t<N→∀ (d b:Int) (s:Int × Int),(foldP (mtF v) t d b s).1=true→tmOk t∧((tmB t).length:Int)≤7000 * ((foldP (mtF v) t d b s).2.1 - s.1):=by
 induction N with
 | zero=>intro t h;omega
 | succ N ih =>
  intro t hN d b s h
  by_cases h1:(mtF v t d b s).1=true
  ·have hl:¬ (64<d∨400<s.1+1):=fun hl=>by rw [mtF_long hl] at h1;cases h1
   have hm:mnP v t=0:=by rw [mtF_node hl] at h1;exact of_decide_eq_true h1
   have hs:(mtF v t d b s).2=(s.1+1,0):=by rw [mtF_node hl,hm]
   rw [foldP_go h1,hs] at h ⊢
   have hnk:=mn_nK hm
   have key:∀ (j k:Nat) (q:Int × Int),k+j=nK t→(runL (fun (i:Fin (nK t)) s=>foldP (mtF v) (kidF t i) (d+1) (b+moreZ t i) s) ((List.finRange (nK t)).drop k) q).1=true →
     tmsOk (t.kids.drop k)∧((tmsB (t.kids.drop k)).length:Int)≤7000 * ((runL (fun (i:Fin (nK t)) s=>foldP (mtF v) (kidF t i) (d+1) (b+moreZ t i) s) ((List.finRange (nK t)).drop k) q).2.1 - q.1):=by
    intro j
    induction j with
    | zero =>
     intro k q hk _
     have e1:(List.finRange (nK t)).drop k=[]:=List.drop_of_length_le (by simp;omega)
     have e2:t.kids.drop k=[]:=List.drop_of_length_le (by omega)
     rw [e1,e2,tmsOk,tmsB,runL]
     exact ⟨trivial,by simp⟩
    | succ j ihj =>
     intro k q hk hr
     have hkn:k<nK t:=by omega
     have hdf:(List.finRange (nK t)).drop k=⟨k,hkn⟩ :: (List.finRange (nK t)).drop (k+1):=by
      rw [List.drop_eq_getElem_cons (by simpa using hkn)]
      simp
     have hdk:t.kids.drop k=kidF t ⟨k,hkn⟩ :: t.kids.drop (k+1):=List.drop_eq_getElem_cons (by omega)
     rw [hdf,runL] at hr ⊢
     rw [hdk,tmsOk,tmsB,List.length_append]
     by_cases hx:(foldP (mtF v) (kidF t ⟨k,hkn⟩) (d+1) (b+moreZ t k) q).1=true
     ·rw [if_pos hx] at hr ⊢
      have h3:=ih (kidF t ⟨k,hkn⟩) (by have:=kidF_lt t ⟨k,hkn⟩;omega) (d+1) (b+moreZ t k) q hx
      have h4:=ihj (k+1) _ (by omega) hr
      refine ⟨⟨h3.1,h4.1⟩,?_⟩
      have h6:=h3.2
      have h7:=h4.2
      push_cast
      generalize (runL (fun (i:Fin (nK t)) s=>foldP (mtF v) (kidF t i) (d+1) (b+moreZ t i) s) ((List.finRange (nK t)).drop (k+1)) (foldP (mtF v) (kidF t ⟨k,hkn⟩) (d+1) (b+moreZ t k) q).2).2.1=z1 at h7 ⊢
      generalize (foldP (mtF v) (kidF t ⟨k,hkn⟩) (d+1) (b+moreZ t k) q).2.1=z2 at h6 h7 ⊢
      omega
     ·rw [if_neg hx] at hr;cases hr
   have h2:=key (nK t) 0 (s.1+1,0) (by omega) h
   obtain ⟨k,n,nm,lv,ls,ks⟩:=t
   have h5:=node_ok hv hm
   rw [tmOk,tmB,List.length_append]
   simp only [List.drop_zero,Tm.kids] at h2
   refine ⟨⟨h5.1,h2.1⟩,?_⟩
   have:=h2.2
   have:=h5.2
   omega
  ·have h2:(mtF v t d b s).1=false:=by simpa using h1
   rw [foldP_stop h2,h2] at h;cases h
end Go.Proofs.Ytcgkeolgflphiaa

namespace Go.Proofs.Ytcgkeolgflphiaa
open Go.RowKit Go.Proofs.YtcgkeolgflphiaaW.PrintWords Go.RegionInvYtcgkeolgflphiaa

def kindR (most:Int):List Int→Except Int (Int × List Int)
 | []=>.error 3
 | x :: r=>if x<1∨most<x then .error 4 else .ok (x,r)
def numR (xs:List Int):Except Int (Int × List Int):=
 if (takeN xs).2.2≠0 then .error (takeN xs).2.2 else if 1048576<(takeN xs).1 then .error 1 else .ok ((takeN xs).1,xs.drop (takeN xs).2.1.toNat)
def nameOf (ys:List Int):ByteArray:=⟨(ys.map fun x=>UInt8.ofNat x.toNat).toArray⟩
def nameR (xs:List Int):Except Int (ByteArray × List Int):=
 if (takeB xs 32).2.2≠0 then .error (if (takeB xs 32).2.2=2 then 8 else (takeB xs 32).2.2)
 else if nameB (nameOf (takeB xs 32).1)=true then .ok (nameOf (takeB xs 32).1,xs.drop (takeB xs 32).2.1.toNat) else .error 8
def kidsR {α:Type} (g:List Int→Int→Except Int (α × List Int × Int)):Nat→List Int→Int→Except Int (List α × List Int × Int)
 | 0,xs,m=>.ok ([],xs,m)
 | n+1,xs,m=>match g xs m with
  | .error e=>.error e
  | .ok (t,r,m1)=>match kidsR g n r m1 with
   | .error e=>.error e
   | .ok (l,r',m2)=>.ok (t :: l,r',m2)
def lvKids (k:Int):Nat:=if k=4 then 2 else if k=3 then 1 else 0
def lvR:Nat→List Int→Int→Except Int (Lv × List Int × Int)
 | 0,xs,_=>match kindR 4 xs with
  | .error e=>.error e
  | .ok _=>.error 2
 | f+1,xs,m=>match kindR 4 xs with
  | .error e=>.error e
  | .ok (k,r) =>
   if 100<m+1 then .error 2
   else match (if k=4 then .ok (0,r) else numR r) with
    | .error e=>.error e
    | .ok (n,r0)=>match kidsR (lvR f) (lvKids k) r0 (m+1) with
     | .error e=>.error e
     | .ok (l,r1,m1)=>.ok (.mk k n l,r1,m1)
def manyR {α:Type} (f:List Int→Except Int (α × List Int)):Nat→List Int→Except Int (List α × List Int)
 | 0,xs=>.ok ([],xs)
 | n+1,xs=>match f xs with
  | .error e=>.error e
  | .ok (x,r)=>match manyR f n r with
   | .error e=>.error e
   | .ok (l,r')=>.ok (x :: l,r')
def listR {α:Type} (most:Int) (f:List Int→Except Int (α × List Int)) (xs:List Int):Except Int (List α × List Int):=
 if (takeN xs).2.2≠0 then .error (takeN xs).2.2 else if most<(takeN xs).1 then .error 18 else manyR f (takeN xs).1.toNat (xs.drop (takeN xs).2.1.toNat)
def lev1 (xs:List Int):Except Int (Lv × List Int):=match lvR 32 xs 0 with
 | .error e=>.error e
 | .ok (l,r,_)=>.ok (l,r)
def tmR:Nat→List Int→Int→Except Int (Tm × List Int × Int)
 | 0,xs,_=>match kindR 7 xs with
  | .error e=>.error e
  | .ok _=>.error 2
 | f+1,xs,m=>match kindR 7 xs with
  | .error e=>.error e
  | .ok (k,r) =>
   if 400<m+1 then .error 2
   else if k=1 then match numR r with
    | .error e=>.error e
    | .ok (n,r0)=>.ok (.mk 1 n ⟨#[]⟩ (.mk 0 0 []) [] [],r0,m+1)
   else if k=2 then match lev1 r with
    | .error e=>.error e
    | .ok (l,r0)=>.ok (.mk 2 0 ⟨#[]⟩ l [] [],r0,m+1)
   else if k=7 then match nameR r with
    | .error e=>.error e
    | .ok (s,r0)=>match listR 6 lev1 r0 with
     | .error e=>.error e
     | .ok (ls,r1)=>.ok (.mk 7 0 s (.mk 0 0 []) ls [],r1,m+1)
   else match kidsR (tmR f) (if k=5 then 3 else 2) r (m+1) with
    | .error e=>.error e
    | .ok (l,r1,m1)=>.ok (.mk k 0 ⟨#[]⟩ (.mk 0 0 []) [] l,r1,m1)
def wholeR (xs:List Int):Except Int (Tm × List Int):=match tmR 64 xs 0 with
 | .error e=>.error e
 | .ok (t,r,_)=>.ok (t,r)
theorem nameOf_bytes {ys:List Int} (h:Bytes ys):bytesOf (nameOf ys)=ys:=by
 unfold bytesOf nameOf
 rw [List.map_map]
 refine (List.map_congr_left fun x hx=>?_).trans (List.map_id _)
 have:=h x hx
 show (((UInt8.ofNat x.toNat).toNat:Nat):Int)=x
 rw [UInt8.toNat_ofNat']
 omega
theorem bytes_nameOf (s:ByteArray):nameOf (bytesOf s)=s:=by
 unfold bytesOf nameOf
 rw [List.map_map]
 have:(s.data.toList.map ((fun x:Int=>UInt8.ofNat x.toNat) ∘ fun b=>(b.toNat:Int)))=s.data.toList:=by
  refine (List.map_congr_left fun x hx=>?_).trans (List.map_id _)
  show UInt8.ofNat ((x.toNat:Int)).toNat=x
  rw [Int.toNat_natCast,UInt8.ofNat_toNat]
 rw [this]
theorem kind_put {most k:Int} {xs r:List Int} (h:kindR most xs=.ok (k,r)):xs=k :: r∧1≤k∧k≤most:=by
 cases xs with
 | nil=>cases h
 | cons x t =>
  simp only [kindR] at h
  split at h
  ·cases h
  ·simp only [Except.ok.injEq,Prod.mk.injEq] at h
   obtain ⟨rfl,rfl⟩:=h
   exact ⟨rfl,by omega,by omega⟩
theorem take_put_eq {xs:List Int} (hB:Bytes xs) (h:(takeN xs).2.2=0):xs=putN (takeN xs).1 ++ xs.drop (takeN xs).2.1.toNat∧0≤(takeN xs).1:=by
 have h1:=put_take (xs:=xs) (m:=(takeN xs).1) (k:=(takeN xs).2.1) hB (by rw [← h])
 exact ⟨by rw [h1.1,List.take_append_drop],h1.2.1⟩
theorem num_put {n:Int} {xs r:List Int} (hB:Bytes xs) (h:numR xs=.ok (n,r)):xs=putN n ++ r∧0≤n∧n≤1048576:=by
 unfold numR at h
 split at h
 ·cases h
 ·split at h
  ·cases h
  ·rename_i h1 h2
   simp only [Except.ok.injEq,Prod.mk.injEq] at h
   obtain ⟨rfl,rfl⟩:=h
   have:=take_put_eq hB (by simpa using h1)
   exact ⟨this.1,this.2,by omega⟩
theorem Bytes.right {xs ys zs:List Int} (h:Bytes xs) (e:xs=ys ++ zs):Bytes zs:=fun x hx=>h x (by rw [e];exact List.mem_append.2 (.inr hx))
theorem Bytes.left {xs ys zs:List Int} (h:Bytes xs) (e:xs=ys ++ zs):Bytes ys:=fun x hx=>h x (by rw [e];exact List.mem_append.2 (.inl hx))
theorem kids_put {α:Type} {b:α→List Int} {bs:List α→List Int} (h0:bs []=[]) (hc:∀ x l,bs (x :: l)=b x ++ bs l) {g:List Int→Int→Except Int (α × List Int × Int)} (hg:∀ {xs r:List Int} {m m':Int} {t:α},Bytes xs→g xs m=.ok (t,r,m')→xs=b t ++ r) :
  ∀ (n:Nat) {xs r:List Int} {m m':Int} {l:List α},Bytes xs→kidsR g n xs m=.ok (l,r,m')→xs=bs l ++ r∧l.length=n
 | 0,xs,r,m,m',l,_,h=>by
  simp only [kidsR,Except.ok.injEq,Prod.mk.injEq] at h
  obtain ⟨rfl,rfl,rfl⟩:=h
  rw [h0];exact ⟨rfl,rfl⟩
 | n+1,xs,r,m,m',l,hB,h=>by
  unfold kidsR at h
  split at h
  ·cases h
  ·rename_i t r1 m1 h1
   split at h
   ·cases h
   ·rename_i l' r2 m2 h2
    simp only [Except.ok.injEq,Prod.mk.injEq] at h
    obtain ⟨rfl,rfl,rfl⟩:=h
    have e1:=hg hB h1
    have e2:=kids_put h0 hc hg n (hB.right e1) h2
    rw [hc,List.append_assoc,← e2.1,List.length_cons,e2.2]
    exact ⟨e1,rfl⟩
theorem lv_put:∀ (f:Nat) {xs r:List Int} {m m':Int} {l:Lv},Bytes xs→lvR f xs m=.ok (l,r,m')→xs=lvB l ++ r
 | 0,xs,r,m,m',l,_,h=>by
  unfold lvR at h
  split at h <;> cases h
 | f+1,xs,r,m,m',l,hB,h=>by
  unfold lvR at h
  split at h
  ·cases h
  ·rename_i k r0 hk
   obtain ⟨rfl,hk1,hk4⟩:=kind_put hk
   have hB0:Bytes r0:=hB.right (ys:=[k]) rfl
   split at h
   ·cases h
   split at h
   ·cases h
   ·rename_i n r1 hn
    split at h
    ·cases h
    ·rename_i l' r2 m1 hl
     simp only [Except.ok.injEq,Prod.mk.injEq] at h
     obtain ⟨rfl,rfl,rfl⟩:=h
     have e0:r0=(if k=4 then [] else putN n) ++ r1:=by
      by_cases k4:k=4
      ·rw [if_pos k4] at hn ⊢
       simp only [Except.ok.injEq,Prod.mk.injEq] at hn
       rw [hn.2];rfl
      ·rw [if_neg k4] at hn ⊢
       exact (num_put hB0 hn).1
     have e1:=kids_put (by rw [lvsB]) (fun x l=>lvsB_cons x l) (fun hB h=>lv_put f hB h) _ (hB0.right e0) hl
     rw [lvB,e0,e1.1]
     simp
theorem takeB_eq {xs:List Int} {most:Int} (hB:Bytes xs) (h:(takeB xs most).2.2=0):xs=putB (takeB xs most).1 ++ xs.drop (takeB xs most).2.1.toNat:=by
 have hr:=takeN_range hB
 unfold takeB at h ⊢
 by_cases h1:(takeN xs).2.2≠0
 ·simp only [if_pos h1] at h;exact absurd h h1
 simp only [if_neg h1] at h ⊢
 by_cases h2:most<0∨most<(takeN xs).1
 ·rw [if_pos h2] at h;simp at h
 rw [if_neg h2] at h ⊢
 by_cases h3:(xs.length:Int) - (takeN xs).2.1<(takeN xs).1
 ·rw [if_pos h3] at h;simp at h
 rw [if_neg h3] at h ⊢
 have h4:(takeN xs).2.2=0:=by omega
 have h5:=take_put_eq hB h4
 have h6:=put_take (xs:=xs) (m:=(takeN xs).1) (k:=(takeN xs).2.1) hB (by rw [← h4])
 obtain ⟨n,hn⟩:∃ n:Nat,(takeN xs).1=n:=⟨(takeN xs).1.toNat,by omega⟩
 obtain ⟨k,hk⟩:∃ k:Nat,(takeN xs).2.1=k:=⟨(takeN xs).2.1.toNat,by omega⟩
 rw [hn,hk] at h5 h3 ⊢
 simp only [Int.toNat_natCast] at h5 ⊢
 have hl:((xs.drop k).take n).length=n:=by rw [List.length_take,List.length_drop];omega
 unfold putB
 rw [hl,show ((k:Int)+(n:Int)).toNat=k+n by omega,List.append_assoc,← List.drop_drop,List.take_append_drop]
 exact h5.1
theorem name_put {s:ByteArray} {xs r:List Int} (hB:Bytes xs) (h:nameR xs=.ok (s,r)):xs=putB (bytesOf s) ++ r∧nameB s=true:=by
 unfold nameR at h
 split at h
 ·cases h
 ·rename_i h1
  split at h
  ·rename_i h2
   simp only [Except.ok.injEq,Prod.mk.injEq] at h
   obtain ⟨rfl,rfl⟩:=h
   have e:=takeB_eq hB (by simpa using h1)
   refine ⟨?_,h2⟩
   rw [nameOf_bytes]
   ·exact e
   ·have h3:=hB.left e
    unfold putB at h3
    exact fun x hx=>h3 x (List.mem_append.2 (.inr hx))
  ·cases h
theorem lev1_put {xs r:List Int} {l:Lv} (hB:Bytes xs) (h:lev1 xs=.ok (l,r)):xs=lvB l ++ r:=by
 unfold lev1 at h
 split at h
 ·cases h
 ·rename_i h1
  simp only [Except.ok.injEq,Prod.mk.injEq] at h
  obtain ⟨rfl,rfl⟩:=h
  exact lv_put 32 hB h1
theorem many_put {α:Type} {f:List Int→Except Int (α × List Int)} {g:α→List Int} {gs:List α→List Int} (h0:gs []=[]) (hc:∀ x l,gs (x :: l)=g x ++ gs l) (hf:∀ {xs r:List Int} {x:α},Bytes xs→f xs=.ok (x,r)→xs=g x ++ r) :
  ∀ (n:Nat) {xs r:List Int} {l:List α},Bytes xs→manyR f n xs=.ok (l,r)→xs=gs l ++ r∧l.length=n
 | 0,xs,r,l,_,h=>by
  simp only [manyR,Except.ok.injEq,Prod.mk.injEq] at h
  obtain ⟨rfl,rfl⟩:=h
  rw [h0];exact ⟨rfl,rfl⟩
 | n+1,xs,r,l,hB,h=>by
  unfold manyR at h
  split at h
  ·cases h
  ·rename_i x r1 h1
   split at h
   ·cases h
   ·rename_i l' r2 h2
    simp only [Except.ok.injEq,Prod.mk.injEq] at h
    obtain ⟨rfl,rfl⟩:=h
    have e1:=hf hB h1
    have e2:=many_put h0 hc hf n (hB.right e1) h2
    rw [hc,List.append_assoc,← e2.1,List.length_cons,e2.2]
    exact ⟨e1,rfl⟩
theorem list_put {α:Type} {most:Int} {f:List Int→Except Int (α × List Int)} {g:α→List Int} {gs:List α→List Int} (h0:gs []=[]) (hc:∀ x l,gs (x :: l)=g x ++ gs l) (hf:∀ {xs r:List Int} {x:α},Bytes xs→f xs=.ok (x,r)→xs=g x ++ r)
  {xs r:List Int} {l:List α} (hB:Bytes xs) (h:listR most f xs=.ok (l,r)):xs=putN l.length ++ (gs l ++ r)∧(l.length:Int)≤most:=by
 unfold listR at h
 split at h
 ·cases h
 ·rename_i h1
  split at h
  ·cases h
  ·rename_i h2
   have e0:=take_put_eq hB (by simpa using h1)
   have e1:=many_put h0 hc hf _ (hB.right e0.1) h
   have e2:((l.length:Nat):Int)=(takeN xs).1:=by rw [e1.2];omega
   rw [e2,← e1.1]
   exact ⟨e0.1,by omega⟩
theorem tm_put:∀ (f:Nat) {xs r:List Int} {m m':Int} {t:Tm},Bytes xs→tmR f xs m=.ok (t,r,m')→xs=tmB t ++ r
 | 0,xs,r,m,m',t,_,h=>by
  unfold tmR at h
  split at h <;> cases h
 | f+1,xs,r,m,m',t,hB,h=>by
  unfold tmR at h
  split at h
  ·cases h
  ·rename_i k r0 hk
   obtain ⟨rfl,hk1,hk7⟩:=kind_put hk
   have hB0:Bytes r0:=hB.right (ys:=[k]) rfl
   split at h
   ·cases h
   split at h
   ·rename_i k1
    subst k1
    split at h
    ·cases h
    ·rename_i n r1 hn
     simp only [Except.ok.injEq,Prod.mk.injEq] at h
     obtain ⟨rfl,rfl,rfl⟩:=h
     rw [tmB,tmsB,ownBy,if_pos rfl,(num_put hB0 hn).1]
     simp
   ·rename_i k1
    split at h
    ·rename_i k2
     subst k2
     split at h
     ·cases h
     ·rename_i l r1 hl
      simp only [Except.ok.injEq,Prod.mk.injEq] at h
      obtain ⟨rfl,rfl,rfl⟩:=h
      rw [tmB,tmsB,ownBy,if_neg k1,if_pos rfl,lev1_put hB0 hl]
      simp
    ·rename_i k2
     split at h
     ·rename_i k7
      subst k7
      split at h
      ·cases h
      ·rename_i s r1 hs
       split at h
       ·cases h
       ·rename_i ls r2 hls
        simp only [Except.ok.injEq,Prod.mk.injEq] at h
        obtain ⟨rfl,rfl,rfl⟩:=h
        have e1:=name_put hB0 hs
        have e2:=list_put (g:=lvB) (gs:=lvsB) (by rw [lvsB]) (fun x l=>lvsB_cons x l) lev1_put (hB0.right e1.1) hls
        rw [tmB,tmsB,ownBy,if_neg k1,if_neg k2,if_pos rfl,e1.1,e2.1]
        simp
     ·rename_i k7
      split at h
      ·cases h
      ·rename_i l r1 m1 hl
       simp only [Except.ok.injEq,Prod.mk.injEq] at h
       obtain ⟨rfl,rfl,rfl⟩:=h
       have e1:=kids_put (by rw [tmsB]) (fun x l=>tmsB_cons x l) (fun hB h=>tm_put f hB h) _ hB0 hl
       rw [tmB,ownBy,if_neg k1,if_neg k2,if_neg k7,e1.1]
       simp
theorem whole_put {xs r:List Int} {t:Tm} (hB:Bytes xs) (h:wholeR xs=.ok (t,r)):xs=tmB t ++ r:=by
 unfold wholeR at h
 split at h
 ·cases h
 ·rename_i h1
  simp only [Except.ok.injEq,Prod.mk.injEq] at h
  obtain ⟨rfl,rfl⟩:=h
  exact tm_put 64 hB h1
end Go.Proofs.Ytcgkeolgflphiaa

namespace Go.Proofs.Ytcgkeolgflphiaa
open Go.RowKit Go.Proofs.YtcgkeolgflphiaaW.PrintWords Go.RegionInvYtcgkeolgflphiaa

theorem refkids_calls (k:Int) (w:World):Calls Try.prog 67 #[.int .i64 k] w fun e w'=>e=.returned (.int .i64 (arZ k))∧w'=w:=by
 go_enter Try.func67,Try.ntmps67
 by_cases h1:k=1
 ·subst h1;go_wp2;go_ret;exact ⟨rfl,rfl⟩
 ·by_cases h2:k=2
  ·subst h2;go_wp2;go_ret;exact ⟨rfl,rfl⟩
  ·by_cases h7:k=7
   ·subst h7;go_wp2;go_ret;exact ⟨rfl,rfl⟩
   ·by_cases h3:k=3
    ·subst h3;go_wp2;go_ret;exact ⟨rfl,rfl⟩
    ·by_cases h4:k=4
     ·subst h4;go_wp2;go_ret;exact ⟨rfl,rfl⟩
     ·by_cases h6:k=6
      ·subst h6;go_wp2;go_ret;exact ⟨rfl,rfl⟩
      ·by_cases h5:k=5
       ·subst h5;go_wp2;go_ret;exact ⟨rfl,rfl⟩
       ·have HE:=Ak (show arZ k = -1 by unfold arZ;rw [if_neg (by omega),if_neg (by omega),if_neg h5])
        have b1:(k == 1)=false:=by simp [h1]
        have b2:(k == 2)=false:=by simp [h2]
        have b3:(k == 3)=false:=by simp [h3]
        have b4:(k == 4)=false:=by simp [h4]
        have b5:(k == 5)=false:=by simp [h5]
        have b6:(k == 6)=false:=by simp [h6]
        have b7:(k == 7)=false:=by simp [h7]
        go_wp2
        go_ret
        rw [HE.out]
        exact ⟨rfl,rfl⟩
abbrev kidsM (v:Int) (t:Tm) (d b:Int):Fin (nK t)→Int × Int→Bool × (Int × Int):=fun (i:Fin (nK t)) s=>foldP (mtF v) (kidF t i) (d+1) (b+moreZ t i) s
theorem mt_long {v:Int} {t:Tm} {d b s:Int} (h:64<d∨400<s+1):foldP (mtF v) t d b (s,0)=(false,(s+1,2)):=by
 have h1:=mtF_long (v:=v) (t:=t) (b:=b) (s:=(s,0)) h
 rw [foldP_stop (by rw [h1]),h1]
theorem mt_stop {v:Int} {t:Tm} {d b s m:Int} (h:¬ (64<d∨400<s+1)) (hm:mnP v t=m) (h0:m≠0):foldP (mtF v) t d b (s,0)=(false,(s+1,m)):=by
 have h1:=mtF_node (v:=v) (t:=t) (b:=b) (s:=(s,0)) h
 rw [hm,decide_eq_false h0] at h1
 rw [foldP_stop (by rw [h1]),h1]
theorem mt_go {v:Int} {t:Tm} {d b s:Int} (h:¬ (64<d∨400<s+1)) (hm:mnP v t=0):foldP (mtF v) t d b (s,0)=runL (kidsM v t d b) (List.finRange (nK t)) (s+1,0):=by
 have h1:=mtF_node (v:=v) (t:=t) (b:=b) (s:=(s,0)) h
 rw [hm] at h1
 rw [foldP_go (by rw [h1];rfl),h1]
theorem mt_leaf {v:Int} {t:Tm} {d b s:Int} (h:¬ (64<d∨400<s+1)) (hm:mnP v t=0) (hk:arZ t.kind=0):foldP (mtF v) t d b (s,0)=(true,(s+1,0)):=by
 rw [mt_go h hm]
 have:List.finRange (nK t)=[]:=List.eq_nil_of_length_eq_zero (by simp [mn_nK hm];have:=mn_arity hm;rw [hk] at this;simpa using this)
 rw [this];rfl
theorem mt_true (v:Int) (N:Nat):∀ (t:Tm),SizeOf.sizeOf t<N→∀ (d b:Int) (s:Int × Int),((foldP (mtF v) t d b s).1=true↔(foldP (mtF v) t d b s).2.2=0):=by
 induction N with
 | zero=>intro t h;omega
 | succ N ih =>
  intro t hN d b s
  by_cases h1:(mtF v t d b s).1=true
  ·rw [foldP_go h1]
   have h0:(mtF v t d b s).2.2=0:=by
    by_cases h:64<d∨400<s.1+1
    ·rw [mtF_long h] at h1;cases h1
    ·rw [mtF_node h] at h1 ⊢;exact of_decide_eq_true h1
   have key:∀ (xs:List (Fin (nK t))) (s:Int × Int),s.2=0→((runL (kidsM v t d b) xs s).1=true↔(runL (kidsM v t d b) xs s).2.2=0):=by
    intro xs
    induction xs with
    | nil=>intro s hs;exact ⟨fun _=>hs,fun _=>rfl⟩
    | cons x r ihr =>
     intro s hs
     have hx:=ih (kidF t x) (by have:=kidF_lt t x;omega) (d+1) (b+moreZ t x) s
     rw [runL]
     by_cases hc:(kidsM v t d b x s).1=true
     ·rw [if_pos hc]
      exact ihr _ (hx.1 hc)
     ·rw [if_neg hc]
      exact ⟨fun h=>(by cases h),fun h=>absurd (hx.2 h) hc⟩
   exact key _ _ h0
  ·have h2:(mtF v t d b s).1=false:=by simpa using h1
   rw [foldP_stop h2]
   by_cases h:64<d∨400<s.1+1
   ·rw [mtF_long h];exact ⟨fun h=>(by cases h),fun h=>(by cases h)⟩
   ·rw [mtF_node h];exact ⟨fun h=>of_decide_eq_true h,fun h=>decide_eq_true h⟩
theorem drop_fin {n k:Nat} (h:k<n):(List.finRange n).drop k=⟨k,h⟩ :: (List.finRange n).drop (k+1):=by
 rw [List.drop_eq_getElem_cons (by simpa using h)]
 simp
def MtPost (w:World) (g:Nat) (r:Bool × (Int × Int)) (e:Ending) (w':World):Prop:=e=.returned (.int .i64 r.2.2)∧NumAt w' g r.2.1∧Chg (fun k=>k=g) w w'
theorem refmay_at (A:Option Addr) (c m:Nat) (k n:Int) (l:Lv) (v:Int) (w:World) (hk:l.kind=k) (hn:l.num=n) (hm:l.kids.length=m) (hin:LvIn w w.heap.size A c l) :
  Calls Try.prog 85 #[.agg #[.int .i64 k,.int .i64 n,.slice A m c],.int .i64 v] w fun e w'=>e=.returned (.int .i64 (mayB v l))∧Below w.heap.size w w':=by
 subst hk;subst hn;subst hm
 exact refMay_calls A c l v w hin
set_option maxRecDepth 100000 in
set_option maxHeartbeats 16000000 in
theorem ref_mayt (v:Int) (N:Nat):∀ (t:Tm),SizeOf.sizeOf t<N→∀ (p:Pl) (d b s:Int) (g B:Nat) (w:World),TmIn w B p t→NumAt w g s→B≤g→0≤s→s≤400→0≤d→d≤65 →
  Calls Try.prog 64 #[tmV p t,.int .i64 v,.int .i64 d,.pointer (some ⟨g,0,none⟩)] w (MtPost w g (foldP (mtF v) t d b (s,0))):=by
 induction N with
 | zero=>intro t h;omega
 | succ N ih =>
  intro t hN p d b s g B w hin hg hBg hs0 hs1 hd0 hd1
  have IH:=Ak ih
  have HNN:=Ak hN
  obtain ⟨W,hW⟩:∃ W,W=(w.setCell ⟨g,0,none⟩ (.int .i64 (s+1))).alloc (tmO p t):=⟨_,rfl⟩
  have hz1:=blk_lt hg
  have cs:=chg_set w g 0 (.int .i64 (s+1))
  have hch:Chg (fun k=>k=g) w W:=by rw [hW];exact chg_trans cs (chg_alloc _ _ _)
  have HCH:=Ak hch
  have K1:=Ak (show NumAt W g (s+1) by rw [hW];exact (hg.set _).alloc _)
  have HX:=Ak (show W.heap[w.heap.size]?=some (tmO p t) by rw [hW];have:=blk_new (w.setCell ⟨g,0,none⟩ (.int .i64 (s+1))) (tmO p t);simpa [World.setCell] using this)
  have hgz:=hg.cell
  have hfz:=blk_frozen hg 0
  have HIN:=Ak (hin.stay (hch.below (fun k e=>by omega) (by omega)))
  have hfit:=hin.fit
  have HNM:=Ak hfit.2.1
  have hll:=hin.ls.len
  have hlen:=hin.len
  simp only [Lv.kids] at hll
  have HKEEP:=Ak (show ∀ (wr:World),Chg (fun k=>k=g) w wr→∀ j,j<B→wr.heap[j]?=W.heap[j]? from fun wr hc j hj=>((hc.block j (by omega) (by omega)).trans (hch.block j (by omega) (by omega)).symm))
  clear ih hN hin hg cs hch hfit
  obtain ⟨pA,pc,pB,pd,pK,pe⟩:=p
  have HLV:=Ak HIN.out.lv.all
  have HLS:=Ak HIN.out.ls.all
  dsimp only at HLV HLS hll hlen
  unfold tmV
  unfold tmO at hW
  dsimp only
  obtain ⟨c0,c1,c2,c3,c4,c5,c6,c7⟩:=row8 HX.out
  dsimp only at c5 c6 c7
  obtain ⟨tk,htk⟩:∃ x,t.kind=x:=⟨_,rfl⟩
  obtain ⟨tn,htn⟩:∃ x,t.num=x:=⟨_,rfl⟩
  obtain ⟨nm,hnm⟩:∃ x,t.name=x:=⟨_,rfl⟩
  obtain ⟨lv,hlv⟩:∃ x,t.lv=x:=⟨_,rfl⟩
  obtain ⟨ls,hls⟩:∃ x,t.ls=x:=⟨_,rfl⟩
  obtain ⟨L,hL⟩:∃ x,t.kids.length=x:=⟨_,rfl⟩
  rw [hlv] at hW HLV c3 c4 c5 ⊢
  rw [hls] at hW HLS hll c6 ⊢
  rw [hnm] at hW HNM c2 ⊢
  rw [htk] at hW c0 ⊢
  rw [htn] at hW c1 ⊢
  rw [hL] at hW hlen c7 ⊢
  obtain ⟨lk,hlk⟩:∃ x,lv.kind=x:=⟨_,rfl⟩
  obtain ⟨ln,hln⟩:∃ x,lv.num=x:=⟨_,rfl⟩
  obtain ⟨lm,hlm⟩:∃ x,lv.kids.length=x:=⟨_,rfl⟩
  obtain ⟨M,hM⟩:∃ x,ls.length=x:=⟨_,rfl⟩
  rw [hlk] at hW c3 ⊢
  rw [hln] at hW c4 ⊢
  rw [hlm] at hW c5 ⊢
  rw [hM] at hW hll c6 ⊢
  have HTK:=Ak htk
  have HTN:=Ak htn
  have HNE:=Ak hnm
  have HLVE:=Ak hlv
  have HLSE:=Ak hls
  have HL:=Ak hL
  have HLK:=Ak hlk
  have HLN:=Ak hln
  have HLM:=Ak hlm
  have HM:=Ak hM
  have hM9:M≤9223372036854775807:=by omega
  have hL9:L≤9223372036854775807:=by omega
  clear htk htn hnm hlv hls hL hlk hln hlm hM hll hlen
  obtain ⟨ar,har⟩:∃ x,x=arZ tk:=⟨_,rfl⟩
  have HAR:=Ak har
  have harI:=arZ_in tk
  rw [← har] at harI
  have HAC:=Ak (show ∀ w,Calls Try.prog 67 #[.int .i64 tk] w fun e w'=>e=.returned (.int .i64 ar)∧w'=w from fun w=>by rw [har];exact refkids_calls _ _)
  clear har
  have HLS6:=Ak c6
  have H7:=Ak c7
  go_enter Try.func64,Try.ntmps64
  go_upto_block 0 with (fail)
  rw [← hW]
  clear hW
  have k1c:=K1.out.cell
  by_cases q:64<d∨400<s+1
  ·have HE:=Ak (mt_long (v:=v) (t:=t) (b:=b) q)
   rcases q with q | q
   ·go_wp2
    go_ret
    rw [HE.out]
    exact ⟨rfl,K1.out,HCH.out⟩
   ·by_cases q2:64<d
    ·go_wp2
     go_ret
     rw [HE.out]
     exact ⟨rfl,K1.out,HCH.out⟩
    ·go_wp2
     go_ret
     rw [HE.out]
     exact ⟨rfl,K1.out,HCH.out⟩
  have Q:=Ak q
  have q1:d≤64:=by omega
  have q2:s+1≤400:=by omega
  clear q
  by_cases h0:(L:Int)=ar
  ·have h0n:0≤ar:=by omega
   have h0':((L:Int) != ar)=false:=by simp [h0]
   have H0:=Ak (show (t.kids.length:Int)=arZ t.kind by rw [HL.out,HTK.out,← HAR.out];exact h0)
   clear h0 harI
   go_cut [] (fun w2=>Aside0 (mnP v t=0)∧Aside0 (NumAt w2 g (s+1))∧Aside0 (Chg (fun k=>k=g) w w2)∧Aside0 (w2.cell? ⟨w.heap.size,7,none⟩=some (.slice pK L pe)))
   case first =>
    by_cases k1:tk=1
    ·have e1:(tk == 1)=true:=by simp [k1]
     have e2:(tk == 2)=false:=by simp [k1]
     have e7:(tk == 7)=false:=by simp [k1]
     by_cases n0:tn<0
     ·have HR:=Ak (mn_num (v:=v) H0.out (by rw [HTK.out,HTN.out];exact ⟨k1,.inl n0⟩))
      have HE:=Ak (mt_stop (b:=b) Q.out HR.out (by decide))
      clear k1
      go_upto_region 4 with (fail)
      go_quiet ((go_at_call 67;exact Calls.quiet_of_same (HAC.out _)))
      go_wp2
      go_ret
      rw [HE.out]
      exact ⟨rfl,K1.out,chg_drewN HCH.out _⟩
     ·by_cases n1:1048576<tn
      ·have HR:=Ak (mn_num (v:=v) H0.out (by rw [HTK.out,HTN.out];exact ⟨k1,.inr n1⟩))
       have HE:=Ak (mt_stop (b:=b) Q.out HR.out (by decide))
       clear k1
       go_upto_region 4 with (fail)
       go_quiet ((go_at_call 67;exact Calls.quiet_of_same (HAC.out _)))
       go_wp2
       go_ret
       rw [HE.out]
       exact ⟨rfl,K1.out,chg_drewN HCH.out _⟩
      ·have HR:=Ak (mn_else (v:=v) H0.out (by rw [HTK.out,HTN.out];omega) (by rw [HTK.out];omega) (by rw [HTK.out];omega))
       clear k1
       go_upto_region 4 with (fail)
       go_quiet ((go_at_call 67;exact Calls.quiet_of_same (HAC.out _)))
       go_wp2
       go_meet
       case rel=>exact ⟨HR,⟨K1.out⟩,⟨chg_drewN HCH.out _⟩,⟨H7.out⟩⟩
    ·have e1:(tk == 1)=false:=by simp [k1]
     by_cases k2:tk=2
     ·have e2:(tk == 2)=true:=by simp [k2]
      have HR:=Ak (mn_sort (v:=v) H0.out (by rw [HTK.out];exact k2))
      have HZ:=Ak (show arZ t.kind=0 by rw [HTK.out,k2];decide)
      clear k1 k2
      go_upto_region 4 with (fail)
      go_quiet ((go_at_call 67;exact Calls.quiet_of_same (HAC.out _)))
      go_wp2_with (go_at_call 85;go_must (refine (refmay_at pA pc lm lk ln lv v _ HLK.out HLN.out HLM.out (by exact LvS.same HLV.out (fun _ _ _=>rfl))).mono ?_;rintro e w1 ⟨rfl,hb⟩;have HB1:=Ak hb;clear hb))
      go_ret
      have hn:NumAt w1 g (s+1):=(HB1.out.block g (blk_lt K1.out)).trans K1.out
      have hc:Chg (fun k=>k=g) w w1:=chg_trans (chg_drewN HCH.out _) (Chg.of_below HB1.out)
      have HR2:mnP v t=mayB v lv:=by rw [HR.out,HLVE.out]
      by_cases hz:mayB v lv=0
      ·rw [mt_leaf Q.out (HR2.trans hz) HZ.out,hz]
       exact ⟨rfl,hn,hc⟩
      ·rw [mt_stop Q.out HR2 hz]
       exact ⟨rfl,hn,hc⟩
     ·have e2:(tk == 2)=false:=by simp [k2]
      by_cases k7:tk=7
      ·have e7:(tk == 7)=true:=by simp [k7]
       have HC:=Ak (show mnP v t=if nameB nm=false then 8 else if 6<ls.length then 2 else mayLs v ls by rw [← HNE.out,← HLSE.out];exact mn_const H0.out (by rw [HTK.out];exact k7))
       clear k1 k2 k7
       cases hnm:nameB nm with
       | false =>
        have HE:=Ak (mt_stop (b:=b) Q.out (HC.out.trans (if_pos hnm)) (by decide))
        have HNM2:=Ak hnm
        clear hnm
        go_upto_region 4 with (fail)
        go_quiet ((go_at_call 67;exact Calls.quiet_of_same (HAC.out _)))
        go_wp2_with (go_at_call 36;go_must (refine (refname_calls nm _ HNM.out).mono ?_;rintro e w1 ⟨rfl,hb⟩;rw [HNM2.out];have HB1:=Ak hb;clear hb))
        go_ret
        rw [HE.out]
        exact ⟨rfl,(HB1.out.block g (blk_lt K1.out)).trans K1.out,chg_trans (chg_drewN HCH.out _) (Chg.of_below HB1.out)⟩
       | true =>
        have HNM2:=Ak hnm
        have HC2:=Ak (HC.out.trans (if_neg (by rw [hnm];decide)))
        clear hnm
        by_cases h6:6<M
        ·have HE:=Ak (mt_stop (b:=b) Q.out (HC2.out.trans (if_pos (by rw [HM.out];exact h6))) (by decide))
         have h6':(6:Int)<M:=by omega
         go_upto_region 4 with (fail)
         go_quiet ((go_at_call 67;exact Calls.quiet_of_same (HAC.out _)))
         go_wp2_with (go_at_call 36;go_must (refine (refname_calls nm _ HNM.out).mono ?_;rintro e w1 ⟨rfl,hb⟩;rw [HNM2.out];have c6:=(hb.cell (p:=⟨w.heap.size,6,none⟩) (blk_lt HX.out)).trans c6;have HB1:=Ak hb;clear hb))
         go_ret
         rw [HE.out]
         exact ⟨rfl,(HB1.out.block g (blk_lt K1.out)).trans K1.out,chg_trans (chg_drewN HCH.out _) (Chg.of_below HB1.out)⟩
        ·have HR:=Ak (HC2.out.trans (if_neg (by rw [HM.out];exact h6)))
         have h6':¬ ((6:Int)<M):=by omega
         clear h6
         go_upto_region 4 with (fail)
         go_quiet ((go_at_call 67;exact Calls.quiet_of_same (HAC.out _)))
         go_wp2_with (go_at_call 36;go_must (refine (refname_calls nm _ HNM.out).mono ?_;rintro e w1 ⟨rfl,hb⟩;rw [HNM2.out];have c6:=(hb.cell (p:=⟨w.heap.size,6,none⟩) (blk_lt HX.out)).trans c6;have H71:=Ak ((hb.cell (p:=⟨w.heap.size,7,none⟩) (blk_lt HX.out)).trans H7.out);have HLS1:=Ak (LvS.same HLS.out (w':=w1) (fun k _ hk=>hb.block k hk));have HB1:=Ak hb;clear hb))
         have HN1:=Ak (show NumAt w1 g (s+1) from (HB1.out.block g (blk_lt K1.out)).trans K1.out)
         have HC1:=Ak (show Chg (fun k=>k=g) w w1 from chg_trans (chg_drewN HCH.out _) (Chg.of_below HB1.out))
         have hxz:=blk_lt HX.out
         have hz2:=HB1.out.size
         clear HX K1 HCH
         go_loopw [80] (fun i wr=>∃ k:Nat,i=.int .i64 k∧k≤M∧Aside0 (mayLs v (ls.drop k)=mayLs v ls)∧Aside0 (Below w1.heap.size w1 wr)) (fun i _=>M - (intOf i).toNat)
         case atStart=>exact ⟨0,rfl,Nat.zero_le _,⟨rfl⟩,⟨Below.refl _ _⟩⟩
         case round =>
          obtain ⟨k,rfl,hk,HK,HBW⟩:=hrel
          by_cases hlt:k<M
          ·have hlt2:k<ls.length:=by rw [HM.out];exact hlt
           obtain ⟨x,hx⟩:∃ x,ls[k]?=some x:=⟨_,List.getElem?_eq_getElem hlt2⟩
           obtain ⟨A',c',hcs,hin⟩:=(LvS.same HLS1.out (w':=wr) (fun j hj _=>HBW.out.block j (Nat.lt_of_lt_of_le hj HB1.out.size))).kid k x hx
           obtain ⟨ad,rfl,d1,d2,d3⟩:=hcs.facts
           have HX:=Ak hx
           have HXIN:=Ak hin.all
           obtain ⟨xk,hxk⟩:∃ y,x.kind=y:=⟨_,rfl⟩
           obtain ⟨xn,hxn⟩:∃ y,x.num=y:=⟨_,rfl⟩
           obtain ⟨xm,hxm⟩:∃ y,x.kids.length=y:=⟨_,rfl⟩
           rw [hxk] at d1
           rw [hxn] at d2
           rw [hxm] at d3
           have HXK:=Ak hxk
           have HXN:=Ak hxn
           have HXM:=Ak hxm
           clear hcs hx hin hlt2 hxk hxn hxm
           by_cases h2:mayB v x=0
           ·have HK2:=Ak (show mayLs v (ls.drop (k+1))=mayLs v ls by rw [← HK.out,drop_kid HX.out,mayLs_go h2])
            have HV:=Ak h2
            clear h2
            go_wp2_with (go_at_call 85;go_must (refine (refmay_at A' c' xm xk xn x v _ HXK.out HXN.out HXM.out (by exact LvIn.stay' HXIN.out)).mono ?_;rintro e w2 ⟨rfl,hb⟩;rw [HV.out];have HB3:=Ak hb;clear hb))
            go_roundw
            case rel=>exact ⟨k+1,by go_num,by omega,HK2,⟨Below.trans (Below.alloc HBW.out HBW.out.size _) (HB3.out.mono (by simp;have:=HBW.out.size;omega))⟩⟩
            case measure=>(simp [intOf];try omega)
           ·have HV:=Ak (show mayLs v ls=mayB v x by rw [← HK.out,drop_kid HX.out,mayLs_stop h2])
            have HE:=Ak (mt_stop (b:=b) Q.out (HR.out.trans HV.out) h2)
            obtain ⟨e2,he2⟩:∃ e2,e2=mayB v x:=⟨_,rfl⟩
            rw [← he2] at h2 HE
            have h2':(e2 != 0)=true:=by simpa using h2
            have HE2:=Ak he2
            clear h2 he2
            go_wp2_with (go_at_call 85;go_must (refine (refmay_at A' c' xm xk xn x v _ HXK.out HXN.out HXM.out (by exact LvIn.stay' HXIN.out)).mono ?_;rintro e w2 ⟨rfl,hb⟩;rw [← HE2.out];have HB3:=Ak hb;clear hb))
            go_ret
            have hbb:Below w1.heap.size w1 w2:=Below.trans (Below.alloc HBW.out HBW.out.size _) (HB3.out.mono (by simp;have:=HBW.out.size;omega))
            rw [HE.out]
            exact ⟨rfl,(hbb.block g (blk_lt HN1.out)).trans HN1.out,chg_trans HC1.out (Chg.of_below hbb)⟩
          ·obtain rfl:k=M:=by omega
           have hlt':decide ((k:Int)<k)=false:=by simp
           have HZ:=Ak (show mnP v t=0 by rw [HR.out,← HK.out,List.drop_of_length_le (by rw [HM.out];exact Nat.le_refl _),mayLs])
           go_wp2
           go_meet
           case rel=>exact ⟨HZ,⟨(HBW.out.block g (blk_lt HN1.out)).trans HN1.out⟩,⟨chg_trans HC1.out (Chg.of_below HBW.out)⟩,⟨(HBW.out.cell (p:=⟨w.heap.size,7,none⟩) (Nat.lt_of_lt_of_le hxz hz2)).trans H71.out⟩⟩
      ·have e7:(tk == 7)=false:=by simp [k7]
       have HR:=Ak (mn_else (v:=v) H0.out (by rw [HTK.out];omega) (by rw [HTK.out];omega) (by rw [HTK.out];omega))
       clear k1 k2 k7
       go_upto_region 4 with (fail)
       go_quiet ((go_at_call 67;exact Calls.quiet_of_same (HAC.out _)))
       go_wp2
       go_meet
       case rel=>exact ⟨HR,⟨K1.out⟩,⟨chg_drewN HCH.out _⟩,⟨H7.out⟩⟩
   case rest =>
    clear HLS HLV HNM HLS6 HX c0 c1 c2 c3 c4 c5 c6 c7 k1c H7 HAC K1 HCH
    obtain ⟨HM0,K2,HC2,C7⟩:=hcut
    have HNK:=Ak (show nK t=L by rw [mn_nK HM0.out,HL.out])
    have HE:=Ak (mt_go (b:=b) Q.out HM0.out)
    have c7:=C7.out
    go_wp2
    go_loopw [94] (fun i wr=>∃ (k:Nat) (s':Int),i=.int .i64 k∧k≤L∧0≤s'∧s'≤400∧Aside0 (runL (kidsM v t d b) ((List.finRange (nK t)).drop k) (s',0)=foldP (mtF v) t d b (s,0))∧Aside0 (NumAt wr g s')∧Aside0 (Chg (fun k=>k=g) w wr)) (fun i _=>L - (intOf i).toNat)
    case atStart=>exact ⟨0,s+1,rfl,Nat.zero_le _,by omega,by omega,⟨by rw [HE.out];rfl⟩,K2,HC2⟩
    case round =>
     clear HE K2 HC2 C7 c7
     obtain ⟨k,s',rfl,hk,hs4,hs5,HE,HG1,HC1⟩:=hrel
     by_cases hlt:k<L
     ·have hkn:k<nK t:=by rw [HNK.out];exact hlt
      obtain ⟨qq,hq⟩:=(TmS.same HIN.out (w':=wr) (fun j hj hz=>HKEEP.out wr HC1.out j hj)).kid
      obtain ⟨⟨bk,o,hKa,hSb,hcells⟩,hxin⟩:=hq k _ (kidF_get t ⟨k,hkn⟩)
      have HXL:=Ak (kidF_lt t ⟨k,hkn⟩)
      have HDF:=Ak (drop_fin hkn)
      obtain ⟨x,hx⟩:∃ x,x=kidF t ⟨k,hkn⟩:=⟨_,rfl⟩
      rw [← hx] at hcells hxin HXL
      dsimp only at hKa
      subst hKa
      have e0:=hcells 0 _ rfl
      have e1:=hcells 1 _ rfl
      have e2:=hcells 2 _ rfl
      have e3:=hcells 3 _ rfl
      have e4:=hcells 4 _ rfl
      have e5:=hcells 5 _ rfl
      have e6:=hcells 6 _ rfl
      have e7:=hcells 7 _ rfl
      rw [Nat.add_zero] at e0
      have HXIN:=Ak hxin
      have HXE:=Ak hx
      obtain ⟨b2,hb2⟩:∃ b2,b2=b+moreZ t k:=⟨_,rfl⟩
      have HB2:=Ak hb2
      clear hcells hx hxin hq hb2
      have hg1z:=blk_lt HG1.out
      obtain ⟨ev,s2,m2,hev⟩:∃ ev s2 m2,foldP (mtF v) x (d+1) b2 (s',0)=(ev,(s2,m2)):=⟨_,_,_,rfl⟩
      have HEV:=Ak hev
      have HT:=Ak (mt_true v _ x (Nat.lt_succ_self _) (d+1) b2 (s',0))
      rw [hev] at HT
      have HIV:=Ak (show ev=true→InvY (s2,m2) from fun h=>by have:=foldP_inv (F:=mtF v) (Inv:=InvY) (P:=fun _ d=>0≤d∧d≤65) (fun t d b s hP hI h=>mtF_ok hP hI h) _ x (Nat.lt_succ_self _) (d+1) b2 (s',0) ⟨by omega,by omega⟩ ⟨hs4,hs5⟩ (by rw [hev];exact h);rwa [hev] at this)
      have HSTEP:=Ak (show runL (kidsM v t d b) ((List.finRange (nK t)).drop k) (s',0)=if ev=true then runL (kidsM v t d b) ((List.finRange (nK t)).drop (k+1)) (s2,m2) else (false,(s2,m2)) by
       rw [HDF.out,runL]
       have hh:kidsM v t d b ⟨k,hkn⟩ (s',0)=(ev,(s2,m2)):=by show foldP (mtF v) (kidF t ⟨k,hkn⟩) (d+1) (b+moreZ t k) (s',0)=_;rw [← HXE.out,← HB2.out];exact hev
       rw [hh])
      clear hev
      cases ev with
      | true =>
       have hm2:m2=0:=HT.out.1 rfl
       subst hm2
       obtain ⟨i1,i2⟩:=HIV.out rfl
       simp only at i1 i2
       have HK2:=Ak ((HSTEP.out.trans (if_pos rfl)).symm.trans HE.out)
       clear HT HIV HSTEP
       go_wp2_with (go_at_call 64;go_must (refine (IH.out x (by have:=HXL.out;have:=HNN.out;omega) (qq k) (d+1) b2 s' g B _ (TmIn.stay HXIN.out ((Below.refl _ _).alloc (by omega) _)) (HG1.out.alloc _) (by omega) hs4 hs5 (by omega) (by omega)).mono ?_;rintro e w3 ⟨rfl,hg1,hc1⟩;rw [HEV.out] at hg1 ⊢;have HG2:=Ak hg1;have HC3:=Ak (chg_trans HC1.out (chg_trans (chg_alloc _ _ _) hc1));clear hg1 hc1))
       go_roundw
       case rel=>exact ⟨k+1,s2,by go_num,by omega,i1,i2,HK2,HG2,HC3⟩
       case measure=>(simp [intOf];try omega)
      | false =>
       have hm2:m2≠0:=fun h=>by have:=HT.out.2 h;cases this
       have hm2':(m2 != 0)=true:=by simpa using hm2
       have HK2:=Ak ((HSTEP.out.trans (if_neg (by decide))).symm.trans HE.out)
       clear HT HIV HSTEP hm2
       go_wp2_with (go_at_call 64;go_must (refine (IH.out x (by have:=HXL.out;have:=HNN.out;omega) (qq k) (d+1) b2 s' g B _ (TmIn.stay HXIN.out ((Below.refl _ _).alloc (by omega) _)) (HG1.out.alloc _) (by omega) hs4 hs5 (by omega) (by omega)).mono ?_;rintro e w3 ⟨rfl,hg1,hc1⟩;rw [HEV.out] at hg1 ⊢;have HG2:=Ak hg1;have HC3:=Ak (chg_trans HC1.out (chg_trans (chg_alloc _ _ _) hc1));clear hg1 hc1))
       go_ret
       rw [← HK2.out]
       exact ⟨rfl,HG2.out,HC3.out⟩
     ·obtain rfl:k=L:=by omega
      have hlt':decide ((k:Int)<k)=false:=by simp
      have HZ:=Ak (show foldP (mtF v) t d b (s,0)=(true,(s',0)) by rw [← HE.out,List.drop_of_length_le (by rw [List.length_finRange,HNK.out];exact Nat.le_refl _)];rfl)
      go_wp2
      go_ret
      rw [HZ.out]
      exact ⟨rfl,HG1.out,HC1.out⟩
  ·have h0':((L:Int) != ar)=true:=by simp [h0]
   have HR:=Ak (mn_kids (v:=v) (t:=t) (by rw [HL.out,HTK.out,← HAR.out];exact h0))
   have HE:=Ak (mt_stop (b:=b) Q.out HR.out (by decide))
   clear h0
   by_cases ha:ar<0
   ·go_upto_region 4 with (fail)
    go_quiet ((go_at_call 67;exact Calls.quiet_of_same (HAC.out _)))
    go_wp2
    go_ret
    rw [HE.out]
    exact ⟨rfl,K1.out,chg_drewN HCH.out _⟩
   ·have ha':0≤ar:=by omega
    go_upto_region 4 with (fail)
    go_quiet ((go_at_call 67;exact Calls.quiet_of_same (HAC.out _)))
    go_wp2
    go_ret
    rw [HE.out]
    exact ⟨rfl,K1.out,chg_drewN HCH.out _⟩
end Go.Proofs.Ytcgkeolgflphiaa

namespace Go.Proofs.Ytcgkeolgflphiaa
open Go.RowKit Go.Proofs.YtcgkeolgflphiaaW.PrintWords Go.RegionInvYtcgkeolgflphiaa

mutual
def nL:Lv→Nat
 | .mk _ _ ks=>nLs ks+1
def nLs:List Lv→Nat
 | []=>0
 | x :: r=>nL x+nLs r
end
mutual
def lcan:Lv→Lv
 | .mk k n ks=>.mk k (if k=4 then 0 else n) (lcans ks)
def lcans:List Lv→List Lv
 | []=>[]
 | x :: r=>lcan x :: lcans r
end
theorem nL_mk (k n:Int) (ks:List Lv):nL (.mk k n ks)=nLs ks+1:=by rw [nL]
theorem nLs_cons (x:Lv) (r:List Lv):nLs (x :: r)=nL x+nLs r:=by rw [nLs]
theorem nLs_nil:nLs []=0:=by rw [nLs]
theorem lcan_mk (k n:Int) (ks:List Lv):lcan (.mk k n ks)=.mk k (if k=4 then 0 else n) (lcans ks):=by rw [lcan]
theorem lcans_cons (x:Lv) (r:List Lv):lcans (x :: r)=lcan x :: lcans r:=by rw [lcans]
theorem lcans_nil:lcans []=[]:=by rw [lcans]
theorem lcans_map:∀ (r:List Lv),lcans r=r.map lcan
 | []=>by rw [lcans_nil];rfl
 | x :: r=>by rw [lcans_cons,lcans_map r];rfl
inductive LvF:Nat→Lv→Prop
 | mk {f:Nat} {k n:Int} {ks:List Lv} (hk:1≤k∧k≤4) (hn:k≠4→0≤n∧n≤1048576) (ha:ks.length=lvKids k) (hks:∀ x∈ks,LvF f x):LvF (f+1) (.mk k n ks)
theorem arity_kids {k:Int} {ks:List Lv} (h:(ks.length:Int)=arityP k) (h1:1≤k∧k≤4):ks.length=lvKids k:=by
 unfold lvKids
 have:k=1∨k=2∨k=3∨k=4:=by omega
 rcases this with rfl | rfl | rfl | rfl
 ·have e:arityP 1=0:=by decide
  rw [e] at h;show ks.length=0;omega
 ·have e:arityP 2=0:=by decide
  rw [e] at h;show ks.length=0;omega
 ·have e:arityP 3=1:=by decide
  rw [e] at h;show ks.length=1;omega
 ·have e:arityP 4=2:=by decide
  rw [e] at h;show ks.length=2;omega
theorem mayF_arity {v:Int} {k n:Int} {ks:List Lv} {d s:Int} (h0:0≤s) (h:(mayF v (.mk k n ks) d s).1=0):(ks.length:Int)=arityP k:=by
 have h1:=mayF_small' h0 h
 have h3:¬ (32<d∨100<s+1):=by omega
 by_cases h2:(Lv.mk k n ks).kind=2∧(Lv.mk k n ks).kids=[]
 ·have e1:k=2:=h2.1
  have e2:ks=[]:=h2.2
  subst e1
  subst e2
  decide
 ·rw [mayF_rest h3 h2] at h
  by_cases ha:(ks.length:Int)=arityP k
  ·exact ha
  ·rw [right_bad ha] at h;cases h
mutual
theorem walk_fit {v:Int} (hv:v≤1048576):(l:Lv)→(f:Nat)→(d s:Int)→0≤s→(f:Int)+d=33→(walkP (mayF v) l d s).1=0→LvF f l∧(walkP (mayF v) l d s).2=s+nL l∧s+nL l≤100
 | .mk k n ks,f,d,s,h0,hf,h=>by
  by_cases h1:(mayF v (.mk k n ks) d s).1=0
  ·have a1:=mayF_small' h0 h1
   have a2:=mayF_ok hv h1
   have a3:=mayF_arity h0 h1
   rw [walkP_go h1,a1.2.2.2] at h ⊢
   obtain ⟨g,rfl⟩:∃ g,f=g+1:=⟨f - 1,by omega⟩
   have:=walks_fit hv ks g (d+1) (s+1) (by omega) (by omega) (by omega) h
   simp only [Lv.kids] at this ⊢
   rw [nL_mk]
   exact ⟨.mk a2.2.1 a2.2.2 (arity_kids a3 a2.2.1) this.1,by rw [this.2.1];omega,by have:=this.2.2;omega⟩
  ·rw [walkP_stop h1] at h;exact absurd h h1
theorem walks_fit {v:Int} (hv:v≤1048576):(ks:List Lv)→(f:Nat)→(d s:Int)→0≤s→s≤100→(f:Int)+d=33→(walkKs (mayF v) ks d s).1=0→(∀ x∈ks,LvF f x)∧(walkKs (mayF v) ks d s).2=s+nLs ks∧s+nLs ks≤100
 | [],f,d,s,_,hs,_,_=>by
  rw [walkKs,nLs_nil]
  exact ⟨by simp,by simp,by simp;omega⟩
 | y :: r,f,d,s,h0,_,hf,h=>by
  by_cases h2:(walkP (mayF v) y d s).1=0
  ·rw [walkKs_go h2] at h ⊢
   obtain ⟨b1,b2,b3⟩:=walk_fit hv y f d s h0 hf h2
   rw [b2] at h ⊢
   obtain ⟨c1,c2,c3⟩:=walks_fit hv r f d (s+nL y) (by omega) b3 hf h
   rw [nLs_cons]
   refine ⟨fun x hx=>?_,by rw [c2];omega,by omega⟩
   rcases List.mem_cons.1 hx with rfl | hx
   ·exact b1
   ·exact c1 x hx
  ·rw [walkKs_stop h2] at h;exact absurd h h2
end
theorem may_fit {v:Int} (hv:v≤1048576) {l:Lv} (h:mayB v l=0):LvF 32 l∧nL l≤100:=by
 have h1:=walk_fit hv l 32 1 0 (by decide) (by decide) h
 exact ⟨h1.1,by have:=h1.2.2;omega⟩
theorem kind_get {most k:Int} {r:List Int} (h1:1≤k) (h2:k≤most):kindR most (k :: r)=.ok (k,r):=by
 simp only [kindR];rw [if_neg (by omega)]
theorem num_get {n:Int} {r:List Int} (h1:0≤n) (h2:n≤1048576):numR (putN n ++ r)=.ok (n,r):=by
 unfold numR
 rw [take_put r h1 (by omega)]
 simp only [ne_eq,not_true_eq_false,if_false,Int.toNat_natCast,List.drop_left]
 rw [if_neg (by omega)]
theorem kids_get {α:Type} {b:α→List Int} {bs:List α→List Int} {c:α→α} {z:α→Nat} {zs:List α→Nat} (h0:bs []=[]) (hc:∀ x l,bs (x :: l)=b x ++ bs l) (z0:zs []=0) (zc:∀ x l,zs (x :: l)=z x+zs l) {most:Int}
  {g:List Int→Int→Except Int (α × List Int × Int)}:∀ {l:List α},(∀ x∈l,∀ (r:List Int) (m:Int),m+z x≤most→g (b x ++ r) m=.ok (c x,r,m+z x))→∀ {r:List Int} {m:Int},m+zs l≤most→kidsR g l.length (bs l ++ r) m=.ok (l.map c,r,m+zs l)
 | [],_,r,m,_=>by
  rw [h0,z0]
  show kidsR g 0 ([] ++ r) m=_
  unfold kidsR
  simp
 | x :: l,hg,r,m,hm=>by
  rw [zc] at hm ⊢
  rw [hc,List.append_assoc]
  show kidsR g (l.length+1) _ m=_
  unfold kidsR
  rw [hg x (by simp) (bs l ++ r) m (by omega)]
  simp only []
  rw [kids_get h0 hc z0 zc (fun y hy=>hg y (by simp [hy])) (by omega)]
  simp only [List.map_cons,Except.ok.injEq,Prod.mk.injEq,true_and]
  omega
theorem lv_get:∀ (f:Nat) {l:Lv} (r:List Int) (m:Int),LvF f l→m+nL l≤100→lvR f (lvB l ++ r) m=.ok (lcan l,r,m+nL l)
 | 0,l,r,m,h,_=>by cases h
 | f+1,l,r,m,h,hm=>by
  cases h with
  | @mk _ k n ks hk hn ha hks =>
   rw [nL_mk] at hm ⊢
   have e:lvB (.mk k n ks) ++ r=k :: ((if k=4 then [] else putN n) ++ (lvsB ks ++ r)):=by rw [lvB];simp
   rw [e,lvR,kind_get hk.1 hk.2]
   simp only []
   rw [if_neg (by omega)]
   have e2:(if k=4 then (.ok (0,(if k=4 then [] else putN n) ++ (lvsB ks ++ r)):Except Int (Int × List Int)) else numR ((if k=4 then [] else putN n) ++ (lvsB ks ++ r)))=.ok (if k=4 then 0 else n,lvsB ks ++ r):=by
    by_cases k4:k=4
    ·rw [if_pos k4,if_pos k4,if_pos k4];rfl
    ·rw [if_neg k4,if_neg k4,if_neg k4];exact num_get (hn k4).1 (hn k4).2
   rw [e2]
   simp only []
   rw [← ha,kids_get (c:=lcan) (z:=nL) (zs:=nLs) (most:=100) (by rw [lvsB]) (fun x l=>lvsB_cons x l) nLs_nil nLs_cons (fun x hx r m hm=>lv_get f r m (hks x hx) hm) (by omega)]
   simp only [lcan_mk,lcans_map,Except.ok.injEq,Prod.mk.injEq,true_and]
   omega
theorem lev1_get {l:Lv} (r:List Int) (h:LvF 32 l) (hn:nL l≤100):lev1 (lvB l ++ r)=.ok (lcan l,r):=by
 unfold lev1
 rw [lv_get 32 r 0 h (by omega)]
mutual
def nT:Tm→Nat
 | .mk _ _ _ _ _ ks=>nTs ks+1
def nTs:List Tm→Nat
 | []=>0
 | x :: r=>nT x+nTs r
end
mutual
def tcan:Tm→Tm
 | .mk k n nm lv ls ks=>.mk k (if k=1 then n else 0) (if k=7 then nm else ⟨#[]⟩) (if k=2 then lcan lv else .mk 0 0 []) (if k=7 then ls.map lcan else []) (tcans ks)
def tcans:List Tm→List Tm
 | []=>[]
 | x :: r=>tcan x :: tcans r
end
theorem nT_mk (k n:Int) (nm:ByteArray) (lv:Lv) (ls:List Lv) (ks:List Tm):nT (.mk k n nm lv ls ks)=nTs ks+1:=by rw [nT]
theorem nTs_cons (x:Tm) (r:List Tm):nTs (x :: r)=nT x+nTs r:=by rw [nTs]
theorem nTs_nil:nTs []=0:=by rw [nTs]
theorem tcan_mk (k n:Int) (nm:ByteArray) (lv:Lv) (ls:List Lv) (ks:List Tm):tcan (.mk k n nm lv ls ks)=.mk k (if k=1 then n else 0) (if k=7 then nm else ⟨#[]⟩) (if k=2 then lcan lv else .mk 0 0 []) (if k=7 then ls.map lcan else []) (tcans ks):=by rw [tcan]
theorem tcans_nil:tcans []=[]:=by rw [tcans]
theorem tcans_map:∀ (r:List Tm),tcans r=r.map tcan
 | []=>by rw [tcans_nil];rfl
 | x :: r=>by rw [tcans,tcans_map r];rfl
inductive TmF:Nat→Tm→Prop
 | mk {f:Nat} {k n:Int} {nm:ByteArray} {lv:Lv} {ls:List Lv} {ks:List Tm} (hk:1≤k∧k≤7) (h1:k=1→0≤n∧n≤1048576) (h2:k=2→LvF 32 lv∧nL lv≤100)
   (h7:k=7→nameB nm=true∧ls.length≤6∧∀ x∈ls,LvF 32 x∧nL x≤100) (h0:(k=1∨k=2∨k=7)→ks=[]) (ha:¬ (k=1∨k=2∨k=7)→ks.length=if k=5 then 3 else 2) (hks:∀ x∈ks,TmF f x):TmF (f+1) (.mk k n nm lv ls ks)
theorem bytesOf_len (s:ByteArray):(bytesOf s).length=s.size:=by unfold bytesOf;simp
theorem takeB_get {ys r:List Int} {q:Int} (h:(ys.length:Int)≤q) (h2:ys.length≤18446744073709551615):takeB (putB ys ++ r) q=(ys,((putB ys).length:Int),0):=by
 unfold takeB putB
 rw [List.append_assoc,take_put (ys ++ r) (by omega) (by omega)]
 simp only [ne_eq,not_true_eq_false,if_false,Int.toNat_natCast,List.drop_left,List.take_left]
 rw [if_neg (by omega),if_neg (by simp only [List.length_append];omega)]
 simp
theorem name_get {s:ByteArray} {r:List Int} (h:nameB s=true):nameR (putB (bytesOf s) ++ r)=.ok (s,r):=by
 have h3:s.size≤32:=by have:=of_decide_eq_true h;exact this.1.2
 have hl:=bytesOf_len s
 unfold nameR
 rw [takeB_get (by omega) (by omega)]
 simp only [ne_eq,not_true_eq_false,if_false,Int.toNat_natCast,List.drop_left,bytes_nameOf,h,if_true]
theorem many_get {α:Type} {b:α→List Int} {bs:List α→List Int} {c:α→α} (h0:bs []=[]) (hc:∀ x l,bs (x :: l)=b x ++ bs l) {f:List Int→Except Int (α × List Int)}:∀ {l:List α},(∀ x∈l,∀ (r:List Int),f (b x ++ r)=.ok (c x,r))→∀ {r:List Int},manyR f l.length (bs l ++ r)=.ok (l.map c,r)
 | [],_,r=>by
  rw [h0]
  show manyR f 0 ([] ++ r)=_
  unfold manyR
  simp
 | x :: l,hg,r=>by
  rw [hc,List.append_assoc]
  show manyR f (l.length+1) _=_
  unfold manyR
  rw [hg x (by simp) (bs l ++ r)]
  simp only []
  rw [many_get h0 hc (fun y hy=>hg y (by simp [hy]))]
  rfl
theorem list_get {α:Type} {b:α→List Int} {bs:List α→List Int} {c:α→α} {most:Int} (h0:bs []=[]) (hc:∀ x l,bs (x :: l)=b x ++ bs l) {f:List Int→Except Int (α × List Int)} {l:List α} (hf:∀ x∈l,∀ (r:List Int),f (b x ++ r)=.ok (c x,r)) (hm:(l.length:Int)≤most) (h64:l.length≤18446744073709551615) {r:List Int} :
  listR most f (putN l.length ++ (bs l ++ r))=.ok (l.map c,r):=by
 unfold listR
 rw [take_put _ (by omega) (by omega)]
 simp only [ne_eq,not_true_eq_false,if_false,Int.toNat_natCast,List.drop_left]
 rw [if_neg (by omega),many_get h0 hc hf]
theorem tm_get:∀ (f:Nat) {t:Tm} (r:List Int) (m:Int),TmF f t→m+nT t≤400→tmR f (tmB t ++ r) m=.ok (tcan t,r,m+nT t)
 | 0,t,r,m,h,_=>by cases h
 | f+1,t,r,m,h,hm=>by
  cases h with
  | @mk _ k n nm lv ls ks hk h1 h2 h7 h0 ha hks =>
   rw [nT_mk] at hm ⊢
   have e:tmB (.mk k n nm lv ls ks) ++ r=k :: (ownBy k n nm lv ls ++ (tmsB ks ++ r)):=by rw [tmB];simp
   rw [e,tmR,kind_get hk.1 hk.2]
   simp only []
   rw [if_neg (by omega),tcan_mk]
   by_cases k1:k=1
   ·obtain rfl:=h0 (.inl k1)
    subst k1
    rw [if_pos rfl,ownBy,if_pos rfl,num_get (h1 rfl).1 (h1 rfl).2,tmsB,nTs_nil,tcans_nil]
    simp
   ·rw [if_neg k1]
    by_cases k2:k=2
    ·obtain rfl:=h0 (.inr (.inl k2))
     subst k2
     rw [if_pos rfl,ownBy,if_neg k1,if_pos rfl,lev1_get _ (h2 rfl).1 (h2 rfl).2,tmsB,nTs_nil,tcans_nil]
     simp
    ·rw [if_neg k2]
     by_cases k7:k=7
     ·obtain rfl:=h0 (.inr (.inr k7))
      subst k7
      have h:=h7 rfl
      rw [if_pos rfl,ownBy,if_neg k1,if_neg k2,if_pos rfl,List.append_assoc,name_get h.1,tmsB,nTs_nil,tcans_nil]
      simp only []
      rw [List.append_assoc,list_get (b:=lvB) (bs:=lvsB) (c:=lcan) (by rw [lvsB]) (fun x l=>lvsB_cons x l) (fun x hx r=>lev1_get r (h.2.2 x hx).1 (h.2.2 x hx).2) (by have:=h.2.1;omega) (by have:=h.2.1;omega)]
      simp
     ·rw [if_neg k7,ownBy,if_neg k1,if_neg k2,if_neg k7,List.nil_append,← ha (fun hh=>by omega)]
      rw [kids_get (c:=tcan) (z:=nT) (zs:=nTs) (most:=400) (by rw [tmsB]) (fun x l=>tmsB_cons x l) nTs_nil nTs_cons (fun x hx r m hm=>tm_get f r m (hks x hx) hm) (by omega)]
      simp only [tcans_map,Except.ok.injEq,Prod.mk.injEq,true_and,if_neg k1,if_neg k2,if_neg k7]
      omega
theorem whole_get {t:Tm} (r:List Int) (h:TmF 64 t) (hn:nT t≤400):wholeR (tmB t ++ r)=.ok (tcan t,r):=by
 unfold wholeR
 rw [tm_get 64 r 0 h (by omega)]
theorem mayLs_fit {v:Int} (hv:v≤1048576):∀ {ls:List Lv},mayLs v ls=0→∀ x∈ls,LvF 32 x∧nL x≤100
 | [],_,x,hx=>by simp at hx
 | y :: r,h,x,hx=>by
  by_cases h2:mayB v y=0
  ·rw [mayLs_go h2] at h
   rcases List.mem_cons.1 hx with rfl | hx
   ·exact may_fit hv h2
   ·exact mayLs_fit hv h x hx
  ·rw [mayLs_stop h2] at h;exact absurd h h2
theorem node_fit {v:Int} (hv:v≤1048576) {f:Nat} {k n:Int} {nm:ByteArray} {lv:Lv} {ls:List Lv} {ks:List Tm} (h:mnP v (.mk k n nm lv ls ks)=0) (hks:∀ x∈ks,TmF f x):TmF (f+1) (.mk k n nm lv ls ks):=by
 have ha:(ks.length:Int)=arZ k:=mn_arity h
 have h5:=(node_ok hv h).1
 refine .mk h5.1 h5.2.1 (fun k2=>?_) (fun k7=>?_) h5.2.2.2.2.1 (fun hh=>?_) hks
 ·rw [mn_sort (t:=.mk k n nm lv ls ks) ha k2] at h
  exact may_fit hv h
 ·have e:mnP v (.mk k n nm lv ls ks)=if nameB nm=false then 8 else if 6<ls.length then 2 else mayLs v ls:=mn_const (v:=v) (t:=.mk k n nm lv ls ks) ha k7
  rw [e] at h
  split at h
  ·cases h
  ·rename_i hn
   split at h
   ·cases h
   ·exact ⟨by simpa using hn,by omega,mayLs_fit hv h⟩
 ·have hk:=h5.1
  unfold arZ at ha
  rw [if_neg hh] at ha
  split at ha
  ·rw [if_neg (by omega)];omega
  ·split at ha
   ·rename_i k5;rw [if_pos k5];omega
   ·omega
inductive TmV (v:Int):Nat→Tm→Prop
 | mk {f:Nat} {k n:Int} {nm:ByteArray} {lv:Lv} {ls:List Lv} {ks:List Tm} (h:mnP v (.mk k n nm lv ls ks)=0) (hks:∀ x∈ks,TmV v f x):TmV v (f+1) (.mk k n nm lv ls ks)
theorem tmF_of {v:Int} (hv:v≤1048576):∀ (f:Nat) {t:Tm},TmV v f t→TmF f t
 | 0,t,h=>by cases h
 | f+1,t,h=>by
  cases h with
  | mk h hks=>exact node_fit hv h fun x hx=>tmF_of hv f (hks x hx)
theorem fold_fit {v:Int} (N:Nat):∀ (t:Tm),SizeOf.sizeOf t<N→∀ (f:Nat) (d b:Int) (s:Int × Int),(f:Int)+d=65→(foldP (mtF v) t d b s).1=true→TmV v f t∧(foldP (mtF v) t d b s).2.1=s.1+nT t∧s.1+nT t≤400:=by
 induction N with
 | zero=>intro t h;omega
 | succ N ih =>
  intro t hN f d b s hf h
  by_cases h1:(mtF v t d b s).1=true
  ·have hl:¬ (64<d∨400<s.1+1):=fun hl=>by rw [mtF_long hl] at h1;cases h1
   have hm:mnP v t=0:=by rw [mtF_node hl] at h1;exact of_decide_eq_true h1
   have hs:(mtF v t d b s).2=(s.1+1,0):=by rw [mtF_node hl,hm]
   rw [foldP_go h1,hs] at h ⊢
   have hnk:=mn_nK hm
   obtain ⟨g,rfl⟩:∃ g,f=g+1:=⟨f - 1,by omega⟩
   have key:∀ (j k:Nat) (q:Int × Int),k+j=nK t→q.1≤400→(runL (fun (i:Fin (nK t)) s=>foldP (mtF v) (kidF t i) (d+1) (b+moreZ t i) s) ((List.finRange (nK t)).drop k) q).1=true →
     (∀ x∈t.kids.drop k,TmV v g x)∧(runL (fun (i:Fin (nK t)) s=>foldP (mtF v) (kidF t i) (d+1) (b+moreZ t i) s) ((List.finRange (nK t)).drop k) q).2.1=q.1+nTs (t.kids.drop k)∧q.1+nTs (t.kids.drop k)≤400:=by
    intro j
    induction j with
    | zero =>
     intro k q hk hq _
     have e1:(List.finRange (nK t)).drop k=[]:=List.drop_of_length_le (by simp;omega)
     have e2:t.kids.drop k=[]:=List.drop_of_length_le (by omega)
     rw [e1,e2,nTs_nil,runL]
     exact ⟨by simp,by simp,by simp;omega⟩
    | succ j ihj =>
     intro k q hk hq hr
     have hkn:k<nK t:=by omega
     have hdf:(List.finRange (nK t)).drop k=⟨k,hkn⟩ :: (List.finRange (nK t)).drop (k+1):=by
      rw [List.drop_eq_getElem_cons (by simpa using hkn)]
      simp
     have hdk:t.kids.drop k=kidF t ⟨k,hkn⟩ :: t.kids.drop (k+1):=List.drop_eq_getElem_cons (by omega)
     rw [hdf,runL] at hr ⊢
     rw [hdk,nTs_cons]
     by_cases hx:(foldP (mtF v) (kidF t ⟨k,hkn⟩) (d+1) (b+moreZ t k) q).1=true
     ·rw [if_pos hx] at hr ⊢
      have h3:=ih (kidF t ⟨k,hkn⟩) (by have:=kidF_lt t ⟨k,hkn⟩;omega) g (d+1) (b+moreZ t k) q (by omega) hx
      have h4:=ihj (k+1) _ (by omega) (by rw [h3.2.1];exact h3.2.2) hr
      have h6:=h3.2.1
      have h7:=h4.2
      refine ⟨fun x hxm=>?_,?_,?_⟩
      ·rcases List.mem_cons.1 hxm with rfl | hxm
       ·exact h3.1
       ·exact h4.1 x hxm
      ·rw [h7.1,h6];push_cast;omega
      ·have:=h7.2;rw [h6] at this;push_cast;omega
     ·rw [if_neg hx] at hr;cases hr
   have h2:=key (nK t) 0 (s.1+1,0) (by omega) (by show s.1+1≤400;omega) h
   obtain ⟨k,n,nm,lv,ls,ks⟩:=t
   simp only [List.drop_zero,Tm.kids] at h2
   rw [nT_mk]
   refine ⟨TmV.mk hm h2.1,?_,by have:=h2.2.2;push_cast;omega⟩
   rw [h2.2.1];push_cast;omega
  ·have h2:(mtF v t d b s).1=false:=by simpa using h1
   rw [foldP_stop h2,h2] at h;cases h
theorem mayT_v {v:Int} {t:Tm} (h:mayT v t=0):TmV v 64 t∧nT t≤400:=by
 have h1:(foldP (mtF v) t 1 0 (0,0)).1=true:=(mt_true v _ t (Nat.lt_succ_self _) 1 0 (0,0)).2 h
 have h2:=fold_fit _ t (Nat.lt_succ_self _) 64 1 0 (0,0) (by decide) h1
 exact ⟨h2.1,by have:=h2.2.2;omega⟩
theorem mayT_fit {v:Int} (hv:v≤1048576) {t:Tm} (h:mayT v t=0):TmF 64 t∧nT t≤400:=⟨tmF_of hv 64 (mayT_v h).1,(mayT_v h).2⟩
end Go.Proofs.Ytcgkeolgflphiaa
