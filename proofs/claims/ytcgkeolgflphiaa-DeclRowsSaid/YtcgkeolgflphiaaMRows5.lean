/-
  Merged: DrX, LawDU, Dca, Dlt, DrwR, LawDR, LvIn, LvsIn, TmIn, DcsIn.
-/
import Derived.Deep.AppendLies
import Derived.Deep.Slices
import Derived.ChangeArms
import Derived.Test.YtcgkeolgflphiaaMRows4
namespace Go.Proofs.Ytcgkeolgflphiaa
open Go.RowKit Go.Proofs.YtcgkeolgflphiaaW.PrintWords Go.RegionInvYtcgkeolgflphiaa

def EndU (l:List Dc) (er:Int):Except Int (List Dc)→Prop
 | .ok y=>l=y∧er=0
 | .error k=>er=k∧k≠0∧l=[]
def UnP (w:World) (R:Except Int (List Dc)) (e:Ending) (w':World):Prop:=
 ∃ V l er,e=.returned (.tuple #[V,.int .i64 er])∧RowG eDc w' w.heap.size V l∧Below w.heap.size w w'∧EndU l er R
theorem unR_end (xs:List Int) (h:¬ 8192<xs.length):unR xs=match endR (listR 16 dcR xs) with
  | .error e=>.error e
  | .ok l=>if mayAll l≠0 then .error (mayAll l) else .ok l:=by
 unfold unR
 rw [if_neg h]
 cases listR 16 dcR xs with
 | error e=>rfl
 | ok y =>
  obtain ⟨d,r⟩:=y
  simp only [endR]
  by_cases h:r=[]
  ·simp only [h,ne_eq,not_true_eq_false,if_false]
  ·simp only [ne_eq,h,not_false_eq_true,if_true]
theorem rowDc_dcs {w:World} {lo:Nat} {V:Value} {xs:List Dc} (h:RowG eDc w lo V xs):∃ (L:Option Addr) (e:Nat) (q:Nat→DPl),V=.slice L xs.length e∧(xs.length≤e∧e≤9223372036854775807)∧DcsS w (fun b=>lo≤b) L q xs:=by
 obtain ⟨cs,q,ho,hk⟩:=h
 obtain ⟨L,e,rfl⟩:=own_slice ho
 refine ⟨L,e,q,rfl,⟨own_cap ho,own_max ho⟩,fun i c hc=>?_⟩
 have hi:i<xs.length:=by
  rcases Nat.lt_or_ge i xs.length with h | h
  ·exact h
  ·rw [List.getElem?_eq_none h] at hc;cases hc
 obtain ⟨g,cap,hv,hb,_⟩:=ho.form (by omega)
 have hv':=hv
 injection hv with hA
 refine ⟨⟨g,0,hA,hb,fun j v hjv=>?_⟩,DcS.mono (hk i c hc).2 fun b hb _=>hb.1⟩
 have:=ho.cells (g:=g) (by rw [hv'];rfl) _ _ ((hk i c hc).1 j v hjv)
 rwa [show (⟨g,0,none⟩:Addr).add (i * eDc.sz+j)=⟨g,0+(i * 21+j),none⟩ from add_flat g 0 _,← Nat.add_assoc] at this
set_option maxRecDepth 100000 in
set_option maxHeartbeats 8000000 in
theorem unbundle_calls (A:Option Addr) (n c:Nat) (xs:List Int) (w:World) (h:Bs w w.heap.size A n c xs) :
  Calls Try.prog 24 #[.slice A n c] w (UnP w (unR xs)):=by
 have HS:=Ak h
 have HXN:=Ak h.reads.1
 clear h
 go_enter Try.func24,Try.ntmps24
 by_cases hbig:8192<n
 ·have hb':(8192:Int)<n:=by omega
  have HRE:=Ak (show unR xs=.error 2 by unfold unR;rw [if_pos (by rw [HXN.out];exact hbig)])
  go_wp2
  go_ret2
  exact ⟨_,[],2,rfl,RowG.nil _ _ _,Below.refl _ _,by rw [HRE.out];exact ⟨rfl,by decide,rfl⟩⟩
 ·have hb':¬ (8192:Int)<n:=by omega
  have HE:=Ak (unR_end xs (by rw [HXN.out];exact hbig))
  clear hbig
  go_upto_region 4 with (go_at_call 47;go_must (refine (wholeL_calls A n c xs _ HS.out).mono ?_;rintro e w2 ⟨V,l,er,rfl,hrow,hb,htk⟩;have HROW:=Ak hrow;have HB:=Ak hb;have HTK:=Ak htk;clear hrow hb htk))
  cases hR:endR (listR 16 dcR xs) with
  | error k =>
   have htk:=HTK.out
   rw [hR] at htk
   obtain ⟨rfl,hne⟩:=htk
   have hne':(er != 0)=true:=by simp [hne]
   have HNE:=Ak hne
   have HRE:=Ak (show unR xs=.error er by rw [HE.out,hR])
   clear hR hne HTK
   go_wp2
   go_ret2
   exact ⟨_,[],er,rfl,RowG.nil _ _ _,HB.out,by rw [HRE.out];exact ⟨rfl,HNE.out,rfl⟩⟩
  | ok l' =>
   have htk:=HTK.out
   rw [hR] at htk
   obtain ⟨rfl,rfl⟩:=htk
   have HRE:=Ak (show unR xs=if mayAll l≠0 then .error (mayAll l) else .ok l by rw [HE.out,hR])
   obtain ⟨L,ec,q,rfl,hle,hds⟩:=rowDc_dcs HROW.out
   have HDS:=Ak hds
   obtain ⟨m,hm⟩:∃ m,m=l.length:=⟨_,rfl⟩
   rw [← hm] at hle ⊢
   have HM:=Ak hm
   have hm9:m≤9223372036854775807:=by omega
   clear hR HTK hds hm hle
   go_wp2
   go_loopw [22] (fun i wr=>∃ k:Nat,i=.int .i64 k∧k≤m∧Aside0 (mayAll (l.drop k)=mayAll l)∧Aside0 (Below w2.heap.size w2 wr)) (fun i _=>m - (intOf i).toNat)
   case atStart=>exact ⟨0,rfl,Nat.zero_le _,⟨rfl⟩,⟨Below.refl _ _⟩⟩
   case round =>
    obtain ⟨k,rfl,hk,HK,HBR⟩:=hrel
    by_cases hlt:k<m
    ·have hlt2:k<l.length:=by rw [← HM.out];exact hlt
     obtain ⟨c,hc⟩:∃ c,l[k]?=some c:=⟨_,List.getElem?_eq_getElem hlt2⟩
     obtain ⟨⟨bk,o,hA,hSb,hcells⟩,hty⟩:=(HDS.out.same (w':=wr) fun k _ hk=>HBR.out.block k hk) k c hc
     have HAA:=Ak hA
     have HRG:=Ak (show wr.rangeAt bk (o+k * 21) (dcC (q k) c) from hcells)
     have HTY:=Ak hty
     have HDR:=Ak (drop_dc hc)
     rw [hA]
     clear hA hcells hc hlt2 hty
     by_cases hmd:mayD c=0
     ·have HMV:=Ak hmd
      clear hmd
      go_upto_region 9 with (first
       | (refine wpList_load_mid rfl 30 _ rfl bk (o+k * 21) rfl [.int .i64 c.kind,.string c.nm,.int .i64 c.vars,.int .i64 c.ty.kind,.int .i64 c.ty.num,.string c.ty.name,.int .i64 c.ty.lv.kind,.int .i64 c.ty.lv.num,.slice (q k).pt.A c.ty.lv.kids.length (q k).pt.c,.slice (q k).pt.B c.ty.ls.length (q k).pt.d,.slice (q k).pt.K c.ty.kids.length (q k).pt.e,.int .i64 c.val.kind,.int .i64 c.val.num,.string c.val.name,.int .i64 c.val.lv.kind,.int .i64 c.val.lv.num,.slice (q k).pv.A c.val.lv.kids.length (q k).pv.c,.slice (q k).pv.B c.val.ls.length (q k).pv.d,.slice (q k).pv.K c.val.kids.length (q k).pv.e,.int .i64 c.params,.slice (q k).C c.cs.length (q k).e] _ HRG.out Try.underlying30 rfl (by kernel_rfl) ?_)
       | (refine wpList_store_row rfl 30 _ _ rfl wr.heap.size #[.int .i64 c.kind,.string c.nm,.int .i64 c.vars,.int .i64 c.ty.kind,.int .i64 c.ty.num,.string c.ty.name,.int .i64 c.ty.lv.kind,.int .i64 c.ty.lv.num,.slice (q k).pt.A c.ty.lv.kids.length (q k).pt.c,.slice (q k).pt.B c.ty.ls.length (q k).pt.d,.slice (q k).pt.K c.ty.kids.length (q k).pt.e,.int .i64 c.val.kind,.int .i64 c.val.num,.string c.val.name,.int .i64 c.val.lv.kind,.int .i64 c.val.lv.num,.slice (q k).pv.A c.val.lv.kids.length (q k).pv.c,.slice (q k).pv.B c.val.ls.length (q k).pv.d,.slice (q k).pv.K c.val.kids.length (q k).pv.e,.int .i64 c.params,.slice (q k).C c.cs.length (q k).e] rfl rfl 30 #[.int .i64 0,.string ⟨#[]⟩,.int .i64 0,.int .i64 0,.int .i64 0,.string ⟨#[]⟩,.int .i64 0,.int .i64 0,.slice none 0 0,.slice none 0 0,.slice none 0 0,.int .i64 0,.int .i64 0,.string ⟨#[]⟩,.int .i64 0,.int .i64 0,.slice none 0 0,.slice none 0 0,.slice none 0 0,.int .i64 0,.slice none 0 0] (blk_new _ _) (by kernel_rfl) rfl (all_one (l:=[.int .i64 c.kind,.string c.nm,.int .i64 c.vars,.int .i64 c.ty.kind,.int .i64 c.ty.num,.string c.ty.name,.int .i64 c.ty.lv.kind,.int .i64 c.ty.lv.num,.slice (q k).pt.A c.ty.lv.kids.length (q k).pt.c,.slice (q k).pt.B c.ty.ls.length (q k).pt.d,.slice (q k).pt.K c.ty.kids.length (q k).pt.e,.int .i64 c.val.kind,.int .i64 c.val.num,.string c.val.name,.int .i64 c.val.lv.kind,.int .i64 c.val.lv.num,.slice (q k).pv.A c.val.lv.kids.length (q k).pv.c,.slice (q k).pv.B c.val.ls.length (q k).pv.d,.slice (q k).pv.K c.val.kids.length (q k).pv.e,.int .i64 c.params,.slice (q k).C c.cs.length (q k).e]) rfl) ?_))
      obtain ⟨W5,hW5⟩:∃ W5,W5=(wr.alloc (.cells zdcA 30 (0,0))).setRow wr.heap.size (dcA (q k) c):=⟨_,rfl⟩
      have hs5:=dc_boxed wr (q k) c
      rw [← hW5] at hs5
      have HX5:=Ak hs5.1
      have HB5:=Ak hs5.2
      have HBW5:=Ak (show Below w2.heap.size w2 W5 from Below.trans HBR.out (hs5.2.mono HBR.out.size))
      unfold zdcA dcA at hW5
      rw [← hW5]
      clear hW5 hs5
      go_wp2_with (first
       | (refine wpList_load_row rfl 30 _ rfl wr.heap.size rfl 30 _ (0,0) _ HX5.out Try.underlying30 rfl (by kernel_rfl) ?_)
       | (go_at_call 13;go_must (refine (mayd_calls c (q k) W5 (DcS.all (HTY.out.same fun k _ hk=>HB5.out.block k hk))).mono ?_;rintro e w6 ⟨rfl,hb⟩;rw [HMV.out];have HB6:=Ak (show Below w2.heap.size w2 w6 from Below.trans HBW5.out (hb.mono HBW5.out.size));clear hb)))
      go_roundw
      case rel=>exact ⟨k+1,by go_num,by omega,⟨by rw [← HK.out,HDR.out,all_go HMV.out]⟩,HB6⟩
      case measure=>(simp [intOf];try omega)
     ·have HEE:=Ak (show mayAll l=mayD c by rw [← HK.out,HDR.out,all_no hmd])
      obtain ⟨e1,he1⟩:∃ e1,mayD c=e1:=⟨_,rfl⟩
      rw [he1] at hmd HEE
      have HMV:=Ak he1
      have HNE:=Ak hmd
      have hm':(e1 != 0)=true:=by simpa using hmd
      clear hmd he1
      go_upto_region 9 with (first
       | (refine wpList_load_mid rfl 30 _ rfl bk (o+k * 21) rfl [.int .i64 c.kind,.string c.nm,.int .i64 c.vars,.int .i64 c.ty.kind,.int .i64 c.ty.num,.string c.ty.name,.int .i64 c.ty.lv.kind,.int .i64 c.ty.lv.num,.slice (q k).pt.A c.ty.lv.kids.length (q k).pt.c,.slice (q k).pt.B c.ty.ls.length (q k).pt.d,.slice (q k).pt.K c.ty.kids.length (q k).pt.e,.int .i64 c.val.kind,.int .i64 c.val.num,.string c.val.name,.int .i64 c.val.lv.kind,.int .i64 c.val.lv.num,.slice (q k).pv.A c.val.lv.kids.length (q k).pv.c,.slice (q k).pv.B c.val.ls.length (q k).pv.d,.slice (q k).pv.K c.val.kids.length (q k).pv.e,.int .i64 c.params,.slice (q k).C c.cs.length (q k).e] _ HRG.out Try.underlying30 rfl (by kernel_rfl) ?_)
       | (refine wpList_store_row rfl 30 _ _ rfl wr.heap.size #[.int .i64 c.kind,.string c.nm,.int .i64 c.vars,.int .i64 c.ty.kind,.int .i64 c.ty.num,.string c.ty.name,.int .i64 c.ty.lv.kind,.int .i64 c.ty.lv.num,.slice (q k).pt.A c.ty.lv.kids.length (q k).pt.c,.slice (q k).pt.B c.ty.ls.length (q k).pt.d,.slice (q k).pt.K c.ty.kids.length (q k).pt.e,.int .i64 c.val.kind,.int .i64 c.val.num,.string c.val.name,.int .i64 c.val.lv.kind,.int .i64 c.val.lv.num,.slice (q k).pv.A c.val.lv.kids.length (q k).pv.c,.slice (q k).pv.B c.val.ls.length (q k).pv.d,.slice (q k).pv.K c.val.kids.length (q k).pv.e,.int .i64 c.params,.slice (q k).C c.cs.length (q k).e] rfl rfl 30 #[.int .i64 0,.string ⟨#[]⟩,.int .i64 0,.int .i64 0,.int .i64 0,.string ⟨#[]⟩,.int .i64 0,.int .i64 0,.slice none 0 0,.slice none 0 0,.slice none 0 0,.int .i64 0,.int .i64 0,.string ⟨#[]⟩,.int .i64 0,.int .i64 0,.slice none 0 0,.slice none 0 0,.slice none 0 0,.int .i64 0,.slice none 0 0] (blk_new _ _) (by kernel_rfl) rfl (all_one (l:=[.int .i64 c.kind,.string c.nm,.int .i64 c.vars,.int .i64 c.ty.kind,.int .i64 c.ty.num,.string c.ty.name,.int .i64 c.ty.lv.kind,.int .i64 c.ty.lv.num,.slice (q k).pt.A c.ty.lv.kids.length (q k).pt.c,.slice (q k).pt.B c.ty.ls.length (q k).pt.d,.slice (q k).pt.K c.ty.kids.length (q k).pt.e,.int .i64 c.val.kind,.int .i64 c.val.num,.string c.val.name,.int .i64 c.val.lv.kind,.int .i64 c.val.lv.num,.slice (q k).pv.A c.val.lv.kids.length (q k).pv.c,.slice (q k).pv.B c.val.ls.length (q k).pv.d,.slice (q k).pv.K c.val.kids.length (q k).pv.e,.int .i64 c.params,.slice (q k).C c.cs.length (q k).e]) rfl) ?_))
      obtain ⟨W5,hW5⟩:∃ W5,W5=(wr.alloc (.cells zdcA 30 (0,0))).setRow wr.heap.size (dcA (q k) c):=⟨_,rfl⟩
      have hs5:=dc_boxed wr (q k) c
      rw [← hW5] at hs5
      have HX5:=Ak hs5.1
      have HB5:=Ak hs5.2
      have HBW5:=Ak (show Below w2.heap.size w2 W5 from Below.trans HBR.out (hs5.2.mono HBR.out.size))
      unfold zdcA dcA at hW5
      rw [← hW5]
      clear hW5 hs5
      go_wp2_with (first
       | (refine wpList_load_row rfl 30 _ rfl wr.heap.size rfl 30 _ (0,0) _ HX5.out Try.underlying30 rfl (by kernel_rfl) ?_)
       | (go_at_call 13;go_must (refine (mayd_calls c (q k) W5 (DcS.all (HTY.out.same fun k _ hk=>HB5.out.block k hk))).mono ?_;rintro e w6 ⟨rfl,hb⟩;rw [HMV.out];have HB6:=Ak (show Below w2.heap.size w2 w6 from Below.trans HBW5.out (hb.mono HBW5.out.size));clear hb)))
      go_ret2
      exact ⟨_,[],e1,rfl,RowG.nil _ _ _,below_then HB.out HB.out.size HB6.out,by rw [HRE.out,if_pos (by rw [HEE.out];exact HNE.out),HEE.out];exact ⟨rfl,HNE.out,rfl⟩⟩
    ·obtain rfl:k=m:=by omega
     have hlt':decide ((k:Int)<k)=false:=by simp
     have HAL:=Ak (show mayAll l=0 by rw [← HK.out,List.drop_of_length_le (by rw [← HM.out];exact Nat.le_refl _)];rfl)
     go_wp2
     go_ret2
     exact ⟨_,l,0,rfl,by rw [HM.out];exact RowG.later HROW.out HBR.out,below_then HB.out HB.out.size HBR.out,by rw [HRE.out,if_neg (fun h=>h HAL.out)];exact ⟨rfl,rfl⟩⟩
end Go.Proofs.Ytcgkeolgflphiaa

namespace Go.Proofs.Ytcgkeolgflphiaa
open Go.RowKit Go.Proofs.YtcgkeolgflphiaaW.PrintWords Go.RegionInvYtcgkeolgflphiaa

theorem bs_arg {w:World} {A:Option Addr} {n c:Nat} {xs:List Int} (hr:ReadsInt w .u8 A n xs) (hc:n≤c) (hB:Bytes xs) (hl:n≤140737488355000):Bs w w.heap.size A n c xs:=
 ⟨hc,hr,fun i hi=>by
  obtain ⟨ad,e,hx⟩:=hr.at_ 0 (Int.le_refl 0) (by omega)
  have:=World.block_lt_of_cell? w _ hx
  have hbl:(ad.add (Int.toNat 0)).block=ad.block:=by unfold Addr.add;split <;> rfl
  exact ⟨ad,e,by omega⟩,hB,hl⟩
end Go.Proofs.Ytcgkeolgflphiaa

namespace Go.Proofs.Ytcgkeolgflphiaa
open Go.RowKit Go.Proofs.YtcgkeolgflphiaaW.PrintWords Go.RegionInvYtcgkeolgflphiaa

def dcRow (q:Nat→DPl):List Dc→Nat→List Value
 | [],_=>[]
 | y :: r,k=>dcC (q k) y ++ dcRow q r (k+1)
theorem dcC_len (P:DPl) (d:Dc):(dcC P d).length=21:=rfl
theorem dcRow_len (q:Nat→DPl):∀ (ys:List Dc) (k:Nat),(dcRow q ys k).length=ys.length * 21
 | [],_=>rfl
 | y :: r,k=>by rw [dcRow,List.length_append,dcC_len,dcRow_len q r,List.length_cons];omega
theorem dcRow_get (q:Nat→DPl):∀ (ys:List Dc) (k i:Nat) (y:Dc) (j:Nat),ys[i]?=some y→j<21→(dcRow q ys k)[i * 21+j]?=(dcC (q (k+i)) y)[j]?
 | [],k,i,y,j,h,_=>by simp at h
 | x :: r,k,i,y,j,h,hj=>by
  rw [dcRow]
  cases i with
  | zero =>
   obtain rfl:x=y:=by simpa using h
   rw [List.getElem?_append_left (by rw [dcC_len];omega),Nat.zero_mul,Nat.zero_add,Nat.add_zero]
  | succ i =>
   rw [List.getElem?_append_right (by rw [dcC_len];omega),dcC_len,show (i+1) * 21+j - 21=i * 21+j by omega,dcRow_get q r (k+1) i y j (by simpa using h) hj,show k+1+i=k+(i+1) by omega]
theorem dcRow_one (q:Nat→DPl):∀ (ys:List Dc) (k:Nat),∀ u∈dcRow q ys k,u.oneCell'=true
 | [],_,u,h=>by simp [dcRow] at h
 | y :: r,k,u,h=>by
  rw [dcRow] at h
  rcases List.mem_append.1 h with h | h
  ·exact List.all_eq_true.1 (show (dcC (q k) y).all (·.oneCell')=true from rfl) u h
  ·exact dcRow_one q r (k+1) u h
def RowD (w:World) (lo:Nat) (V:Value) (q:Nat→DPl) (xs:List Dc):Prop:=
 ∃ cs,w.ownsRow lo 30 21 V xs.length cs∧∀ (i:Nat) (x:Dc),xs[i]?=some x→∀ (j:Nat) (v:Value),(dcC (q i) x)[j]?=some v→cs[i * 21+j]?=some v
def qapp (q q':Nat→DPl) (n:Nat):Nat→DPl:=fun i=>if i<n then q i else q' (i - n)
set_option maxRecDepth 100000 in
theorem dc_app {ops:Array Oper} {rest:List Oper} {o:Oper} {a:Act} {Q:Exit→Act→World→Prop} {W:World} {lo n c:Nat} {S:Nat→Prop} {V:Value} {L:Option Addr} {q qy:Nat→DPl} {xs ys:List Dc} (hgd:o.guard=none) (s y:Operand)
  (ho:o.op=.call { callee:=.builtin .append,args:=#[s,y],argTypes:=#[42,42] }) (hs:a.eval s=V) (hy:a.eval y=.slice L n c) (hn:n=ys.length) (h:RowD W lo V q xs) (hin:DcsS W S L qy ys)
  (hlo:lo≤W.heap.size) (h40:(xs.length+ys.length) * 304≤140737488355328)
  (hnext:∀ V' w',RowD w' lo V' (qapp q qy xs.length) (xs ++ ys)→Below lo W w'→wpList Try.prog ops Q rest (a.put o.dst V') w'):wpList Try.prog ops Q (o :: rest) a W:=by
 obtain ⟨i0,hi,hzz⟩:=Option.map_eq_some_iff.1 infoDcD
 simp only [Prod.mk.injEq] at hzz
 obtain ⟨hz0,hz1,hz2⟩:=hzz
 subst hn
 by_cases hne:ys=[]
 ·subst hne
  rw [List.append_nil] at hnext
  obtain ⟨cells,hown,hk⟩:=h
  obtain ⟨A1,c1,rfl⟩:=own_slice hown
  have hc:=own_cap hown
  have hr:(execOp a.eval o).run Try.prog W=.ok (.value (.slice A1 xs.length c1)) W:=by
   unfold execOp
   rw [ho]
   simp only [resolve,invoke,builtin,Sem.run_bind,Sem.run_pure,Result.andThen_ok,List.map_toArray,List.map_cons,List.map_nil,hs,hy]
   cases L <;> cases A1 <;> simp [Builtin.append_,run_underlying Try.underlying42,sizeOf,typeInfo,hi,Builtin.lenOf,Builtin.firstCells,loadCells,loadCellsFrom,storeCells,hc]
  refine wpList_plain hgd fun _ hK=>?_
  unfold Oper.wp
  rw [hr]
  refine hK _ _ (hnext _ _ ⟨cells,hown,fun i x hx=>?_⟩ (Below.refl _ _))
  have hi2:i<xs.length:=(List.getElem?_eq_some_iff.1 hx).1
  simp only [qapp,if_pos hi2]
  exact hk i x hx
 ·have hpos:0<ys.length:=by cases ys with
   | nil=>exact absurd rfl hne
   | cons x r=>simp
  obtain ⟨y0,h0⟩:∃ y,ys[0]?=some y:=⟨_,List.getElem?_eq_getElem hpos⟩
  obtain ⟨⟨b,off,rfl,-,-⟩,-⟩:=hin 0 y0 h0
  have hnews:∀ j u,(dcRow qy ys 0)[j]?=some u→W.cell? ((⟨b,off,none⟩:Addr).add j)=some u:=by
   intro j u hu
   have hj:j<ys.length * 21:=by have:=(List.getElem?_eq_some_iff.1 hu).1;rwa [dcRow_len] at this
   obtain ⟨i,m,rfl,hm3,hi3⟩:∃ i m,j=i * 21+m∧m<21∧i<ys.length:=⟨j / 21,j % 21,by omega,by omega,by omega⟩
   obtain ⟨z,hz⟩:∃ z,ys[i]?=some z:=⟨_,List.getElem?_eq_getElem hi3⟩
   have hg:=dcRow_get qy ys 0 i z m hz hm3
   rw [hu,Nat.zero_add] at hg
   obtain ⟨⟨b',off',e,-,hcs⟩,-⟩:=hin i z hz
   injection e with e
   injection e with e1 e2
   subst e1;subst e2
   have:=hcs m u hg.symm
   rw [add_flat,← Nat.add_assoc]
   exact this
  obtain ⟨cells,hown,hk⟩:=h
  have hl:=own_len hown
  refine wpList_append_lies W hgd s y 42 ho lo 30 i0 _ 21 304 Try.underlying42 hi hz0 hz1 hz2 rfl (by decide) V xs.length cells hs hown ⟨b,off,none⟩ ys.length c (dcRow qy ys 0) hy (dcRow_len _ _ _) hnews (dcRow_one _ _ _) hpos (by simp only [maxLen];omega) (by omega) hlo W.heap.size rfl ?_
  intro g cap w' ho' hg' hat hlt
  refine hnext _ w' ⟨cells ++ dcRow qy ys 0,by rw [List.length_append];exact ho',fun i z hz=>?_⟩ ⟨hg'.os,hg'.tape,hg'.output,hg'.size,fun k hk=>hg'.block k (by omega) (fun e=>by have:=own_base hown k e.symm;omega)⟩
  intro j v hv
  have hj:j<21:=by have:=(List.getElem?_eq_some_iff.1 hv).1;rwa [dcC_len] at this
  rcases Nat.lt_or_ge i xs.length with hi2 | hi2
  ·rw [List.getElem?_append_left hi2] at hz
   simp only [qapp,if_pos hi2] at hv
   rw [List.getElem?_append_left (by omega)]
   exact hk i z hz j v hv
  ·rw [List.getElem?_append_right hi2] at hz
   simp only [qapp,if_neg (show ¬ i<xs.length by omega)] at hv
   rw [List.getElem?_append_right (by omega),show i * 21+j - cells.length=(i - xs.length) * 21+j by omega,dcRow_get qy ys 0 _ z j hz hj,Nat.zero_add]
   exact hv
theorem rowD_nil (w:World) (lo:Nat) (V:Value) (q:Nat→DPl) (cs:List Value) (h:w.ownsRow lo 30 21 V 0 cs):RowD w lo V q []:=⟨cs,h,fun i x h=>by simp at h⟩
theorem RowD.dcs {w:World} {lo B:Nat} {V:Value} {q:Nat→DPl} {xs:List Dc} (h:RowD w lo V q xs) (hB:B≤lo) (hm:∀ (i:Nat) (x:Dc),xs[i]?=some x→DcIn w B (q i) x):∃ (L:Option Addr) (e:Nat),V=.slice L xs.length e∧(xs.length≤e∧e≤9223372036854775807)∧DcsS w (fun _=>True) L q xs:=by
 obtain ⟨cs,ho,hk⟩:=h
 obtain ⟨L,e,rfl⟩:=own_slice ho
 refine ⟨L,e,rfl,⟨own_cap ho,own_max ho⟩,fun i c hc=>?_⟩
 have hi:i<xs.length:=(List.getElem?_eq_some_iff.1 hc).1
 obtain ⟨g,cap,hv,hb,_⟩:=ho.form (by omega)
 have hv':=hv
 injection hv with hA
 refine ⟨⟨g,0,hA,trivial,fun j v hjv=>?_⟩,DcS.mono (hm i c hc) fun b hb _=>trivial⟩
 have:=ho.cells (g:=g) (by rw [hv'];rfl) _ _ (hk i c hc j v hjv)
 rwa [show (⟨g,0,none⟩:Addr).add (i * 21+j)=⟨g,0+(i * 21+j),none⟩ from add_flat g 0 _,← Nat.add_assoc] at this
end Go.Proofs.Ytcgkeolgflphiaa

namespace Go.Proofs.Ytcgkeolgflphiaa
open Go.RowKit Go.Proofs.YtcgkeolgflphiaaW.PrintWords Go.RegionInvYtcgkeolgflphiaa

def lightB (ds:List Dc):Bool:=decide (ds.length≤20) && ds.all fun d=>decide (d.cs.length≤20)
theorem light_long {ds:List Dc} (h:20<ds.length):lightB ds=false:=by
 unfold lightB;rw [decide_eq_false (by omega)];rfl
theorem light_heavy {ds:List Dc} {k:Nat} {c:Dc} (h:ds[k]?=some c) (hc:20<c.cs.length):lightB ds=false:=by
 unfold lightB
 rw [Bool.and_eq_false_iff]
 refine .inr ?_
 rw [List.all_eq_false]
 exact ⟨c,List.mem_of_getElem? h,by simp;omega⟩
theorem light_yes {ds:List Dc} (h:ds.length≤20) (hc:∀ (i:Nat) (c:Dc),ds[i]?=some c→c.cs.length≤20):lightB ds=true:=by
 unfold lightB
 rw [decide_eq_true h,Bool.true_and,List.all_eq_true]
 intro c hm
 obtain ⟨i,hi⟩:=List.getElem?_of_mem hm
 exact decide_eq_true (hc i c hi)
theorem light_len {ds:List Dc} (h:lightB ds=true):ds.length≤20:=by
 unfold lightB at h
 rw [Bool.and_eq_true] at h
 exact of_decide_eq_true h.1
set_option maxRecDepth 100000 in
set_option maxHeartbeats 8000000 in
theorem light_calls (ds:List Dc) (L:Option Addr) (n e:Nat) (q:Nat→DPl) (w:World) (hn:n=ds.length) (hin:DcsS w (fun _=>True) L q ds) (hn9:n≤9223372036854775807) :
  Calls Try.prog 26 #[.slice L n e] w fun e w'=>e=.returned (.bool (lightB ds))∧Below w.heap.size w w':=by
 have HIN:=Ak hin
 have HM:=Ak hn
 clear hin hn
 go_enter Try.func26,Try.ntmps26
 go_wp2
 go_loopw [7] (fun i wr=>∃ k:Nat,i=.int .i64 k∧k≤n∧k≤20∧Aside0 (∀ (i:Nat) (c:Dc),i<k→ds[i]?=some c→c.cs.length≤20)∧Aside0 (Below w.heap.size w wr)) (fun i _=>n - (intOf i).toNat)
 case atStart=>exact ⟨0,rfl,Nat.zero_le _,Nat.zero_le _,⟨fun i c h=>by omega⟩,⟨Below.refl _ _⟩⟩
 case round =>
  obtain ⟨k,rfl,hk,hk20,HLK,HBR⟩:=hrel
  by_cases hlt:k<n
  ·have hlt2:k<ds.length:=by rw [← HM.out];exact hlt
   obtain ⟨c,hc⟩:∃ c,ds[k]?=some c:=⟨_,List.getElem?_eq_getElem hlt2⟩
   obtain ⟨⟨bk,o,hA,-,hcells⟩,hty⟩:=(HIN.out.mono (S':=fun k=>k<w.heap.size) fun _ _ h=>h).same (w':=wr) (fun j hj _=>HBR.out.block j hj) k c hc
   have HRG:=Ak (show wr.rangeAt bk (o+k * 21) (dcC (q k) c) from hcells)
   have HC:=Ak hc
   have hlen:=hty.len
   have hl9:c.cs.length≤9223372036854775807:=by omega
   rw [hA]
   have HA:=Ak hA
   clear hA hcells hc hlt2 hty hlen
   go_upto_region 4 with (first
    | (refine wpList_load_mid rfl 30 _ rfl bk (o+k * 21) rfl [.int .i64 c.kind,.string c.nm,.int .i64 c.vars,.int .i64 c.ty.kind,.int .i64 c.ty.num,.string c.ty.name,.int .i64 c.ty.lv.kind,.int .i64 c.ty.lv.num,.slice (q k).pt.A c.ty.lv.kids.length (q k).pt.c,.slice (q k).pt.B c.ty.ls.length (q k).pt.d,.slice (q k).pt.K c.ty.kids.length (q k).pt.e,.int .i64 c.val.kind,.int .i64 c.val.num,.string c.val.name,.int .i64 c.val.lv.kind,.int .i64 c.val.lv.num,.slice (q k).pv.A c.val.lv.kids.length (q k).pv.c,.slice (q k).pv.B c.val.ls.length (q k).pv.d,.slice (q k).pv.K c.val.kids.length (q k).pv.e,.int .i64 c.params,.slice (q k).C c.cs.length (q k).e] _ HRG.out Try.underlying30 rfl (by kernel_rfl) ?_)
    | (refine wpList_store_row rfl 30 _ _ rfl wr.heap.size #[.int .i64 c.kind,.string c.nm,.int .i64 c.vars,.int .i64 c.ty.kind,.int .i64 c.ty.num,.string c.ty.name,.int .i64 c.ty.lv.kind,.int .i64 c.ty.lv.num,.slice (q k).pt.A c.ty.lv.kids.length (q k).pt.c,.slice (q k).pt.B c.ty.ls.length (q k).pt.d,.slice (q k).pt.K c.ty.kids.length (q k).pt.e,.int .i64 c.val.kind,.int .i64 c.val.num,.string c.val.name,.int .i64 c.val.lv.kind,.int .i64 c.val.lv.num,.slice (q k).pv.A c.val.lv.kids.length (q k).pv.c,.slice (q k).pv.B c.val.ls.length (q k).pv.d,.slice (q k).pv.K c.val.kids.length (q k).pv.e,.int .i64 c.params,.slice (q k).C c.cs.length (q k).e] rfl rfl 30 #[.int .i64 0,.string ⟨#[]⟩,.int .i64 0,.int .i64 0,.int .i64 0,.string ⟨#[]⟩,.int .i64 0,.int .i64 0,.slice none 0 0,.slice none 0 0,.slice none 0 0,.int .i64 0,.int .i64 0,.string ⟨#[]⟩,.int .i64 0,.int .i64 0,.slice none 0 0,.slice none 0 0,.slice none 0 0,.int .i64 0,.slice none 0 0] (blk_new _ _) (by kernel_rfl) rfl (all_one (l:=[.int .i64 c.kind,.string c.nm,.int .i64 c.vars,.int .i64 c.ty.kind,.int .i64 c.ty.num,.string c.ty.name,.int .i64 c.ty.lv.kind,.int .i64 c.ty.lv.num,.slice (q k).pt.A c.ty.lv.kids.length (q k).pt.c,.slice (q k).pt.B c.ty.ls.length (q k).pt.d,.slice (q k).pt.K c.ty.kids.length (q k).pt.e,.int .i64 c.val.kind,.int .i64 c.val.num,.string c.val.name,.int .i64 c.val.lv.kind,.int .i64 c.val.lv.num,.slice (q k).pv.A c.val.lv.kids.length (q k).pv.c,.slice (q k).pv.B c.val.ls.length (q k).pv.d,.slice (q k).pv.K c.val.kids.length (q k).pv.e,.int .i64 c.params,.slice (q k).C c.cs.length (q k).e]) rfl) ?_))
   have hbx:=dc_boxed wr (q k) c
   obtain ⟨W5,hW5⟩:∃ W5,W5=(wr.alloc (.cells #[.int .i64 0,.string ⟨#[]⟩,.int .i64 0,.int .i64 0,.int .i64 0,.string ⟨#[]⟩,.int .i64 0,.int .i64 0,.slice none 0 0,.slice none 0 0,.slice none 0 0,.int .i64 0,.int .i64 0,.string ⟨#[]⟩,.int .i64 0,.int .i64 0,.slice none 0 0,.slice none 0 0,.slice none 0 0,.int .i64 0,.slice none 0 0] 30 (0,0))).setRow wr.heap.size #[.int .i64 c.kind,.string c.nm,.int .i64 c.vars,.int .i64 c.ty.kind,.int .i64 c.ty.num,.string c.ty.name,.int .i64 c.ty.lv.kind,.int .i64 c.ty.lv.num,.slice (q k).pt.A c.ty.lv.kids.length (q k).pt.c,.slice (q k).pt.B c.ty.ls.length (q k).pt.d,.slice (q k).pt.K c.ty.kids.length (q k).pt.e,.int .i64 c.val.kind,.int .i64 c.val.num,.string c.val.name,.int .i64 c.val.lv.kind,.int .i64 c.val.lv.num,.slice (q k).pv.A c.val.lv.kids.length (q k).pv.c,.slice (q k).pv.B c.val.ls.length (q k).pv.d,.slice (q k).pv.K c.val.kids.length (q k).pv.e,.int .i64 c.params,.slice (q k).C c.cs.length (q k).e]:=⟨_,rfl⟩
   replace hbx:W5.heap[wr.heap.size]?=some (dcO (q k) c)∧Below wr.heap.size wr W5:=by rw [hW5];exact hbx
   rw [← hW5]
   have HB5:=Ak (below_then HBR.out HBR.out.size hbx.2)
   have d20:W5.cell? ⟨wr.heap.size,20,none⟩=some (.slice (q k).C c.cs.length (q k).e):=by rw [cell_of_row _ _ _ _ _ _ hbx.1];rfl
   clear hW5 hbx
   obtain ⟨m,hm⟩:∃ m,m=c.cs.length:=⟨_,rfl⟩
   rw [← hm] at d20 hl9
   have HMM:=Ak hm
   clear hm
   by_cases h20:k=20
   ·subst h20
    have HF:=Ak (light_long (ds:=ds) (by rw [← HM.out];exact hlt))
    go_wp2
    go_ret
    exact ⟨by rw [HF.out];rfl,HB5.out⟩
   ·have h20':¬ ((20:Int)≤k):=by omega
    by_cases hc:20<m
    ·have hc':(20:Int)<m:=by omega
     have HF:=Ak (light_heavy HC.out (by rw [← HMM.out];exact hc))
     go_wp2
     go_ret
     exact ⟨by rw [HF.out];rfl,HB5.out⟩
    ·have hc':¬ (20:Int)<m:=by omega
     go_wp2
     go_roundw
     case rel=>exact ⟨k+1,by go_num,by omega,by omega,⟨fun i c' h1 h2=>by
      rcases Nat.lt_or_ge i k with h | h
      ·exact HLK.out i c' h h2
      ·obtain rfl:i=k:=by omega
       rw [HC.out] at h2;obtain rfl:=Option.some.inj h2;rw [← HMM.out];omega⟩,HB5⟩
     case measure=>(simp [intOf];try omega)
  ·obtain rfl:k=n:=by omega
   have hlt':decide ((k:Int)<k)=false:=by simp
   go_wp2
   go_ret
   exact ⟨by rw [light_yes (by rw [← HM.out];exact hk20) (fun i c h=>HLK.out i c (by have:=(List.getElem?_eq_some_iff.1 h).1;rw [HM.out];exact this) h)];rfl,HBR.out⟩
end Go.Proofs.Ytcgkeolgflphiaa

namespace Go.Proofs.Ytcgkeolgflphiaa
open Go.RowKit Go.Proofs.YtcgkeolgflphiaaW.PrintWords Go.RegionInvYtcgkeolgflphiaa Go.RegionEYtcgkeolgflphiaa
set_option linter.unusedVariables false

theorem strOf_app (a b:List Int):strOfNums (a ++ b)=strOfNums a ++ strOfNums b:=by
 rw [strOf_name,strOf_name,strOf_name]
 apply ByteArray.ext
 rw [ByteArray.data_append]
 unfold nameOf
 simp

def dr10_ops:List Oper:=[
 { dst:=some 73,op:=Go.Op.move (Go.Operand.tmp 5),type:=31,pos:= "more.go:24",after:=#[],guard:=none },
 { dst:=some 74,op:=Go.Op.call { callee:=Go.Callee.builtin Go.Builtin.len,args:=#[Go.Operand.tmp 73],argTypes:=#[31] },type:=3,pos:= "more.go:24",after:=#[{ on:=0,ground:=Go.Ground.data }],guard:=none },
 { dst:=some 75,op:=Go.Op.binOp Go.BinOp.lss 3 (Go.Operand.tmp 74) (Go.Operand.const (Go.Value.int Go.IntKind.i64 1)) 3,type:=4,pos:= "more.go:24",after:=#[{ on:=1,ground:=Go.Ground.data }],guard:=none },
 { dst:=some 76,op:=Go.Op.move (Go.Operand.tmp 75),type:=4,pos:= "more.go:24",after:=#[{ on:=2,ground:=Go.Ground.data }],guard:=none },
 { dst:=some 77,op:=Go.Op.move (Go.Operand.tmp 7),type:=31,pos:= "more.go:24",after:=#[{ on:=3,ground:=Go.Ground.guard }],guard:=some (3,false) },
 { dst:=some 78,op:=Go.Op.call { callee:=Go.Callee.builtin Go.Builtin.len,args:=#[Go.Operand.tmp 77],argTypes:=#[31] },type:=3,pos:= "more.go:24",after:=#[{ on:=4,ground:=Go.Ground.data },{ on:=3,ground:=Go.Ground.guard }],guard:=some (3,false) },
 { dst:=some 79,op:=Go.Op.binOp Go.BinOp.lss 3 (Go.Operand.tmp 78) (Go.Operand.const (Go.Value.int Go.IntKind.i64 1)) 3,type:=4,pos:= "more.go:24",after:=#[{ on:=5,ground:=Go.Ground.data },{ on:=3,ground:=Go.Ground.guard }],guard:=some (3,false) },
 { dst:=some 80,op:=Go.Op.pick (Go.Operand.tmp 76) (Go.Operand.const (Go.Value.bool true)) (Go.Operand.tmp 79),type:=4,pos:= "more.go:24",after:=#[{ on:=3,ground:=Go.Ground.data },{ on:=6,ground:=Go.Ground.data }],guard:=none },
 { dst:=some 81,op:=Go.Op.move (Go.Operand.tmp 80),type:=4,pos:= "more.go:24",after:=#[{ on:=7,ground:=Go.Ground.data },{ on:=3,ground:=Go.Ground.chain }],guard:=none },
 { dst:=some 82,op:=Go.Op.move (Go.Operand.tmp 9),type:=31,pos:= "more.go:24",after:=#[{ on:=8,ground:=Go.Ground.guard }],guard:=some (8,false) },
 { dst:=some 83,op:=Go.Op.slice 31 (Go.Operand.tmp 82) (some (Go.Operand.const (Go.Value.int Go.IntKind.i64 1))) none none,type:=31,pos:= "more.go:24",after:=#[{ on:=9,ground:=Go.Ground.data },{ on:=8,ground:=Go.Ground.guard }],guard:=some (8,false) },
 { dst:=some 84,op:=Go.Op.convert 31 9 (Go.Operand.tmp 83),type:=9,pos:= "more.go:24",after:=#[{ on:=10,ground:=Go.Ground.data },{ on:=8,ground:=Go.Ground.guard }],guard:=some (8,false) },
 { dst:=some 85,op:=Go.Op.move (Go.Operand.tmp 5),type:=31,pos:= "more.go:24",after:=#[{ on:=8,ground:=Go.Ground.guard }],guard:=some (8,false) },
 { dst:=some 86,op:=Go.Op.slice 31 (Go.Operand.tmp 85) (some (Go.Operand.const (Go.Value.int Go.IntKind.i64 1))) none none,type:=31,pos:= "more.go:24",after:=#[{ on:=12,ground:=Go.Ground.data },{ on:=8,ground:=Go.Ground.guard }],guard:=some (8,false) },
 { dst:=some 87,op:=Go.Op.convert 31 9 (Go.Operand.tmp 86),type:=9,pos:= "more.go:24",after:=#[{ on:=13,ground:=Go.Ground.data },{ on:=8,ground:=Go.Ground.guard }],guard:=some (8,false) },
 { dst:=some 88,op:=Go.Op.move (Go.Operand.tmp 7),type:=31,pos:= "more.go:24",after:=#[{ on:=8,ground:=Go.Ground.guard }],guard:=some (8,false) },
 { dst:=some 89,op:=Go.Op.slice 31 (Go.Operand.tmp 88) (some (Go.Operand.const (Go.Value.int Go.IntKind.i64 1))) none none,type:=31,pos:= "more.go:24",after:=#[{ on:=15,ground:=Go.Ground.data },{ on:=8,ground:=Go.Ground.guard }],guard:=some (8,false) },
 { dst:=some 90,op:=Go.Op.convert 31 9 (Go.Operand.tmp 89),type:=9,pos:= "more.go:24",after:=#[{ on:=16,ground:=Go.Ground.data },{ on:=8,ground:=Go.Ground.guard }],guard:=some (8,false) },
 { dst:=some 91,op:=Go.Op.binOp Go.BinOp.add 9 (Go.Operand.tmp 87) (Go.Operand.tmp 90) 9,type:=9,pos:= "more.go:24",after:=#[{ on:=14,ground:=Go.Ground.data },{ on:=17,ground:=Go.Ground.data },{ on:=8,ground:=Go.Ground.guard }],guard:=some (8,false) },
 { dst:=some 92,op:=Go.Op.binOp Go.BinOp.neq 9 (Go.Operand.tmp 84) (Go.Operand.tmp 91) 9,type:=4,pos:= "more.go:24",after:=#[{ on:=11,ground:=Go.Ground.data },{ on:=18,ground:=Go.Ground.data },{ on:=8,ground:=Go.Ground.guard }],guard:=some (8,false) },
 { dst:=some 93,op:=Go.Op.pick (Go.Operand.tmp 81) (Go.Operand.const (Go.Value.bool true)) (Go.Operand.tmp 92),type:=4,pos:= "more.go:24",after:=#[{ on:=8,ground:=Go.Ground.data },{ on:=19,ground:=Go.Ground.data }],guard:=none }]
def dr10_F (w0:World) (A1 A2 A3 B1 B2 B3:Option Addr) (n1 n2 n3 c1 c2 c3:Nat) (xs ys zs:List Int):Nat→(Nat→Value)→Value→World→(Nat→Prop)→Prop:=fun rix=>match rix with
 | 0=>fun _ v _ _=>v=.slice A1 n1 c1
 | 1=>fun _ v _ _=>v=.int .i64 n1
 | 2=>fun _ v _ _=>v=.bool false
 | 3=>fun _ v _ _=>v=.bool false
 | 4=>fun _ v _ _=>v=.slice A2 n2 c2
 | 5=>fun _ v _ _=>v=.int .i64 n2
 | 6=>fun _ v _ _=>v=.bool false
 | 7=>fun _ v _ _=>v=.bool false
 | 8=>fun _ v _ _=>v=.bool false
 | 9=>fun _ v _ _=>v=.slice A3 n3 c3
 | 10=>fun _ v _ _=>v=.slice B3 (n3 - 1) (c3 - 1)
 | 11=>fun _ v _ _=>v=.string (strOfNums (zs.drop 1))
 | 12=>fun _ v _ _=>v=.slice A1 n1 c1
 | 13=>fun _ v _ _=>v=.slice B1 (n1 - 1) (c1 - 1)
 | 14=>fun _ v _ _=>v=.string (strOfNums (xs.drop 1))
 | 15=>fun _ v _ _=>v=.slice A2 n2 c2
 | 16=>fun _ v _ _=>v=.slice B2 (n2 - 1) (c2 - 1)
 | 17=>fun _ v _ _=>v=.string (strOfNums (ys.drop 1))
 | 18=>fun _ v _ _=>v=.string (strOfNums (xs.drop 1) ++ strOfNums (ys.drop 1))
 | 19=>fun _ v _ _=>v=.bool false
 | 20=>fun _ v _ _=>v=.bool false
 | _=>fun _ _ _ _=>True
def dr10_C:Nat→List Nat:=fun rix=>match rix with
 | _=>[]
theorem dr10_nw5:nwB dr10_ops.toArray 5=true:=by kernel_rfl
theorem dr10_nw7:nwB dr10_ops.toArray 7=true:=by kernel_rfl
theorem dr10_nw9:nwB dr10_ops.toArray 9=true:=by kernel_rfl
set_option maxRecDepth 100000 in
set_option maxHeartbeats 8000000 in
theorem dr10_obs (w0:World) (A1 A2 A3 B1 B2 B3:Option Addr) (n1 n2 n3 c1 c2 c3:Nat) (xs ys zs:List Int) (z1:∀ W,(Instr.slice 31 (.slice A1 n1 c1) (some (.int .i64 1)) none none).run Try.prog W=.ok (.slice B1 (n1 - 1) (c1 - 1)) W) (z2:∀ W,(Instr.slice 31 (.slice A2 n2 c2) (some (.int .i64 1)) none none).run Try.prog W=.ok (.slice B2 (n2 - 1) (c2 - 1)) W) (z3:∀ W,(Instr.slice 31 (.slice A3 n3 c3) (some (.int .i64 1)) none none).run Try.prog W=.ok (.slice B3 (n3 - 1) (c3 - 1)) W) (h1:ReadsInt w0 .u8 B1 (n1 - 1) (xs.drop 1)) (h2:ReadsInt w0 .u8 B2 (n2 - 1) (ys.drop 1)) (h3:ReadsInt w0 .u8 B3 (n3 - 1) (zs.drop 1)) (hn1:1≤n1) (hn2:1≤n2) (he:zs.drop 1=xs.drop 1 ++ ys.drop 1) (hb:(strOfNums (xs.drop 1)).size+(strOfNums (ys.drop 1)).size≤9223372036854775807) (Q:Exit→Act→World→Prop) (a0:Act) (hi5:a0.tmps.getD 5 undef=.slice A1 n1 c1) (hi7:a0.tmps.getD 7 undef=.slice A2 n2 c2) (hi9:a0.tmps.getD 9 undef=.slice A3 n3 c3) :
  ObsE Try.prog dr10_ops.toArray Q (est2 0 0 (fun _=>False) (fun _=>False)) dr10_C (dr10_F w0 A1 A2 A3 B1 B2 B3 n1 n2 n3 c1 c2 c3 xs ys zs) a0 w0 dr10_ops.toArray.toList 0:=by
 have nw5:=dr10_nw5
 have nw7:=dr10_nw7
 have nw9:=dr10_nw9
 refine ⟨?_,?_,?_,?_,?_,?_,?_,?_,?_,?_,?_,?_,?_,?_,?_,?_,?_,?_,?_,?_,?_,trivial⟩
 ·refine ⟨⟨fun τ=>stableE_det _,leans_not⟩,?_⟩
  intro a w O hk
  have e5:a.eval (.tmp 5)=.slice A1 n1 c1:=(hk.init 5 (initialB_of_nw nw5)).trans hi5
  exact toE (ob_move rfl e5 (wanted_none rfl) rfl)
 ·refine ⟨⟨fun τ=>stableE_det _,leans_not⟩,?_⟩
  intro a w O hk
  have e73:a.eval (.tmp 73)=.slice A1 n1 c1:=hk.fact 0 _ 73 rfl rfl rfl rfl
  exact toE (ob_len rfl e73 Try.underlying31 (wanted_none rfl) rfl)
 ·refine ⟨⟨fun τ=>stableE_det _,leans_not⟩,?_⟩
  intro a w O hk
  have e74:a.eval (.tmp 74)=.int .i64 n1:=hk.fact 1 _ 74 rfl rfl rfl rfl
  have hq:¬ ((n1:Int)<1):=by omega
  exact obE_run (wanted_none rfl) (by unfold execOp;simp only [];rw [e74];go_simp) rfl
 ·refine ⟨⟨fun τ=>stableE_det _,leans_not⟩,?_⟩
  intro a w O hk
  have e75:a.eval (.tmp 75)=.bool false:=hk.fact 2 _ 75 rfl rfl rfl rfl
  exact toE (ob_move rfl e75 (wanted_none rfl) rfl)
 ·refine ⟨⟨fun τ=>stableE_det _,leans_not⟩,?_⟩
  intro a w O hk
  have e7:a.eval (.tmp 7)=.slice A2 n2 c2:=(hk.init 7 (initialB_of_nw nw7)).trans hi7
  have e76:a.eval (.tmp 76)=.bool false:=hk.fact 3 _ 76 rfl rfl rfl rfl
  exact toE (ob_move rfl e7 (wanted_of rfl rfl rfl e76) rfl)
 ·refine ⟨⟨fun τ=>stableE_det _,leans_not⟩,?_⟩
  intro a w O hk
  have e77:a.eval (.tmp 77)=.slice A2 n2 c2:=hk.fact 4 _ 77 rfl rfl rfl rfl
  have e76:a.eval (.tmp 76)=.bool false:=hk.fact 3 _ 76 rfl rfl rfl rfl
  exact toE (ob_len rfl e77 Try.underlying31 (wanted_of rfl rfl rfl e76) rfl)
 ·refine ⟨⟨fun τ=>stableE_det _,leans_not⟩,?_⟩
  intro a w O hk
  have e78:a.eval (.tmp 78)=.int .i64 n2:=hk.fact 5 _ 78 rfl rfl rfl rfl
  have e76:a.eval (.tmp 76)=.bool false:=hk.fact 3 _ 76 rfl rfl rfl rfl
  have hq:¬ ((n2:Int)<1):=by omega
  exact obE_run (wanted_of rfl rfl rfl e76) (by unfold execOp;simp only [];rw [e78];go_simp) rfl
 ·refine ⟨⟨fun τ=>stableE_det _,leans_not⟩,?_⟩
  intro a w O hk
  have e76:a.eval (.tmp 76)=.bool false:=hk.fact 3 _ 76 rfl rfl rfl rfl
  have e79:a.eval (.tmp 79)=.bool false:=hk.fact 6 _ 79 rfl rfl rfl rfl
  exact toE (ob_pick rfl e76 e79 (wanted_none rfl) rfl)
 ·refine ⟨⟨fun τ=>stableE_det _,leans_not⟩,?_⟩
  intro a w O hk
  have e80:a.eval (.tmp 80)=.bool false:=hk.fact 7 _ 80 rfl rfl rfl rfl
  exact toE (ob_move rfl e80 (wanted_none rfl) rfl)
 ·refine ⟨⟨fun τ=>stableE_det _,leans_not⟩,?_⟩
  intro a w O hk
  have e9:a.eval (.tmp 9)=.slice A3 n3 c3:=(hk.init 9 (initialB_of_nw nw9)).trans hi9
  have e81:a.eval (.tmp 81)=.bool false:=hk.fact 8 _ 81 rfl rfl rfl rfl
  exact toE (ob_move rfl e9 (wanted_of rfl rfl rfl e81) rfl)
 ·refine ⟨⟨fun τ=>stableE_det _,leans_not⟩,?_⟩
  intro a w O hk
  have e82:a.eval (.tmp 82)=.slice A3 n3 c3:=hk.fact 9 _ 82 rfl rfl rfl rfl
  have e81:a.eval (.tmp 81)=.bool false:=hk.fact 8 _ 81 rfl rfl rfl rfl
  exact toE (ob_sliceFrom (by rw [show Try.prog.elem 31=5 by kernel_rfl];exact Try.underlying31) rfl e82 rfl (z3 w) (wanted_of rfl rfl rfl e81) rfl)
 ·refine ⟨⟨fun τ=>stableE_det _,leans_not⟩,?_⟩
  intro a w O hk
  have e83:a.eval (.tmp 83)=.slice B3 (n3 - 1) (c3 - 1):=hk.fact 10 _ 83 rfl rfl rfl rfl
  have e81:a.eval (.tmp 81)=.bool false:=hk.fact 8 _ 81 rfl rfl rfl rfl
  have s0:=string_of_reads Try.underlying31 Try.underlying5 Try.underlying9 (c:=c3 - 1) (h3.below (hk.world.below (fun k ⟨_,h⟩=>h.elim (fun h=>h.2.elim) fun h=>h.2.elim) (Nat.le_refl _)))
  exact obE_run (wanted_of rfl rfl rfl e81) (by unfold execOp;simp only [];rw [e83];simp [s0]) rfl
 ·refine ⟨⟨fun τ=>stableE_det _,leans_not⟩,?_⟩
  intro a w O hk
  have e5:a.eval (.tmp 5)=.slice A1 n1 c1:=(hk.init 5 (initialB_of_nw nw5)).trans hi5
  have e81:a.eval (.tmp 81)=.bool false:=hk.fact 8 _ 81 rfl rfl rfl rfl
  exact toE (ob_move rfl e5 (wanted_of rfl rfl rfl e81) rfl)
 ·refine ⟨⟨fun τ=>stableE_det _,leans_not⟩,?_⟩
  intro a w O hk
  have e85:a.eval (.tmp 85)=.slice A1 n1 c1:=hk.fact 12 _ 85 rfl rfl rfl rfl
  have e81:a.eval (.tmp 81)=.bool false:=hk.fact 8 _ 81 rfl rfl rfl rfl
  exact toE (ob_sliceFrom (by rw [show Try.prog.elem 31=5 by kernel_rfl];exact Try.underlying31) rfl e85 rfl (z1 w) (wanted_of rfl rfl rfl e81) rfl)
 ·refine ⟨⟨fun τ=>stableE_det _,leans_not⟩,?_⟩
  intro a w O hk
  have e86:a.eval (.tmp 86)=.slice B1 (n1 - 1) (c1 - 1):=hk.fact 13 _ 86 rfl rfl rfl rfl
  have e81:a.eval (.tmp 81)=.bool false:=hk.fact 8 _ 81 rfl rfl rfl rfl
  have s0:=string_of_reads Try.underlying31 Try.underlying5 Try.underlying9 (c:=c1 - 1) (h1.below (hk.world.below (fun k ⟨_,h⟩=>h.elim (fun h=>h.2.elim) fun h=>h.2.elim) (Nat.le_refl _)))
  exact obE_run (wanted_of rfl rfl rfl e81) (by unfold execOp;simp only [];rw [e86];simp [s0]) rfl
 ·refine ⟨⟨fun τ=>stableE_det _,leans_not⟩,?_⟩
  intro a w O hk
  have e7:a.eval (.tmp 7)=.slice A2 n2 c2:=(hk.init 7 (initialB_of_nw nw7)).trans hi7
  have e81:a.eval (.tmp 81)=.bool false:=hk.fact 8 _ 81 rfl rfl rfl rfl
  exact toE (ob_move rfl e7 (wanted_of rfl rfl rfl e81) rfl)
 ·refine ⟨⟨fun τ=>stableE_det _,leans_not⟩,?_⟩
  intro a w O hk
  have e88:a.eval (.tmp 88)=.slice A2 n2 c2:=hk.fact 15 _ 88 rfl rfl rfl rfl
  have e81:a.eval (.tmp 81)=.bool false:=hk.fact 8 _ 81 rfl rfl rfl rfl
  exact toE (ob_sliceFrom (by rw [show Try.prog.elem 31=5 by kernel_rfl];exact Try.underlying31) rfl e88 rfl (z2 w) (wanted_of rfl rfl rfl e81) rfl)
 ·refine ⟨⟨fun τ=>stableE_det _,leans_not⟩,?_⟩
  intro a w O hk
  have e89:a.eval (.tmp 89)=.slice B2 (n2 - 1) (c2 - 1):=hk.fact 16 _ 89 rfl rfl rfl rfl
  have e81:a.eval (.tmp 81)=.bool false:=hk.fact 8 _ 81 rfl rfl rfl rfl
  have s0:=string_of_reads Try.underlying31 Try.underlying5 Try.underlying9 (c:=c2 - 1) (h2.below (hk.world.below (fun k ⟨_,h⟩=>h.elim (fun h=>h.2.elim) fun h=>h.2.elim) (Nat.le_refl _)))
  exact obE_run (wanted_of rfl rfl rfl e81) (by unfold execOp;simp only [];rw [e89];simp [s0]) rfl
 ·refine ⟨⟨fun τ=>stableE_det _,leans_not⟩,?_⟩
  intro a w O hk
  have e87:a.eval (.tmp 87)=.string (strOfNums (xs.drop 1)):=hk.fact 14 _ 87 rfl rfl rfl rfl
  have e90:a.eval (.tmp 90)=.string (strOfNums (ys.drop 1)):=hk.fact 17 _ 90 rfl rfl rfl rfl
  have e81:a.eval (.tmp 81)=.bool false:=hk.fact 8 _ 81 rfl rfl rfl rfl
  exact obE_run (wanted_of rfl rfl rfl e81) (by unfold execOp;simp only [];rw [e87,e90];go_simp;simpa using hb) rfl
 ·refine ⟨⟨fun τ=>stableE_det _,leans_not⟩,?_⟩
  intro a w O hk
  have e84:a.eval (.tmp 84)=.string (strOfNums (zs.drop 1)):=hk.fact 11 _ 84 rfl rfl rfl rfl
  have e91:a.eval (.tmp 91)=.string (strOfNums (xs.drop 1) ++ strOfNums (ys.drop 1)):=hk.fact 18 _ 91 rfl rfl rfl rfl
  have e81:a.eval (.tmp 81)=.bool false:=hk.fact 8 _ 81 rfl rfl rfl rfl
  exact toE (ob_neqStr rfl e84 e91 (by rw [he];exact strOf_app _ _) (wanted_of rfl rfl rfl e81) rfl)
 ·refine ⟨⟨fun τ=>stableE_det _,leans_not⟩,?_⟩
  intro a w O hk
  have e81:a.eval (.tmp 81)=.bool false:=hk.fact 8 _ 81 rfl rfl rfl rfl
  have e92:a.eval (.tmp 92)=.bool false:=hk.fact 19 _ 92 rfl rfl rfl rfl
  exact toE (ob_pick rfl e81 e92 (wanted_none rfl) rfl)
set_option maxRecDepth 100000 in
set_option maxHeartbeats 8000000 in
theorem dr10_region {Q:Exit→Act→World→Prop} {id:Nat} (w0:World) (A1 A2 A3 B1 B2 B3:Option Addr) (n1 n2 n3 c1 c2 c3:Nat) (xs ys zs:List Int) {s0 s1 s2 s3 s4 s6 s8 s10 s11 s12 s13 s14 s15 s16 s17 s18 s19 s20 s21 s22 s23 s24 s25 s26 s27 s28 s29 s30 s31 s32 s33 s34 s35 s36 s37 s38 s39 s40 s41 s42 s43 s44 s45 s46 s47 s48 s49 s50 s51 s52 s53 s54 s55 s56 s57 s58 s59 s60 s61 s62 s63 s64 s65 s66 s67 s68 s69 s70 s71 s72 s73 s74 s75 s76 s77 s78 s79 s80 s81 s82 s83 s84 s85 s86 s87 s88 s89 s90 s91 s92 s93 s94 s95 s96 s97 s98 s99 s100 s101 s102 s103 s104 s105 s106 s107 s108 s109 s110 s111 s112 s113 s114 s115 s116 s117 s118 s119 s120 s121 s122 s123 s124 s125 s126 s127 s128 s129 s130:Value} (z1:∀ W,(Instr.slice 31 (.slice A1 n1 c1) (some (.int .i64 1)) none none).run Try.prog W=.ok (.slice B1 (n1 - 1) (c1 - 1)) W) (z2:∀ W,(Instr.slice 31 (.slice A2 n2 c2) (some (.int .i64 1)) none none).run Try.prog W=.ok (.slice B2 (n2 - 1) (c2 - 1)) W) (z3:∀ W,(Instr.slice 31 (.slice A3 n3 c3) (some (.int .i64 1)) none none).run Try.prog W=.ok (.slice B3 (n3 - 1) (c3 - 1)) W) (h1:ReadsInt w0 .u8 B1 (n1 - 1) (xs.drop 1)) (h2:ReadsInt w0 .u8 B2 (n2 - 1) (ys.drop 1)) (h3:ReadsInt w0 .u8 B3 (n3 - 1) (zs.drop 1)) (hn1:1≤n1) (hn2:1≤n2) (he:zs.drop 1=xs.drop 1 ++ ys.drop 1) (hb:(strOfNums (xs.drop 1)).size+(strOfNums (ys.drop 1)).size≤9223372036854775807)
  (hend:∀ (w':World),Chg (fun k=>False∨False) w0 w'→Q .normal { tmps:=(s0 :: s1 :: s2 :: s3 :: s4 :: (.slice A1 n1 c1) :: s6 :: (.slice A2 n2 c2) :: s8 :: (.slice A3 n3 c3) :: s10 :: s11 :: s12 :: s13 :: s14 :: s15 :: s16 :: s17 :: s18 :: s19 :: s20 :: s21 :: s22 :: s23 :: s24 :: s25 :: s26 :: s27 :: s28 :: s29 :: s30 :: s31 :: s32 :: s33 :: s34 :: s35 :: s36 :: s37 :: s38 :: s39 :: s40 :: s41 :: s42 :: s43 :: s44 :: s45 :: s46 :: s47 :: s48 :: s49 :: s50 :: s51 :: s52 :: s53 :: s54 :: s55 :: s56 :: s57 :: s58 :: s59 :: s60 :: s61 :: s62 :: s63 :: s64 :: s65 :: s66 :: s67 :: s68 :: s69 :: s70 :: s71 :: s72 :: (.slice A1 n1 c1) :: (.int .i64 n1) :: (.bool false) :: (.bool false) :: (.slice A2 n2 c2) :: (.int .i64 n2) :: (.bool false) :: (.bool false) :: (.bool false) :: (.slice A3 n3 c3) :: (.slice B3 (n3 - 1) (c3 - 1)) :: (.string (strOfNums (zs.drop 1))) :: (.slice A1 n1 c1) :: (.slice B1 (n1 - 1) (c1 - 1)) :: (.string (strOfNums (xs.drop 1))) :: (.slice A2 n2 c2) :: (.slice B2 (n2 - 1) (c2 - 1)) :: (.string (strOfNums (ys.drop 1))) :: (.string (strOfNums (xs.drop 1) ++ strOfNums (ys.drop 1))) :: (.bool false) :: (.bool false) :: s94 :: s95 :: s96 :: s97 :: s98 :: s99 :: s100 :: s101 :: s102 :: s103 :: s104 :: s105 :: s106 :: s107 :: s108 :: s109 :: s110 :: s111 :: s112 :: s113 :: s114 :: s115 :: s116 :: s117 :: s118 :: s119 :: s120 :: s121 :: s122 :: s123 :: s124 :: s125 :: s126 :: s127 :: s128 :: s129 :: s130 :: []:List Value).toArray,defers:=[] } w') :
  (Code.region id dr10_ops.toArray true).wp Try.prog Q { tmps:=(s0 :: s1 :: s2 :: s3 :: s4 :: (.slice A1 n1 c1) :: s6 :: (.slice A2 n2 c2) :: s8 :: (.slice A3 n3 c3) :: s10 :: s11 :: s12 :: s13 :: s14 :: s15 :: s16 :: s17 :: s18 :: s19 :: s20 :: s21 :: s22 :: s23 :: s24 :: s25 :: s26 :: s27 :: s28 :: s29 :: s30 :: s31 :: s32 :: s33 :: s34 :: s35 :: s36 :: s37 :: s38 :: s39 :: s40 :: s41 :: s42 :: s43 :: s44 :: s45 :: s46 :: s47 :: s48 :: s49 :: s50 :: s51 :: s52 :: s53 :: s54 :: s55 :: s56 :: s57 :: s58 :: s59 :: s60 :: s61 :: s62 :: s63 :: s64 :: s65 :: s66 :: s67 :: s68 :: s69 :: s70 :: s71 :: s72 :: s73 :: s74 :: s75 :: s76 :: s77 :: s78 :: s79 :: s80 :: s81 :: s82 :: s83 :: s84 :: s85 :: s86 :: s87 :: s88 :: s89 :: s90 :: s91 :: s92 :: s93 :: s94 :: s95 :: s96 :: s97 :: s98 :: s99 :: s100 :: s101 :: s102 :: s103 :: s104 :: s105 :: s106 :: s107 :: s108 :: s109 :: s110 :: s111 :: s112 :: s113 :: s114 :: s115 :: s116 :: s117 :: s118 :: s119 :: s120 :: s121 :: s122 :: s123 :: s124 :: s125 :: s126 :: s127 :: s128 :: s129 :: s130 :: []:List Value).toArray,defers:=[] } w0:=by
 refine wp_region_est (by kernel_rfl) (est2 0 0 (fun _=>False) (fun _=>False)) dr10_C (dr10_F w0 A1 A2 A3 B1 B2 B3 n1 n2 n3 c1 c2 c3 xs ys zs) (est2_dis (fun _ h _=>h)) (est2_range (fun _ h=>h.elim) (fun _ h=>h.elim)) (by rfl) (by kernel_rfl) (dr10_obs w0.drew A1 A2 A3 B1 B2 B3 n1 n2 n3 c1 c2 c3 xs ys zs z1 z2 z3 (h1.below (below_drew (Below.refl _ _))) (h2.below (below_drew (Below.refl _ _))) (h3.below (below_drew (Below.refl _ _))) hn1 hn2 he hb _ _ rfl rfl rfl) ?_
 intro a w' O hd hs hb hf hf2 ha hsame
 have hl:=slots_eq (ops:=dr10_ops.toArray) [(73,.slice A1 n1 c1),(74,.int .i64 n1),(75,.bool false),(76,.bool false),(77,.slice A2 n2 c2),(78,.int .i64 n2),(79,.bool false),(80,.bool false),(81,.bool false),(82,.slice A3 n3 c3),(83,.slice B3 (n3 - 1) (c3 - 1)),(84,.string (strOfNums (zs.drop 1))),(85,.slice A1 n1 c1),(86,.slice B1 (n1 - 1) (c1 - 1)),(87,.string (strOfNums (xs.drop 1))),(88,.slice A2 n2 c2),(89,.slice B2 (n2 - 1) (c2 - 1)),(90,.string (strOfNums (ys.drop 1))),(91,.string (strOfNums (xs.drop 1) ++ strOfNums (ys.drop 1))),(92,.bool false),(93,.bool false)] (show a.tmps.size=131 from hs) (fun i h=>hsame i h) ⟨(hf 0 _ 73 rfl rfl (by decide)).1,(hf 1 _ 74 rfl rfl (by decide)).1,(hf 2 _ 75 rfl rfl (by decide)).1,(hf 3 _ 76 rfl rfl (by decide)).1,(hf 4 _ 77 rfl rfl (by decide)).1,(hf 5 _ 78 rfl rfl (by decide)).1,(hf 6 _ 79 rfl rfl (by decide)).1,(hf 7 _ 80 rfl rfl (by decide)).1,(hf 8 _ 81 rfl rfl (by decide)).1,(hf 9 _ 82 rfl rfl (by decide)).1,(hf 10 _ 83 rfl rfl (by decide)).1,(hf 11 _ 84 rfl rfl (by decide)).1,(hf 12 _ 85 rfl rfl (by decide)).1,(hf 13 _ 86 rfl rfl (by decide)).1,(hf 14 _ 87 rfl rfl (by decide)).1,(hf 15 _ 88 rfl rfl (by decide)).1,(hf 16 _ 89 rfl rfl (by decide)).1,(hf 17 _ 90 rfl rfl (by decide)).1,(hf 18 _ 91 rfl rfl (by decide)).1,(hf 19 _ 92 rfl rfl (by decide)).1,(hf 20 _ 93 rfl rfl (by decide)).1,trivial⟩ (by kernel_rfl)
 obtain ⟨tmps,defers⟩:=a
 obtain rfl:defers=[]:=hd
 have hl':tmps=_:=hl
 rw [hl']
 have hb':=est2_chg hb
 refine Eq.mp ?_ (hend w' ⟨hb'.os,hb'.tape,hb'.output,hb'.size,hb'.block⟩)
 kernel_rfl

def dr1a_ops:List Oper:=[
 { dst:=some 15,op:=Go.Op.move (Go.Operand.tmp 0),type:=42,pos:= "more.go:12",after:=#[],guard:=none },
 { dst:=some 16,op:=Go.Op.call { callee:=Go.Callee.value (Go.Operand.func 26),args:=#[Go.Operand.tmp 15],argTypes:=#[42] },type:=4,pos:= "more.go:12",after:=#[{ on:=0,ground:=Go.Ground.data }],guard:=none },
 { dst:=some 17,op:=Go.Op.unOp Go.UnOp.not 4 (Go.Operand.tmp 16),type:=4,pos:= "more.go:12",after:=#[{ on:=1,ground:=Go.Ground.data }],guard:=none },
 { dst:=some 18,op:=Go.Op.move (Go.Operand.tmp 17),type:=4,pos:= "more.go:12",after:=#[{ on:=2,ground:=Go.Ground.data },{ on:=1,ground:=Go.Ground.chain }],guard:=none },
 { dst:=some 19,op:=Go.Op.move (Go.Operand.tmp 1),type:=42,pos:= "more.go:12",after:=#[{ on:=3,ground:=Go.Ground.guard }],guard:=some (3,false) },
 { dst:=some 20,op:=Go.Op.call { callee:=Go.Callee.value (Go.Operand.func 26),args:=#[Go.Operand.tmp 19],argTypes:=#[42] },type:=4,pos:= "more.go:12",after:=#[{ on:=4,ground:=Go.Ground.data },{ on:=3,ground:=Go.Ground.chain },{ on:=3,ground:=Go.Ground.guard }],guard:=some (3,false) },
 { dst:=some 21,op:=Go.Op.unOp Go.UnOp.not 4 (Go.Operand.tmp 20),type:=4,pos:= "more.go:12",after:=#[{ on:=5,ground:=Go.Ground.data },{ on:=3,ground:=Go.Ground.guard }],guard:=some (3,false) },
 { dst:=some 22,op:=Go.Op.pick (Go.Operand.tmp 18) (Go.Operand.const (Go.Value.bool true)) (Go.Operand.tmp 21),type:=4,pos:= "more.go:12",after:=#[{ on:=3,ground:=Go.Ground.data },{ on:=6,ground:=Go.Ground.data }],guard:=none }]
def dr1a_F (w0:World) (La Lb:Option Addr) (na nb ea eb:Nat) (qa qb:Nat→DPl) (as_ bs:List Dc):Nat→(Nat→Value)→Value→World→(Nat→Prop)→Prop:=fun rix=>match rix with
 | 0=>fun _ v _ _=>v=.slice La na ea
 | 1=>fun _ v _ _=>v=.bool false
 | 2=>fun _ v _ _=>v=.bool true
 | 3=>fun _ v _ _=>v=.bool true
 | 4=>fun _ v _ _=>v=undef
 | 5=>fun _ v _ _=>v=undef
 | 6=>fun _ v _ _=>v=undef
 | 7=>fun _ v _ _=>v=.bool true
 | _=>fun _ _ _ _=>True
def dr1a_C:Nat→List Nat:=fun rix=>match rix with
 | _=>[]
theorem dr1a_nw0:nwB dr1a_ops.toArray 0=true:=by kernel_rfl
theorem dr1a_nw1:nwB dr1a_ops.toArray 1=true:=by kernel_rfl
set_option maxRecDepth 100000 in
set_option maxHeartbeats 8000000 in
theorem dr1a_obs (w0:World) (La Lb:Option Addr) (na nb ea eb:Nat) (qa qb:Nat→DPl) (as_ bs:List Dc) (hna:na=as_.length) (hnb:nb=bs.length) (hna9:na≤9223372036854775807) (hnb9:nb≤9223372036854775807) (hda:DcsS w0 (fun k=>k<w0.heap.size) La qa as_) (hdb:DcsS w0 (fun k=>k<w0.heap.size) Lb qb bs) (hla:lightB as_=false) (Q:Exit→Act→World→Prop) (a0:Act) (hi0:a0.tmps.getD 0 undef=.slice La na ea) (hi1:a0.tmps.getD 1 undef=.slice Lb nb eb) :
  ObsE Try.prog dr1a_ops.toArray Q (est2 0 0 (fun _=>False) (fun _=>False)) dr1a_C (dr1a_F w0 La Lb na nb ea eb qa qb as_ bs) a0 w0 dr1a_ops.toArray.toList 0:=by
 have nw0:=dr1a_nw0
 have nw1:=dr1a_nw1
 refine ⟨?_,?_,?_,?_,?_,?_,?_,?_,trivial⟩
 ·refine ⟨⟨fun τ=>stableE_det _,leans_not⟩,?_⟩
  intro a w O hk
  have e0:a.eval (.tmp 0)=.slice La na ea:=(hk.init 0 (initialB_of_nw nw0)).trans hi0
  exact toE (ob_move rfl e0 (wanted_none rfl) rfl)
 ·refine ⟨⟨fun τ=>stableE_det _,leans_not⟩,?_⟩
  intro a w O hk
  have e15:a.eval (.tmp 15)=.slice La na ea:=hk.fact 0 _ 15 rfl rfl rfl rfl
  have hc:=light_calls as_ La na ea qa w hna ((hda.same fun k hk' _=>(hk.world.below (fun k ⟨_,h⟩=>h.elim (fun h=>h.2.elim) fun h=>h.2.elim) (Nat.le_refl _)).block k hk').mono fun _ _ _=>trivial) hna9
  rw [hla] at hc
  exact obE_callV #[.slice La na ea] rfl rfl rfl rfl (by simp only [List.map_cons,List.map_nil];rw [e15]) (wanted_none rfl) hc
 ·refine ⟨⟨fun τ=>stableE_det _,leans_not⟩,?_⟩
  intro a w O hk
  have e16:a.eval (.tmp 16)=.bool false:=hk.fact 1 _ 16 rfl rfl rfl rfl
  exact obE_run (wanted_none rfl) (by unfold execOp;simp only [];rw [e16];go_simp) rfl
 ·refine ⟨⟨fun τ=>stableE_det _,leans_not⟩,?_⟩
  intro a w O hk
  have e17:a.eval (.tmp 17)=.bool true:=hk.fact 2 _ 17 rfl rfl rfl rfl
  exact toE (ob_move rfl e17 (wanted_none rfl) rfl)
 ·refine ⟨⟨fun τ=>stableE_det _,leans_not⟩,?_⟩
  intro a w O hk
  have e1:a.eval (.tmp 1)=.slice Lb nb eb:=(hk.init 1 (initialB_of_nw nw1)).trans hi1
  have e18:a.eval (.tmp 18)=.bool true:=hk.fact 3 _ 18 rfl rfl rfl rfl
  exact toE (ob_skip (unwanted_of rfl rfl rfl e18 (by decide)) rfl)
 ·refine ⟨⟨fun τ=>stableE_det _,leans_not⟩,?_⟩
  intro a w O hk
  have e19:a.eval (.tmp 19)=undef:=hk.fact 4 _ 19 rfl rfl rfl rfl
  have e18:a.eval (.tmp 18)=.bool true:=hk.fact 3 _ 18 rfl rfl rfl rfl
  exact toE (ob_skip (unwanted_of rfl rfl rfl e18 (by decide)) rfl)
 ·refine ⟨⟨fun τ=>stableE_det _,leans_not⟩,?_⟩
  intro a w O hk
  have e20:a.eval (.tmp 20)=undef:=hk.fact 5 _ 20 rfl rfl rfl rfl
  have e18:a.eval (.tmp 18)=.bool true:=hk.fact 3 _ 18 rfl rfl rfl rfl
  exact toE (ob_skip (unwanted_of rfl rfl rfl e18 (by decide)) rfl)
 ·refine ⟨⟨fun τ=>stableE_det _,leans_not⟩,?_⟩
  intro a w O hk
  have e18:a.eval (.tmp 18)=.bool true:=hk.fact 3 _ 18 rfl rfl rfl rfl
  have e21:a.eval (.tmp 21)=undef:=hk.fact 6 _ 21 rfl rfl rfl rfl
  exact toE (ob_pick rfl e18 rfl (wanted_none rfl) rfl)
set_option maxRecDepth 100000 in
set_option maxHeartbeats 8000000 in
theorem dr1a_region {Q:Exit→Act→World→Prop} {id:Nat} (w0:World) (La Lb:Option Addr) (na nb ea eb:Nat) (qa qb:Nat→DPl) (as_ bs:List Dc) {s2 s3 s4 s5 s6 s7 s8 s9 s10 s11 s12 s13 s14 s15 s16 s17 s18 s19 s20 s21 s22 s23 s24 s25 s26 s27 s28 s29 s30 s31 s32 s33 s34 s35 s36 s37 s38 s39 s40 s41 s42 s43 s44 s45 s46 s47 s48 s49 s50 s51 s52 s53 s54 s55 s56 s57 s58 s59 s60 s61 s62 s63 s64 s65 s66 s67 s68 s69 s70 s71 s72 s73 s74 s75 s76 s77 s78 s79 s80 s81 s82 s83 s84 s85 s86 s87 s88 s89 s90 s91 s92 s93 s94 s95 s96 s97 s98 s99 s100 s101 s102 s103 s104 s105 s106 s107 s108 s109 s110 s111 s112 s113 s114 s115 s116 s117 s118 s119 s120 s121 s122 s123 s124 s125 s126 s127 s128 s129 s130:Value} (hna:na=as_.length) (hnb:nb=bs.length) (hna9:na≤9223372036854775807) (hnb9:nb≤9223372036854775807) (hda:DcsS w0 (fun k=>k<w0.heap.size) La qa as_) (hdb:DcsS w0 (fun k=>k<w0.heap.size) Lb qb bs) (hla:lightB as_=false)
  (hend:∀ (w':World),Chg (fun k=>False∨False) w0 w'→Q .normal { tmps:=((.slice La na ea) :: (.slice Lb nb eb) :: s2 :: s3 :: s4 :: s5 :: s6 :: s7 :: s8 :: s9 :: s10 :: s11 :: s12 :: s13 :: s14 :: (.slice La na ea) :: (.bool false) :: (.bool true) :: (.bool true) :: undef :: undef :: undef :: (.bool true) :: s23 :: s24 :: s25 :: s26 :: s27 :: s28 :: s29 :: s30 :: s31 :: s32 :: s33 :: s34 :: s35 :: s36 :: s37 :: s38 :: s39 :: s40 :: s41 :: s42 :: s43 :: s44 :: s45 :: s46 :: s47 :: s48 :: s49 :: s50 :: s51 :: s52 :: s53 :: s54 :: s55 :: s56 :: s57 :: s58 :: s59 :: s60 :: s61 :: s62 :: s63 :: s64 :: s65 :: s66 :: s67 :: s68 :: s69 :: s70 :: s71 :: s72 :: s73 :: s74 :: s75 :: s76 :: s77 :: s78 :: s79 :: s80 :: s81 :: s82 :: s83 :: s84 :: s85 :: s86 :: s87 :: s88 :: s89 :: s90 :: s91 :: s92 :: s93 :: s94 :: s95 :: s96 :: s97 :: s98 :: s99 :: s100 :: s101 :: s102 :: s103 :: s104 :: s105 :: s106 :: s107 :: s108 :: s109 :: s110 :: s111 :: s112 :: s113 :: s114 :: s115 :: s116 :: s117 :: s118 :: s119 :: s120 :: s121 :: s122 :: s123 :: s124 :: s125 :: s126 :: s127 :: s128 :: s129 :: s130 :: []:List Value).toArray,defers:=[] } w') :
  (Code.region id dr1a_ops.toArray false).wp Try.prog Q { tmps:=((.slice La na ea) :: (.slice Lb nb eb) :: s2 :: s3 :: s4 :: s5 :: s6 :: s7 :: s8 :: s9 :: s10 :: s11 :: s12 :: s13 :: s14 :: s15 :: s16 :: s17 :: s18 :: s19 :: s20 :: s21 :: s22 :: s23 :: s24 :: s25 :: s26 :: s27 :: s28 :: s29 :: s30 :: s31 :: s32 :: s33 :: s34 :: s35 :: s36 :: s37 :: s38 :: s39 :: s40 :: s41 :: s42 :: s43 :: s44 :: s45 :: s46 :: s47 :: s48 :: s49 :: s50 :: s51 :: s52 :: s53 :: s54 :: s55 :: s56 :: s57 :: s58 :: s59 :: s60 :: s61 :: s62 :: s63 :: s64 :: s65 :: s66 :: s67 :: s68 :: s69 :: s70 :: s71 :: s72 :: s73 :: s74 :: s75 :: s76 :: s77 :: s78 :: s79 :: s80 :: s81 :: s82 :: s83 :: s84 :: s85 :: s86 :: s87 :: s88 :: s89 :: s90 :: s91 :: s92 :: s93 :: s94 :: s95 :: s96 :: s97 :: s98 :: s99 :: s100 :: s101 :: s102 :: s103 :: s104 :: s105 :: s106 :: s107 :: s108 :: s109 :: s110 :: s111 :: s112 :: s113 :: s114 :: s115 :: s116 :: s117 :: s118 :: s119 :: s120 :: s121 :: s122 :: s123 :: s124 :: s125 :: s126 :: s127 :: s128 :: s129 :: s130 :: []:List Value).toArray,defers:=[] } w0:=by
 refine wp_region_est0 (est2 0 0 (fun _=>False) (fun _=>False)) dr1a_C (dr1a_F w0 La Lb na nb ea eb qa qb as_ bs) (est2_dis (fun _ h _=>h)) (est2_range (fun _ h=>h.elim) (fun _ h=>h.elim)) (by rfl) (by kernel_rfl) (dr1a_obs w0 La Lb na nb ea eb qa qb as_ bs hna hnb hna9 hnb9 hda hdb hla _ _ rfl rfl) ?_
 intro a w' O hd hs hb hf hf2 ha hsame
 have hl:=slots_eq (ops:=dr1a_ops.toArray) [(15,.slice La na ea),(16,.bool false),(17,.bool true),(18,.bool true),(19,undef),(20,undef),(21,undef),(22,.bool true)] (show a.tmps.size=131 from hs) (fun i h=>hsame i h) ⟨(hf 0 _ 15 rfl rfl (by decide)).1,(hf 1 _ 16 rfl rfl (by decide)).1,(hf 2 _ 17 rfl rfl (by decide)).1,(hf 3 _ 18 rfl rfl (by decide)).1,(hf 4 _ 19 rfl rfl (by decide)).1,(hf 5 _ 20 rfl rfl (by decide)).1,(hf 6 _ 21 rfl rfl (by decide)).1,(hf 7 _ 22 rfl rfl (by decide)).1,trivial⟩ (by kernel_rfl)
 obtain ⟨tmps,defers⟩:=a
 obtain rfl:defers=[]:=hd
 have hl':tmps=_:=hl
 rw [hl']
 have hb':=est2_chg hb
 refine Eq.mp ?_ (hend w' ⟨hb'.os,hb'.tape,hb'.output,hb'.size,hb'.block⟩)
 kernel_rfl

def dr1b_ops:List Oper:=[
 { dst:=some 15,op:=Go.Op.move (Go.Operand.tmp 0),type:=42,pos:= "more.go:12",after:=#[],guard:=none },
 { dst:=some 16,op:=Go.Op.call { callee:=Go.Callee.value (Go.Operand.func 26),args:=#[Go.Operand.tmp 15],argTypes:=#[42] },type:=4,pos:= "more.go:12",after:=#[{ on:=0,ground:=Go.Ground.data }],guard:=none },
 { dst:=some 17,op:=Go.Op.unOp Go.UnOp.not 4 (Go.Operand.tmp 16),type:=4,pos:= "more.go:12",after:=#[{ on:=1,ground:=Go.Ground.data }],guard:=none },
 { dst:=some 18,op:=Go.Op.move (Go.Operand.tmp 17),type:=4,pos:= "more.go:12",after:=#[{ on:=2,ground:=Go.Ground.data },{ on:=1,ground:=Go.Ground.chain }],guard:=none },
 { dst:=some 19,op:=Go.Op.move (Go.Operand.tmp 1),type:=42,pos:= "more.go:12",after:=#[{ on:=3,ground:=Go.Ground.guard }],guard:=some (3,false) },
 { dst:=some 20,op:=Go.Op.call { callee:=Go.Callee.value (Go.Operand.func 26),args:=#[Go.Operand.tmp 19],argTypes:=#[42] },type:=4,pos:= "more.go:12",after:=#[{ on:=4,ground:=Go.Ground.data },{ on:=3,ground:=Go.Ground.chain },{ on:=3,ground:=Go.Ground.guard }],guard:=some (3,false) },
 { dst:=some 21,op:=Go.Op.unOp Go.UnOp.not 4 (Go.Operand.tmp 20),type:=4,pos:= "more.go:12",after:=#[{ on:=5,ground:=Go.Ground.data },{ on:=3,ground:=Go.Ground.guard }],guard:=some (3,false) },
 { dst:=some 22,op:=Go.Op.pick (Go.Operand.tmp 18) (Go.Operand.const (Go.Value.bool true)) (Go.Operand.tmp 21),type:=4,pos:= "more.go:12",after:=#[{ on:=3,ground:=Go.Ground.data },{ on:=6,ground:=Go.Ground.data }],guard:=none }]
def dr1b_F (w0:World) (La Lb:Option Addr) (na nb ea eb:Nat) (qa qb:Nat→DPl) (as_ bs:List Dc):Nat→(Nat→Value)→Value→World→(Nat→Prop)→Prop:=fun rix=>match rix with
 | 0=>fun _ v _ _=>v=.slice La na ea
 | 1=>fun _ v _ _=>v=.bool true
 | 2=>fun _ v _ _=>v=.bool false
 | 3=>fun _ v _ _=>v=.bool false
 | 4=>fun _ v _ _=>v=.slice Lb nb eb
 | 5=>fun _ v _ _=>v=.bool false
 | 6=>fun _ v _ _=>v=.bool true
 | 7=>fun _ v _ _=>v=.bool true
 | _=>fun _ _ _ _=>True
def dr1b_C:Nat→List Nat:=fun rix=>match rix with
 | _=>[]
theorem dr1b_nw0:nwB dr1b_ops.toArray 0=true:=by kernel_rfl
theorem dr1b_nw1:nwB dr1b_ops.toArray 1=true:=by kernel_rfl
set_option maxRecDepth 100000 in
set_option maxHeartbeats 8000000 in
theorem dr1b_obs (w0:World) (La Lb:Option Addr) (na nb ea eb:Nat) (qa qb:Nat→DPl) (as_ bs:List Dc) (hna:na=as_.length) (hnb:nb=bs.length) (hna9:na≤9223372036854775807) (hnb9:nb≤9223372036854775807) (hda:DcsS w0 (fun k=>k<w0.heap.size) La qa as_) (hdb:DcsS w0 (fun k=>k<w0.heap.size) Lb qb bs) (hla:lightB as_=true) (hlb:lightB bs=false) (Q:Exit→Act→World→Prop) (a0:Act) (hi0:a0.tmps.getD 0 undef=.slice La na ea) (hi1:a0.tmps.getD 1 undef=.slice Lb nb eb) :
  ObsE Try.prog dr1b_ops.toArray Q (est2 0 0 (fun _=>False) (fun _=>False)) dr1b_C (dr1b_F w0 La Lb na nb ea eb qa qb as_ bs) a0 w0 dr1b_ops.toArray.toList 0:=by
 have nw0:=dr1b_nw0
 have nw1:=dr1b_nw1
 refine ⟨?_,?_,?_,?_,?_,?_,?_,?_,trivial⟩
 ·refine ⟨⟨fun τ=>stableE_det _,leans_not⟩,?_⟩
  intro a w O hk
  have e0:a.eval (.tmp 0)=.slice La na ea:=(hk.init 0 (initialB_of_nw nw0)).trans hi0
  exact toE (ob_move rfl e0 (wanted_none rfl) rfl)
 ·refine ⟨⟨fun τ=>stableE_det _,leans_not⟩,?_⟩
  intro a w O hk
  have e15:a.eval (.tmp 15)=.slice La na ea:=hk.fact 0 _ 15 rfl rfl rfl rfl
  have hc:=light_calls as_ La na ea qa w hna ((hda.same fun k hk' _=>(hk.world.below (fun k ⟨_,h⟩=>h.elim (fun h=>h.2.elim) fun h=>h.2.elim) (Nat.le_refl _)).block k hk').mono fun _ _ _=>trivial) hna9
  rw [hla] at hc
  exact obE_callV #[.slice La na ea] rfl rfl rfl rfl (by simp only [List.map_cons,List.map_nil];rw [e15]) (wanted_none rfl) hc
 ·refine ⟨⟨fun τ=>stableE_det _,leans_not⟩,?_⟩
  intro a w O hk
  have e16:a.eval (.tmp 16)=.bool true:=hk.fact 1 _ 16 rfl rfl rfl rfl
  exact obE_run (wanted_none rfl) (by unfold execOp;simp only [];rw [e16];go_simp) rfl
 ·refine ⟨⟨fun τ=>stableE_det _,leans_not⟩,?_⟩
  intro a w O hk
  have e17:a.eval (.tmp 17)=.bool false:=hk.fact 2 _ 17 rfl rfl rfl rfl
  exact toE (ob_move rfl e17 (wanted_none rfl) rfl)
 ·refine ⟨⟨fun τ=>stableE_det _,leans_not⟩,?_⟩
  intro a w O hk
  have e1:a.eval (.tmp 1)=.slice Lb nb eb:=(hk.init 1 (initialB_of_nw nw1)).trans hi1
  have e18:a.eval (.tmp 18)=.bool false:=hk.fact 3 _ 18 rfl rfl rfl rfl
  exact toE (ob_move rfl e1 (wanted_of rfl rfl rfl e18) rfl)
 ·refine ⟨⟨fun τ=>stableE_det _,leans_not⟩,?_⟩
  intro a w O hk
  have e19:a.eval (.tmp 19)=.slice Lb nb eb:=hk.fact 4 _ 19 rfl rfl rfl rfl
  have e18:a.eval (.tmp 18)=.bool false:=hk.fact 3 _ 18 rfl rfl rfl rfl
  have hc:=light_calls bs Lb nb eb qb w hnb ((hdb.same fun k hk' _=>(hk.world.below (fun k ⟨_,h⟩=>h.elim (fun h=>h.2.elim) fun h=>h.2.elim) (Nat.le_refl _)).block k hk').mono fun _ _ _=>trivial) hnb9
  rw [hlb] at hc
  exact obE_callV #[.slice Lb nb eb] rfl rfl rfl rfl (by simp only [List.map_cons,List.map_nil];rw [e19]) (wanted_of rfl rfl rfl e18) hc
 ·refine ⟨⟨fun τ=>stableE_det _,leans_not⟩,?_⟩
  intro a w O hk
  have e20:a.eval (.tmp 20)=.bool false:=hk.fact 5 _ 20 rfl rfl rfl rfl
  have e18:a.eval (.tmp 18)=.bool false:=hk.fact 3 _ 18 rfl rfl rfl rfl
  exact obE_run (wanted_of rfl rfl rfl e18) (by unfold execOp;simp only [];rw [e20];go_simp) rfl
 ·refine ⟨⟨fun τ=>stableE_det _,leans_not⟩,?_⟩
  intro a w O hk
  have e18:a.eval (.tmp 18)=.bool false:=hk.fact 3 _ 18 rfl rfl rfl rfl
  have e21:a.eval (.tmp 21)=.bool true:=hk.fact 6 _ 21 rfl rfl rfl rfl
  exact toE (ob_pick rfl e18 e21 (wanted_none rfl) rfl)
set_option maxRecDepth 100000 in
set_option maxHeartbeats 8000000 in
theorem dr1b_region {Q:Exit→Act→World→Prop} {id:Nat} (w0:World) (La Lb:Option Addr) (na nb ea eb:Nat) (qa qb:Nat→DPl) (as_ bs:List Dc) {s2 s3 s4 s5 s6 s7 s8 s9 s10 s11 s12 s13 s14 s15 s16 s17 s18 s19 s20 s21 s22 s23 s24 s25 s26 s27 s28 s29 s30 s31 s32 s33 s34 s35 s36 s37 s38 s39 s40 s41 s42 s43 s44 s45 s46 s47 s48 s49 s50 s51 s52 s53 s54 s55 s56 s57 s58 s59 s60 s61 s62 s63 s64 s65 s66 s67 s68 s69 s70 s71 s72 s73 s74 s75 s76 s77 s78 s79 s80 s81 s82 s83 s84 s85 s86 s87 s88 s89 s90 s91 s92 s93 s94 s95 s96 s97 s98 s99 s100 s101 s102 s103 s104 s105 s106 s107 s108 s109 s110 s111 s112 s113 s114 s115 s116 s117 s118 s119 s120 s121 s122 s123 s124 s125 s126 s127 s128 s129 s130:Value} (hna:na=as_.length) (hnb:nb=bs.length) (hna9:na≤9223372036854775807) (hnb9:nb≤9223372036854775807) (hda:DcsS w0 (fun k=>k<w0.heap.size) La qa as_) (hdb:DcsS w0 (fun k=>k<w0.heap.size) Lb qb bs) (hla:lightB as_=true) (hlb:lightB bs=false)
  (hend:∀ (w':World),Chg (fun k=>False∨False) w0 w'→Q .normal { tmps:=((.slice La na ea) :: (.slice Lb nb eb) :: s2 :: s3 :: s4 :: s5 :: s6 :: s7 :: s8 :: s9 :: s10 :: s11 :: s12 :: s13 :: s14 :: (.slice La na ea) :: (.bool true) :: (.bool false) :: (.bool false) :: (.slice Lb nb eb) :: (.bool false) :: (.bool true) :: (.bool true) :: s23 :: s24 :: s25 :: s26 :: s27 :: s28 :: s29 :: s30 :: s31 :: s32 :: s33 :: s34 :: s35 :: s36 :: s37 :: s38 :: s39 :: s40 :: s41 :: s42 :: s43 :: s44 :: s45 :: s46 :: s47 :: s48 :: s49 :: s50 :: s51 :: s52 :: s53 :: s54 :: s55 :: s56 :: s57 :: s58 :: s59 :: s60 :: s61 :: s62 :: s63 :: s64 :: s65 :: s66 :: s67 :: s68 :: s69 :: s70 :: s71 :: s72 :: s73 :: s74 :: s75 :: s76 :: s77 :: s78 :: s79 :: s80 :: s81 :: s82 :: s83 :: s84 :: s85 :: s86 :: s87 :: s88 :: s89 :: s90 :: s91 :: s92 :: s93 :: s94 :: s95 :: s96 :: s97 :: s98 :: s99 :: s100 :: s101 :: s102 :: s103 :: s104 :: s105 :: s106 :: s107 :: s108 :: s109 :: s110 :: s111 :: s112 :: s113 :: s114 :: s115 :: s116 :: s117 :: s118 :: s119 :: s120 :: s121 :: s122 :: s123 :: s124 :: s125 :: s126 :: s127 :: s128 :: s129 :: s130 :: []:List Value).toArray,defers:=[] } w') :
  (Code.region id dr1b_ops.toArray false).wp Try.prog Q { tmps:=((.slice La na ea) :: (.slice Lb nb eb) :: s2 :: s3 :: s4 :: s5 :: s6 :: s7 :: s8 :: s9 :: s10 :: s11 :: s12 :: s13 :: s14 :: s15 :: s16 :: s17 :: s18 :: s19 :: s20 :: s21 :: s22 :: s23 :: s24 :: s25 :: s26 :: s27 :: s28 :: s29 :: s30 :: s31 :: s32 :: s33 :: s34 :: s35 :: s36 :: s37 :: s38 :: s39 :: s40 :: s41 :: s42 :: s43 :: s44 :: s45 :: s46 :: s47 :: s48 :: s49 :: s50 :: s51 :: s52 :: s53 :: s54 :: s55 :: s56 :: s57 :: s58 :: s59 :: s60 :: s61 :: s62 :: s63 :: s64 :: s65 :: s66 :: s67 :: s68 :: s69 :: s70 :: s71 :: s72 :: s73 :: s74 :: s75 :: s76 :: s77 :: s78 :: s79 :: s80 :: s81 :: s82 :: s83 :: s84 :: s85 :: s86 :: s87 :: s88 :: s89 :: s90 :: s91 :: s92 :: s93 :: s94 :: s95 :: s96 :: s97 :: s98 :: s99 :: s100 :: s101 :: s102 :: s103 :: s104 :: s105 :: s106 :: s107 :: s108 :: s109 :: s110 :: s111 :: s112 :: s113 :: s114 :: s115 :: s116 :: s117 :: s118 :: s119 :: s120 :: s121 :: s122 :: s123 :: s124 :: s125 :: s126 :: s127 :: s128 :: s129 :: s130 :: []:List Value).toArray,defers:=[] } w0:=by
 refine wp_region_est0 (est2 0 0 (fun _=>False) (fun _=>False)) dr1b_C (dr1b_F w0 La Lb na nb ea eb qa qb as_ bs) (est2_dis (fun _ h _=>h)) (est2_range (fun _ h=>h.elim) (fun _ h=>h.elim)) (by rfl) (by kernel_rfl) (dr1b_obs w0 La Lb na nb ea eb qa qb as_ bs hna hnb hna9 hnb9 hda hdb hla hlb _ _ rfl rfl) ?_
 intro a w' O hd hs hb hf hf2 ha hsame
 have hl:=slots_eq (ops:=dr1b_ops.toArray) [(15,.slice La na ea),(16,.bool true),(17,.bool false),(18,.bool false),(19,.slice Lb nb eb),(20,.bool false),(21,.bool true),(22,.bool true)] (show a.tmps.size=131 from hs) (fun i h=>hsame i h) ⟨(hf 0 _ 15 rfl rfl (by decide)).1,(hf 1 _ 16 rfl rfl (by decide)).1,(hf 2 _ 17 rfl rfl (by decide)).1,(hf 3 _ 18 rfl rfl (by decide)).1,(hf 4 _ 19 rfl rfl (by decide)).1,(hf 5 _ 20 rfl rfl (by decide)).1,(hf 6 _ 21 rfl rfl (by decide)).1,(hf 7 _ 22 rfl rfl (by decide)).1,trivial⟩ (by kernel_rfl)
 obtain ⟨tmps,defers⟩:=a
 obtain rfl:defers=[]:=hd
 have hl':tmps=_:=hl
 rw [hl']
 have hb':=est2_chg hb
 refine Eq.mp ?_ (hend w' ⟨hb'.os,hb'.tape,hb'.output,hb'.size,hb'.block⟩)
 kernel_rfl

def dr1c_ops:List Oper:=[
 { dst:=some 15,op:=Go.Op.move (Go.Operand.tmp 0),type:=42,pos:= "more.go:12",after:=#[],guard:=none },
 { dst:=some 16,op:=Go.Op.call { callee:=Go.Callee.value (Go.Operand.func 26),args:=#[Go.Operand.tmp 15],argTypes:=#[42] },type:=4,pos:= "more.go:12",after:=#[{ on:=0,ground:=Go.Ground.data }],guard:=none },
 { dst:=some 17,op:=Go.Op.unOp Go.UnOp.not 4 (Go.Operand.tmp 16),type:=4,pos:= "more.go:12",after:=#[{ on:=1,ground:=Go.Ground.data }],guard:=none },
 { dst:=some 18,op:=Go.Op.move (Go.Operand.tmp 17),type:=4,pos:= "more.go:12",after:=#[{ on:=2,ground:=Go.Ground.data },{ on:=1,ground:=Go.Ground.chain }],guard:=none },
 { dst:=some 19,op:=Go.Op.move (Go.Operand.tmp 1),type:=42,pos:= "more.go:12",after:=#[{ on:=3,ground:=Go.Ground.guard }],guard:=some (3,false) },
 { dst:=some 20,op:=Go.Op.call { callee:=Go.Callee.value (Go.Operand.func 26),args:=#[Go.Operand.tmp 19],argTypes:=#[42] },type:=4,pos:= "more.go:12",after:=#[{ on:=4,ground:=Go.Ground.data },{ on:=3,ground:=Go.Ground.chain },{ on:=3,ground:=Go.Ground.guard }],guard:=some (3,false) },
 { dst:=some 21,op:=Go.Op.unOp Go.UnOp.not 4 (Go.Operand.tmp 20),type:=4,pos:= "more.go:12",after:=#[{ on:=5,ground:=Go.Ground.data },{ on:=3,ground:=Go.Ground.guard }],guard:=some (3,false) },
 { dst:=some 22,op:=Go.Op.pick (Go.Operand.tmp 18) (Go.Operand.const (Go.Value.bool true)) (Go.Operand.tmp 21),type:=4,pos:= "more.go:12",after:=#[{ on:=3,ground:=Go.Ground.data },{ on:=6,ground:=Go.Ground.data }],guard:=none }]
def dr1c_F (w0:World) (La Lb:Option Addr) (na nb ea eb:Nat) (qa qb:Nat→DPl) (as_ bs:List Dc):Nat→(Nat→Value)→Value→World→(Nat→Prop)→Prop:=fun rix=>match rix with
 | 0=>fun _ v _ _=>v=.slice La na ea
 | 1=>fun _ v _ _=>v=.bool true
 | 2=>fun _ v _ _=>v=.bool false
 | 3=>fun _ v _ _=>v=.bool false
 | 4=>fun _ v _ _=>v=.slice Lb nb eb
 | 5=>fun _ v _ _=>v=.bool true
 | 6=>fun _ v _ _=>v=.bool false
 | 7=>fun _ v _ _=>v=.bool false
 | _=>fun _ _ _ _=>True
def dr1c_C:Nat→List Nat:=fun rix=>match rix with
 | _=>[]
theorem dr1c_nw0:nwB dr1c_ops.toArray 0=true:=by kernel_rfl
theorem dr1c_nw1:nwB dr1c_ops.toArray 1=true:=by kernel_rfl
set_option maxRecDepth 100000 in
set_option maxHeartbeats 8000000 in
theorem dr1c_obs (w0:World) (La Lb:Option Addr) (na nb ea eb:Nat) (qa qb:Nat→DPl) (as_ bs:List Dc) (hna:na=as_.length) (hnb:nb=bs.length) (hna9:na≤9223372036854775807) (hnb9:nb≤9223372036854775807) (hda:DcsS w0 (fun k=>k<w0.heap.size) La qa as_) (hdb:DcsS w0 (fun k=>k<w0.heap.size) Lb qb bs) (hla:lightB as_=true) (hlb:lightB bs=true) (Q:Exit→Act→World→Prop) (a0:Act) (hi0:a0.tmps.getD 0 undef=.slice La na ea) (hi1:a0.tmps.getD 1 undef=.slice Lb nb eb) :
  ObsE Try.prog dr1c_ops.toArray Q (est2 0 0 (fun _=>False) (fun _=>False)) dr1c_C (dr1c_F w0 La Lb na nb ea eb qa qb as_ bs) a0 w0 dr1c_ops.toArray.toList 0:=by
 have nw0:=dr1c_nw0
 have nw1:=dr1c_nw1
 refine ⟨?_,?_,?_,?_,?_,?_,?_,?_,trivial⟩
 ·refine ⟨⟨fun τ=>stableE_det _,leans_not⟩,?_⟩
  intro a w O hk
  have e0:a.eval (.tmp 0)=.slice La na ea:=(hk.init 0 (initialB_of_nw nw0)).trans hi0
  exact toE (ob_move rfl e0 (wanted_none rfl) rfl)
 ·refine ⟨⟨fun τ=>stableE_det _,leans_not⟩,?_⟩
  intro a w O hk
  have e15:a.eval (.tmp 15)=.slice La na ea:=hk.fact 0 _ 15 rfl rfl rfl rfl
  have hc:=light_calls as_ La na ea qa w hna ((hda.same fun k hk' _=>(hk.world.below (fun k ⟨_,h⟩=>h.elim (fun h=>h.2.elim) fun h=>h.2.elim) (Nat.le_refl _)).block k hk').mono fun _ _ _=>trivial) hna9
  rw [hla] at hc
  exact obE_callV #[.slice La na ea] rfl rfl rfl rfl (by simp only [List.map_cons,List.map_nil];rw [e15]) (wanted_none rfl) hc
 ·refine ⟨⟨fun τ=>stableE_det _,leans_not⟩,?_⟩
  intro a w O hk
  have e16:a.eval (.tmp 16)=.bool true:=hk.fact 1 _ 16 rfl rfl rfl rfl
  exact obE_run (wanted_none rfl) (by unfold execOp;simp only [];rw [e16];go_simp) rfl
 ·refine ⟨⟨fun τ=>stableE_det _,leans_not⟩,?_⟩
  intro a w O hk
  have e17:a.eval (.tmp 17)=.bool false:=hk.fact 2 _ 17 rfl rfl rfl rfl
  exact toE (ob_move rfl e17 (wanted_none rfl) rfl)
 ·refine ⟨⟨fun τ=>stableE_det _,leans_not⟩,?_⟩
  intro a w O hk
  have e1:a.eval (.tmp 1)=.slice Lb nb eb:=(hk.init 1 (initialB_of_nw nw1)).trans hi1
  have e18:a.eval (.tmp 18)=.bool false:=hk.fact 3 _ 18 rfl rfl rfl rfl
  exact toE (ob_move rfl e1 (wanted_of rfl rfl rfl e18) rfl)
 ·refine ⟨⟨fun τ=>stableE_det _,leans_not⟩,?_⟩
  intro a w O hk
  have e19:a.eval (.tmp 19)=.slice Lb nb eb:=hk.fact 4 _ 19 rfl rfl rfl rfl
  have e18:a.eval (.tmp 18)=.bool false:=hk.fact 3 _ 18 rfl rfl rfl rfl
  have hc:=light_calls bs Lb nb eb qb w hnb ((hdb.same fun k hk' _=>(hk.world.below (fun k ⟨_,h⟩=>h.elim (fun h=>h.2.elim) fun h=>h.2.elim) (Nat.le_refl _)).block k hk').mono fun _ _ _=>trivial) hnb9
  rw [hlb] at hc
  exact obE_callV #[.slice Lb nb eb] rfl rfl rfl rfl (by simp only [List.map_cons,List.map_nil];rw [e19]) (wanted_of rfl rfl rfl e18) hc
 ·refine ⟨⟨fun τ=>stableE_det _,leans_not⟩,?_⟩
  intro a w O hk
  have e20:a.eval (.tmp 20)=.bool true:=hk.fact 5 _ 20 rfl rfl rfl rfl
  have e18:a.eval (.tmp 18)=.bool false:=hk.fact 3 _ 18 rfl rfl rfl rfl
  exact obE_run (wanted_of rfl rfl rfl e18) (by unfold execOp;simp only [];rw [e20];go_simp) rfl
 ·refine ⟨⟨fun τ=>stableE_det _,leans_not⟩,?_⟩
  intro a w O hk
  have e18:a.eval (.tmp 18)=.bool false:=hk.fact 3 _ 18 rfl rfl rfl rfl
  have e21:a.eval (.tmp 21)=.bool false:=hk.fact 6 _ 21 rfl rfl rfl rfl
  exact toE (ob_pick rfl e18 e21 (wanted_none rfl) rfl)
set_option maxRecDepth 100000 in
set_option maxHeartbeats 8000000 in
theorem dr1c_region {Q:Exit→Act→World→Prop} {id:Nat} (w0:World) (La Lb:Option Addr) (na nb ea eb:Nat) (qa qb:Nat→DPl) (as_ bs:List Dc) {s2 s3 s4 s5 s6 s7 s8 s9 s10 s11 s12 s13 s14 s15 s16 s17 s18 s19 s20 s21 s22 s23 s24 s25 s26 s27 s28 s29 s30 s31 s32 s33 s34 s35 s36 s37 s38 s39 s40 s41 s42 s43 s44 s45 s46 s47 s48 s49 s50 s51 s52 s53 s54 s55 s56 s57 s58 s59 s60 s61 s62 s63 s64 s65 s66 s67 s68 s69 s70 s71 s72 s73 s74 s75 s76 s77 s78 s79 s80 s81 s82 s83 s84 s85 s86 s87 s88 s89 s90 s91 s92 s93 s94 s95 s96 s97 s98 s99 s100 s101 s102 s103 s104 s105 s106 s107 s108 s109 s110 s111 s112 s113 s114 s115 s116 s117 s118 s119 s120 s121 s122 s123 s124 s125 s126 s127 s128 s129 s130:Value} (hna:na=as_.length) (hnb:nb=bs.length) (hna9:na≤9223372036854775807) (hnb9:nb≤9223372036854775807) (hda:DcsS w0 (fun k=>k<w0.heap.size) La qa as_) (hdb:DcsS w0 (fun k=>k<w0.heap.size) Lb qb bs) (hla:lightB as_=true) (hlb:lightB bs=true)
  (hend:∀ (w':World),Chg (fun k=>False∨False) w0 w'→Q .normal { tmps:=((.slice La na ea) :: (.slice Lb nb eb) :: s2 :: s3 :: s4 :: s5 :: s6 :: s7 :: s8 :: s9 :: s10 :: s11 :: s12 :: s13 :: s14 :: (.slice La na ea) :: (.bool true) :: (.bool false) :: (.bool false) :: (.slice Lb nb eb) :: (.bool true) :: (.bool false) :: (.bool false) :: s23 :: s24 :: s25 :: s26 :: s27 :: s28 :: s29 :: s30 :: s31 :: s32 :: s33 :: s34 :: s35 :: s36 :: s37 :: s38 :: s39 :: s40 :: s41 :: s42 :: s43 :: s44 :: s45 :: s46 :: s47 :: s48 :: s49 :: s50 :: s51 :: s52 :: s53 :: s54 :: s55 :: s56 :: s57 :: s58 :: s59 :: s60 :: s61 :: s62 :: s63 :: s64 :: s65 :: s66 :: s67 :: s68 :: s69 :: s70 :: s71 :: s72 :: s73 :: s74 :: s75 :: s76 :: s77 :: s78 :: s79 :: s80 :: s81 :: s82 :: s83 :: s84 :: s85 :: s86 :: s87 :: s88 :: s89 :: s90 :: s91 :: s92 :: s93 :: s94 :: s95 :: s96 :: s97 :: s98 :: s99 :: s100 :: s101 :: s102 :: s103 :: s104 :: s105 :: s106 :: s107 :: s108 :: s109 :: s110 :: s111 :: s112 :: s113 :: s114 :: s115 :: s116 :: s117 :: s118 :: s119 :: s120 :: s121 :: s122 :: s123 :: s124 :: s125 :: s126 :: s127 :: s128 :: s129 :: s130 :: []:List Value).toArray,defers:=[] } w') :
  (Code.region id dr1c_ops.toArray false).wp Try.prog Q { tmps:=((.slice La na ea) :: (.slice Lb nb eb) :: s2 :: s3 :: s4 :: s5 :: s6 :: s7 :: s8 :: s9 :: s10 :: s11 :: s12 :: s13 :: s14 :: s15 :: s16 :: s17 :: s18 :: s19 :: s20 :: s21 :: s22 :: s23 :: s24 :: s25 :: s26 :: s27 :: s28 :: s29 :: s30 :: s31 :: s32 :: s33 :: s34 :: s35 :: s36 :: s37 :: s38 :: s39 :: s40 :: s41 :: s42 :: s43 :: s44 :: s45 :: s46 :: s47 :: s48 :: s49 :: s50 :: s51 :: s52 :: s53 :: s54 :: s55 :: s56 :: s57 :: s58 :: s59 :: s60 :: s61 :: s62 :: s63 :: s64 :: s65 :: s66 :: s67 :: s68 :: s69 :: s70 :: s71 :: s72 :: s73 :: s74 :: s75 :: s76 :: s77 :: s78 :: s79 :: s80 :: s81 :: s82 :: s83 :: s84 :: s85 :: s86 :: s87 :: s88 :: s89 :: s90 :: s91 :: s92 :: s93 :: s94 :: s95 :: s96 :: s97 :: s98 :: s99 :: s100 :: s101 :: s102 :: s103 :: s104 :: s105 :: s106 :: s107 :: s108 :: s109 :: s110 :: s111 :: s112 :: s113 :: s114 :: s115 :: s116 :: s117 :: s118 :: s119 :: s120 :: s121 :: s122 :: s123 :: s124 :: s125 :: s126 :: s127 :: s128 :: s129 :: s130 :: []:List Value).toArray,defers:=[] } w0:=by
 refine wp_region_est0 (est2 0 0 (fun _=>False) (fun _=>False)) dr1c_C (dr1c_F w0 La Lb na nb ea eb qa qb as_ bs) (est2_dis (fun _ h _=>h)) (est2_range (fun _ h=>h.elim) (fun _ h=>h.elim)) (by rfl) (by kernel_rfl) (dr1c_obs w0 La Lb na nb ea eb qa qb as_ bs hna hnb hna9 hnb9 hda hdb hla hlb _ _ rfl rfl) ?_
 intro a w' O hd hs hb hf hf2 ha hsame
 have hl:=slots_eq (ops:=dr1c_ops.toArray) [(15,.slice La na ea),(16,.bool true),(17,.bool false),(18,.bool false),(19,.slice Lb nb eb),(20,.bool true),(21,.bool false),(22,.bool false)] (show a.tmps.size=131 from hs) (fun i h=>hsame i h) ⟨(hf 0 _ 15 rfl rfl (by decide)).1,(hf 1 _ 16 rfl rfl (by decide)).1,(hf 2 _ 17 rfl rfl (by decide)).1,(hf 3 _ 18 rfl rfl (by decide)).1,(hf 4 _ 19 rfl rfl (by decide)).1,(hf 5 _ 20 rfl rfl (by decide)).1,(hf 6 _ 21 rfl rfl (by decide)).1,(hf 7 _ 22 rfl rfl (by decide)).1,trivial⟩ (by kernel_rfl)
 obtain ⟨tmps,defers⟩:=a
 obtain rfl:defers=[]:=hd
 have hl':tmps=_:=hl
 rw [hl']
 have hb':=est2_chg hb
 refine Eq.mp ?_ (hend w' ⟨hb'.os,hb'.tape,hb'.output,hb'.size,hb'.block⟩)
 kernel_rfl

set_option maxRecDepth 100000 in
theorem run_elemDc {a:Act} {w:World} {o:Oper} {x y:Operand} {b off n c j:Nat} (ho:o.op=.indexAddr 42 x y) (hx:a.eval x=.slice (some ⟨b,off,none⟩) n c) (hy:a.eval y=.int .i64 j) (hj:j<n) :
  (execOp a.eval o).run Try.prog w=.ok (.value (.pointer (some ⟨b,off+j * 21,none⟩))) w:=by
 have hel:Try.prog.elem 42=30:=by simp [Program.elem,Try.underlying42]
 obtain ⟨i,hi,hz⟩:=Option.map_eq_some_iff.1 infoDcD
 have hs:i.size=21:=by injection hz with _ hz;injection hz
 unfold execOp;rw [ho];simp only [];rw [hx,hy]
 simp only [Sem.run_bind,Result.andThen_ok]
 rw [run_indexAt_slice w 42 ⟨b,off,none⟩ n c .i64 j (by rw [hel];exact Try.underlying42),if_pos (by omega),hel]
 simp [sizeOf,typeInfo,hi,hs,Result.andThen,add_flat]
theorem run_loadMid {a:Act} {w:World} {o:Oper} {x:Operand} {b off:Nat} {P:DPl} {d:Dc} (ho:o.op=.load 30 x) (hx:a.eval x=.pointer (some ⟨b,off,none⟩)) (h:w.rangeAt b off (dcC P d)):(execOp a.eval o).run Try.prog w=.ok (.value (dcV P d)) w:=by
 unfold execOp
 simp only [ho,hx,Instr.loadAt,Instr.sureAddr,Sem.run_bind,Sem.run_pure,Result.andThen_ok,run_loadVar_mid w b off 30 (dcC P d) _ h Try.underlying30 rfl (by kernel_rfl)]
 rfl

def dr18_ops:List Oper:=[
 { dst:=some 122,op:=Go.Op.move (Go.Operand.tmp 11),type:=42,pos:= "more.go:32",after:=#[],guard:=none },
 { dst:=some 123,op:=Go.Op.move (Go.Operand.tmp 13),type:=3,pos:= "more.go:32",after:=#[],guard:=none },
 { dst:=some 124,op:=Go.Op.indexAddr 42 (Go.Operand.tmp 122) (Go.Operand.tmp 123),type:=0,pos:= "more.go:32",after:=#[{ on:=0,ground:=Go.Ground.data },{ on:=1,ground:=Go.Ground.data }],guard:=none },
 { dst:=some 125,op:=Go.Op.load 30 (Go.Operand.tmp 124),type:=30,pos:= "more.go:32",after:=#[{ on:=2,ground:=Go.Ground.data }],guard:=none },
 { dst:=some 126,op:=Go.Op.load 30 (Go.Operand.tmp 14),type:=30,pos:= "more.go:32",after:=#[],guard:=none },
 { dst:=some 127,op:=Go.Op.call { callee:=Go.Callee.value (Go.Operand.func 28),args:=#[Go.Operand.tmp 125,Go.Operand.tmp 126],argTypes:=#[30,30] },type:=4,pos:= "more.go:32",after:=#[{ on:=3,ground:=Go.Ground.data },{ on:=4,ground:=Go.Ground.data }],guard:=none },
 { dst:=some 128,op:=Go.Op.unOp Go.UnOp.not 4 (Go.Operand.tmp 127),type:=4,pos:= "more.go:32",after:=#[{ on:=5,ground:=Go.Ground.data }],guard:=none }]
def dr18_F (w0:World) (g b o i n e:Nat) (j:Nat) (d d3:Dc) (P P3:DPl):Nat→(Nat→Value)→Value→World→(Nat→Prop)→Prop:=fun rix=>match rix with
 | 0=>fun _ v _ _=>v=.slice (some ⟨b,o,none⟩) n e
 | 1=>fun _ v _ _=>v=.int .i64 j
 | 2=>fun _ v _ _=>v=.pointer (some ⟨b,o+j * 21,none⟩)
 | 3=>fun _ v _ _=>v=dcV P3 d3
 | 4=>fun _ v _ _=>v=dcV P d
 | 5=>fun _ v _ _=>v=.bool true
 | 6=>fun _ v _ _=>v=.bool false
 | _=>fun _ _ _ _=>True
def dr18_C:Nat→List Nat:=fun rix=>match rix with
 | _=>[]
theorem dr18_nw11:nwB dr18_ops.toArray 11=true:=by kernel_rfl
theorem dr18_nw13:nwB dr18_ops.toArray 13=true:=by kernel_rfl
theorem dr18_nw14:nwB dr18_ops.toArray 14=true:=by kernel_rfl
set_option maxRecDepth 100000 in
set_option maxHeartbeats 8000000 in
theorem dr18_obs (w0:World) (g b o i n e:Nat) (j:Nat) (d d3:Dc) (P P3:DPl) (hX:w0.rangeAt b (o+j * 21) (dcC P3 d3)) (hY:w0.heap[g]?=some (dcO P d)) (hin:DcIn w0 w0.heap.size P3 d3) (hin2:DcIn w0 w0.heap.size P d) (hk1:1≤d3.kind∧d3.kind≤3) (hs:sameD d3 d=true) (hj:j<n) (Q:Exit→Act→World→Prop) (a0:Act) (hi11:a0.tmps.getD 11 undef=.slice (some ⟨b,o,none⟩) n e) (hi13:a0.tmps.getD 13 undef=.int .i64 j) (hi14:a0.tmps.getD 14 undef=.pointer (some ⟨g,0,none⟩)) :
  ObsE Try.prog dr18_ops.toArray Q (est2 0 0 (fun _=>False) (fun _=>False)) dr18_C (dr18_F w0 g b o i n e j d d3 P P3) a0 w0 dr18_ops.toArray.toList 0:=by
 have nw11:=dr18_nw11
 have nw13:=dr18_nw13
 have nw14:=dr18_nw14
 refine ⟨?_,?_,?_,?_,?_,?_,?_,trivial⟩
 ·refine ⟨⟨fun τ=>stableE_det _,leans_not⟩,?_⟩
  intro a w O hk
  have e11:a.eval (.tmp 11)=.slice (some ⟨b,o,none⟩) n e:=(hk.init 11 (initialB_of_nw nw11)).trans hi11
  exact toE (ob_move rfl e11 (wanted_none rfl) rfl)
 ·refine ⟨⟨fun τ=>stableE_det _,leans_not⟩,?_⟩
  intro a w O hk
  have e13:a.eval (.tmp 13)=.int .i64 j:=(hk.init 13 (initialB_of_nw nw13)).trans hi13
  exact toE (ob_move rfl e13 (wanted_none rfl) rfl)
 ·refine ⟨⟨fun τ=>stableE_det _,leans_not⟩,?_⟩
  intro a w O hk
  have e122:a.eval (.tmp 122)=.slice (some ⟨b,o,none⟩) n e:=hk.fact 0 _ 122 rfl rfl rfl rfl
  have e123:a.eval (.tmp 123)=.int .i64 j:=hk.fact 1 _ 123 rfl rfl rfl rfl
  exact obE_run (wanted_none rfl) (run_elemDc rfl e122 e123 hj) rfl
 ·refine ⟨⟨fun τ=>stableE_det _,leans_not⟩,?_⟩
  intro a w O hk
  have e124:a.eval (.tmp 124)=.pointer (some ⟨b,o+j * 21,none⟩):=hk.fact 2 _ 124 rfl rfl rfl rfl
  have xx:w.rangeAt b (o+j * 21) (dcC P3 d3):=fun k v hv=>(cell_same ((hk.world.below (fun k ⟨_,h⟩=>h.elim (fun h=>h.2.elim) fun h=>h.2.elim) (Nat.le_refl _)).block b (World.block_lt_of_cell? w0 _ (hX 0 _ rfl)))).trans (hX k v hv)
  exact obE_run (wanted_none rfl) (run_loadMid rfl e124 xx) rfl
 ·refine ⟨⟨fun τ=>stableE_det _,leans_not⟩,?_⟩
  intro a w O hk
  have e14:a.eval (.tmp 14)=.pointer (some ⟨g,0,none⟩):=(hk.init 14 (initialB_of_nw nw14)).trans hi14
  have yy:=hk.world.still hY (fun ⟨_,h⟩=>h.elim And.right And.right)
  exact obE_loadRow rfl e14 yy Try.underlying30 rfl (by kernel_rfl) (wanted_none rfl) rfl
 ·refine ⟨⟨fun τ=>stableE_det _,leans_not⟩,?_⟩
  intro a w O hk
  have e125:a.eval (.tmp 125)=dcV P3 d3:=hk.fact 3 _ 125 rfl rfl rfl rfl
  have e126:a.eval (.tmp 126)=dcV P d:=hk.fact 4 _ 126 rfl rfl rfl rfl
  have hc:=sameD_calls d3 d P3 P w hk1 (DcS.all (DcIn.stay hin (hk.world.below (fun k ⟨_,h⟩=>h.elim (fun h=>h.2.elim) fun h=>h.2.elim) (Nat.le_refl _)))) (DcS.all (DcIn.stay hin2 (hk.world.below (fun k ⟨_,h⟩=>h.elim (fun h=>h.2.elim) fun h=>h.2.elim) (Nat.le_refl _)))) hs
  exact obE_callV #[dcV P3 d3,dcV P d] rfl rfl rfl rfl (by simp only [List.map_cons,List.map_nil];rw [e125,e126]) (wanted_none rfl) hc
 ·refine ⟨⟨fun τ=>stableE_det _,leans_not⟩,?_⟩
  intro a w O hk
  have e127:a.eval (.tmp 127)=.bool true:=hk.fact 5 _ 127 rfl rfl rfl rfl
  exact obE_run (wanted_none rfl) (by unfold execOp;simp only [];rw [e127];go_simp) rfl
set_option maxRecDepth 100000 in
set_option maxHeartbeats 8000000 in
theorem dr18_region {Q:Exit→Act→World→Prop} {id:Nat} (w0:World) (g b o i n e:Nat) (j:Nat) (d d3:Dc) (P P3:DPl) {s0 s1 s2 s3 s4 s5 s6 s7 s8 s9 s10 s12 s15 s16 s17 s18 s19 s20 s21 s22 s23 s24 s25 s26 s27 s28 s29 s30 s31 s32 s33 s34 s35 s36 s37 s38 s39 s40 s41 s42 s43 s44 s45 s46 s47 s48 s49 s50 s51 s52 s53 s54 s55 s56 s57 s58 s59 s60 s61 s62 s63 s64 s65 s66 s67 s68 s69 s70 s71 s72 s73 s74 s75 s76 s77 s78 s79 s80 s81 s82 s83 s84 s85 s86 s87 s88 s89 s90 s91 s92 s93 s94 s95 s96 s97 s98 s99 s100 s101 s102 s103 s104 s105 s106 s107 s108 s109 s110 s111 s112 s113 s114 s115 s116 s117 s118 s119 s120 s121 s122 s123 s124 s125 s126 s127 s128 s129 s130:Value} (hX:w0.rangeAt b (o+j * 21) (dcC P3 d3)) (hY:w0.heap[g]?=some (dcO P d)) (hin:DcIn w0 w0.heap.size P3 d3) (hin2:DcIn w0 w0.heap.size P d) (hk1:1≤d3.kind∧d3.kind≤3) (hs:sameD d3 d=true) (hj:j<n)
  (hend:∀ (w':World),Chg (fun k=>False∨False) w0 w'→Q .normal { tmps:=(s0 :: s1 :: s2 :: s3 :: s4 :: s5 :: s6 :: s7 :: s8 :: s9 :: s10 :: (.slice (some ⟨b,o,none⟩) n e) :: s12 :: (.int .i64 j) :: (.pointer (some ⟨g,0,none⟩)) :: s15 :: s16 :: s17 :: s18 :: s19 :: s20 :: s21 :: s22 :: s23 :: s24 :: s25 :: s26 :: s27 :: s28 :: s29 :: s30 :: s31 :: s32 :: s33 :: s34 :: s35 :: s36 :: s37 :: s38 :: s39 :: s40 :: s41 :: s42 :: s43 :: s44 :: s45 :: s46 :: s47 :: s48 :: s49 :: s50 :: s51 :: s52 :: s53 :: s54 :: s55 :: s56 :: s57 :: s58 :: s59 :: s60 :: s61 :: s62 :: s63 :: s64 :: s65 :: s66 :: s67 :: s68 :: s69 :: s70 :: s71 :: s72 :: s73 :: s74 :: s75 :: s76 :: s77 :: s78 :: s79 :: s80 :: s81 :: s82 :: s83 :: s84 :: s85 :: s86 :: s87 :: s88 :: s89 :: s90 :: s91 :: s92 :: s93 :: s94 :: s95 :: s96 :: s97 :: s98 :: s99 :: s100 :: s101 :: s102 :: s103 :: s104 :: s105 :: s106 :: s107 :: s108 :: s109 :: s110 :: s111 :: s112 :: s113 :: s114 :: s115 :: s116 :: s117 :: s118 :: s119 :: s120 :: s121 :: (.slice (some ⟨b,o,none⟩) n e) :: (.int .i64 j) :: (.pointer (some ⟨b,o+j * 21,none⟩)) :: (dcV P3 d3) :: (dcV P d) :: (.bool true) :: (.bool false) :: s129 :: s130 :: []:List Value).toArray,defers:=[] } w') :
  (Code.region id dr18_ops.toArray true).wp Try.prog Q { tmps:=(s0 :: s1 :: s2 :: s3 :: s4 :: s5 :: s6 :: s7 :: s8 :: s9 :: s10 :: (.slice (some ⟨b,o,none⟩) n e) :: s12 :: (.int .i64 j) :: (.pointer (some ⟨g,0,none⟩)) :: s15 :: s16 :: s17 :: s18 :: s19 :: s20 :: s21 :: s22 :: s23 :: s24 :: s25 :: s26 :: s27 :: s28 :: s29 :: s30 :: s31 :: s32 :: s33 :: s34 :: s35 :: s36 :: s37 :: s38 :: s39 :: s40 :: s41 :: s42 :: s43 :: s44 :: s45 :: s46 :: s47 :: s48 :: s49 :: s50 :: s51 :: s52 :: s53 :: s54 :: s55 :: s56 :: s57 :: s58 :: s59 :: s60 :: s61 :: s62 :: s63 :: s64 :: s65 :: s66 :: s67 :: s68 :: s69 :: s70 :: s71 :: s72 :: s73 :: s74 :: s75 :: s76 :: s77 :: s78 :: s79 :: s80 :: s81 :: s82 :: s83 :: s84 :: s85 :: s86 :: s87 :: s88 :: s89 :: s90 :: s91 :: s92 :: s93 :: s94 :: s95 :: s96 :: s97 :: s98 :: s99 :: s100 :: s101 :: s102 :: s103 :: s104 :: s105 :: s106 :: s107 :: s108 :: s109 :: s110 :: s111 :: s112 :: s113 :: s114 :: s115 :: s116 :: s117 :: s118 :: s119 :: s120 :: s121 :: s122 :: s123 :: s124 :: s125 :: s126 :: s127 :: s128 :: s129 :: s130 :: []:List Value).toArray,defers:=[] } w0:=by
 refine wp_region_est (by kernel_rfl) (est2 0 0 (fun _=>False) (fun _=>False)) dr18_C (dr18_F w0 g b o i n e j d d3 P P3) (est2_dis (fun _ h _=>h)) (est2_range (fun _ h=>h.elim) (fun _ h=>h.elim)) (by rfl) (by kernel_rfl) (dr18_obs w0.drew g b o i n e j d d3 P P3 (fun k v hv=>hX k v hv) hY (DcS.same hin (fun _ _ _=>rfl)) (DcS.same hin2 (fun _ _ _=>rfl)) hk1 hs hj _ _ rfl rfl rfl) ?_
 intro a w' O hd hs hb hf hf2 ha hsame
 have hl:=slots_eq (ops:=dr18_ops.toArray) [(122,.slice (some ⟨b,o,none⟩) n e),(123,.int .i64 j),(124,.pointer (some ⟨b,o+j * 21,none⟩)),(125,dcV P3 d3),(126,dcV P d),(127,.bool true),(128,.bool false)] (show a.tmps.size=131 from hs) (fun i h=>hsame i h) ⟨(hf 0 _ 122 rfl rfl (by decide)).1,(hf 1 _ 123 rfl rfl (by decide)).1,(hf 2 _ 124 rfl rfl (by decide)).1,(hf 3 _ 125 rfl rfl (by decide)).1,(hf 4 _ 126 rfl rfl (by decide)).1,(hf 5 _ 127 rfl rfl (by decide)).1,(hf 6 _ 128 rfl rfl (by decide)).1,trivial⟩ (by kernel_rfl)
 obtain ⟨tmps,defers⟩:=a
 obtain rfl:defers=[]:=hd
 have hl':tmps=_:=hl
 rw [hl']
 have hb':=est2_chg hb
 refine Eq.mp ?_ (hend w' ⟨hb'.os,hb'.tape,hb'.output,hb'.size,hb'.block⟩)
 kernel_rfl

end Go.Proofs.Ytcgkeolgflphiaa

namespace Go.Proofs.Ytcgkeolgflphiaa
open Go.RowKit Go.Proofs.YtcgkeolgflphiaaW.PrintWords Go.RegionInvYtcgkeolgflphiaa

theorem dcs_to {w W:World} {L:Option Addr} {q:Nat→DPl} {ds:List Dc} (hb:Below w.heap.size w W) (h:DcsS w (fun k=>k<w.heap.size) L q ds):DcsS W (fun _=>True) L q ds:=(h.same fun k hk _=>hb.block k hk).mono fun _ _ _=>trivial
theorem own_empty21 (w:World) (base:Nat) (hB:base≤w.heap.size):(w.alloc (.cells #[] 30)).ownsRow base 30 21 (.slice (some ⟨w.heap.size,0,none⟩) 0 0) 0 []:=by
 have:=World.ownsRow_lit (base:=base) (e:=30) (size:=21) w #[] 0 hB (by simp [maxLen]) (by simp)
 simpa using this
theorem two_rows {cs:List Dc} {w W:World} {lo n7:Nat} {V:Value} {La Lb:Option Addr} {q qa qb:Nat→DPl} {as_ bs:List Dc} (hcs:cs=[] ++ as_ ++ bs) (hn7:n7=cs.length) (hb:Below w.heap.size w W) (hlo:w.heap.size≤lo) (ha:DcsS w (fun k=>k<w.heap.size) La qa as_) (hb2:DcsS w (fun k=>k<w.heap.size) Lb qb bs) (h:RowD W lo V (qapp (qapp q qa ([]:List Dc).length) qb ([] ++ as_:List Dc).length) ([] ++ as_ ++ bs)) :
  ∃ (L:Option Addr) (e:Nat),V=.slice L n7 e∧(n7≤e∧e≤9223372036854775807)∧DcsS W (fun _=>True) L (qapp (qapp q qa ([]:List Dc).length) qb ([] ++ as_:List Dc).length) cs:=by
 subst hn7
 subst hcs
 refine h.dcs hlo fun i x hx=>?_
 rcases Nat.lt_or_ge i ([] ++ as_:List Dc).length with hi | hi
 ·rw [List.getElem?_append_left hi,List.nil_append] at hx
  simp only [qapp,if_pos hi,List.length_nil,Nat.not_lt_zero,if_false,Nat.sub_zero]
  exact (ha i x hx).2.same fun k hk _=>hb.block k hk
 ·rw [List.getElem?_append_right hi] at hx
  simp only [qapp,if_neg (show ¬ i<([] ++ as_:List Dc).length by omega)]
  exact (hb2 _ x hx).2.same fun k hk _=>hb.block k hk
set_option maxRecDepth 100000 in
set_option maxHeartbeats 16000000 in
theorem declRows_calls (as_ bs:List Dc) (La Lb:Option Addr) (na nb ea eb:Nat) (qa qb:Nat→DPl) (w:World) (hna:na=as_.length) (hnb:nb=bs.length) (hna9:na≤9223372036854775807) (hnb9:nb≤9223372036854775807) (hda:DcsS w (fun k=>k<w.heap.size) La qa as_) (hdb:DcsS w (fun k=>k<w.heap.size) Lb qb bs) :
  Calls Try.prog 10 #[.slice La na ea,.slice Lb nb eb] w fun e w'=>e=.returned (.bool true)∧Below w.heap.size w w':=by
 have HDA:=Ak hda
 have HDB:=Ak hdb
 have HNA:=Ak hna
 have HNB:=Ak hnb
 have HB0:=Ak (Below.refl w.heap.size w)
 clear hda hdb hna hnb
 go_enter Try.func10,Try.ntmps10
 go_upto_region 1 with (fail)
 cases hla:lightB as_ with
 | false =>
  refine dr1a_region w La Lb na nb ea eb qa qb as_ bs HNA.out HNB.out hna9 hnb9 HDA.out HDB.out hla ?_
  intro w2 hch
  have HB2:=Ak (show Below w.heap.size w w2 from (hch.below (fun _ h=>h.elim False.elim False.elim) (Nat.le_refl _)))
  clear hch
  go_wp2_with (go_at_call 15;go_must (refine (awake_calls _).mono ?_;rintro e wz ⟨rfl,hbz⟩;have HBZ:=Ak (below_then HB2.out HB2.out.size hbz);clear hbz))
  go_ret
  exact ⟨rfl,HBZ.out⟩
 | true =>
 have hla20:na≤20:=by rw [HNA.out];exact light_len hla
 cases hlb:lightB bs with
 | false =>
  refine dr1b_region w La Lb na nb ea eb qa qb as_ bs HNA.out HNB.out hna9 hnb9 HDA.out HDB.out hla hlb ?_
  intro w2 hch
  have HB2:=Ak (show Below w.heap.size w w2 from (hch.below (fun _ h=>h.elim False.elim False.elim) (Nat.le_refl _)))
  clear hch
  go_wp2_with (go_at_call 15;go_must (refine (awake_calls _).mono ?_;rintro e wz ⟨rfl,hbz⟩;have HBZ:=Ak (below_then HB2.out HB2.out.size hbz);clear hbz))
  go_ret
  exact ⟨rfl,HBZ.out⟩
 | true =>
 have hlb20:nb≤20:=by rw [HNB.out];exact light_len hlb
 refine dr1c_region w La Lb na nb ea eb qa qb as_ bs HNA.out HNB.out hna9 hnb9 HDA.out HDB.out hla hlb ?_
 intro w2 hch
 have HB2:=Ak (show Below w.heap.size w w2 from (hch.below (fun _ h=>h.elim False.elim False.elim) (Nat.le_refl _)))
 clear hch
 clear hla hlb
 obtain ⟨eA,hEA⟩:∃ eA,eA=bunE as_:=⟨_,rfl⟩
 obtain ⟨eB,hEB⟩:∃ eB,eB=bunE bs:=⟨_,rfl⟩
 obtain ⟨cs,hcs0⟩:∃ cs:List Dc,cs=[] ++ as_ ++ bs:=⟨_,rfl⟩
 have HCS:=Ak hcs0
 clear hcs0
 obtain ⟨eC,hEC⟩:∃ eC,eC=bunE cs:=⟨_,rfl⟩
 have HEA:=Ak hEA
 have HEB:=Ak hEB
 have HEC:=Ak hEC
 clear hEA hEB hEC
 go_upto_region 4 with (go_at_call 19;go_must (refine (bundle_calls as_ La na ea qa w2 HNA.out ((dcs_to HB2.out HDA.out).mono fun k _ hz=>hz) hna9).mono ?_;rintro e w3 ⟨v3,rfl,ho,hb⟩;rw [← HEA.out];obtain ⟨A1,c1,rfl,hr⟩:=own_reads ho;have HC1:=Ak (own_cap ho);have HR1:=Ak hr;have HB3:=Ak (below_then HB2.out HB2.out.size hb);clear ho hb hr))
 go_upto_region 5 with (go_at_call 19;go_must (refine (bundle_calls bs Lb nb eb qb w3 HNB.out ((dcs_to HB3.out HDB.out).mono fun k _ hz=>hz) hnb9).mono ?_;rintro e w4 ⟨v4,rfl,ho,hb⟩;rw [← HEB.out];obtain ⟨A2,c2,rfl,hr⟩:=own_reads ho;have HC2:=Ak (own_cap ho);have HR2:=Ak hr;have HR14:=Ak (HR1.out.below hb);have HB4:=Ak (below_then HB3.out HB3.out.size hb);clear ho hb hr))
 obtain ⟨n1,hn1⟩:∃ n1,n1=(bunB as_).length:=⟨_,rfl⟩
 obtain ⟨n2,hn2⟩:∃ n2,n2=(bunB bs).length:=⟨_,rfl⟩
 rw [← hn1] at HR14 HC1 ⊢
 rw [← hn2] at HR2 HC2 ⊢
 have HN1:=Ak hn1
 have HN2:=Ak hn2
 clear hn1 hn2 HR1
 obtain ⟨n7,hn7⟩:∃ n7,n7=cs.length:=⟨_,rfl⟩
 have HN7:=Ak hn7
 have hn7':n7=na+nb:=by rw [hn7,HCS.out,List.nil_append,List.length_append,HNA.out,HNB.out]
 have HN7':=Ak hn7'
 have hn7b:n7≤40:=by omega
 clear hn7 hn7'
 have hb5:=HB4.out.alloc HB4.out.size (.cells #[] 30)
 have HB5:=Ak hb5
 have HD5:=Ak (dcs_to hb5 HDA.out)
 have HO5:=Ak (rowD_nil _ _ _ qa _ (own_empty21 w4 w4.heap.size (Nat.le_refl _)))
 clear hb5
 go_upto_region 6 with (first
  | ((with_reducible refine gate_builtin (b:=.append) (xs:=#[.tmp 35,.tmp 36]) rfl ?_);at_builtin;go_must (refine dc_app (q:=qa) (xs:=[]) (ys:=as_) (qy:=qa) rfl (.tmp 35) (.tmp 36) rfl rfl rfl HNA.out HO5.out HD5.out (by simp) (by rw [← HNA.out];simp only [List.length_nil];omega) ?_;intro V6 w6 hrow hb;have HO6:=Ak hrow;have HB6':=Ak hb;have HB6:=Ak (Below.trans HB5.out (hb.mono HB4.out.size));clear hrow hb))
  | ((with_reducible refine gate_builtin (b:=.append) (xs:=#[.tmp 37,.tmp 38]) rfl ?_);at_builtin;go_must (refine dc_app (q:=qapp qa qa ([]:List Dc).length) (xs:=[] ++ as_) (ys:=bs) (qy:=qb) rfl (.tmp 37) (.tmp 38) rfl rfl rfl HNB.out HO6.out (dcs_to HB6.out HDB.out) (Nat.le_trans (by simp) HB6'.out.size) (by rw [List.nil_append,← HNA.out,← HNB.out];omega) ?_;intro V7 w7 hrow hb;have HB7:=Ak (Below.trans HB6.out (hb.mono HB4.out.size));obtain ⟨L7,e7,rfl,hle7,hds7⟩:=two_rows HCS.out HN7.out HB7.out HB4.out.size HDA.out HDB.out hrow;have HLE7:=Ak hle7;have HDS7:=Ak hds7;have HBX:=Ak (show Below w4.heap.size w4 w7 from Below.trans (Below.trans ((Below.refl _ _).alloc (Nat.le_refl _) _) HB6'.out) hb);clear hrow hb hle7 hds7))
  | (go_at_call 19;go_must (refine (bundle_calls cs L7 n7 e7 _ w7 HN7.out (HDS7.out.mono fun k _ hz=>hz) (by have:=HLE7.out;omega)).mono ?_;rintro e w8 ⟨v8,rfl,ho,hb⟩;rw [← HEC.out];obtain ⟨A3,c3,rfl,hr⟩:=own_reads ho;have HC3:=Ak (own_cap ho);have HR3:=Ak hr;have HBY:=Ak (below_then HBX.out HBX.out.size hb);have HB8:=Ak (below_then HB7.out HB7.out.size hb);clear ho hb hr)))
 have HR18:=Ak (HR14.out.below HBY.out)
 have HR28:=Ak (HR2.out.below HBY.out)
 clear HR14 HR2 HO5 HD5 HB5 HBX HDS7 HLE7 HO6 HB6 HB6' HB7 HBY HB3 HB4
 obtain ⟨n3,hn3⟩:∃ n3,n3=(bunB cs).length:=⟨_,rfl⟩
 rw [← hn3] at HR3 HC3 ⊢
 have HN3:=Ak hn3
 clear hn3
 have hcs:eC=0→eA=0∧eB=0:=fun h=>by
  have h2:=rows_no (a:=[] ++ as_) (b:=bs) (by rw [← HCS.out,← HEC.out];exact h)
  rw [List.nil_append] at h2
  rw [HEA.out,HEB.out]
  exact h2
 by_cases hA:eA=0
 case neg =>
  have hA':(eA != 0)=true:=by simp [hA]
  have hC':(eC != 0)=true:=by simp;exact fun h=>hA (hcs h).1
  clear hcs hA
  go_wp2_with (go_at_call 15;go_must (refine (awake_calls _).mono ?_;rintro e wz ⟨rfl,hbz⟩;have HBZ:=Ak (below_then HB8.out HB8.out.size hbz);clear hbz))
  go_ret
  exact ⟨rfl,HBZ.out⟩
 by_cases hB:eB=0
 case neg =>
  have hA':(eA != 0)=false:=by simp [hA]
  have hB':(eB != 0)=true:=by simp [hB]
  have hC':(eC != 0)=true:=by simp;exact fun h=>hB (hcs h).2
  clear hcs hA hB
  go_wp2_with (go_at_call 15;go_must (refine (awake_calls _).mono ?_;rintro e wz ⟨rfl,hbz⟩;have HBZ:=Ak (below_then HB8.out HB8.out.size hbz);clear hbz))
  go_ret
  exact ⟨rfl,HBZ.out⟩
 clear hcs
 subst hA
 subst hB
 by_cases hC:eC=0
 case neg =>
  have hC':(eC != 0)=true:=by simp [hC]
  rcases rows_err (a:=[] ++ as_) (b:=bs) (by rw [List.nil_append];exact HEA.out.symm) HEB.out.symm (by rw [← HCS.out,← HEC.out];exact hC) with ⟨h18,hlen⟩ | h2
  ·rw [← HCS.out,← HEC.out] at h18
   rw [List.nil_append,← HNA.out,← HNB.out] at hlen
   subst h18
   have hl':(16:Int)<(na:Int)+nb:=by omega
   clear hC hC' hlen
   go_wp2_with (go_at_call 15;go_must (refine (awake_calls _).mono ?_;rintro e wz ⟨rfl,hbz⟩;have HBZ:=Ak (below_then HB8.out HB8.out.size hbz);clear hbz))
   go_ret
   exact ⟨rfl,HBZ.out⟩
  ·rw [← HCS.out,← HEC.out] at h2
   subst h2
   clear hC hC'
   go_wp2_with (go_at_call 15;go_must (refine (awake_calls _).mono ?_;rintro e wz ⟨rfl,hbz⟩;have HBZ:=Ak (below_then HB8.out HB8.out.size hbz);clear hbz))
   go_ret
   exact ⟨rfl,HBZ.out⟩
 subst hC
 have hrb:=rows_bytes (a:=[] ++ as_) (b:=bs) (by rw [List.nil_append];exact HEA.out.symm) HEB.out.symm (by rw [← HCS.out];exact HEC.out.symm)
 rw [← HCS.out,show bunB ([] ++ as_)=bunB as_ from rfl] at hrb
 have hl1:1≤n1:=by rw [HN1.out];exact hrb.2.1
 have hl2:1≤n2:=by rw [HN2.out];exact hrb.2.2
 have hl3:1≤n3:=by rw [HN3.out,bunB_one HEC.out.symm];simp
 have hs3:n3≤8192:=by rw [HN3.out,bunB_ok HEC.out.symm];exact (bunE_0 HEC.out.symm).2.2
 have hs1:n1≤8192:=by rw [HN1.out,bunB_ok HEA.out.symm];exact (bunE_0 HEA.out.symm).2.2
 have hs2:n2≤8192:=by rw [HN2.out,bunB_ok HEB.out.symm];exact (bunE_0 HEB.out.symm).2.2
 have HRB:=Ak hrb.1
 clear hrb
 obtain ⟨B1,z1,r1⟩:=cut_old (A:=A1) (n:=n1) (c:=c1) 1 hl1
 obtain ⟨B2,z2,r2⟩:=cut_old (A:=A2) (n:=n2) (c:=c2) 1 hl2
 obtain ⟨B3,z3,r3⟩:=cut_old (A:=A3) (n:=n3) (c:=c3) 1 hl3
 have HBS3:=Ak (bs_arg HR3.out HC3.out (bun_by HEC.out.symm) (by omega))
 have HQ1:=Ak (r1 w8 _ _ (bs_arg HR18.out HC1.out (bun_by HEA.out.symm) (by omega))).reads
 have HQ2:=Ak (r2 w8 _ _ (bs_arg HR28.out HC2.out (bun_by HEB.out.symm) (by omega))).reads
 have HQ3:=Ak (r3 w8 _ _ HBS3.out).reads
 have HSZ:=Ak (show (strOfNums ((bunB as_).drop 1)).size+(strOfNums ((bunB bs).drop 1)).size≤9223372036854775807 by
  rw [strOf_name,strOf_name,nameOf_size,nameOf_size,List.length_drop,List.length_drop,← HN1.out,← HN2.out];omega)
 have HZ1:=Ak z1
 have HZ2:=Ak z2
 have HZ3:=Ak z3
 clear z1 z2 z3 r1 r2 r3
 go_upto_region 10 with (fail)
 refine dr10_region w8 A1 A2 A3 B1 B2 B3 n1 n2 n3 c1 c2 c3 (bunB as_) (bunB bs) (bunB cs) HZ1.out HZ2.out HZ3.out HQ1.out HQ2.out HQ3.out hl1 hl2 HRB.out HSZ.out ?_
 intro w9 hch
 have HB89:=Ak (show Below w8.heap.size w8 w9 from (hch.below (fun _ h=>h.elim False.elim False.elim) (Nat.le_refl _)))
 have HB9:=Ak (below_then HB8.out HB8.out.size HB89.out)
 have HBS9:=Ak ((HBS3.out.chg (S:=fun _=>False) (Nat.le_refl _) (fun _ h=>h.elim) (Chg.of_below HB89.out)).mono HB89.out.size)
 clear hch HQ1 HQ2 HQ3 HZ1 HZ2 HZ3
 go_upto_region 13 with (go_at_call 24;go_must (refine (unbundle_calls A3 n3 c3 (bunB cs) w9 HBS9.out).mono ?_;rintro e w10 ⟨V10,l10,er,rfl,hrow,hb,htk⟩;rw [un_get HEC.out.symm] at htk;obtain ⟨hl10,rfl⟩:=htk;have HL10:=Ak hl10;obtain ⟨L10,e10,q10,rfl,hle,hds⟩:=rowDc_dcs hrow;have HDS10:=Ak hds;have HB10:=Ak (below_then HB9.out HB9.out.size hb);clear hrow hb hl10 hle hds))
 have hll:l10.length=n7:=by rw [HL10.out,List.length_map,HN7.out]
 rw [hll]
 have hn7i:((n7:Int) != (na:Int)+nb)=false:=by rw [HN7'.out];simp
 have HLL:=Ak hll
 clear hll
 go_upto_region 15 with (fail)
 have hb11:=HB10.out.alloc HB10.out.size (.cells #[] 30)
 have HB11:=Ak hb11
 have HD11:=Ak (dcs_to hb11 HDA.out)
 have HO11:=Ak (rowD_nil _ _ _ qa _ (own_empty21 w10 w10.heap.size (Nat.le_refl _)))
 have HA10:=Ak (HDS10.out.all)
 have HMAY:=Ak ((bunE_0 HEC.out.symm).2.1)
 clear hb11 HDS10 HRB HSZ HBS3 HBS9 HR3 HR18 HR28 HB89 hl1 hl2 hl3 hs1 hs2 hs3 HC1 HC2 HC3
 go_upto_block 0 with (first
  | ((with_reducible refine gate_builtin (b:=.append) (xs:=#[.tmp 111,.tmp 112]) rfl ?_);at_builtin;go_must (refine dc_app (q:=qa) (xs:=[]) (ys:=as_) (qy:=qa) rfl (.tmp 111) (.tmp 112) rfl rfl rfl HNA.out HO11.out HD11.out (by simp) (by rw [← HNA.out];simp only [List.length_nil];omega) ?_;intro V11 w11 hrow hb;have HO12:=Ak hrow;have HB12':=Ak hb;have HB12:=Ak (Below.trans HB11.out (hb.mono HB10.out.size));clear hrow hb))
  | ((with_reducible refine gate_builtin (b:=.append) (xs:=#[.tmp 113,.tmp 114]) rfl ?_);at_builtin;go_must (refine dc_app (q:=qapp qa qa ([]:List Dc).length) (xs:=[] ++ as_) (ys:=bs) (qy:=qb) rfl (.tmp 113) (.tmp 114) rfl rfl rfl HNB.out HO12.out (dcs_to HB12.out HDB.out) (Nat.le_trans (by simp) HB12'.out.size) (by rw [List.nil_append,← HNA.out,← HNB.out];omega) ?_;intro V12 w12 hrow hb;have HB13:=Ak (Below.trans HB12.out (hb.mono HB10.out.size));obtain ⟨L12,e12,rfl,hle12,hds12⟩:=two_rows HCS.out HN7.out HB13.out HB10.out.size HDA.out HDB.out hrow;obtain ⟨q6,hds6⟩:∃ q6,DcsS w12 (fun _=>True) L12 q6 cs:=⟨_,hds12⟩;have HDS12:=Ak hds6.all;have HBX:=Ak (show Below w10.heap.size w10 w12 from Below.trans (Below.trans ((Below.refl _ _).alloc (Nat.le_refl _) _) HB12'.out) hb);clear hrow hb hle12 hds12 hds6)))
 have HA12:=Ak ((DcsIn.stay HA10.out HBX.out).all)
 clear HA10 HBX HO11 HO12 HB12 HB12' HB11 HD11 HB10
 go_wp2
 go_loopw [117] (fun i wr=>∃ k:Nat,i=.int .i64 k∧k≤n7∧Aside0 (Below w12.heap.size w12 wr)) (fun i _=>n7 - (intOf i).toNat)
 case atStart=>exact ⟨0,rfl,Nat.zero_le _,⟨Below.refl _ _⟩⟩
 case round =>
  obtain ⟨k,rfl,hk,HBR⟩:=hrel
  by_cases hlt:k<n7
  ·obtain ⟨x,hx⟩:∃ x,cs[k]?=some x:=⟨_,List.getElem?_eq_getElem (by rw [← HN7.out];exact hlt)⟩
   obtain ⟨y,hy⟩:∃ y,l10[k]?=some y:=⟨_,List.getElem?_eq_getElem (by rw [HLL.out];exact hlt)⟩
   have HSX:=Ak (rows_same HMAY.out k x y hx (by rw [← HL10.out];exact hy))
   have HKY:=Ak (show 1≤y.kind∧y.kind≤3 by
    have h:=hy
    rw [HL10.out,List.getElem?_map,hx] at h
    obtain rfl:dcan x=y:=Option.some.inj h
    exact (mayD_fit (all_each HMAY.out k x hx)).k)
   obtain ⟨⟨bk,o,hA,-,hcells⟩,hty⟩:=(DcsIn.stay HDS12.out HBR.out) k x hx
   obtain ⟨⟨b2,o2,hA2,-,hcells2⟩,hty2⟩:=(DcsIn.stay HA12.out HBR.out) k y hy
   have HRG:=Ak (show wr.rangeAt bk (o+k * 21) (dcC (q6 k) x) from hcells)
   have HRG2:=Ak (show wr.rangeAt b2 (o2+k * 21) (dcC (q10 k) y) from hcells2)
   have HTX:=Ak (DcS.all hty)
   have HTY:=Ak (DcS.all hty2)
   have HAA:=Ak hA
   have HAA2:=Ak hA2
   rw [hA,hA2]
   clear hA hA2 hcells hcells2 hx hy hty hty2
   go_upto_region 18 with (first
    | (refine wpList_load_mid rfl 30 _ rfl bk (o+k * 21) rfl [.int .i64 x.kind,.string x.nm,.int .i64 x.vars,.int .i64 x.ty.kind,.int .i64 x.ty.num,.string x.ty.name,.int .i64 x.ty.lv.kind,.int .i64 x.ty.lv.num,.slice (q6 k).pt.A x.ty.lv.kids.length (q6 k).pt.c,.slice (q6 k).pt.B x.ty.ls.length (q6 k).pt.d,.slice (q6 k).pt.K x.ty.kids.length (q6 k).pt.e,.int .i64 x.val.kind,.int .i64 x.val.num,.string x.val.name,.int .i64 x.val.lv.kind,.int .i64 x.val.lv.num,.slice (q6 k).pv.A x.val.lv.kids.length (q6 k).pv.c,.slice (q6 k).pv.B x.val.ls.length (q6 k).pv.d,.slice (q6 k).pv.K x.val.kids.length (q6 k).pv.e,.int .i64 x.params,.slice (q6 k).C x.cs.length (q6 k).e] _ HRG.out Try.underlying30 rfl (by kernel_rfl) ?_)
    | (refine wpList_store_row rfl 30 _ _ rfl wr.heap.size #[.int .i64 x.kind,.string x.nm,.int .i64 x.vars,.int .i64 x.ty.kind,.int .i64 x.ty.num,.string x.ty.name,.int .i64 x.ty.lv.kind,.int .i64 x.ty.lv.num,.slice (q6 k).pt.A x.ty.lv.kids.length (q6 k).pt.c,.slice (q6 k).pt.B x.ty.ls.length (q6 k).pt.d,.slice (q6 k).pt.K x.ty.kids.length (q6 k).pt.e,.int .i64 x.val.kind,.int .i64 x.val.num,.string x.val.name,.int .i64 x.val.lv.kind,.int .i64 x.val.lv.num,.slice (q6 k).pv.A x.val.lv.kids.length (q6 k).pv.c,.slice (q6 k).pv.B x.val.ls.length (q6 k).pv.d,.slice (q6 k).pv.K x.val.kids.length (q6 k).pv.e,.int .i64 x.params,.slice (q6 k).C x.cs.length (q6 k).e] rfl rfl 30 #[.int .i64 0,.string ⟨#[]⟩,.int .i64 0,.int .i64 0,.int .i64 0,.string ⟨#[]⟩,.int .i64 0,.int .i64 0,.slice none 0 0,.slice none 0 0,.slice none 0 0,.int .i64 0,.int .i64 0,.string ⟨#[]⟩,.int .i64 0,.int .i64 0,.slice none 0 0,.slice none 0 0,.slice none 0 0,.int .i64 0,.slice none 0 0] (blk_new _ _) (by kernel_rfl) rfl (all_one (l:=[.int .i64 x.kind,.string x.nm,.int .i64 x.vars,.int .i64 x.ty.kind,.int .i64 x.ty.num,.string x.ty.name,.int .i64 x.ty.lv.kind,.int .i64 x.ty.lv.num,.slice (q6 k).pt.A x.ty.lv.kids.length (q6 k).pt.c,.slice (q6 k).pt.B x.ty.ls.length (q6 k).pt.d,.slice (q6 k).pt.K x.ty.kids.length (q6 k).pt.e,.int .i64 x.val.kind,.int .i64 x.val.num,.string x.val.name,.int .i64 x.val.lv.kind,.int .i64 x.val.lv.num,.slice (q6 k).pv.A x.val.lv.kids.length (q6 k).pv.c,.slice (q6 k).pv.B x.val.ls.length (q6 k).pv.d,.slice (q6 k).pv.K x.val.kids.length (q6 k).pv.e,.int .i64 x.params,.slice (q6 k).C x.cs.length (q6 k).e]) rfl) ?_))
   have hbx:=dc_boxed wr (q6 k) x
   obtain ⟨W5,hW5⟩:∃ W5,W5=(wr.alloc (.cells #[.int .i64 0,.string ⟨#[]⟩,.int .i64 0,.int .i64 0,.int .i64 0,.string ⟨#[]⟩,.int .i64 0,.int .i64 0,.slice none 0 0,.slice none 0 0,.slice none 0 0,.int .i64 0,.int .i64 0,.string ⟨#[]⟩,.int .i64 0,.int .i64 0,.slice none 0 0,.slice none 0 0,.slice none 0 0,.int .i64 0,.slice none 0 0] 30 (0,0))).setRow wr.heap.size #[.int .i64 x.kind,.string x.nm,.int .i64 x.vars,.int .i64 x.ty.kind,.int .i64 x.ty.num,.string x.ty.name,.int .i64 x.ty.lv.kind,.int .i64 x.ty.lv.num,.slice (q6 k).pt.A x.ty.lv.kids.length (q6 k).pt.c,.slice (q6 k).pt.B x.ty.ls.length (q6 k).pt.d,.slice (q6 k).pt.K x.ty.kids.length (q6 k).pt.e,.int .i64 x.val.kind,.int .i64 x.val.num,.string x.val.name,.int .i64 x.val.lv.kind,.int .i64 x.val.lv.num,.slice (q6 k).pv.A x.val.lv.kids.length (q6 k).pv.c,.slice (q6 k).pv.B x.val.ls.length (q6 k).pv.d,.slice (q6 k).pv.K x.val.kids.length (q6 k).pv.e,.int .i64 x.params,.slice (q6 k).C x.cs.length (q6 k).e]:=⟨_,rfl⟩
   replace hbx:W5.heap[wr.heap.size]?=some (dcO (q6 k) x)∧Below wr.heap.size wr W5:=by rw [hW5];exact hbx
   rw [← hW5]
   have HX5:=Ak hbx.1
   have HR5:=Ak (show W5.rangeAt b2 (o2+k * 21) (dcC (q10 k) y) from fun j v hv=>(cell_same (hbx.2.block b2 (World.block_lt_of_cell? wr _ (HRG2.out 0 _ rfl)))).trans (HRG2.out j v hv))
   have HTX5:=Ak (DcS.all (DcIn.stay HTX.out hbx.2))
   have HTY5:=Ak (DcS.all (DcIn.stay HTY.out hbx.2))
   have HB5:=Ak (below_then HBR.out HBR.out.size hbx.2)
   clear hW5 hbx HRG HRG2 HTX HTY
   refine dr18_region W5 wr.heap.size b2 o2 0 n7 e10 k x y (q6 k) (q10 k) HR5.out HX5.out HTY5.out HTX5.out HKY.out HSX.out hlt ?_
   intro w13 hch
   have HBN:=Ak (below_then HB5.out HB5.out.size (show Below W5.heap.size W5 w13 from (hch.below (fun _ h=>h.elim False.elim False.elim) (Nat.le_refl _))))
   clear hch HX5 HR5 HTX5 HTY5
   go_wp2
   go_roundw
   case rel=>exact ⟨k+1,by go_num,by omega,HBN⟩
   case measure=>(simp [intOf];try omega)
  ·obtain rfl:k=n7:=by omega
   have hlt':decide ((k:Int)<k)=false:=by simp
   have HBE:=Ak (below_then HB13.out HB13.out.size HBR.out)
   go_wp2_with (go_at_call 15;go_must (refine (awake_calls _).mono ?_;rintro e wz ⟨rfl,hbz⟩;have HBZ:=Ak (below_then HBE.out HBE.out.size hbz);clear hbz))
   go_ret
   exact ⟨rfl,HBZ.out⟩
end Go.Proofs.Ytcgkeolgflphiaa

namespace Go.Proofs.Ytcgkeolgflphiaa
open Go.RowKit Go.Proofs.YtcgkeolgflphiaaW.PrintWords Go.RegionInvYtcgkeolgflphiaa Go.ChangeShapes Go.WideShapes Go.Deep

instance:Inhabited Lv:=⟨.mk 0 0 []⟩
set_option maxRecDepth 100000 in
theorem lv_open {H:Type} {enc:TypeId × Value→H} {W:World} {base:Nat} {sp:Nat→Bool} {held:Bool} (F:Nat):∀ (fuel:Nat),fuel≤F→∀ (cs:List Value) (x:DataW H × List MemPlace),
  DataW.trod enc Try.prog W base sp held fuel 24 cs=some x→∃ (l:Lv) (A:Option Addr) (c:Nat),cs=[.int .i64 l.kind,.int .i64 l.num,.slice A l.kids.length c]∧LvS W (fun _=>True) A c l∧(Lit.int .i64 l.kind).wf=true∧(Lit.int .i64 l.num).wf=true:=by
 induction F with
 | zero =>
  intro fuel hF cs x h
  obtain ⟨xs,n,hn,_⟩:=DataW.trod_struct Try.underlying24 h
  omega
 | succ F ih =>
  intro fuel hF cs x h
  obtain ⟨xs,n,hn,hx,hl,hxl,hf⟩:=DataW.trod_struct Try.underlying24 h
  have hl3:cs.length=3:=by rw [hl];kernel_rfl
  match xs,hxl,cs,hl3 with
  | [y0,y1,y2],_,[v0,v1,v2],_ =>
   have g0:DataW.trod enc Try.prog W base sp held n 3 [v0]=some y0:=hf 0 _ rfl
   have g1:DataW.trod enc Try.prog W base sp held n 3 [v1]=some y1:=hf 1 _ rfl
   have g2:DataW.trod enc Try.prog W base sp held n 22 [v2]=some y2:=hf 2 _ rfl
   obtain ⟨k,e0,_,w0⟩:=DataW.trod_int Try.underlying3 g0
   obtain ⟨m,e1,_,w1⟩:=DataW.trod_int Try.underlying3 g1
   obtain rfl:v0=.int .i64 k:=by simpa using e0
   obtain rfl:v1=.int .i64 m:=by simpa using e1
   rcases DataW.trod_slice Try.underlying22 g2 with ⟨e2,_⟩ | ⟨a,len,cap,elems,rest,n',hn',e2,_,_,hle,hm,hlen,hel,_,_⟩
   ·obtain rfl:v2=.slice none 0 0:=by simpa using e2
    exact ⟨.mk k m [],none,0,rfl,.mk (fun _=>none) (fun _=>0) (by simp) (by omega) (fun i x hx=>by simp at hx) (fun i x hx=>by simp at hx),w0,w1⟩
   ·obtain rfl:v2=.slice (some a) len cap:=by simpa using e2
    have hc3:Try.prog.cellsOf 24=3:=by kernel_rfl
    rw [hc3] at hel
    have each:∀ i,i<len→∃ q:Lv × Option Addr × Nat,W.cells? base (a.add (i * 3)) 3=some [.int .i64 q.1.kind,.int .i64 q.1.num,.slice q.2.1 q.1.kids.length q.2.2]∧LvS W (fun _=>True) q.2.1 q.2.2 q.1:=by
     intro i hi
     have hq:=hel i hi
     rw [List.getElem?_eq_getElem (by omega)] at hq
     obtain ⟨cs',h1,h2⟩:=Option.bind_eq_some_iff.1 hq
     obtain ⟨l,A,c,rfl,h3,_⟩:=ih n' (by omega) cs' _ h2
     exact ⟨(l,A,c),h1,h3⟩
    obtain ⟨q,hq⟩:=choose_lt each
    have hcell:∀ i,i<len→∀ j,j<3→W.cell? ((a.add (i * 3)).add j)=([.int .i64 (q i).1.kind,.int .i64 (q i).1.num,.slice (q i).2.1 (q i).1.kids.length (q i).2.2]:List Value)[j]?:=fun i hi j hj=>(World.cells?_some (hq i hi).1).2.2 j hj
    have hget:∀ (i:Nat) (x:Lv),((List.range len).map fun i=>(q i).1)[i]?=some x→i<len∧x=(q i).1:=by
     intro i x hx
     have hi:i<len:=by
      rcases Nat.lt_or_ge i len with h | h
      ·exact h
      ·rw [List.getElem?_eq_none (by simpa using h)] at hx;cases hx
     rw [List.getElem?_map,List.getElem?_range hi] at hx
     exact ⟨hi,(Option.some.inj hx).symm⟩
    refine ⟨.mk k m ((List.range len).map fun i=>(q i).1),some a,cap,by simp [Lv.kind,Lv.num,Lv.kids],.mk (fun i=>(q i).2.1) (fun i=>(q i).2.2) (by simpa using hle) (by simp only [maxLen] at hm;omega) (fun i x hx=>?_) (fun i x hx=>?_),w0,w1⟩
    ·obtain ⟨hi,rfl⟩:=hget i x hx
     have hsp:a.spot=none:=by
      have h0:=hcell 0 (by omega) 0 (by omega)
      simp only [Nat.zero_mul,Addr.add,if_true] at h0
      cases hs:a.spot with
      | none=>rfl
      | some z=>simp [World.cell?,hs] at h0;split at h0 <;> simp at h0
     obtain ⟨b,o,z⟩:=a
     obtain rfl:z=none:=hsp
     have c0:=hcell i hi 0 (by omega)
     have c1:=hcell i hi 1 (by omega)
     have c2:=hcell i hi 2 (by omega)
     simp only [add_flat] at c0 c1 c2
     exact ⟨_,rfl,trivial,rfl,by rw [add_flat];exact c0,by rw [add_flat];exact c1,by rw [add_flat];exact c2⟩
    ·obtain ⟨hi,rfl⟩:=hget i x hx
     exact (hq i hi).2
end Go.Proofs.Ytcgkeolgflphiaa

namespace Go.Proofs.Ytcgkeolgflphiaa
open Go.RowKit Go.Proofs.YtcgkeolgflphiaaW.PrintWords Go.RegionInvYtcgkeolgflphiaa Go.ChangeShapes Go.WideShapes Go.Deep

set_option maxRecDepth 100000 in
theorem lvs_open {H:Type} {enc:TypeId × Value→H} {W:World} {base:Nat} {sp:Nat→Bool} {held:Bool} {fuel:Nat} {v2:Value} {y2:DataW H × List MemPlace} (g2:DataW.trod enc Try.prog W base sp held fuel 22 [v2]=some y2) :
  ∃ (vs:List Lv) (A:Option Addr) (c:Nat),v2=.slice A vs.length c∧LvS W (fun _=>True) A c (.mk 0 0 vs):=by
 rcases DataW.trod_slice Try.underlying22 g2 with ⟨e2,_⟩ | ⟨a,len,cap,elems,rest,n',hn',e2,_,_,hle,hm,hlen,hel,_,_⟩
 ·obtain rfl:v2=.slice none 0 0:=by simpa using e2
  exact ⟨[],none,0,rfl,.mk (fun _=>none) (fun _=>0) (by simp) (by omega) (fun i x hx=>by simp at hx) (fun i x hx=>by simp at hx)⟩
 ·obtain rfl:v2=.slice (some a) len cap:=by simpa using e2
  have hc3:Try.prog.cellsOf 24=3:=by kernel_rfl
  rw [hc3] at hel
  have each:∀ i,i<len→∃ q:Lv × Option Addr × Nat,W.cells? base (a.add (i * 3)) 3=some [.int .i64 q.1.kind,.int .i64 q.1.num,.slice q.2.1 q.1.kids.length q.2.2]∧LvS W (fun _=>True) q.2.1 q.2.2 q.1:=by
   intro i hi
   have hq:=hel i hi
   rw [List.getElem?_eq_getElem (by omega)] at hq
   obtain ⟨cs',h1,h2⟩:=Option.bind_eq_some_iff.1 hq
   obtain ⟨l,A,c,rfl,h3,_⟩:=lv_open n' n' (Nat.le_refl _) cs' _ h2
   exact ⟨(l,A,c),h1,h3⟩
  obtain ⟨q,hq⟩:=choose_lt each
  have hcell:∀ i,i<len→∀ j,j<3→W.cell? ((a.add (i * 3)).add j)=([.int .i64 (q i).1.kind,.int .i64 (q i).1.num,.slice (q i).2.1 (q i).1.kids.length (q i).2.2]:List Value)[j]?:=fun i hi j hj=>(World.cells?_some (hq i hi).1).2.2 j hj
  have hget:∀ (i:Nat) (x:Lv),((List.range len).map fun i=>(q i).1)[i]?=some x→i<len∧x=(q i).1:=by
   intro i x hx
   have hi:i<len:=by
    rcases Nat.lt_or_ge i len with h | h
    ·exact h
    ·rw [List.getElem?_eq_none (by simpa using h)] at hx;cases hx
   rw [List.getElem?_map,List.getElem?_range hi] at hx
   exact ⟨hi,(Option.some.inj hx).symm⟩
  refine ⟨(List.range len).map fun i=>(q i).1,some a,cap,by simp,.mk (fun i=>(q i).2.1) (fun i=>(q i).2.2) (by simpa using hle) (by simp only [maxLen] at hm;omega) (fun i x hx=>?_) (fun i x hx=>?_)⟩
  ·obtain ⟨hi,rfl⟩:=hget i x hx
   have hsp:a.spot=none:=by
    have h0:=hcell 0 (by omega) 0 (by omega)
    simp only [Nat.zero_mul,Addr.add,if_true] at h0
    cases hs:a.spot with
    | none=>rfl
    | some z=>simp [World.cell?,hs] at h0;split at h0 <;> simp at h0
   obtain ⟨b,o,z⟩:=a
   obtain rfl:z=none:=hsp
   have c0:=hcell i hi 0 (by omega)
   have c1:=hcell i hi 1 (by omega)
   have c2:=hcell i hi 2 (by omega)
   simp only [add_flat] at c0 c1 c2
   exact ⟨_,rfl,trivial,rfl,by rw [add_flat];exact c0,by rw [add_flat];exact c1,by rw [add_flat];exact c2⟩
  ·obtain ⟨hi,rfl⟩:=hget i x hx
   exact (hq i hi).2
end Go.Proofs.Ytcgkeolgflphiaa

namespace Go.Proofs.Ytcgkeolgflphiaa
open Go.RowKit Go.Proofs.YtcgkeolgflphiaaW.PrintWords Go.RegionInvYtcgkeolgflphiaa Go.ChangeShapes Go.WideShapes Go.Deep

section
variable {H:Type} {enc:TypeId × Value→H} {W:World} {base:Nat} {sp:Nat→Bool} {held:Bool}
def Sized (t:TypeId) (d:DataW H):Prop:=(DataW.weights Try.prog t d).all (·≤reachBytes)=true
theorem all_at {t:TypeId}:∀ {l:List (DataW H)},(DataW.weightsAll Try.prog t l).all (·≤reachBytes)=true→∀ (i:Nat) (d:DataW H),l[i]?=some d→Sized t d
 | [],_,i,d,h=>by simp at h
 | x :: r,hw,i,d,h=>by
  rw [DataW.weightsAll,List.all_append,Bool.and_eq_true] at hw
  cases i with
  | zero=>simp at h;subst h;exact hw.1
  | succ j=>exact all_at hw.2 j d (by simpa using h)
theorem each_at:∀ {ts:List TypeId} {l:List (DataW H)},(DataW.weightsEach Try.prog ts l).all (·≤reachBytes)=true→∀ (i:Nat) (t:TypeId) (d:DataW H),ts[i]?=some t→l[i]?=some d→Sized t d
 | [],l,_,i,t,d,h,_=>by simp at h
 | _ :: _,[],_,i,t,d,_,h=>by simp at h
 | s :: ts,x :: r,hw,i,t,d,ht,hd=>by
  rw [DataW.weightsEach,List.all_append,Bool.and_eq_true] at hw
  cases i with
  | zero=>simp at ht hd;subst ht;subst hd;exact hw.1
  | succ j=>exact each_at hw.2 j t d (by simpa using ht) (by simpa using hd)
theorem sized_agg {t:TypeId} {fs:Array Field} {ps:List (DataW H)} (hu:Try.prog.underlying t=some (.struct fs)) (h:Sized t (.agg ps)):∀ (i:Nat) (f:Field) (d:DataW H),fs[i]?=some f→ps[i]?=some d→Sized f.type d:=by
 unfold Sized at h
 rw [DataW.weights,hu] at h
 intro i f d hf hd
 exact each_at h i f.type d (by simp [hf]) hd
theorem sized_slices {t e:TypeId} {es rs:List (DataW H)} (hu:Try.prog.underlying t=some (.slice e)) (h:Sized t (.slice es rs)):(es.length+rs.length) * Try.prog.bytesOf e≤140737488351232∧∀ (i:Nat) (d:DataW H),es[i]?=some d→Sized e d:=by
 unfold Sized at h
 rw [DataW.weights,hu] at h
 simp only [List.all_cons,List.all_append,Bool.and_eq_true,decide_eq_true_eq] at h
 exact ⟨h.1,fun i d hd=>all_at h.2.1 i d hd⟩
theorem sized_str {t:TypeId} {s:List UInt8} (h:Sized (H:=H) t (.lit (.string s))):s.length≤140737488351232:=by
 unfold Sized at h
 rw [DataW.weights] at h
 have h':s.length≤reachBytes:=by simpa using h
 exact h'
theorem lvs_len {fuel:Nat} {v:Value} {y:DataW H × List MemPlace} (g:DataW.trod enc Try.prog W base sp held fuel 22 [v]=some y) (hw:Sized 22 y.1) {A:Option Addr} {n c:Nat} (he:v=.slice A n c):n * 40≤140737488355328:=by
 subst he
 rcases DataW.trod_slice Try.underlying22 g with ⟨e2,_⟩ | ⟨a,len,cap,elems,rest,n',hn',e2,hy,_,hle,hm,hlen,hel,_,_⟩
 ·have:n=0:=by simp at e2;exact e2.2.1
  omega
 ·have:n=len:=by simp at e2;exact e2.2.1
  subst this
  subst hy
  have h:=(sized_slices Try.underlying22 hw).1
  rw [show Try.prog.bytesOf 24=40 by kernel_rfl] at h
  simp only [List.length_map] at h
  have:=Nat.le_mul_of_pos_right elems.length (show 0<40 by decide)
  have h2:n * 40≤(elems.length+rest.length) * 40:=Nat.mul_le_mul_right _ (by omega)
  omega
theorem plain_addr {a:Addr} {v:Value} (h:W.cell? a=some v):a.spot=none:=by
 cases hs:a.spot with
 | none=>rfl
 | some z=>simp [World.cell?,hs] at h;split at h <;> simp at h
theorem int_range {n:Int} (h:(Lit.int .i64 n).wf=true):-9223372036854775808≤n∧n≤9223372036854775807:=by simpa [Lit.wf,IntKind.min,IntKind.max,IntKind.signed,IntKind.bits] using h
set_option maxRecDepth 100000 in
set_option maxHeartbeats 4000000 in
theorem tm_open (F:Nat):∀ (fuel:Nat),fuel≤F→∀ (cs:List Value) (x:DataW H × List MemPlace),DataW.trod enc Try.prog W base sp held fuel 27 cs=some x→Sized 27 x.1 →
  ∃ (t:Tm) (p:Pl),cs=tmC p t∧TmS W (fun _=>True) p t:=by
 induction F with
 | zero =>
  intro fuel hF cs x h
  obtain ⟨xs,n,hn,_⟩:=DataW.trod_struct Try.underlying27 h
  omega
 | succ F ih =>
  intro fuel hF cs x h hw
  obtain ⟨xs,n,hn,hx,hl,hxl,hf⟩:=DataW.trod_struct Try.underlying27 h
  have hl8:cs.length=8:=by rw [hl];kernel_rfl
  match xs,hxl,cs,hl8 with
  | [y0,y1,y2,y3,y4,y5],_,[v0,v1,v2,v3,v4,v5,v6,v7],_ =>
   subst hx
   have g0:DataW.trod enc Try.prog W base sp held n 3 [v0]=some y0:=hf 0 _ rfl
   have g1:DataW.trod enc Try.prog W base sp held n 3 [v1]=some y1:=hf 1 _ rfl
   have g2:DataW.trod enc Try.prog W base sp held n 9 [v2]=some y2:=hf 2 _ rfl
   have g3:DataW.trod enc Try.prog W base sp held n 24 [v3,v4,v5]=some y3:=hf 3 _ rfl
   have g4:DataW.trod enc Try.prog W base sp held n 22 [v6]=some y4:=hf 4 _ rfl
   have g5:DataW.trod enc Try.prog W base sp held n 25 [v7]=some y5:=hf 5 _ rfl
   have z2:Sized 9 y2.1:=sized_agg Try.underlying27 hw 2 _ _ rfl rfl
   have z4:Sized 22 y4.1:=sized_agg Try.underlying27 hw 4 _ _ rfl rfl
   have z5:Sized 25 y5.1:=sized_agg Try.underlying27 hw 5 _ _ rfl rfl
   obtain ⟨k,e0,_,w0⟩:=DataW.trod_int Try.underlying3 g0
   obtain ⟨m,e1,_,w1⟩:=DataW.trod_int Try.underlying3 g1
   obtain ⟨s,e2,e2',_⟩:=DataW.trod_string Try.underlying9 g2
   obtain rfl:v0=.int .i64 k:=by simpa using e0
   obtain rfl:v1=.int .i64 m:=by simpa using e1
   obtain rfl:v2=.string s:=by simpa using e2
   have hs:s.size≤140737488355328:=by
    rw [e2'] at z2
    have:=sized_str z2
    simp at this
    have e:s.size=s.data.size:=rfl
    omega
   obtain ⟨l,A,c,e3,hlv,_,_⟩:=lv_open n n (Nat.le_refl _) _ _ g3
   obtain ⟨ls,B,d,rfl,hls⟩:=lvs_open g4
   have hll:=lvs_len g4 z4 rfl
   obtain ⟨rfl,rfl,rfl⟩:v3=.int .i64 l.kind∧v4=.int .i64 l.num∧v5=.slice A l.kids.length c:=by simpa using e3
   have hfit:Fit m s ls:=⟨int_range w1,hs,hll⟩
   rcases DataW.trod_slice Try.underlying25 g5 with ⟨e5,_⟩ | ⟨a,len,cap,elems,rest,n',hn',e5,hy,_,hle,hm,hlen,hel,_,_⟩
   ·obtain rfl:v7=.slice none 0 0:=by simpa using e5
    exact ⟨.mk k m s l ls [],⟨A,c,B,d,none,0⟩,rfl,.mk (fun _=>default) hlv hls (by simp) (by simp) hfit (fun i x hx=>by simp at hx) (fun i x hx=>by simp at hx)⟩
   ·obtain rfl:v7=.slice (some a) len cap:=by simpa using e5
    subst hy
    have hz:=(sized_slices Try.underlying25 z5).2
    have hc8:Try.prog.cellsOf 27=8:=by kernel_rfl
    rw [hc8] at hel
    have each:∀ i,i<len→∃ q:Tm × Pl,W.cells? base (a.add (i * 8)) 8=some (tmC q.2 q.1)∧TmS W (fun _=>True) q.2 q.1:=by
     intro i hi
     have hq:=hel i hi
     rw [List.getElem?_eq_getElem (by omega)] at hq
     obtain ⟨cs',h1,h2⟩:=Option.bind_eq_some_iff.1 hq
     obtain ⟨t,p,rfl,h3⟩:=ih n' (by omega) cs' _ h2 (hz i _ (by rw [List.getElem?_map,List.getElem?_eq_getElem (by omega)];rfl))
     exact ⟨(t,p),h1,h3⟩
    obtain ⟨q,hq⟩:=choose_lt each
    have hcell:∀ i,i<len→∀ j,j<8→W.cell? ((a.add (i * 8)).add j)=(tmC (q i).2 (q i).1)[j]?:=fun i hi j hj=>(World.cells?_some (hq i hi).1).2.2 j hj
    have hget:∀ (i:Nat) (x:Tm),((List.range len).map fun i=>(q i).1)[i]?=some x→i<len∧x=(q i).1:=by
     intro i x hx
     have hi:i<len:=by
      rcases Nat.lt_or_ge i len with h | h
      ·exact h
      ·rw [List.getElem?_eq_none (by simpa using h)] at hx;cases hx
     rw [List.getElem?_map,List.getElem?_range hi] at hx
     exact ⟨hi,(Option.some.inj hx).symm⟩
    refine ⟨.mk k m s l ls ((List.range len).map fun i=>(q i).1),⟨A,c,B,d,some a,cap⟩,by simp [tmC,Tm.kind,Tm.num,Tm.name,Tm.lv,Tm.ls,Tm.kids],.mk (fun i=>(q i).2) hlv hls (by simpa using hle) (by simp only [maxLen] at hm;exact hm) hfit (fun i x hx=>?_) (fun i x hx=>?_)⟩
    ·obtain ⟨hi,rfl⟩:=hget i x hx
     have h0:=hcell 0 (by omega) 0 (by omega)
     simp only [Nat.zero_mul,Addr.add,if_true] at h0
     have hsp:a.spot=none:=plain_addr (h0.trans (by rfl))
     obtain ⟨b,o,z⟩:=a
     obtain rfl:z=none:=hsp
     refine ⟨b,o,rfl,trivial,fun j v hv=>?_⟩
     have hj:j<8:=by
      rcases Nat.lt_or_ge j 8 with h | h
      ·exact h
      ·rw [List.getElem?_eq_none (by rw [tmC_len];exact h)] at hv;cases hv
     have c0:=hcell i hi j hj
     simp only [add_flat] at c0
     rw [c0]
     exact hv
    ·obtain ⟨hi,rfl⟩:=hget i x hx
     exact (hq i hi).2
set_option maxRecDepth 100000 in
set_option maxHeartbeats 4000000 in
theorem ct_open (fuel:Nat) (cs:List Value) (x:DataW H × List MemPlace) (h:DataW.trod enc Try.prog W base sp held fuel 63 cs=some x) (hw:Sized 63 x.1) :
  ∃ (c:Ct) (q:Pl),cs=ctC q c∧TmS W (fun _=>True) q c.ty∧c.nm.size≤140737488355328:=by
 obtain ⟨xs,n,hn,hx,hl,hxl,hf⟩:=DataW.trod_struct Try.underlying63 h
 have hl9:cs.length=9:=by rw [hl];kernel_rfl
 match xs,hxl,cs,hl9 with
 | [y0,y1],_,[v0,v1,v2,v3,v4,v5,v6,v7,v8],_ =>
  subst hx
  have g0:DataW.trod enc Try.prog W base sp held n 9 [v0]=some y0:=hf 0 _ rfl
  have g1:DataW.trod enc Try.prog W base sp held n 27 [v1,v2,v3,v4,v5,v6,v7,v8]=some y1:=hf 1 _ rfl
  have z0:Sized 9 y0.1:=sized_agg Try.underlying63 hw 0 _ _ rfl rfl
  have z1:Sized 27 y1.1:=sized_agg Try.underlying63 hw 1 _ _ rfl rfl
  obtain ⟨s,e2,e2',_⟩:=DataW.trod_string Try.underlying9 g0
  obtain rfl:v0=.string s:=by simpa using e2
  have hs:s.size≤140737488355328:=by
   rw [e2'] at z0
   have:=sized_str z0
   simp at this
   have e:s.size=s.data.size:=rfl
   omega
  obtain ⟨t,p,he,ht⟩:=tm_open n n (Nat.le_refl _) _ _ g1 z1
  refine ⟨⟨s,t⟩,p,?_,ht,hs⟩
  unfold tmC at he
  unfold ctC
  rw [he]
instance:Inhabited Ct:=⟨⟨ByteArray.empty,default⟩⟩
set_option maxRecDepth 100000 in
set_option maxHeartbeats 4000000 in
theorem cts_open {fuel:Nat} {v:Value} {y:DataW H × List MemPlace} (g:DataW.trod enc Try.prog W base sp held fuel 28 [v]=some y) (hw:Sized 28 y.1) :
  ∃ (ks:List Ct) (C:Option Addr) (e:Nat) (q:Nat→Pl),v=.slice C ks.length e∧(ks.length≤e∧e≤9223372036854775807)∧∀ (i:Nat) (c:Ct),ks[i]?=some c→CtAt W (fun _=>True) C i (q i) c∧TmS W (fun _=>True) (q i) c.ty∧c.nm.size≤140737488355328:=by
 rcases DataW.trod_slice Try.underlying28 g with ⟨e5,_⟩ | ⟨a,len,cap,elems,rest,n',hn',e5,hy,_,hle,hm,hlen,hel,_,_⟩
 ·obtain rfl:v=.slice none 0 0:=by simpa using e5
  exact ⟨[],none,0,fun _=>default,rfl,by simp,fun i x hx=>by simp at hx⟩
 ·obtain rfl:v=.slice (some a) len cap:=by simpa using e5
  subst hy
  have hz:=(sized_slices Try.underlying28 hw).2
  have hc9:Try.prog.cellsOf 63=9:=by kernel_rfl
  rw [hc9] at hel
  have each:∀ i,i<len→∃ q:Ct × Pl,W.cells? base (a.add (i * 9)) 9=some (ctC q.2 q.1)∧TmS W (fun _=>True) q.2 q.1.ty∧q.1.nm.size≤140737488355328:=by
   intro i hi
   have hq:=hel i hi
   rw [List.getElem?_eq_getElem (by omega)] at hq
   obtain ⟨cs',h1,h2⟩:=Option.bind_eq_some_iff.1 hq
   obtain ⟨t,p,rfl,h3⟩:=ct_open n' cs' _ h2 (hz i _ (by rw [List.getElem?_map,List.getElem?_eq_getElem (by omega)];rfl))
   exact ⟨(t,p),h1,h3⟩
  obtain ⟨q,hq⟩:=choose_lt each
  have hcell:∀ i,i<len→∀ j,j<9→W.cell? ((a.add (i * 9)).add j)=(ctC (q i).2 (q i).1)[j]?:=fun i hi j hj=>(World.cells?_some (hq i hi).1).2.2 j hj
  refine ⟨(List.range len).map fun i=>(q i).1,some a,cap,fun i=>(q i).2,by simp,⟨by simpa using hle,by simp only [maxLen] at hm;exact hm⟩,fun i x hx=>?_⟩
  have hi:i<len:=by
   rcases Nat.lt_or_ge i len with h | h
   ·exact h
   ·rw [List.getElem?_eq_none (by simpa using h)] at hx;cases hx
  rw [List.getElem?_map,List.getElem?_range hi] at hx
  obtain rfl:(q i).1=x:=Option.some.inj hx
  refine ⟨?_,(hq i hi).2⟩
  have h0:=hcell 0 (by omega) 0 (by omega)
  simp only [Nat.zero_mul,Addr.add,if_true] at h0
  have hsp:a.spot=none:=plain_addr (h0.trans (by rfl))
  obtain ⟨b,o,z⟩:=a
  obtain rfl:z=none:=hsp
  refine ⟨b,o,rfl,trivial,fun j v hv=>?_⟩
  have hj:j<9:=by
   rcases Nat.lt_or_ge j 9 with h | h
   ·exact h
   ·rw [List.getElem?_eq_none (by exact h)] at hv;cases hv
  have c0:=hcell i hi j hj
  simp only [add_flat] at c0
  rw [c0]
  exact hv
set_option maxRecDepth 100000 in
set_option maxHeartbeats 8000000 in
theorem dc_open (fuel:Nat) (cs:List Value) (x:DataW H × List MemPlace) (h:DataW.trod enc Try.prog W base sp held fuel 30 cs=some x) (hw:Sized 30 x.1) :
  ∃ (d:Dc) (P:DPl),cs=dcC P d∧DcS W (fun _=>True) P d∧(Lit.int .i64 d.vars).wf=true:=by
 obtain ⟨xs,n,hn,hx,hl,hxl,hf⟩:=DataW.trod_struct Try.underlying30 h
 have hl21:cs.length=21:=by rw [hl];kernel_rfl
 match xs,hxl,cs,hl21 with
 | [y0,y1,y2,y3,y4,y5,y6],_,[v0,v1,v2,v3,v4,v5,v6,v7,v8,v9,v10,v11,v12,v13,v14,v15,v16,v17,v18,v19,v20],_ =>
  subst hx
  have g0:DataW.trod enc Try.prog W base sp held n 3 [v0]=some y0:=hf 0 _ rfl
  have g1:DataW.trod enc Try.prog W base sp held n 9 [v1]=some y1:=hf 1 _ rfl
  have g2:DataW.trod enc Try.prog W base sp held n 3 [v2]=some y2:=hf 2 _ rfl
  have g3:DataW.trod enc Try.prog W base sp held n 27 [v3,v4,v5,v6,v7,v8,v9,v10]=some y3:=hf 3 _ rfl
  have g4:DataW.trod enc Try.prog W base sp held n 27 [v11,v12,v13,v14,v15,v16,v17,v18]=some y4:=hf 4 _ rfl
  have g5:DataW.trod enc Try.prog W base sp held n 3 [v19]=some y5:=hf 5 _ rfl
  have g6:DataW.trod enc Try.prog W base sp held n 28 [v20]=some y6:=hf 6 _ rfl
  have z1:Sized 9 y1.1:=sized_agg Try.underlying30 hw 1 _ _ rfl rfl
  have z3:Sized 27 y3.1:=sized_agg Try.underlying30 hw 3 _ _ rfl rfl
  have z4:Sized 27 y4.1:=sized_agg Try.underlying30 hw 4 _ _ rfl rfl
  have z6:Sized 28 y6.1:=sized_agg Try.underlying30 hw 6 _ _ rfl rfl
  obtain ⟨k,e0,_,w0⟩:=DataW.trod_int Try.underlying3 g0
  obtain ⟨s,e2,e2',_⟩:=DataW.trod_string Try.underlying9 g1
  obtain ⟨vs,e1,_,w1⟩:=DataW.trod_int Try.underlying3 g2
  obtain ⟨ps,e5,_,w5⟩:=DataW.trod_int Try.underlying3 g5
  obtain rfl:v0=.int .i64 k:=by simpa using e0
  obtain rfl:v1=.string s:=by simpa using e2
  obtain rfl:v2=.int .i64 vs:=by simpa using e1
  obtain rfl:v19=.int .i64 ps:=by simpa using e5
  have hs:s.size≤140737488355328:=by
   rw [e2'] at z1
   have:=sized_str z1
   simp at this
   have e:s.size=s.data.size:=rfl
   omega
  obtain ⟨t,p,he,ht⟩:=tm_open n n (Nat.le_refl _) _ _ g3 z3
  obtain ⟨t2,p2,he2,ht2⟩:=tm_open n n (Nat.le_refl _) _ _ g4 z4
  obtain ⟨ks,C,e,q,rfl,hlen,hct⟩:=cts_open g6 z6
  refine ⟨⟨k,s,vs,t,t2,ps,ks⟩,⟨p,p2,C,e,q⟩,?_,⟨ht,ht2,hlen,hs,hct⟩,w1⟩
  unfold dcC
  rw [← he,← he2]
  rfl
end
end Go.Proofs.Ytcgkeolgflphiaa

namespace Go.Proofs.Ytcgkeolgflphiaa
open Go.RowKit Go.Proofs.YtcgkeolgflphiaaW.PrintWords Go.RegionInvYtcgkeolgflphiaa Go.ChangeShapes Go.WideShapes Go.Deep

section
variable {H:Type} {enc:TypeId × Value→H} {W:World} {base:Nat} {sp:Nat→Bool} {held:Bool}
set_option maxRecDepth 100000 in
theorem dcs_open {fuel:Nat} {v7:Value} {y5:DataW H × List MemPlace} (g5:DataW.trod enc Try.prog W base sp held fuel 42 [v7]=some y5) (z5:Sized 42 y5.1) :
  ∃ (xs:List Dc) (A:Option Addr) (c:Nat) (q:Nat→DPl),v7=.slice A xs.length c∧xs.length≤9223372036854775807∧DcsS W (fun _=>True) A q xs:=by
 rcases DataW.trod_slice Try.underlying42 g5 with ⟨e5,_⟩ | ⟨a,len,cap,elems,rest,n',hn',e5,hy,_,hle,hm,hlen,hel,_,_⟩
 ·obtain rfl:v7=.slice none 0 0:=by simpa using e5
  exact ⟨[],none,0,fun _=>⟨default,default,none,0,fun _=>default⟩,rfl,by simp,fun i x hx=>by simp at hx⟩
 ·obtain rfl:v7=.slice (some a) len cap:=by simpa using e5
  subst hy
  have hz:=(sized_slices Try.underlying42 z5).2
  have hc8:Try.prog.cellsOf 30=21:=by kernel_rfl
  rw [hc8] at hel
  have each:∀ i,i<len→∃ q:Dc × DPl,W.cells? base (a.add (i * 21)) 21=some (dcC q.2 q.1)∧DcS W (fun _=>True) q.2 q.1:=by
   intro i hi
   have hq:=hel i hi
   rw [List.getElem?_eq_getElem (by omega)] at hq
   obtain ⟨cs',h1,h2⟩:=Option.bind_eq_some_iff.1 hq
   obtain ⟨t,p,rfl,h3,h4⟩:=dc_open n' cs' _ h2 (hz i _ (by rw [List.getElem?_map,List.getElem?_eq_getElem (by omega)];rfl))
   exact ⟨(t,p),h1,h3⟩
  haveI:Inhabited (Dc × DPl):=⟨(⟨0,⟨#[]⟩,0,default,default,0,[]⟩,⟨default,default,none,0,fun _=>default⟩)⟩
  obtain ⟨q,hq⟩:=choose_lt each
  have hcell:∀ i,i<len→∀ j,j<21→W.cell? ((a.add (i * 21)).add j)=(dcC (q i).2 (q i).1)[j]?:=fun i hi j hj=>(World.cells?_some (hq i hi).1).2.2 j hj
  have hget:∀ (i:Nat) (x:Dc),((List.range len).map fun i=>(q i).1)[i]?=some x→i<len∧x=(q i).1:=by
   intro i x hx
   have hi:i<len:=by
    rcases Nat.lt_or_ge i len with h | h
    ·exact h
    ·rw [List.getElem?_eq_none (by simpa using h)] at hx;cases hx
   rw [List.getElem?_map,List.getElem?_range hi] at hx
   exact ⟨hi,(Option.some.inj hx).symm⟩
  refine ⟨(List.range len).map fun i=>(q i).1,some a,cap,fun i=>(q i).2,by simp,by simp;simp only [maxLen] at hm;omega,fun i x hx=>⟨?_,?_⟩⟩
  ·obtain ⟨hi,rfl⟩:=hget i x hx
   have h0:=hcell 0 (by omega) 0 (by omega)
   simp only [Nat.zero_mul,Addr.add,if_true] at h0
   have hsp:a.spot=none:=plain_addr (h0.trans (by rfl))
   obtain ⟨b,o,z⟩:=a
   obtain rfl:z=none:=hsp
   refine ⟨b,o,rfl,trivial,fun j v hv=>?_⟩
   have hj:j<21:=by
    rcases Nat.lt_or_ge j 21 with h | h
    ·exact h
    ·rw [List.getElem?_eq_none (by exact h)] at hv;cases hv
   have c0:=hcell i hi j hj
   simp only [add_flat] at c0
   rw [c0]
   exact hv
  ·obtain ⟨hi,rfl⟩:=hget i x hx
   exact (hq i hi).2
set_option maxRecDepth 100000 in
theorem dcs_in {v:Value} {d:DataW H} {ps:List MemPlace} {r:Reach} {b0:Nat} (hv:Value.okWide Try.prog W r b0 42 v) (h:DataW.Trod enc Try.prog W base sp held 42 v d ps) (hw:Sized 42 d) :
  ∃ (xs:List Dc) (A:Option Addr) (c n:Nat) (q:Nat→DPl),v=.slice A n c∧n=xs.length∧n≤9223372036854775807∧DcsS W (fun _=>True) A q xs:=by
 obtain ⟨a,len,cap,rfl⟩:=okWide_slice Try.underlying42 hv
 obtain ⟨fuel,hf⟩:=h
 obtain ⟨xs,A,c,q,he,hx9,hx⟩:=dcs_open (v7:=.slice a len cap) hf hw
 exact ⟨xs,A,c,_,q,he,rfl,hx9,hx⟩
end
end Go.Proofs.Ytcgkeolgflphiaa
