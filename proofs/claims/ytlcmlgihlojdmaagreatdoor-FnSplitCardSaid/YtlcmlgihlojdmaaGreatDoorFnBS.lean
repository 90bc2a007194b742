/-
 Contracts of functions. Conditions: as each theorem says.
-/
import Derived.Test.YtlcmlgihlojdmaaGreatDoorFnBI
import Derived.Test.YtlcmlgihlojdmaaGreatDoorAwShed
namespace Go.Proofs.YtlcmlgihlojdmaaGreatDoor
open Go.AW
set_option linter.unusedVariables false
set_option linter.unusedSimpArgs false
set_option maxRecDepth 4000
open List
open Nat (reduceEqDiff reduceLeDiff)
def aG_(st:a9_):Nat→Int
 | 0=>0
 | n+1=>if st (64-(n:Int))=none then 64-(n:Int)else aG_ st n
def aF_(p:ap_):ap_×ap_×ByteArray :=
 if p.Leaf=true then(⟨true,p.Keys.take 3,p.Vals.take 3,[]⟩,⟨true,p.Keys.drop 3,p.Vals.drop 3,[]⟩,p.Keys.getD 3 ⟨#[]⟩)
 else(⟨false,p.Keys.take 2,[],p.Kids.take 3⟩,⟨false,p.Keys.drop 3,[],p.Kids.drop 3⟩,p.Keys.getD 2 ⟨#[]⟩)
theorem pq_(sz:Nat):∀(S:Sit) (x:Value),Rep S (.val (.slice none 0 0)) x→Rep S (.list 0 sz []) x:=by
 intro S x r
 simp only[Rep]at r
 subst r
 simp[Rep]
structure dY_ where
 id:Int
 a:AV
 b:AV
 c:AV
 d:AV
def dY_.cells(s:dY_):List AV:=[.val (.int .i64 s.id),s.a,s.b,s.c,s.d]
def gS_(p:dY_):Bool→List dY_→List dY_
 | dn,[]=>if dn=true then []else [p]
 | dn,e::r=>(if(!dn&&decide (e.id≥p.id))=true then [p]else [])++((if decide (e.id=p.id)=true then []else [e])++gS_ p (dn||decide (e.id≥p.id)) r)
theorem jv_(p:dY_):∀(dn:Bool) (l:List dY_),(gS_ p dn l).length≤l.length+1
 | true,[]=>by simp[gS_]
 | false,[]=>by simp[gS_]
 | true,e::r=>by
  have:=jv_ p true r
  simp only[gS_,Bool.not_true,Bool.false_and,Bool.false_eq_true,if_false,Bool.true_or,nil_append,la_,lc_]
  split<;>simp<;>omega
 | false,e::r=>by
  have h1:=jv_ p true r
  have h2:=jv_ p false r
  have h3:∀r,(gS_ p true r).length≤r.length:=by
   intro r
   induction r with
   | nil=>simp[gS_]
   | cons x r ih =>
    simp only[gS_,Bool.not_true,Bool.false_and,Bool.false_eq_true,if_false,Bool.true_or,nil_append,la_,lc_]
    split<;>simp<;>omega
  have h4:=h3 r
  simp only[gS_,Bool.not_false,Bool.true_and,Bool.false_or,la_,lc_]
  cases decide (e.id≥p.id)
  ·simp only[Bool.false_eq_true,if_false]
   split<;>simp<;>omega
  ·simp only[if_true]
   split<;>simp<;>omega
def dY_.ofG(s:ad_):dY_:=⟨s.Id,.val (.bool s.Page.Leaf),.list 0 1 (s.Page.Keys.map ak_),.list 0 1 (s.Page.Vals.map ak_),.list 0 1 (s.Page.Kids.map aK_)⟩
def aq_(s:ad_):Bool→List ad_→List ad_
 | dn,[]=>if dn=true then []else [s]
 | dn,e::r=>(if(!dn&&decide (e.Id≥s.Id))=true then [s]else [])++((if decide (e.Id=s.Id)=true then []else [e])++aq_ s (dn||decide (e.Id≥s.Id)) r)
theorem po_(s:ad_):∀(dn:Bool) (l:List ad_),gS_ (dY_.ofG s) dn (l.map dY_.ofG)=(aq_ s dn l).map dY_.ofG
 | dn,[]=>by
  simp only[gS_,aq_,map_nil]
  split<;>rfl
 | dn,e::r=>by
  have h1:(dY_.ofG e).id=e.Id:=rfl
  have h2:(dY_.ofG s).id=s.Id:=rfl
  simp only[gS_,aq_,map_cons,map_append,h1,h2,po_ s _ r]
  congr 1
  ·split<;>rfl
  ·congr 1
   split<;>rfl
def b2_(p:ap_):Bool:=decide (6<p.Keys.length)||decide (6<p.Kids.length)
def up2(sl:List ad_)(id:Int)(p:ap_):List ad_:=aq_ ⟨aG_ (aa_ sl) 64,(aF_ p).2.1⟩ false (aq_ ⟨id,(aF_ p).1⟩ false sl)
def aD_(u:ap_)(at':Nat)(key:ByteArray)(other:Int):ap_:=⟨u.Leaf,u.Keys.take at'++key::u.Keys.drop at',u.Vals,u.Kids.take (at'+1)++other::u.Kids.drop (at'+1)⟩
def cN_(key:ByteArray)(a b:Int):ap_:=⟨false,[key],[],[a,b]⟩
theorem jr_(s:ad_)(l:List ad_):(aq_ s false l).length≤l.length+1:=by
 have:=jv_ (dY_.ofG s) false (l.map dY_.ofG)
 rw[po_,List.length_map,List.length_map]at this
 exact this
def df_(sl:List ad_):Prop:=sl.Pairwise fun a b=>a.Id<b.Id
theorem i4_(id:Int):aa_ [] id=none:=rfl
theorem bo_(e:ad_)(r:List ad_)(id:Int):aa_ (e::r) id=if e.Id=id then some e.Page else aa_ r id:=by
 unfold aa_
 rw[find?_cons]
 by_cases h:e.Id=id
 ·simp[h]
 ·have:(e.Id==id)=false:=by simpa using h
  simp[this,h]
theorem kL_{r:List ad_}{id:Int}(h:∀x∈r,id<x.Id):aa_ r id=none:=by
 unfold aa_
 have:r.find? (fun s=>s.Id==id)=none:=by
  rw[find?_eq_none]
  intro x hx e
  have h1:=h x hx
  have h2:x.Id=id:=by simpa using e
  omega
 rw[this];rfl
theorem dx_{sl:List ad_}{id:Int}{p:ap_}(h:aa_ sl id=some p):⟨id,p⟩∈sl:=by
 induction sl with
 | nil=>cases h
 | cons e r ih =>
  rw[bo_]at h
  split at h
  ·rename_i q
   have:=Option.some.inj h
   subst q this
   exact mem_cons_self
  ·exact mem_cons_of_mem _ (ih h)
theorem iH_{sl:List ad_}(hr:df_ sl){s:ad_}(h:s∈sl):aa_ sl s.Id=some s.Page:=by
 induction sl with
 | nil=>cases h
 | cons e r ih =>
  obtain⟨h1,h2⟩:=pairwise_cons.1 hr
  rw[bo_]
  rcases mem_cons.1 h with q|q
  ·rw[if_pos (by rw[q]),q]
  ·have:=h1 s q
   rw[if_neg (by omega)]
   exact ih h2 q
theorem n0_(s:ad_):∀l:List ad_,(∀x∈l,s.Id<x.Id)→aq_ s true l=l
 | [],_=>by simp[aq_]
 | e::r,h=>by
  have h1:=h e mem_cons_self
  have hne:¬ e.Id=s.Id:=by omega
  simp[aq_,hne,n0_ s r fun x hx=>h x (mem_cons_of_mem _ hx)]
theorem j8_{e:ad_}{r:List ad_}(hr:df_ (e::r))(s:ad_):aq_ s false (e::r)=if e.Id<s.Id then e::aq_ s false r else if e.Id=s.Id then s::r else s::e::r:=by
 have hlt:∀x∈r,e.Id<x.Id:=(pairwise_cons.1 hr).1
 by_cases h1:e.Id<s.Id
 ·have h2:decide (e.Id≥s.Id)=false:=decide_eq_false (by omega)
  have h3:decide (e.Id=s.Id)=false:=decide_eq_false (by omega)
  rw[if_pos h1,aq_,h2,h3];rfl
 ·have h2:decide (e.Id≥s.Id)=true:=decide_eq_true (by omega)
  have h4:=n0_ s r fun x hx=>by have:=hlt x hx;omega
  rw[if_neg h1,aq_,h2,Bool.or_true,h4]
  by_cases h3:e.Id=s.Id
  ·rw[if_pos h3,decide_eq_true h3];rfl
  ·rw[if_neg h3,decide_eq_false h3];rfl
theorem be_{s:ad_}:∀{sl:List ad_},df_ sl→∀id,aa_ (aq_ s false sl) id=if s.Id=id then some s.Page else aa_ sl id
 | [],_,id=>by simp[aq_,bo_,i4_]
 | e::r,h,id=>by
  have hr:df_ r:=(pairwise_cons.1 h).2
  have ih:=be_ (s:=s) hr id
  rw[j8_ h s]
  split
  ·rename_i h1
   rw[bo_,ih,bo_]
   by_cases q:e.Id=id
   ·have:¬ s.Id=id:=by omega
    rw[if_pos q,if_neg this,if_pos q]
   ·rw[if_neg q,if_neg q]
  ·split
   ·rename_i h1 h2
    rw[bo_,bo_]
    by_cases q:s.Id=id
    ·rw[if_pos q,if_pos q]
    ·have:¬ e.Id=id:=by omega
     rw[if_neg q,if_neg q,if_neg this]
   ·rw[bo_]
theorem re_{s x:ad_}:∀{sl:List ad_},df_ sl→x∈aq_ s false sl→x=s∨x∈sl
 | [],_,h=>by simp[aq_]at h;exact .inl h
 | e::r,hr,h=>by
  rw[j8_ hr s]at h
  split at h
  ·rcases mem_cons.1 h with q|q
   ·exact .inr (q▸mem_cons_self)
   ·rcases re_ (pairwise_cons.1 hr).2 q with q|q
    ·exact .inl q
    ·exact .inr (mem_cons_of_mem _ q)
  ·split at h
   ·rcases mem_cons.1 h with q|q
    ·exact .inl q
    ·exact .inr (mem_cons_of_mem _ q)
   ·rcases mem_cons.1 h with q|q
    ·exact .inl q
    ·exact .inr q
theorem hG_{s:ad_}:∀{sl:List ad_},df_ sl→df_ (aq_ s false sl)
 | [],_=>by simp[aq_,df_]
 | e::r,hr=>by
  obtain⟨h1,h2⟩:=pairwise_cons.1 hr
  rw[j8_ hr s]
  split
  ·rename_i q
   refine pairwise_cons.2 ⟨fun x hx=>?_,hG_ h2⟩
   rcases re_ h2 hx with rfl|hx
   ·exact q
   ·exact h1 x hx
  ·split
   ·rename_i q1 q2
    refine pairwise_cons.2 ⟨fun x hx=>?_,h2⟩
    have:=h1 x hx;omega
   ·rename_i q1 q2
    refine pairwise_cons.2 ⟨fun x hx=>?_,hr⟩
    rcases mem_cons.1 hx with rfl|hx
    ·omega
    ·have:=h1 x hx;omega
theorem pa_:∀{a b:List ad_},df_ a→df_ b→(∀id,aa_ a id=aa_ b id)→a=b
 | [],[],_,_,_=>rfl
 | [],e::r,_,_,h=>by have:=h e.Id;rw[bo_,if_pos rfl,i4_]at this;cases this
 | e::r,[],_,_,h=>by have:=h e.Id;rw[bo_,if_pos rfl,i4_]at this;cases this
 | e::r,f::q,ha,hb,h=>by
  obtain⟨a1,a2⟩:=pairwise_cons.1 ha
  obtain⟨b1,b2⟩:=pairwise_cons.1 hb
  have lt:∀{x y:ad_} {z:List ad_},x.Id<y.Id→(∀w∈z,y.Id<w.Id)→∀w∈y::z,x.Id<w.Id:=by
   intro x y z h1 h2 w hw
   rcases mem_cons.1 hw with rfl|hw
   ·exact h1
   ·have:=h2 w hw;omega
  have he:e.Id=f.Id:=by
   rcases Int.lt_trichotomy e.Id f.Id with z|z|z
   ·have:=h e.Id
    rw[bo_,if_pos rfl,kL_ (lt z b1)]at this
    cases this
   ·exact z
   ·have:=h f.Id
    rw[bo_ f,if_pos rfl,kL_ (lt z a1)]at this
    cases this
  have hp:e.Page=f.Page:=by
   have:=h e.Id
   rw[bo_,bo_,if_pos rfl,if_pos he.symm]at this
   exact Option.some.inj this
  have hrest:r=q:=pa_ a2 b2 fun id=>by
   by_cases z:e.Id=id
   ·rw[kL_ (fun x hx=>z▸a1 x hx),kL_ (fun x hx=>by have:=b1 x hx;omega)]
   ·have:=h id
    rwa [bo_,bo_,if_neg z,if_neg (fun w=>z (he.trans w))]at this
  obtain⟨i1,p1⟩:=e
  obtain⟨i2,p2⟩:=f
  simp only at he hp
  rw[he,hp,hrest]
theorem mS_{st st':a9_}(h:∀id,(st id).isSome=(st' id).isSome):∀n,aG_ st n=aG_ st' n
 | 0=>rfl
 | n+1=>by
  have h1:(st (64-(n:Int))=none)=(st' (64-(n:Int))=none):=by
   have:=h (64-(n:Int))
   cases e1:st (64-(n:Int))<;>cases e2:st' (64-(n:Int))<;>rw[e1,e2]at this<;>first|rfl|(simp;done)|(simp at this;done)
  simp only[aG_,h1,mS_ h n]
theorem ei_{st:a9_}:∀n,n≤64→aG_ st n=0∨(1≤aG_ st n∧aG_ st n≤64∧st (aG_ st n)=none)
 | 0,_=>.inl rfl
 | n+1,h=>by
  rw[aG_]
  split
  ·rename_i q
   exact .inr ⟨by omega,by omega,q⟩
  ·exact ei_ n (by omega)
theorem em_{p:ap_}(h:pageB p=true)(hl:p.Leaf=true):cF_ p.Keys=true∧p.Keys.length≤6∧p.Vals.length=p.Keys.length∧p.Kids=[]∧∀v∈p.Vals,v.size≤64:=by
 simp only[pageB,hl,if_true,Bool.and_eq_true,decide_eq_true_eq,all_eq_true]at h
 obtain⟨h1,⟨⟨h2,h3⟩,h4⟩,h5⟩:=h
 exact⟨h1,by omega,by omega,eq_nil_of_length_eq_zero h5,fun v hv=>by have:=h4 v hv;omega⟩
theorem cq_{p:ap_}(h:pageB p=true)(hl:p.Leaf=false):cF_ p.Keys=true∧2≤p.Kids.length∧p.Kids.length≤6∧p.Kids.length=p.Keys.length+1∧p.Vals=[]∧∀k∈p.Kids,1≤k∧k≤64:=by
 simp only[pageB,hl,Bool.false_eq_true,if_false,ba_,Bool.and_eq_true,decide_eq_true_eq,all_eq_true]at h
 obtain⟨h1,⟨⟨⟨h2,h2'⟩,h3⟩,h4⟩,h5⟩:=h
 exact⟨h1,by omega,by omega,by omega,eq_nil_of_length_eq_zero h4,fun k hk=>h5 k hk⟩
def shapeP(p:ap_):Prop:=(p.Leaf=true→p.Vals.length=p.Keys.length∧p.Kids=[]∧p.Keys.length≤7)∧(p.Leaf=false→p.Kids.length=p.Keys.length+1∧p.Vals=[]∧p.Kids.length≤7)∧(∀k∈p.Keys,bC_ k=true)∧∀v∈p.Vals,v.size≤64
theorem p2_{xs:List ByteArray}(h:cF_ xs=true):∀k∈xs,bC_ k=true:=by
 intro k hk
 obtain⟨j,hj,rfl⟩:=mem_iff_getElem.1 hk
 rw[cF_,all_eq_true]at h
 have:=h j (by simpa using hj)
 rw[mP_ hj,Bool.and_eq_true]at this
 exact this.1
theorem dR_{p:ap_}(h:pageB p=true):shapeP p:=by
 have hk:cF_ p.Keys=true:=by
  rw[pageB,Bool.and_eq_true]at h
  exact h.1
 refine⟨fun hl=>?_,fun hl=>?_,p2_ hk,fun v hv=>?_⟩
 ·obtain⟨_,h1,h2,h3,_⟩:=em_ h hl
  exact⟨h2,h3,by omega⟩
 ·obtain⟨_,_,h1,h2,h3,_⟩:=cq_ h hl
  exact⟨h2,h3,by omega⟩
 ·cases hl:p.Leaf with
  | true =>
   obtain⟨_,h1,h2,h3,h4⟩:=em_ h hl
   exact h4 v hv
  | false =>
   obtain⟨_,_,h1,h2,h3,_⟩:=cq_ h hl
   rw[h3]at hv;cases hv
theorem shapeP.small{p:ap_}(h:shapeP p):p.Keys.length≤7∧p.Vals.length≤7∧p.Kids.length≤7:=by
 cases hl:p.Leaf with
 | true =>
  obtain⟨h1,h2,h3⟩:=h.1 hl
  rw[h2]
  exact⟨h3,by omega,by simp⟩
 | false =>
  obtain⟨h1,h2,h3⟩:=h.2.1 hl
  rw[h2]
  exact⟨by omega,by simp,by omega⟩
theorem shapeP.smallP{p:ap_}(h:shapeP p):smallP p:=by
 obtain⟨h1,h2,h3⟩:=h.small
 exact⟨by omega,by omega,by omega⟩
theorem ik_{xs:List ByteArray}{key:ByteArray}(h:cw_ xs key=true):lbK xs key<xs.length:=by
 rw[cw_,decide_eq_true_eq]at h
 exact(List.getElem?_eq_some_iff.1 h).1
theorem eJ_(p:ap_)(key:ByteArray):(aH_ p key).1≤p.Keys.length:=by
 unfold aH_
 split
 ·rename_i h
  simp only[Bool.and_eq_true]at h
  have:=ik_ h.2
  exact this
 ·exact jY_ _ _
theorem hg_{p:ap_}(hl:p.Leaf=true)(key:ByteArray):aH_ p key=(lbK p.Keys key,cw_ p.Keys key):=by
 unfold aH_;rw[hl];rfl
theorem iQ_{p:ap_}(h:shapeP p)(hl:p.Leaf=true)(hf:b2_ p=true):p.Keys.length=7:=by
 obtain⟨h1,h2,h3⟩:=h.1 hl
 simp only[b2_,h2,Bool.or_eq_true,decide_eq_true_eq,ln_]at hf
 omega
theorem jl_{p:ap_}(h:shapeP p)(hl:p.Leaf=false)(hf:b2_ p=true):p.Keys.length=6∧p.Kids.length=7:=by
 obtain⟨h1,h2,h3⟩:=h.2.1 hl
 simp only[b2_,Bool.or_eq_true,decide_eq_true_eq]at hf
 omega
theorem r7_{p:ap_}(h:pageB p=true):b2_ p=false:=by
 cases hl:p.Leaf with
 | true =>
  obtain⟨_,h1,h2,h3,_⟩:=em_ h hl
  simp only[b2_,h3,ln_,Bool.or_eq_false_iff,decide_eq_false_iff_not]
  omega
 | false =>
  obtain⟨_,_,h1,h2,h3,_⟩:=cq_ h hl
  simp only[b2_,Bool.or_eq_false_iff,decide_eq_false_iff_not]
  omega
theorem p5_{p:ap_}(h:shapeP p)(hf:b2_ p=true):shapeP (aF_ p).1∧shapeP (aF_ p).2.1:=by
 cases hl:p.Leaf with
 | true =>
  have h1:=iQ_ h hl hf
  obtain⟨h2,h3,h4⟩:=h.1 hl
  rw[aF_,if_pos hl]
  refine⟨⟨fun _=>⟨?_,rfl,?_⟩,fun e=>(by cases e),fun k hk=>h.2.2.1 k (mem_of_mem_take hk),fun v hv=>h.2.2.2 v (mem_of_mem_take hv)⟩,⟨fun _=>⟨?_,rfl,?_⟩,fun e=>(by cases e),fun k hk=>h.2.2.1 k (mem_of_mem_drop hk),fun v hv=>h.2.2.2 v (mem_of_mem_drop hv)⟩⟩<;>simp only[length_take,length_drop]<;>omega
 | false =>
  obtain⟨h1,h5⟩:=jl_ h hl hf
  obtain⟨h2,h3,h4⟩:=h.2.1 hl
  rw[aF_,if_neg (by rw[hl];simp)]
  refine⟨⟨fun e=>(by cases e),fun _=>⟨?_,rfl,?_⟩,fun k hk=>h.2.2.1 k (mem_of_mem_take hk),fun v hv=>(by cases hv)⟩,⟨fun e=>(by cases e),fun _=>⟨?_,rfl,?_⟩,fun k hk=>h.2.2.1 k (mem_of_mem_drop hk),fun v hv=>(by cases hv)⟩⟩<;>simp only[length_take,length_drop]<;>omega
theorem sz_{p:ap_}(h:shapeP p)(hf:b2_ p=true):bC_ (aF_ p).2.2=true:=by
 cases hl:p.Leaf with
 | true =>
  have h1:=iQ_ h hl hf
  rw[aF_,if_pos hl]
  show bC_ (p.Keys.getD 3 ⟨#[]⟩)=true
  rw[getD_eq_getElem?_getD,getElem?_eq_getElem (by omega)]
  exact h.2.2.1 _ (getElem_mem _)
 | false =>
  have h1:=jl_ h hl hf
  rw[aF_,if_neg (by rw[hl];simp)]
  show bC_ (p.Keys.getD 2 ⟨#[]⟩)=true
  rw[getD_eq_getElem?_getD,getElem?_eq_getElem (by omega)]
  exact h.2.2.1 _ (getElem_mem _)
def aJ_(T:Int→ByteArray→ByteArray→List Int→Prop):List Int→List ByteArray→ByteArray→ByteArray→List Int→Prop
 | [],_,_,_,_=>False
 | [kid],[],low,high,ids=>T kid low high ids
 | _::_::_,[],_,_,_=>False
 | kid::kids,k::keys,low,high,ids=>∃a b,ids=a++b∧T kid low k a∧aJ_ T kids keys k high b
def au_(st:a9_):Nat→Bool→Int→ByteArray→ByteArray→List Int→Prop
 | 0,top,id,low,high,ids=>∃p,st id=some p∧p.Leaf=true∧pageB p=true∧eQ_ p low high=false∧(top=true∨3≤p.Keys.length)∧ids=[id]
 | h+1,top,id,low,high,ids=>∃p,st id=some p∧p.Leaf=false∧pageB p=true∧eQ_ p low high=false∧(top=true∨3≤p.Kids.length)∧∃r,ids=id::r∧aJ_ (fun kid lo hi m=>au_ st h false kid lo hi m) p.Kids p.Keys low high r
theorem aJ_.mono{T T':Int→ByteArray→ByteArray→List Int→Prop}:∀{kids:List Int} {keys:List ByteArray} {low high:ByteArray} {ids:List Int},(∀kid lo hi m,(∀i∈m,i∈ids)→T kid lo hi m→T' kid lo hi m)→aJ_ T kids keys low high ids→aJ_ T' kids keys low high ids
 | [],_,_,_,_,_,h=>h.elim
 | [kid],[],low,high,ids,hT,h=>hT _ _ _ _ (fun _ q=>q) h
 | _::_::_,[],_,_,_,_,h=>h.elim
 | [kid],k::keys,low,high,ids,hT,h=>by
  obtain⟨a,b,e,h1,h2⟩:=h
  exact h2.elim
 | kid::kid'::kids,k::keys,low,high,ids,hT,h=>by
  obtain⟨a,b,e,h1,h2⟩:=h
  exact⟨a,b,e,hT _ _ _ _ (fun i hi=>by rw[e];exact mem_append_left _ hi) h1,aJ_.mono (fun kid lo hi m hm q=>hT _ _ _ _ (fun i hi=>by rw[e];exact mem_append_right _ (hm i hi)) q) h2⟩
theorem aJ_.len{T:Int→ByteArray→ByteArray→List Int→Prop}:∀{kids:List Int} {keys:List ByteArray} {low high:ByteArray} {ids:List Int},aJ_ T kids keys low high ids→kids.length=keys.length+1
 | [],_,_,_,_,h=>h.elim
 | [kid],[],low,high,ids,h=>rfl
 | _::_::_,[],_,_,_,h=>h.elim
 | [kid],k::keys,low,high,ids,h=>by
  obtain⟨a,b,e,h1,h2⟩:=h
  exact h2.elim
 | kid::kid'::kids,k::keys,low,high,ids,h=>by
  obtain⟨a,b,e,h1,h2⟩:=h
  have:=aJ_.len h2
  simp only[lc_]at this⊢
  omega
theorem aJ_.get{T:Int→ByteArray→ByteArray→List Int→Prop}:∀{kids:List Int} {keys:List ByteArray} {low high:ByteArray} {ids:List Int} (k:Nat) (hk:k<kids.length),aJ_ T kids keys low high ids →
 ∃a m b,ids=a++(m++b)∧T kids[k] (if 0<k then keys.getD (k-1) ⟨#[]⟩else low) (if k<keys.length then keys.getD k ⟨#[]⟩else high) m
 | [],_,_,_,_,_,hk,h=>h.elim
 | [kid],[],low,high,ids,k,hk,h=>by
  have:k=0:=by simpa using hk
  subst this
  exact⟨[],ids,[],by simp,h⟩
 | _::_::_,[],_,_,_,_,_,h=>h.elim
 | [kid],k'::keys,low,high,ids,k,hk,h=>by
  obtain⟨a,b,e,h1,h2⟩:=h
  exact h2.elim
 | kid::kid'::kids,k'::keys,low,high,ids,k,hk,h=>by
  obtain⟨a,b,e,h1,h2⟩:=h
  cases k with
  | zero=>exact⟨[],a,b,e,by simpa using h1⟩
  | succ k =>
   obtain⟨a',m,b',e',h3⟩:=aJ_.get (kids:=kid'::kids) k (by simpa using hk) h2
   refine⟨a++a',m,b',by rw[e,e'];simp,?_⟩
   have e1:(if 0<k+1 then(k'::keys).getD (k+1-1) ⟨#[]⟩else low)=if 0<k then keys.getD (k-1) ⟨#[]⟩else k':=by
    cases k with
    | zero=>rfl
    | succ k=>simp
   have e2:(if k+1<(k'::keys).length then(k'::keys).getD (k+1) ⟨#[]⟩else high)=if k<keys.length then keys.getD k ⟨#[]⟩else high:=by
    simp
   rw[e1,e2]
   exact h3
theorem au_.page{st:a9_}{h:Nat}{top:Bool}{id:Int}{low high:ByteArray}{ids:List Int}(t:au_ st h top id low high ids):∃p,st id=some p∧pageB p=true∧eQ_ p low high=false∧p.Leaf=decide (h=0)∧id∈ids:=by
 cases h with
 | zero =>
  obtain⟨p,h1,h2,h3,h4,h5,h6⟩:=t
  exact⟨p,h1,h3,h4,by rw[h2];rfl,by rw[h6];exact mem_cons_self⟩
 | succ h =>
  obtain⟨p,h1,h2,h3,h4,h5,r,h6,h7⟩:=t
  exact⟨p,h1,h3,h4,by rw[h2];simp,by rw[h6];exact mem_cons_self⟩
theorem au_.congr{st st':a9_}:∀{h:Nat} {top:Bool} {id:Int} {low high:ByteArray} {ids:List Int},(∀i∈ids,st' i=st i)→au_ st h top id low high ids→au_ st' h top id low high ids
 | 0,top,id,low,high,ids,hs,t=>by
  obtain⟨p,h1,h2,h3,h4,h5,h6⟩:=t
  exact⟨p,by rw[hs id (by rw[h6];exact mem_cons_self)];exact h1,h2,h3,h4,h5,h6⟩
 | h+1,top,id,low,high,ids,hs,t=>by
  obtain⟨p,h1,h2,h3,h4,h5,r,h6,h7⟩:=t
  refine⟨p,by rw[hs id (by rw[h6];exact mem_cons_self)];exact h1,h2,h3,h4,h5,r,h6,aJ_.mono (fun kid lo hi m hm q=>au_.congr (fun i hi=>hs i ?_) q) h7⟩
  rw[h6];exact mem_cons_of_mem _ (hm i hi)
theorem aJ_.has{T:Int→ByteArray→ByteArray→List Int→Prop}{Q:Int→Prop}(hQ:∀kid lo hi m,T kid lo hi m→∀i∈m,Q i):∀{kids:List Int} {keys:List ByteArray} {low high:ByteArray} {ids:List Int},aJ_ T kids keys low high ids→∀i∈ids,Q i
 | [],_,_,_,_,h=>h.elim
 | [kid],[],low,high,ids,h=>hQ _ _ _ _ h
 | _::_::_,[],_,_,_,h=>h.elim
 | [kid],k::keys,low,high,ids,h=>by
  obtain⟨a,b,e,h1,h2⟩:=h
  exact h2.elim
 | kid::kid'::kids,k::keys,low,high,ids,h=>by
  obtain⟨a,b,e,h1,h2⟩:=h
  intro i hi
  rw[e]at hi
  rcases mem_append.1 hi with q|q
  ·exact hQ _ _ _ _ h1 i q
  ·exact aJ_.has hQ h2 i q
theorem au_.has{st:a9_}:∀{h:Nat} {top:Bool} {id:Int} {low high:ByteArray} {ids:List Int},au_ st h top id low high ids→∀i∈ids,(st i).isSome=true
 | 0,top,id,low,high,ids,t=>by
  obtain⟨p,h1,h2,h3,h4,h5,h6⟩:=t
  intro i hi
  rw[h6,mem_singleton]at hi
  rw[hi,h1];rfl
 | h+1,top,id,low,high,ids,t=>by
  obtain⟨p,h1,h2,h3,h4,h5,r,h6,h7⟩:=t
  intro i hi
  rw[h6]at hi
  rcases mem_cons.1 hi with q|q
  ·rw[q,h1];rfl
  ·exact aJ_.has (Q:=fun i=>(st i).isSome=true) (fun kid lo hi m q=>au_.has q) h7 i q
theorem og_{p:ap_}{low high:ByteArray}{f:Int→ByteArray→ByteArray→List Int→Int→Bool×List Int×Int}{T:Nat→Int→ByteArray→ByteArray→List Int→Prop}{Q:List Int→Prop}(hQ:∀a b,Q a→Q (a++b)){d:Int}
 (hf:∀kid lo hi m e m' e',Q m→f kid lo hi m e=(true,m',e')→∃(h:Nat) (ids:List Int),T h kid lo hi ids∧m'=m++ids∧e'=d+h∧(0≤e→e=d+h)∧ids.Nodup∧∀i∈ids,i∉m) :
 ∀(r:List Int) (k:Nat) (met:List Int) (dep:Int) (met':List Int) (dep':Int),Q met→r=p.Kids.drop k→r≠[]→p.Kids.length=p.Keys.length+1→0≤d→c8_ f p low high k r met dep=(true,met',dep') →
  ∃(h:Nat) (ids:List Int),aJ_ (T h) r (p.Keys.drop k) (loK p low k) high ids∧met'=met++ids∧dep'=d+h∧(0≤dep→dep=d+h)∧ids.Nodup∧∀i∈ids,i∉met
 | [],_,_,_,_,_,_,_,hne,_,_,_=>absurd rfl hne
 | kid::r,k,met,dep,met',dep',hq,hr,_,hl,hd,hk=>by
  rw[c8_]at hk
  obtain⟨b,m1,e1⟩:∃b m1 e1,f kid (loK p low k) (hiK p high k) met dep=(b,m1,e1):=⟨_,_,_,rfl⟩
  obtain⟨e1,he⟩:=e1
  rw[he]at hk
  cases b with
  | false=>simp at hk
  | true =>
   simp only[if_true]at hk
   obtain⟨h,ids,t1,t2,t3,t4,t5,t6⟩:=hf _ _ _ _ _ _ _ hq he
   have hkl:k<p.Kids.length:=by
    have:=congrArg List.length hr
    simp only[lc_,length_drop]at this
    omega
   have hr2:r=p.Kids.drop (k+1):=by
    rw[drop_eq_getElem_cons hkl]at hr
    exact(List.cons.inj hr).2
   cases r with
   | nil =>
    have hkk:k=p.Keys.length:=by
     have:=congrArg List.length hr2
     simp only[ln_,length_drop]at this
     omega
    simp only[c8_,Prod.mk.injEq,true_and]at hk
    refine⟨h,ids,?_,by rw[←hk.1,t2],by rw[←hk.2,t3],t4,t5,t6⟩
    rw[drop_eq_nil_of_le (by omega)]
    have:hiK p high k=high:=by rw[hiK,if_neg (by omega)]
    rw[this]at t1
    exact t1
   | cons kid2 r =>
    have hk2:k<p.Keys.length:=by
     have:=congrArg List.length hr2
     simp only[lc_,length_drop]at this
     omega
    subst t2
    obtain⟨h',ids',s1,s2,s3,s4,s5,s6⟩:=og_ hQ hf (kid2::r) (k+1) (met++ids) e1 met' dep' (hQ _ _ hq) hr2 (by simp) hl hd hk
    have hh:h'=h:=by
     have:=s4 (by omega)
     omega
    subst hh
    have e1:hiK p high k=p.Keys[k]:=by rw[hiK,if_pos hk2,getD_eq_getElem?_getD,getElem?_eq_getElem hk2];rfl
    have e2:loK p low (k+1)=p.Keys[k]:=by rw[loK,if_pos (by omega),Nat.add_sub_cancel,getD_eq_getElem?_getD,getElem?_eq_getElem hk2];rfl
    rw[e1]at t1
    rw[e2]at s1
    refine⟨h',ids++ids',?_,by rw[s2,append_assoc],s3,t4,?_,?_⟩
    ·rw[drop_eq_getElem_cons hk2]
     exact⟨ids,ids',rfl,t1,s1⟩
    ·rw[nodup_append]
     refine⟨t5,s5,fun a ha b hb e=>?_⟩
     subst e
     exact s6 a hb (mem_append_right _ ha)
    ·intro i hi
     rcases mem_append.1 hi with q|q
     ·exact t6 i q
     ·exact fun z=>s6 i q (mem_append_left _ z)
theorem n2_{st:a9_}{root:Int}(hst:∀id p,st id=some p→pageB p=true):∀(n:Nat) (id:Int) (low high:ByteArray) (d:Int) (met:List Int) (dep:Int) (met':List Int) (dep':Int),0≤d→(id=root∨root∈met)→ca_ st root n id low high d met dep=(true,met',dep') →
 ∃(h:Nat) (ids:List Int),au_ st h (decide (id=root)) id low high ids∧met'=met++ids∧dep'=d+h∧(0≤dep→dep=d+h)∧ids.Nodup∧∀i∈ids,i∉met
 | 0,_,_,_,_,_,_,_,_,_,_,h=>by simp[ca_]at h
 | n+1,id,low,high,d,met,dep,met',dep',hd,hroot,h=>by
  rw[fR_]at h
  split at h
  ·simp at h
  ·rename_i p hp
   have hpb:=hst id p hp
   split at h
   ·simp at h
   ·rename_i hc
    have hni:id∉met:=by simpa using hc
    split at h
    ·simp at h
    ·rename_i ho
     have ho':eQ_ p low high=false:=by simpa using ho
     split at h
     ·simp at h
     ·rename_i hfl
      have hfill:decide (id=root)=true∨3≤bG_ p:=by
       cases hq:decide (id=root)
       ·rw[hq]at hfl
        right
        simp at hfl
        omega
       ·exact .inl rfl
      split at h
      ·rename_i hl
       simp only[Prod.mk.injEq,decide_eq_true_eq]at h
       obtain⟨h1,h2,h3⟩:=h
       rw[bG_,if_pos hl]at hfill
       refine⟨0,[id],⟨p,hp,hl,hpb,ho',hfill,rfl⟩,h2.symm,by omega,fun q=>?_,by simp,fun i hi=>by rw[mem_singleton]at hi;rw[hi];exact hni⟩
       rw[if_neg (by omega)]at h1
       omega
      ·rename_i hl
       have hl':p.Leaf=false:=by simpa using hl
       obtain⟨n1,n2,n3,n4,n5,n6⟩:=cq_ hpb hl'
       rw[bG_,if_neg hl]at hfill
       have hrm:root∈met++[id]:=by
        rcases hroot with q|q
        ·rw[q];simp
        ·exact mem_append_left _ q
       obtain⟨h',ids,t1,t2,t3,t4,t5,t6⟩:=og_ (p:=p) (low:=low) (high:=high) (T:=fun h kid lo hi m=>au_ st h false kid lo hi m) (Q:=fun m=>root∈m) (fun a b q=>mem_append_left _ q) (d:=d+1)
        (fun kid lo hi m e m' e' hm hw=>by
          obtain⟨h',ids,t1,t2,t3,t4,t5,t6⟩:=n2_ hst n kid lo hi (d+1) m e m' e' (by omega) (.inr hm) hw
          have hkr:decide (kid=root)=false:=by
           rw[decide_eq_false_iff_not]
           intro e
           obtain⟨_,_,_,_,_,hin⟩:=t1.page
           exact t6 kid hin (e▸hm)
          rw[hkr]at t1
          exact⟨h',ids,t1,t2,t3,t4,t5,t6⟩) p.Kids 0 (met++[id]) dep met' dep' hrm rfl (by intro e;rw[e]at n2;simp at n2) n4 (by omega) h
       refine⟨h'+1,id::ids,⟨p,hp,hl',hpb,ho',hfill,ids,rfl,t1⟩,by rw[t2];simp,by omega,fun q=>by have:=t4 q;omega,?_,?_⟩
       ·rw[nodup_cons]
        exact⟨fun q=>t6 id q (by simp),t5⟩
       ·intro i hi
        rcases mem_cons.1 hi with q|q
        ·rw[q];exact hni
        ·exact fun z=>t6 i q (mem_append_left _ z)
structure jh_(b:ay_)(h:Nat)(ids:List Int):Prop where
 slots:cQ_ b.Slots=true
 tree:au_ (aa_ b.Slots) h true b.Root ⟨#[]⟩ ⟨#[]⟩ ids
 nodup:ids.Nodup
 all:∀i,(aa_ b.Slots i).isSome=true→i∈ids
theorem ka_{sl:List ad_}(h:cQ_ sl=true):df_ sl :=
 pairwise_iff_getElem.2 fun i j hi hj hij=>ix_ h j i hij hj
theorem vx_:∀{a b:List Int},a.Nodup→a ⊆ b→a.length=b.length→b.Nodup→b ⊆ a:=by
 intro a b ha hab hl hb x hx
 by_cases h:x∈a
 ·exact h
 ·have h1:(x::a).Nodup:=nodup_cons.2 ⟨h,ha⟩
  have h2:(x::a) ⊆ b:=by
   intro y hy
   rcases mem_cons.1 hy with q|q
   ·rw[q];exact hx
   ·exact hab q
  have:=bH_ h1 h2
  simp only[lc_]at this
  omega
theorem sG_{b:ay_}(h:c3_ b=true):∃(hh:Nat) (ids:List Int),jh_ b hh ids:=by
 rw[c3_,Bool.and_eq_true,Bool.and_eq_true,decide_eq_true_eq]at h
 obtain⟨h1,h2,h3⟩:=h
 obtain⟨bb,met',dep',e⟩:∃bb met' dep',hT_ b=(bb,met',dep'):=⟨_,_,_,rfl⟩
 rw[e]at h2 h3
 simp only at h2 h3
 subst h2
 have hr:=ka_ h1
 obtain⟨hh,ids,t1,t2,t3,t4,t5,t6⟩:=n2_ (st:=aa_ b.Slots) (root:=b.Root) (fun id p hp=>(f7_ h1 (dx_ hp)).2.2) (b.Slots.length+1) b.Root ⟨#[]⟩ ⟨#[]⟩ 0 [] (-1) met' dep' (by omega) (.inl rfl) e
 rw[decide_eq_true rfl]at t1
 rw[nil_append]at t2
 subst t2
 refine⟨hh,met',h1,t1,t5,fun i hi=>?_⟩
 have hsub:met' ⊆ b.Slots.map ad_.Id:=by
  intro j hj
  have:=t1.has j hj
  obtain⟨p,hp⟩:=Option.isSome_iff_exists.1 this
  exact mem_map.2 ⟨_,dx_ hp,rfl⟩
 obtain⟨p,hp⟩:=Option.isSome_iff_exists.1 hi
 exact vx_ t5 hsub (by rw[length_map];omega) (jB_ h1) (mem_map.2 ⟨_,dx_ hp,rfl⟩)
def aE_(p:ap_)(has:Bool)(at':Nat)(key value:ByteArray):ap_ :=
 if has=true then⟨p.Leaf,p.Keys,p.Vals.set at' value,p.Kids⟩else⟨p.Leaf,p.Keys.take at'++key::p.Keys.drop at',p.Vals.take at'++value::p.Vals.drop at',p.Kids⟩
def bt0:ay_:=⟨0,[]⟩
structure cr_(sl:List ad_):Prop where
 rise:df_ sl
 pgs:∀id p,aa_ sl id=some p→1≤id∧id≤64∧shapeP p
theorem cr_.set{sl:List ad_}(h:cr_ sl){s:ad_}(h1:1≤s.Id∧s.Id≤64∧shapeP s.Page):cr_ (aq_ s false sl) :=
 ⟨hG_ h.rise,fun id p hp=>by
  rw[be_ h.rise]at hp
  split at hp
  ·rename_i q
   have:=Option.some.inj hp
   subst q this
   exact h1
  ·exact h.pgs id p hp⟩
theorem df_.ids{sl:List ad_}(h:df_ sl):(sl.map ad_.Id).Nodup:=by
 refine pairwise_map.2 (List.Pairwise.imp (fun hab=>?_) h)
 omega
theorem cr_.len{sl:List ad_}(h:cr_ sl):sl.length≤64:=by
 have h1:(sl.map ad_.Id) ⊆ (List.range 64).map (fun(k:Nat)=>(k:Int)+1):=by
  intro i hi
  obtain⟨s,hs,rfl⟩:=mem_map.1 hi
  obtain⟨a,b,_⟩:=h.pgs _ _ (iH_ h.rise hs)
  exact mem_map.2 ⟨(s.Id-1).toNat,by simp;omega,by omega⟩
 have:=bH_ h.rise.ids h1
 simpa using this
theorem cr_.page{sl:List ad_}(h:cr_ sl){s:ad_}(hs:s∈sl):shapeP s.Page:=(h.pgs _ _ (iH_ h.rise hs)).2.2
theorem jh_.ok{b:ay_}{h:Nat}{ids:List Int}(r:jh_ b h ids):cr_ b.Slots :=
 ⟨ka_ r.slots,fun id p hp=>by
  obtain⟨h1,h2,h3⟩:=f7_ r.slots (dx_ hp)
  exact⟨h1,h2,dR_ h3⟩⟩
structure de_(sl sl':List ad_)(ids:List Int):Prop where
 ok:cr_ sl'
 kept:∀j,j∉ids→(aa_ sl j).isSome=true→aa_ sl' j=aa_ sl j
 dom:∀j,(aa_ sl j).isSome=true→(aa_ sl' j).isSome=true
theorem de_.refl{sl:List ad_}(h:cr_ sl)(ids:List Int):de_ sl sl ids:=⟨h,fun _ _ _=>rfl,fun _ h=>h⟩
theorem de_.trans{sl sl1 sl2:List ad_}{i1 i2 ids:List Int}(a:de_ sl sl1 i1)(b:de_ sl1 sl2 i2)(h1:∀i∈i1,i∈ids)(h2:∀i∈i2,i∈ids):de_ sl sl2 ids :=
 ⟨b.ok,fun j hj hs=>(b.kept j (fun q=>hj (h2 j q)) (a.dom j hs)).trans (a.kept j (fun q=>hj (h1 j q)) hs),fun j hs=>b.dom j (a.dom j hs)⟩
theorem de_.set{sl:List ad_}(h:cr_ sl){s:ad_}(h1:1≤s.Id∧s.Id≤64∧shapeP s.Page):de_ sl (aq_ s false sl) [s.Id]:=by
 refine⟨h.set h1,fun j hj _=>?_,fun j hj=>?_⟩
 ·rw[be_ h.rise,if_neg (fun e=>hj (by rw[←e];exact mem_cons_self))]
 ·rw[be_ h.rise]
  split
  ·rfl
  ·exact hj
theorem de_.add{sl:List ad_}(h:cr_ sl){s:ad_}(h1:1≤s.Id∧s.Id≤64∧shapeP s.Page)(hn:aa_ sl s.Id=none)(ids:List Int):de_ sl (aq_ s false sl) ids:=by
 refine⟨h.set h1,fun j _ hj=>?_,fun j hj=>?_⟩
 ·rw[be_ h.rise,if_neg (fun e=>by rw[←e,hn]at hj;cases hj)]
 ·rw[be_ h.rise]
  split
  ·rfl
  ·exact hj
def bU_(sl:List ad_)(id:Int):List ad_×ByteArray×Int×Int :=
 match aa_ sl id with
 | none=>(sl,⟨#[]⟩,0,0)
 | some p=>if b2_ p=false then(sl,⟨#[]⟩,0,0)
  else if aG_ (aa_ sl) 64=0 then(aq_ ⟨id,(aF_ p).1⟩ false sl,⟨#[]⟩,0,4)
  else(up2 sl id p,(aF_ p).2.2,aG_ (aa_ sl) 64,0)
def bt_:Nat→List ad_→Int→ByteArray→ByteArray→List ad_×ByteArray×Int×Int
 | 0,sl,_,_,_=>(sl,⟨#[]⟩,0,0)
 | n+1,sl,id,key,value=>match aa_ sl id with
  | none=>(sl,⟨#[]⟩,0,0)
  | some p =>
   if p.Leaf=true then bU_ (aq_ ⟨id,aE_ p (aH_ p key).2 (aH_ p key).1 key value⟩ false sl) id
   else if(bt_ n sl (p.Kids.getD (aH_ p key).1 0) key value).2.2.2≠0 then((bt_ n sl (p.Kids.getD (aH_ p key).1 0) key value).1,⟨#[]⟩,0,(bt_ n sl (p.Kids.getD (aH_ p key).1 0) key value).2.2.2)
   else if(bt_ n sl (p.Kids.getD (aH_ p key).1 0) key value).2.2.1=0 then((bt_ n sl (p.Kids.getD (aH_ p key).1 0) key value).1,⟨#[]⟩,0,0)
   else bU_ (aq_ ⟨id,aD_ p (aH_ p key).1 (bt_ n sl (p.Kids.getD (aH_ p key).1 0) key value).2.1 (bt_ n sl (p.Kids.getD (aH_ p key).1 0) key value).2.2.1⟩ false (bt_ n sl (p.Kids.getD (aH_ p key).1 0) key value).1) id
theorem c2_{n:Nat}{sl:List ad_}{id:Int}{key value:ByteArray}{p:ap_}(hp:aa_ sl id=some p)(hl:p.Leaf=true):bt_ (n+1) sl id key value=bU_ (aq_ ⟨id,aE_ p (aH_ p key).2 (aH_ p key).1 key value⟩ false sl) id:=by
 rw[bt_,hp];simp only[hl,if_true]
theorem gK_{n:Nat}{sl:List ad_}{id:Int}{key value:ByteArray}{p:ap_}{sl':List ad_}{sep:ByteArray}{new code:Int}(hp:aa_ sl id=some p)(hl:p.Leaf=false)(hr:bt_ n sl (p.Kids.getD (aH_ p key).1 0) key value=(sl',sep,new,code)) :
 bt_ (n+1) sl id key value=if code≠0 then(sl',⟨#[]⟩,0,code)else if new=0 then(sl',⟨#[]⟩,0,0)else bU_ (aq_ ⟨id,aD_ p (aH_ p key).1 sep new⟩ false sl') id:=by
 rw[bt_,hp];simp only[hl,Bool.false_eq_true,if_false,hr]
theorem lb_{p:ap_}(h:pageB p=true)(hl:p.Leaf=true){key value:ByteArray}(hk:bC_ key=true)(hv:value.size≤64):shapeP (aE_ p (aH_ p key).2 (aH_ p key).1 key value):=by
 obtain⟨_,h1,h2,h3,_⟩:=em_ h hl
 have hle:=eJ_ p key
 have hl2:(aE_ p (aH_ p key).2 (aH_ p key).1 key value).Leaf=true:=by unfold aE_;split<;>exact hl
 have hsh:=dR_ h
 refine⟨fun _=>?_,fun e=>(by rw[hl2]at e;cases e),?_,?_⟩
 rotate_left
 ·intro k hk2
  unfold aE_ at hk2
  split at hk2
  ·exact hsh.2.2.1 k hk2
  ·simp only[mem_append,mem_cons]at hk2
   rcases hk2 with q|q|q
   ·exact hsh.2.2.1 k (mem_of_mem_take q)
   ·rw[q];exact hk
   ·exact hsh.2.2.1 k (mem_of_mem_drop q)
 ·intro v hv2
  unfold aE_ at hv2
  split at hv2
  ·rcases mem_or_eq_of_mem_set hv2 with q|q
   ·exact hsh.2.2.2 v q
   ·rw[q];exact hv
  ·simp only[mem_append,mem_cons]at hv2
   rcases hv2 with q|q|q
   ·exact hsh.2.2.2 v (mem_of_mem_take q)
   ·rw[q];exact hv
   ·exact hsh.2.2.2 v (mem_of_mem_drop q)
 unfold aE_
 split
 ·exact⟨by simp[h2],h3,by show p.Keys.length≤7;omega⟩
 ·refine⟨?_,h3,?_⟩<;>simp only[la_,lc_,length_take,length_drop]<;>omega
theorem lY_{p:ap_}(h:pageB p=true)(hl:p.Leaf=false)(key:ByteArray){sep:ByteArray}(hs:bC_ sep=true)(new:Int):shapeP (aD_ p (aH_ p key).1 sep new):=by
 obtain⟨_,_,h1,h2,h3,_⟩:=cq_ h hl
 have hle:=eJ_ p key
 refine⟨fun e=>(by rw[show(aD_ p (aH_ p key).1 sep new).Leaf=p.Leaf from rfl,hl]at e;cases e),fun _=>⟨?_,h3,?_⟩,fun k hk=>?_,fun v hv=>(dR_ h).2.2.2 v hv⟩
 rotate_left 2
 ·simp only[aD_,mem_append,mem_cons]at hk
  rcases hk with q|q|q
  ·exact(dR_ h).2.2.1 k (mem_of_mem_take q)
  ·rw[q];exact hs
  ·exact(dR_ h).2.2.1 k (mem_of_mem_drop q)
 all_goals simp only[aD_,la_,lc_,length_take,length_drop];omega
theorem jQ_{sl:List ad_}{id:Int}{p:ap_}(h:cr_ sl)(hp:aa_ sl id=some p):de_ sl (bU_ sl id).1 [id]∧((bU_ sl id).2.2.1≠0→bC_ (bU_ sl id).2.1=true):=by
 obtain⟨i1,i2,hs⟩:=h.pgs id p hp
 rw[bU_,hp]
 simp only
 split
 ·exact⟨de_.refl h _,fun e=>absurd rfl e⟩
 ·rename_i hf
  have hf':b2_ p=true:=by simpa using hf
  obtain⟨s1,s2⟩:=p5_ hs hf'
  split
  ·exact⟨de_.set h (s:=⟨id,(aF_ p).1⟩) ⟨i1,i2,s1⟩,fun e=>absurd rfl e⟩
  ·rename_i hn
   rcases ei_ (st:=aa_ sl) 64 (Nat.le_refl _)with q|⟨q1,q2,q3⟩
   ·exact absurd q hn
   ·have g1:=de_.set h (s:=⟨id,(aF_ p).1⟩) ⟨i1,i2,s1⟩
    have hne:id≠aG_ (aa_ sl) 64:=fun e=>by rw[←e,hp]at q3;cases q3
    have g2:=de_.add g1.ok (s:=⟨aG_ (aa_ sl) 64,(aF_ p).2.1⟩) ⟨q1,q2,s2⟩ (by rw[be_ h.rise,if_neg hne];exact q3) [id]
    exact⟨g1.trans g2 (fun _ q=>q) (fun _ q=>q),fun _=>sz_ hs hf'⟩
theorem au_.kid{st:a9_}{h:Nat}{top:Bool}{id:Int}{low high:ByteArray}{ids:List Int}{p:ap_}(t:au_ st (h+1) top id low high ids)(hn:ids.Nodup)(hp:st id=some p)(key:ByteArray):p.Leaf=false∧pageB p=true∧(aH_ p key).1<p.Kids.length∧∃m lo hi,au_ st h false (p.Kids.getD (aH_ p key).1 0) lo hi m∧m.Nodup∧id∉m∧∀i∈m,i∈ids:=by
 obtain⟨p',h1,h2,h3,h4,h5,r,h6,h7⟩:=t
 rw[hp]at h1
 have:=Option.some.inj h1
 subst this
 obtain⟨_,n1,n2,n3,n4,n5⟩:=cq_ h3 h2
 have hle:=eJ_ p key
 have hlt:(aH_ p key).1<p.Kids.length:=by omega
 obtain⟨a,m,b,e,t⟩:=aJ_.get _ hlt h7
 have hgd:p.Kids.getD (aH_ p key).1 0=p.Kids[(aH_ p key).1]:=by rw[getD_eq_getElem?_getD,getElem?_eq_getElem hlt];rfl
 rw[h6,e]at hn
 obtain⟨d1,d2⟩:=nodup_cons.1 hn
 have d3:=(nodup_append.1 (nodup_append.1 d2).2.1).1
 refine⟨h2,h3,hlt,m,_,_,by rw[hgd];exact t,d3,fun q=>d1 (mem_append_right _ (mem_append_left _ q)),fun i hi=>?_⟩
 rw[h6,e]
 exact mem_cons_of_mem _ (mem_append_right _ (mem_append_left _ hi))
theorem eX_{key value:ByteArray}(hk:bC_ key=true)(hv:value.size≤64):∀(h n:Nat) (sl:List ad_) (top:Bool) (id:Int) (low high:ByteArray) (ids:List Int),h<n→cr_ sl→au_ (aa_ sl) h top id low high ids→ids.Nodup→de_ sl (bt_ n sl id key value).1 ids∧((bt_ n sl id key value).2.2.1≠0→bC_ (bt_ n sl id key value).2.1=true)
 | h,0,_,_,_,_,_,_,hn,_,_,_=>absurd hn (Nat.not_lt_zero _)
 | 0,n+1,sl,top,id,low,high,ids,hn,ok,t,nd=>by
  obtain⟨p,hp,hb,ho,hl,hin⟩:=t.page
  have hl:p.Leaf=true:=by rw[hl];rfl
  obtain⟨i1,i2,hs⟩:=ok.pgs id p hp
  rw[c2_ hp hl]
  have g1:=de_.set ok (s:=⟨id,aE_ p (aH_ p key).2 (aH_ p key).1 key value⟩) ⟨i1,i2,lb_ hb hl hk hv⟩
  obtain⟨g2,g3⟩:=jQ_ (id:=id) (p:=aE_ p (aH_ p key).2 (aH_ p key).1 key value) g1.ok (by rw[be_ ok.rise,if_pos rfl])
  have hsub:∀i∈[id],i∈ids:=fun i hi=>by rw[mem_singleton]at hi;rw[hi];exact hin
  exact⟨g1.trans g2 hsub hsub,g3⟩
 | h+1,n+1,sl,top,id,low,high,ids,hn,ok,t,nd=>by
  obtain⟨p,hp,_,ho,_,hin⟩:=t.page
  obtain⟨hl,hb,hlt,m,lo,hi,tk,ndm,hnm,hsub⟩:=t.kid nd hp key
  obtain⟨i1,i2,hs⟩:=ok.pgs id p hp
  have ih:=eX_ hk hv h n sl false _ lo hi m (by omega) ok tk ndm
  obtain⟨sl',sep,new,code,hr⟩:∃sl' sep new code,bt_ n sl (p.Kids.getD (aH_ p key).1 0) key value=(sl',sep,new,code):=⟨_,_,_,_,rfl⟩
  rw[gK_ hp hl hr]
  rw[hr]at ih
  obtain⟨ih,ihs⟩:=ih
  have g0:de_ sl sl' ids:=⟨ih.ok,fun j hj hs=>ih.kept j (fun q=>hj (hsub j q)) hs,ih.dom⟩
  split
  ·exact⟨g0,fun e=>absurd rfl e⟩
  ·split
   ·exact⟨g0,fun e=>absurd rfl e⟩
   ·rename_i hnz
    have g1:=de_.set g0.ok (s:=⟨id,aD_ p (aH_ p key).1 sep new⟩) ⟨i1,i2,lY_ hb hl key (ihs hnz) new⟩
    obtain⟨g2,g3⟩:=jQ_ (id:=id) (p:=aD_ p (aH_ p key).1 sep new) g1.ok (by rw[be_ g0.ok.rise,if_pos rfl])
    have hsub:∀i∈[id],i∈ids:=fun i hi=>by rw[mem_singleton]at hi;rw[hi];exact hin
    exact⟨g0.trans (g1.trans g2 (fun _ q=>q) (fun _ q=>q)) (fun _ q=>q) hsub,g3⟩
def eq_(n:Nat)(b:ay_)(key value:ByteArray):ay_×Int :=
 if(bt_ n b.Slots b.Root key value).2.2.2≠0 then(⟨b.Root,(bt_ n b.Slots b.Root key value).1⟩,(bt_ n b.Slots b.Root key value).2.2.2)
 else if(bt_ n b.Slots b.Root key value).2.2.1=0 then(⟨b.Root,(bt_ n b.Slots b.Root key value).1⟩,0)
 else if aG_ (aa_ (bt_ n b.Slots b.Root key value).1) 64=0 then(⟨b.Root,(bt_ n b.Slots b.Root key value).1⟩,4)
 else(⟨aG_ (aa_ (bt_ n b.Slots b.Root key value).1) 64,aq_ ⟨aG_ (aa_ (bt_ n b.Slots b.Root key value).1) 64,cN_ (bt_ n b.Slots b.Root key value).2.1 b.Root (bt_ n b.Slots b.Root key value).2.2.1⟩ false (bt_ n b.Slots b.Root key value).1⟩,0)
structure Fit(b:ay_)(h:Nat)(ids:List Int):Prop where
 ok:cr_ b.Slots
 tree:au_ (aa_ b.Slots) h true b.Root ⟨#[]⟩ ⟨#[]⟩ ids
 nodup:ids.Nodup
theorem jh_.fit{b:ay_}{h:Nat}{ids:List Int}(r:jh_ b h ids):Fit b h ids:=⟨r.ok,r.tree,r.nodup⟩
def Srt(xs:List ByteArray):Prop:=xs.Pairwise fun a b=>aB_ a b=true
def inR(key low high:ByteArray):Prop:=aB_ key low=false∧(high=⟨#[]⟩∨aB_ key high=true)
theorem im_{a b:ByteArray}(h1:aB_ a b=false)(h2:aB_ b a=false):a=b:=by
 rw[←zB_,←dU_,←dU_]
 exact jj_ _ _ h1 h2
theorem dP_{a b:ByteArray}(h:aB_ a b=true):aB_ b a=false:=iR_ _ _ h
theorem gF_{a b c:ByteArray}(h1:aB_ b a=false)(h2:aB_ b c=true):aB_ a c=true:=by
 cases h:aB_ a b with
 | true=>exact b6_ h h2
 | false=>rw[im_ h h1];exact h2
theorem k5_{a b c:ByteArray}(h1:aB_ a b=true)(h2:aB_ c b=false):aB_ a c=true:=by
 cases h:aB_ b c with
 | true=>exact b6_ h1 h
 | false=>rw[←im_ h h2];exact h1
theorem u7_{a b c:ByteArray}(h1:aB_ b a=false)(h2:aB_ c b=false):aB_ c a=false:=by
 cases h:aB_ c a with
 | false=>rfl
 | true=>rw[k5_ h h1]at h2;cases h2
theorem oo_{xs:List ByteArray}:cF_ xs=true↔(∀k∈xs,bC_ k=true)∧Srt xs:=by
 constructor
 ·intro h
  exact⟨p2_ h,pairwise_iff_getElem.2 fun i j hi hj hij=>ha_ h i j hj hij⟩
 ·intro ⟨h1,h2⟩
  refine fQ_ fun k hk=>?_
  rw[mP_ hk,h1 _ (getElem_mem hk),Bool.true_and]
  by_cases h0:k=0
  ·subst h0;rfl
  ·have:=pairwise_iff_getElem.1 h2 (k-1) k (by omega) hk (by omega)
   rw[this,Bool.or_true]
theorem cy_{p:ap_}{low high:ByteArray}:eQ_ p low high=false↔∀k∈p.Keys,inR k low high:=by
 unfold eQ_ inR
 rw[any_eq_false]
 refine forall_congr' fun k=>forall_congr' fun hk=>?_
 cases h1:aB_ k low<;>by_cases h2:high=⟨#[]⟩<;>cases h3:aB_ k high<;>simp[h2]
theorem rs_{xs:List ByteArray}{key:ByteArray}{k:Nat}(h:Srt xs)(h1:∀x∈xs.take k,aB_ x key=true)(h2:∀x∈xs.drop k,aB_ key x=true):Srt (xs.take k++key::xs.drop k):=by
 refine pairwise_append.2 ⟨h.sublist (take_sublist _ _),pairwise_cons.2 ⟨h2,h.sublist (drop_sublist _ _)⟩,fun a ha b hb=>?_⟩
 rcases mem_cons.1 hb with q|q
 ·rw[q];exact h1 a ha
 ·exact b6_ (h1 a ha) (h2 b q)
theorem xx_{xs:List ByteArray}{key:ByteArray}:∀x∈xs.take (lbK xs key),aB_ x key=true:=by
 intro x hx
 obtain⟨j,hj,rfl⟩:=mem_iff_getElem.1 hx
 rw[getElem_take]
 exact jR_ (by rw[length_take]at hj;omega)
theorem xe_{xs:List ByteArray}(h:Srt xs){key:ByteArray}:∀x∈xs.drop (lbK xs key),aB_ x key=false:=by
 intro x hx
 obtain⟨j,hj,rfl⟩:=mem_iff_getElem.1 hx
 rw[length_drop]at hj
 rw[getElem_drop]
 have h3:=lj_ (xs:=xs) (key:=key) (by omega)
 by_cases q:j=0
 ·subst q;exact h3
 ·have:=pairwise_iff_getElem.1 h (lbK xs key) (lbK xs key+j) (by omega) (by omega) (by omega)
  cases e:aB_ xs[lbK xs key+j] key with
  | false=>rfl
  | true=>rw[b6_ this e]at h3;cases h3
theorem pE_{xs:List ByteArray}(h:Srt xs){key:ByteArray}(hn:cw_ xs key=false):∀x∈xs.drop (lbK xs key),aB_ key x=true:=by
 intro x hx
 have hge:=xe_ h x hx
 cases e:aB_ key x with
 | true=>rfl
 | false =>
  exfalso
  have hxk:=im_ hge e
  subst hxk
  obtain⟨j,hj,hx2⟩:=mem_iff_getElem.1 hx
  rw[length_drop]at hj
  rw[getElem_drop]at hx2
  by_cases q:j=0
  ·subst q
   rw[cw_,decide_eq_false_iff_not]at hn
   exact hn (by rw[getElem?_eq_getElem (by omega)];exact congrArg some hx2)
  ·have h3:=lj_ (xs:=xs) (key:=x) (by omega)
   have:=pairwise_iff_getElem.1 h (lbK xs x) (lbK xs x+j) (by omega) (by omega) (by omega)
   rw[hx2,h3]at this;cases this
structure PgN(n:Nat)(p:ap_):Prop where
 keys:∀k∈p.Keys,bC_ k=true
 srt:Srt p.Keys
 vals:∀v∈p.Vals,v.size≤64
 kids:∀k∈p.Kids,1≤k∧k≤64
 leaf:p.Leaf=true→p.Keys.length≤n∧p.Vals.length=p.Keys.length∧p.Kids=[]
 node:p.Leaf=false→2≤p.Kids.length∧p.Kids.length≤n∧p.Kids.length=p.Keys.length+1∧p.Vals=[]
theorem c0_{p:ap_}(h:pageB p=true):PgN 6 p:=by
 have hk:cF_ p.Keys=true:=by
  rw[pageB,Bool.and_eq_true]at h
  exact h.1
 obtain⟨h1,h2⟩:=oo_.1 hk
 cases hl:p.Leaf with
 | true =>
  obtain⟨_,a,b,c,d⟩:=em_ h hl
  exact⟨h1,h2,d,fun k q=>(by rw[c]at q;cases q),fun _=>⟨a,b,c⟩,fun e=>by rw[hl]at e;cases e⟩
 | false =>
  obtain⟨_,a,b,c,d,e⟩:=cq_ h hl
  exact⟨h1,h2,fun v q=>(by rw[d]at q;cases q),e,fun e=>(by rw[hl]at e;cases e),fun _=>⟨a,b,c,d⟩⟩
theorem PgN.pageB{p:ap_}(h:PgN 6 p):pageB p=true:=by
 have hk:=oo_.2 ⟨h.keys,h.srt⟩
 rw[Go.Proofs.YtlcmlgihlojdmaaGreatDoor.pageB,hk,Bool.true_and]
 cases hl:p.Leaf with
 | true =>
  obtain⟨a,b,c⟩:=h.leaf hl
  simp only[if_true,Bool.and_eq_true,decide_eq_true_eq,all_eq_true]
  exact⟨⟨⟨by omega,by omega⟩,fun v hv=>by have:=h.vals v hv;omega⟩,by rw[c];rfl⟩
 | false =>
  obtain⟨a,b,c,d⟩:=h.node hl
  simp only[Bool.false_eq_true,if_false,ba_,Bool.and_eq_true,decide_eq_true_eq,all_eq_true]
  exact⟨⟨⟨⟨by omega,by omega⟩,by omega⟩,by rw[d];rfl⟩,fun k hk=>h.kids k hk⟩
theorem PgN.small{n:Nat}{p:ap_}(h:PgN n p)(hf:b2_ p=false):PgN 6 p:=by
 simp only[b2_,Bool.or_eq_false_iff,decide_eq_false_iff_not]at hf
 refine⟨h.keys,h.srt,h.vals,h.kids,fun hl=>?_,fun hl=>?_⟩
 ·obtain⟨a,b,c⟩:=h.leaf hl;exact⟨by omega,b,c⟩
 ·obtain⟨a,b,c,d⟩:=h.node hl;exact⟨a,by omega,c,d⟩
theorem PgN.up{n m:Nat}{p:ap_}(h:PgN n p)(hm:n≤m):PgN m p :=
 ⟨h.keys,h.srt,h.vals,h.kids,fun hl=>by obtain⟨a,b,c⟩:=h.leaf hl;exact⟨by omega,b,c⟩,fun hl=>by obtain⟨a,b,c,d⟩:=h.node hl;exact⟨a,by omega,c,d⟩⟩
theorem PgN.shape{p:ap_}(h:PgN 7 p):shapeP p :=
 ⟨fun hl=>by obtain⟨a,b,c⟩:=h.leaf hl;exact⟨b,c,a⟩,fun hl=>by obtain⟨a,b,c,d⟩:=h.node hl;exact⟨c,d,b⟩,h.keys,h.vals⟩
theorem aJ_.app{T:Int→ByteArray→ByteArray→List Int→Prop}:∀{k1:List Int} {q1:List ByteArray} {k2:List Int} {q2:List ByteArray} {low sep high:ByteArray} {a b:List Int},aJ_ T k1 q1 low sep a→aJ_ T k2 q2 sep high b→aJ_ T (k1++k2) (q1++sep::q2) low high (a++b)
 | [],_,_,_,_,_,_,_,_,h,_=>h.elim
 | _::_::_,[],_,_,_,_,_,_,_,h,_=>h.elim
 | [kid],[],k2,q2,low,sep,high,a,b,h,h2=>by
  cases k2 with
  | nil=>exact h2.elim
  | cons x k2=>exact⟨a,b,rfl,h,h2⟩
 | [kid],k::keys,_,_,_,_,_,_,_,h,_=>by
  obtain⟨a,b,e,h1,h2⟩:=h
  exact h2.elim
 | kid::kid'::kids,k::keys,k2,q2,low,sep,high,a,b,h,h2=>by
  obtain⟨a1,b1,e,h3,h4⟩:=h
  exact⟨a1,b1++b,by rw[e,append_assoc],h3,aJ_.app h4 h2⟩
theorem aJ_.split{T:Int→ByteArray→ByteArray→List Int→Prop}:∀{k1:List Int} {q1:List ByteArray} {k2:List Int} {q2:List ByteArray} {low sep high:ByteArray} {ids:List Int},k1.length=q1.length+1→aJ_ T (k1++k2) (q1++sep::q2) low high ids→∃a b,ids=a++b∧aJ_ T k1 q1 low sep a∧aJ_ T k2 q2 sep high b
 | [],q1,_,_,_,_,_,_,hl,_=>by simp at hl
 | _::_::_,[],_,_,_,_,_,_,hl,_=>by simp at hl
 | [kid],_::_,_,_,_,_,_,_,hl,_=>by simp at hl
 | [kid],[],[],q2,low,sep,high,ids,_,h=>by
  obtain⟨a,b,e,h1,h2⟩:=h
  exact h2.elim
 | [kid],[],x::k2,q2,low,sep,high,ids,_,h=>by
  obtain⟨a,b,e,h1,h2⟩:=h
  exact⟨a,b,e,h1,h2⟩
 | kid::kid'::kids,k::keys,k2,q2,low,sep,high,ids,hl,h=>by
  obtain⟨a1,b1,e,h3,h4⟩:=h
  obtain⟨a,b,e2,h5,h6⟩:=aJ_.split (k1:=kid'::kids) (q1:=keys) (by simpa using hl) h4
  exact⟨a1++a,b,by rw[e,e2,append_assoc],⟨a1,a,rfl,h3,h5⟩,h6⟩
def loQ(keys:List ByteArray)(low:ByteArray)(k:Nat):ByteArray:=if 0<k then keys.getD (k-1) ⟨#[]⟩else low
def hiQ(keys:List ByteArray)(high:ByteArray)(k:Nat):ByteArray:=if k<keys.length then keys.getD k ⟨#[]⟩else high
theorem ps_(q:ByteArray)(keys:List ByteArray)(low:ByteArray)(k:Nat):loQ (q::keys) low (k+1)=loQ keys q k:=by
 cases k<;>simp[loQ]
theorem pJ_(q:ByteArray)(keys:List ByteArray)(high:ByteArray)(k:Nat):hiQ (q::keys) high (k+1)=hiQ keys high k:=by
 simp[hiQ]
theorem aJ_.seg{T:Int→ByteArray→ByteArray→List Int→Prop}(n:Nat):∀(k:Nat) {kids:List Int} {keys:List ByteArray} {low high:ByteArray} {ids:List Int},k+n<kids.length→aJ_ T kids keys low high ids →
 ∃a m b,ids=a++(m++b)∧aJ_ T ((kids.drop k).take (n+1)) ((keys.drop k).take n) (loQ keys low k) (hiQ keys high (k+n)) m ∧
  ∀(T':Int→ByteArray→ByteArray→List Int→Prop) (kids':List Int) (keys':List ByteArray) (m':List Int),(∀kid lo hi x,(∀i∈x,i∈a++b)→T kid lo hi x→T' kid lo hi x)→aJ_ T' kids' keys' (loQ keys low k) (hiQ keys high (k+n)) m' →
   aJ_ T' (kids.take k++(kids'++kids.drop (k+(n+1)))) (keys.take k++(keys'++keys.drop (k+n))) low high (a++(m'++b))
 | 0,kids,keys,low,high,ids,hk,h=>by
  have hlen:=h.len
  rw[Nat.zero_add]at hk
  have e0:loQ keys low 0=low:=rfl
  rw[e0]
  by_cases hn:n+1=kids.length
  ·have e1:kids.take (n+1)=kids:=take_of_length_le (by omega)
   have e2:keys.take n=keys:=take_of_length_le (by omega)
   have e3:kids.drop (n+1)=[]:=drop_eq_nil_of_le (by omega)
   have e4:keys.drop n=[]:=drop_eq_nil_of_le (by omega)
   have e5:hiQ keys high (0+n)=high:=by rw[hiQ,if_neg (by omega)]
   refine⟨[],ids,[],by simp,?_,fun T' kids' keys' m' _ h'=>?_⟩
   ·rw[drop_zero,drop_zero,e1,e2,e5];exact h
   ·rw[Nat.zero_add,Nat.zero_add,e3,e4]
    rw[e5]at h'
    simpa using h'
  ·have hn':n<keys.length:=by omega
   have e1:kids=kids.take (n+1)++kids.drop (n+1):=(take_append_drop _ _).symm
   have e2:keys=keys.take n++keys[n]::keys.drop (n+1):=by rw[←drop_eq_getElem_cons hn',take_append_drop]
   have e5:hiQ keys high (0+n)=keys[n]:=by rw[Nat.zero_add,hiQ,if_pos hn',getD_eq_getElem?_getD,getElem?_eq_getElem hn'];rfl
   have h0:=h
   rw[e1,e2]at h0
   obtain⟨a,b,e,h1,h2⟩:=aJ_.split (by rw[length_take,length_take];omega) h0
   refine⟨[],a,b,by simpa using e,?_,fun T' kids' keys' m' hT h'=>?_⟩
   ·rw[drop_zero,drop_zero,e5];exact h1
   ·rw[e5]at h'
    rw[Nat.zero_add,Nat.zero_add,drop_eq_getElem_cons hn']
    have:=aJ_.app h' (aJ_.mono (fun kid lo hi x hx q=>hT kid lo hi x (fun i hi=>by simpa using hx i hi) q) h2)
    simpa using this
 | k+1,[],_,_,_,_,_,h=>h.elim
 | k+1,[_],_,_,_,_,hk,_=>by simp at hk
 | k+1,_::_::_,[],_,_,_,_,h=>h.elim
 | k+1,kid::kid'::kids,q::keys,low,high,ids,hk,h=>by
  obtain⟨a1,b1,e,h3,h4⟩:=h
  obtain⟨a,m,b,e2,h5,h6⟩:=aJ_.seg n k (kids:=kid'::kids) (by simp only[lc_]at hk⊢;omega) h4
  have hk2:k+1+n=(k+n)+1:=by omega
  have hk3:k+1+(n+1)=(k+(n+1))+1:=by omega
  refine⟨a1++a,m,b,by rw[e,e2];simp,?_,fun T' kids' keys' m' hT h'=>?_⟩
  ·rw[ps_,hk2,pJ_];exact h5
  ·rw[ps_,hk2,pJ_]at h'
   have h7:=h6 T' kids' keys' m' (fun kid lo hi x hx=>hT kid lo hi x fun i hi=>by
    have:=hx i hi
    rw[append_assoc];exact mem_append_right _ this) h'
   rw[hk2,hk3,take_succ_cons,drop_succ_cons,take_succ_cons,drop_succ_cons,append_assoc]
   have h8:T' kid low q a1:=hT _ _ _ _ (fun i hi=>by rw[append_assoc];exact mem_append_left _ hi) h3
   generalize hks:(kid'::kids).take k++(kids'++(kid'::kids).drop (k+(n+1)))=ks at h7⊢
   rw[cons_append,cons_append,hks]
   cases ks with
   | nil=>exact h7.elim
   | cons x ks=>exact⟨a1,_,rfl,h8,h7⟩
theorem aJ_.one{T:Int→ByteArray→ByteArray→List Int→Prop}{kid:Int}{low high:ByteArray}{ids:List Int}:aJ_ T [kid] [] low high ids↔T kid low high ids:=Iff.rfl
def cG_(st:a9_):Nat→ap_→ByteArray→ByteArray→List Int→Prop
 | 0,p,low,high,r=>p.Leaf=true∧eQ_ p low high=false∧r=[]
 | h+1,p,low,high,r=>p.Leaf=false∧eQ_ p low high=false∧aJ_ (fun kid lo hi m=>au_ st h false kid lo hi m) p.Kids p.Keys low high r
theorem au_.iff{st:a9_}{h:Nat}{top:Bool}{id:Int}{low high:ByteArray}{ids:List Int}:au_ st h top id low high ids↔∃p r,st id=some p∧pageB p=true∧(top=true∨3≤bG_ p)∧cG_ st h p low high r∧ids=id::r:=by
 cases h with
 | zero =>
  constructor
  ·rintro⟨p,h1,h2,h3,h4,h5,h6⟩
   exact⟨p,[],h1,h3,by rw[bG_,if_pos h2];exact h5,⟨h2,h4,rfl⟩,h6⟩
  ·rintro⟨p,r,h1,h3,h5,⟨h2,h4,h7⟩,h6⟩
   rw[bG_,if_pos h2]at h5
   exact⟨p,h1,h2,h3,h4,h5,by rw[h6,h7]⟩
 | succ h =>
  constructor
  ·rintro⟨p,h1,h2,h3,h4,h5,r,h6,h7⟩
   exact⟨p,r,h1,h3,by rw[bG_,if_neg (by rw[h2];simp)];exact h5,⟨h2,h4,h7⟩,h6⟩
  ·rintro⟨p,r,h1,h3,h5,⟨h2,h4,h7⟩,h6⟩
   rw[bG_,if_neg (by rw[h2];simp)]at h5
   exact⟨p,h1,h2,h3,h4,h5,r,h6,h7⟩
theorem cG_.congr{st st':a9_}{h:Nat}{p:ap_}{low high:ByteArray}{r:List Int}(hs:∀i∈r,st' i=st i)(t:cG_ st h p low high r):cG_ st' h p low high r:=by
 cases h with
 | zero=>exact t
 | succ h =>
  obtain⟨h1,h2,h3⟩:=t
  exact⟨h1,h2,aJ_.mono (fun kid lo hi m hm q=>au_.congr (fun i hi=>hs i (hm i hi)) q) h3⟩
theorem cG_.has{st:a9_}{h:Nat}{p:ap_}{low high:ByteArray}{r:List Int}(t:cG_ st h p low high r):∀i∈r,(st i).isSome=true:=by
 cases h with
 | zero=>obtain⟨_,_,e⟩:=t;rw[e];intro i hi;cases hi
 | succ h =>
  obtain⟨_,_,h3⟩:=t
  exact aJ_.has (Q:=fun i=>(st i).isSome=true) (fun kid lo hi m q=>au_.has q) h3
theorem cG_.leafB{st:a9_}{h:Nat}{p:ap_}{low high:ByteArray}{r:List Int}(t:cG_ st h p low high r):p.Leaf=decide (h=0):=by
 cases h with
 | zero=>obtain⟨e,_⟩:=t;rw[e];rfl
 | succ h=>obtain⟨e,_⟩:=t;rw[e];simp
theorem rw_{key low high sep:ByteArray}(h:inR key low high)(hs:aB_ key sep=true):inR key low sep:=⟨h.1,.inr hs⟩
theorem kZ_{p:ap_}(hl:p.Leaf=true):aF_ p=(⟨true,p.Keys.take 3,p.Vals.take 3,[]⟩,⟨true,p.Keys.drop 3,p.Vals.drop 3,[]⟩,p.Keys.getD 3 ⟨#[]⟩):=by rw[aF_,if_pos hl]
theorem k6_{p:ap_}(hl:p.Leaf=false):aF_ p=(⟨false,p.Keys.take 2,[],p.Kids.take 3⟩,⟨false,p.Keys.drop 3,[],p.Kids.drop 3⟩,p.Keys.getD 2 ⟨#[]⟩):=by rw[aF_,if_neg (by rw[hl];simp)]
theorem mu_{st:a9_}{h:Nat}{p:ap_}{low high:ByteArray}{r:List Int}(t:cG_ st h p low high r)(hp:PgN 7 p)(hf:b2_ p=true) :
 ∃a b,r=a++b∧cG_ st h (aF_ p).1 low (aF_ p).2.2 a∧cG_ st h (aF_ p).2.1 (aF_ p).2.2 high b∧pageB (aF_ p).1=true∧pageB (aF_ p).2.1=true∧3≤bG_ (aF_ p).1∧3≤bG_ (aF_ p).2.1∧bC_ (aF_ p).2.2=true∧aB_ low (aF_ p).2.2=true∧(high=⟨#[]⟩∨aB_ (aF_ p).2.2 high=true):=by
 cases hl:p.Leaf with
 | true =>
  have h0:h=0:=by have:=t.leafB;rw[hl]at this;simpa using this.symm
  subst h0
  obtain⟨_,ho,er⟩:=t
  have ho:=cy_.1 ho
  obtain⟨n1,n2,n3⟩:=hp.leaf hl
  have hk7:=iQ_ hp.shape hl hf
  have hsep:p.Keys.getD 3 ⟨#[]⟩=p.Keys[3]:=by rw[getD_eq_getElem?_getD,getElem?_eq_getElem (by omega)];rfl
  rw[kZ_ hl,hsep]
  simp only
  have lt3:∀x∈p.Keys.take 3,aB_ x p.Keys[3]=true:=by
   intro x hx
   obtain⟨j,hj,rfl⟩:=mem_iff_getElem.1 hx
   rw[length_take]at hj
   rw[getElem_take]
   exact pairwise_iff_getElem.1 hp.srt j 3 (by omega) (by omega) (by omega)
  have ge3:∀x∈p.Keys.drop 3,aB_ x p.Keys[3]=false:=by
   intro x hx
   obtain⟨j,hj,rfl⟩:=mem_iff_getElem.1 hx
   rw[length_drop]at hj
   rw[getElem_drop]
   by_cases q:j=0
   ·subst q;exact eP_ _
   ·exact dP_ (pairwise_iff_getElem.1 hp.srt 3 (3+j) (by omega) (by omega) (by omega))
  have hm3:p.Keys[3]∈p.Keys:=getElem_mem _
  refine⟨[],[],by rw[er];rfl,⟨rfl,cy_.2 fun x hx=>rw_ (ho x (mem_of_mem_take hx)) (lt3 x hx),rfl⟩,⟨rfl,cy_.2 fun x hx=>⟨ge3 x hx,(ho x (mem_of_mem_drop hx)).2⟩,rfl⟩,PgN.pageB ⟨fun k hk=>hp.keys k (mem_of_mem_take hk),hp.srt.sublist (take_sublist _ _),fun v hv=>hp.vals v (mem_of_mem_take hv),fun k hk=>(by cases hk),fun _=>⟨by simp only[length_take];omega,by simp only[length_take];omega,rfl⟩,fun e=>by cases e⟩,PgN.pageB ⟨fun k hk=>hp.keys k (mem_of_mem_drop hk),hp.srt.sublist (drop_sublist _ _),fun v hv=>hp.vals v (mem_of_mem_drop hv),fun k hk=>(by cases hk),fun _=>⟨by simp only[length_drop];omega,by simp only[length_drop];omega,rfl⟩,fun e=>by cases e⟩,?_,?_,hp.keys _ hm3,?_,(ho _ hm3).2⟩
  ·simp only[bG_,if_true,length_take];omega
  ·simp only[bG_,if_true,length_drop];omega
  ·exact gF_ (ho _ (getElem_mem (by omega:0<p.Keys.length))).1 (pairwise_iff_getElem.1 hp.srt 0 3 (by omega) (by omega) (by omega))
 | false =>
  have⟨h',h0⟩:∃h',h=h'+1:=by
   have:=t.leafB
   rw[hl]at this
   exact ⟨h - 1, by have : h ≠ 0 := by simpa using this.symm
                    omega⟩
  subst h0
  obtain⟨_,ho,hk⟩:=t
  have ho:=cy_.1 ho
  obtain⟨n1,n2,n3,n4⟩:=hp.node hl
  have hk7:=jl_ hp.shape hl hf
  have hsep:p.Keys.getD 2 ⟨#[]⟩=p.Keys[2]:=by rw[getD_eq_getElem?_getD,getElem?_eq_getElem (by omega)];rfl
  rw[k6_ hl,hsep]
  simp only
  have lt3:∀x∈p.Keys.take 2,aB_ x p.Keys[2]=true:=by
   intro x hx
   obtain⟨j,hj,rfl⟩:=mem_iff_getElem.1 hx
   rw[length_take]at hj
   rw[getElem_take]
   exact pairwise_iff_getElem.1 hp.srt j 2 (by omega) (by omega) (by omega)
  have ge3:∀x∈p.Keys.drop 3,aB_ x p.Keys[2]=false:=by
   intro x hx
   obtain⟨j,hj,rfl⟩:=mem_iff_getElem.1 hx
   rw[length_drop]at hj
   rw[getElem_drop]
   exact dP_ (pairwise_iff_getElem.1 hp.srt 2 (3+j) (by omega) (by omega) (by omega))
  have hm3:p.Keys[2]∈p.Keys:=getElem_mem _
  have e1:p.Kids=p.Kids.take 3++p.Kids.drop 3:=(take_append_drop _ _).symm
  have e2:p.Keys=p.Keys.take 2++p.Keys[2]::p.Keys.drop 3:=by rw[←drop_eq_getElem_cons (by omega),take_append_drop]
  rw[e1]at hk
  rw[e2]at hk
  obtain⟨a,b,e,k1,k2⟩:=aJ_.split (by simp only[length_take];omega) hk
  refine⟨a,b,e,⟨rfl,cy_.2 fun x hx=>rw_ (ho x (mem_of_mem_take hx)) (lt3 x hx),k1⟩,⟨rfl,cy_.2 fun x hx=>⟨ge3 x hx,(ho x (mem_of_mem_drop hx)).2⟩,k2⟩,PgN.pageB ⟨fun k hk=>hp.keys k (mem_of_mem_take hk),hp.srt.sublist (take_sublist _ _),fun v hv=>(by cases hv),fun k hk=>hp.kids k (mem_of_mem_take hk),fun e=>(by cases e),fun _=>⟨by simp only[length_take];omega,by simp only[length_take];omega,by simp only[length_take];omega,rfl⟩⟩,PgN.pageB ⟨fun k hk=>hp.keys k (mem_of_mem_drop hk),hp.srt.sublist (drop_sublist _ _),fun v hv=>(by cases hv),fun k hk=>hp.kids k (mem_of_mem_drop hk),fun e=>(by cases e),fun _=>⟨by simp only[length_drop];omega,by simp only[length_drop];omega,by simp only[length_drop];omega,rfl⟩⟩,?_,?_,hp.keys _ hm3,?_,(ho _ hm3).2⟩
  ·simp only[bG_,Bool.false_eq_true,if_false,length_take];omega
  ·simp only[bG_,Bool.false_eq_true,if_false,length_drop];omega
  ·exact gF_ (ho _ (getElem_mem (by omega:0<p.Keys.length))).1 (pairwise_iff_getElem.1 hp.srt 0 2 (by omega) (by omega) (by omega))
theorem ks_{a:List Int}{st:a9_}{new:Int}(hn:a.Nodup)(hs:∀i∈a,(st i).isSome=true)(hnew:st new=none):new∉a:=fun q=>by
 have:=hs new q
 rw[hnew]at this;cases this
theorem i8_{id:Int}{a m b m':List Int}(nd:(id::(a++(m++b))).Nodup)(nd':m'.Nodup)(h:∀i∈m',i∈m∨i∉id::(a++(m++b))):(id::(a++(m'++b))).Nodup:=by
 obtain⟨n1,n2⟩:=nodup_cons.1 nd
 obtain⟨a1,a2,a3⟩:=nodup_append.1 n2
 obtain⟨b1,b2,b3⟩:=nodup_append.1 a2
 have hm:∀i∈m',i∈m∨(i≠id∧i∉a∧i∉b):=fun i hi=>by
  rcases h i hi with e|e
  ·exact .inl e
  ·right
   simp only[mem_cons,mem_append,not_or]at e
   exact⟨e.1,e.2.1,e.2.2.2⟩
 simp only[mem_append,not_or]at n1
 refine nodup_cons.2 ⟨?_,nodup_append.2 ⟨a1,nodup_append.2 ⟨nd',b2,fun x hx y hy e=>?_⟩,fun x hx y hy e=>?_⟩⟩
 ·simp only[mem_append,not_or]
  refine⟨n1.1,fun q=>?_,n1.2.2⟩
  rcases hm id q with e|e
  ·exact n1.2.1 e
  ·exact e.1 rfl
 ·subst e
  rcases hm x hx with e|e
  ·exact b3 x e x hy rfl
  ·exact e.2.2 hy
 ·subst e
  rcases mem_append.1 hy with q|q
  ·rcases hm x q with e|e
   ·exact a3 x hx x (mem_append_left _ e) rfl
   ·exact e.2.1 hx
  ·exact a3 x hx x (mem_append_right _ q) rfl
theorem qe_{id:Int}{a m b m':List Int}{P:Int→Prop}(h:∀i∈m',i∈m∨P i):∀i∈id::(a++(m'++b)),i∈id::(a++(m++b))∨P i:=by
 intro i hi
 simp only[mem_cons,mem_append]at hi⊢
 rcases hi with e|e|e|e
 ·exact .inl (.inl e)
 ·exact .inl (.inr (.inl e))
 ·exact(h i e).imp (fun q=>.inr (.inr (.inl q))) (fun q=>q)
 ·exact .inl (.inr (.inr (.inr e)))
theorem nL_(a:ByteArray):aB_ a ⟨#[]⟩=false:=by
 show Op.bytesLess a.toList (⟨#[]⟩:ByteArray).toList=false
 rw[dU_,dU_]
 cases a.data.toList<;>rfl
def kK_(st0:a9_)(ids:List Int)(h:Nat)(top:Bool)(id:Int)(low high:ByteArray)(r:List ad_×ByteArray×Int×Int):Prop :=
 r.2.2.2=0→(r.2.2.1=0→∃ids',au_ (aa_ r.1) h top id low high ids'∧ids'.Nodup∧∀i∈ids',i∈ids∨st0 i=none) ∧
  (r.2.2.1≠0→∃a b,au_ (aa_ r.1) h false id low r.2.1 a∧au_ (aa_ r.1) h false r.2.2.1 r.2.1 high b∧(a++b).Nodup∧(∀i∈a++b,i∈ids∨st0 i=none)∧1≤r.2.2.1∧r.2.2.1≤64∧aB_ low r.2.1=true∧(high=⟨#[]⟩∨aB_ r.2.1 high=true)∧bC_ r.2.1=true)
theorem oh_{sl:List ad_}{id:Int}{p:ap_}{h:Nat}{top:Bool}{low high:ByteArray}{r:List Int}(ok:cr_ sl)(hp:aa_ sl id=some p)(hpg:PgN 7 p)(hf:top=true∨3≤bG_ p)(t:cG_ (aa_ sl) h p low high r)(nd:(id::r).Nodup) :
 kK_ (aa_ sl) (id::r) h top id low high (bU_ sl id):=by
 obtain⟨i1,i2,_⟩:=ok.pgs id p hp
 obtain⟨n1,n2⟩:=nodup_cons.1 nd
 unfold kK_
 rw[bU_,hp]
 simp only
 by_cases hfu:b2_ p=false
 ·rw[if_pos hfu]
  exact fun _=>⟨fun _=>⟨id::r,au_.iff.2 ⟨p,r,hp,(hpg.small hfu).pageB,hf,t,rfl⟩,nd,fun i hi=>.inl hi⟩,fun e=>absurd rfl e⟩
 ·rw[if_neg hfu]
  have hfu':b2_ p=true:=by simpa using hfu
  by_cases hn:aG_ (aa_ sl) 64=0
  ·rw[if_pos hn]
   exact fun e=>absurd (show(4:Int)=0 from e) (by decide)
  ·rw[if_neg hn]
   rcases ei_ (st:=aa_ sl) 64 (Nat.le_refl _)with q|⟨q1,q2,q3⟩
   ·exact absurd q hn
   refine fun _=>⟨fun e=>absurd e hn,fun _=>?_⟩
   obtain⟨a,b,er,ta,tb,pa,pb,fa,fb,ks,lo,hi⟩:=mu_ t hpg hfu'
   have hne:id≠aG_ (aa_ sl) 64:=fun e=>by rw[←e,hp]at q3;cases q3
   have hr1:df_ (aq_ ⟨id,(aF_ p).1⟩ false sl):=hG_ ok.rise
   have st1:∀i,aa_ (up2 sl id p) i=if aG_ (aa_ sl) 64=i then some (aF_ p).2.1 else if id=i then some (aF_ p).1 else aa_ sl i:=by
    intro i
    rw[up2,be_ hr1]
    by_cases e:aG_ (aa_ sl) 64=i
    ·rw[if_pos e,if_pos e]
    ·rw[if_neg e,if_neg e,be_ ok.rise]
   have hnew:aG_ (aa_ sl) 64∉r:=ks_ n2 t.has q3
   have kept:∀i∈r,aa_ (up2 sl id p) i=aa_ sl i:=fun i hi=>by
    rw[st1,if_neg (fun e=>hnew (by rw[e];exact hi)),if_neg (fun e=>n1 (by rw[e];exact hi))]
   refine⟨id::a,aG_ (aa_ sl) 64::b,au_.iff.2 ⟨(aF_ p).1,a,by rw[st1,if_neg (Ne.symm hne),if_pos rfl],pa,.inr fa,cG_.congr (fun i hi=>kept i (by rw[er];exact mem_append_left _ hi)) ta,rfl⟩,au_.iff.2 ⟨(aF_ p).2.1,b,by rw[st1,if_pos rfl],pb,.inr fb,cG_.congr (fun i hi=>kept i (by rw[er];exact mem_append_right _ hi)) tb,rfl⟩,?_,?_,q1,q2,lo,hi,ks⟩
   ·rw[er]at n1 n2 hnew
    obtain⟨m1,m2,m3⟩:=nodup_append.1 n2
    rw[nodup_append]
    simp only[mem_append,not_or]at n1 hnew
    refine⟨nodup_cons.2 ⟨n1.1,m1⟩,nodup_cons.2 ⟨hnew.2,m2⟩,fun x hx y hy=>?_⟩
    rcases mem_cons.1 hx with e1|e1<;>rcases mem_cons.1 hy with e2|e2
    ·rw[e1,e2];exact hne
    ·rw[e1];exact fun e=>n1.2 (e▸e2)
    ·rw[e2];exact fun e=>hnew.1 (e▸e1)
    ·exact m3 x e1 y e2
   ·intro i hi
    rcases mem_append.1 hi with q|q
    ·rcases mem_cons.1 q with e|e
     ·exact .inl (by rw[e];exact mem_cons_self)
     ·exact .inl (mem_cons_of_mem _ (by rw[er];exact mem_append_left _ e))
    ·rcases mem_cons.1 q with e|e
     ·exact .inr (by rw[e];exact q3)
     ·exact .inl (mem_cons_of_mem _ (by rw[er];exact mem_append_right _ e))
theorem oZ_{p:ap_}(h:pageB p=true)(hl:p.Leaf=true){key value:ByteArray}(hk:bC_ key=true)(hv:value.size≤64):PgN 7 (aE_ p (aH_ p key).2 (aH_ p key).1 key value):=by
 have hp:=c0_ h
 obtain⟨a,b,c⟩:=hp.leaf hl
 have hle:=eJ_ p key
 rw[hg_ hl]at hle⊢
 simp only at hle⊢
 cases hf:cw_ p.Keys key with
 | true =>
  simp only[aE_,if_true]
  exact⟨hp.keys,hp.srt,fun v hv2=>by
   rcases mem_or_eq_of_mem_set hv2 with q|q
   ·exact hp.vals v q
   ·rw[q];exact hv,hp.kids,fun _=>⟨by show p.Keys.length≤7;omega,by simp[b],c⟩,fun e=>by rw[show p.Leaf=true from hl]at e;cases e⟩
 | false =>
  simp only[aE_,Bool.false_eq_true,if_false]
  refine⟨fun k hk2=>?_,rs_ hp.srt xx_ (pE_ hp.srt hf),fun v hv2=>?_,hp.kids,fun _=>⟨?_,?_,c⟩,fun e=>by rw[show p.Leaf=true from hl]at e;cases e⟩
  ·simp only[mem_append,mem_cons]at hk2
   rcases hk2 with q|q|q
   ·exact hp.keys k (mem_of_mem_take q)
   ·rw[q];exact hk
   ·exact hp.keys k (mem_of_mem_drop q)
  ·simp only[mem_append,mem_cons]at hv2
   rcases hv2 with q|q|q
   ·exact hp.vals v (mem_of_mem_take q)
   ·rw[q];exact hv
   ·exact hp.vals v (mem_of_mem_drop q)
  all_goals simp only[la_,lc_,length_take,length_drop];omega
theorem nI_{p:ap_}{key value low high:ByteArray}(has:Bool)(k:Nat)(ho:eQ_ p low high=false)(hr:inR key low high):eQ_ (aE_ p has k key value) low high=false:=by
 rw[cy_]at ho⊢
 intro x hx
 unfold aE_ at hx
 split at hx
 ·exact ho x hx
 ·simp only[mem_append,mem_cons]at hx
  rcases hx with q|q|q
  ·exact ho x (mem_of_mem_take q)
  ·rw[q];exact hr
  ·exact ho x (mem_of_mem_drop q)
theorem sd_{p:ap_}(hl:p.Leaf=true){key value:ByteArray}(has:Bool){k:Nat}:bG_ p≤bG_ (aE_ p has k key value):=by
 have e:(aE_ p has k key value).Leaf=p.Leaf:=by unfold aE_;split<;>rfl
 rw[bG_,bG_,e,if_pos hl,if_pos hl]
 unfold aE_
 split
 ·exact Nat.le_refl _
 ·simp only[la_,lc_,length_take,length_drop];omega
theorem op_{p:ap_}(hs:Srt p.Keys)(hl:p.Leaf=false){key low high:ByteArray}(hr:inR key low high):inR key (loQ p.Keys low (aH_ p key).1) (hiQ p.Keys high (aH_ p key).1):=by
 have hle:=jY_ p.Keys key
 have hfd:aH_ p key=(if cw_ p.Keys key=true then lbK p.Keys key+1 else lbK p.Keys key,cw_ p.Keys key):=by
  unfold aH_;rw[hl];rfl
 rw[hfd]
 simp only
 cases hf:cw_ p.Keys key with
 | true =>
  simp only[if_true]
  have hlt:=ik_ hf
  have he:p.Keys[lbK p.Keys key]=key:=by
   rw[cw_,decide_eq_true_eq,getElem?_eq_getElem hlt]at hf
   exact Option.some.inj hf
  refine⟨?_,?_⟩
  ·rw[loQ,if_pos (by omega),Nat.add_sub_cancel,getD_eq_getElem?_getD,getElem?_eq_getElem hlt]
   show aB_ key p.Keys[lbK p.Keys key]=false
   rw[he];exact eP_ _
  ·unfold hiQ
   split
   ·rename_i h2
    right
    rw[getD_eq_getElem?_getD,getElem?_eq_getElem h2]
    show aB_ key p.Keys[lbK p.Keys key+1]=true
    have:=pairwise_iff_getElem.1 hs (lbK p.Keys key) (lbK p.Keys key+1) hlt h2 (by omega)
    rwa [he]at this
   ·exact hr.2
 | false =>
  simp only[Bool.false_eq_true,if_false]
  refine⟨?_,?_⟩
  ·unfold loQ
   split
   ·rename_i h2
    rw[getD_eq_getElem?_getD,getElem?_eq_getElem (by omega)]
    exact dP_ (jR_ (xs:=p.Keys) (key:=key) (j:=lbK p.Keys key-1) (by omega))
   ·exact hr.1
  ·unfold hiQ
   split
   ·rename_i h2
    right
    rw[getD_eq_getElem?_getD,getElem?_eq_getElem h2]
    exact pE_ hs hf _ (by rw[drop_eq_getElem_cons h2];exact mem_cons_self)
   ·exact hr.2
theorem pV_{keys:List ByteArray}{k:Nat}{low high sep:ByteArray}(hs:Srt keys)(hk:k≤keys.length)(h1:aB_ (loQ keys low k) sep=true)(h2:hiQ keys high k=⟨#[]⟩∨aB_ sep (hiQ keys high k)=true)(hne:∀x∈keys,x≠⟨#[]⟩):Srt (keys.take k++sep::keys.drop k):=by
 refine rs_ hs (fun x hx=>?_) (fun x hx=>?_)
 ·obtain⟨j,hj,rfl⟩:=mem_iff_getElem.1 hx
  rw[length_take]at hj
  rw[getElem_take]
  have e:loQ keys low k=keys[k-1]:=by rw[loQ,if_pos (by omega),getD_eq_getElem?_getD,getElem?_eq_getElem (by omega)];rfl
  rw[e]at h1
  by_cases q:j=k-1
  ·subst q;exact h1
  ·exact b6_ (pairwise_iff_getElem.1 hs j (k-1) (by omega) (by omega) (by omega)) h1
 ·obtain⟨j,hj,rfl⟩:=mem_iff_getElem.1 hx
  rw[length_drop]at hj
  rw[getElem_drop]
  have e:hiQ keys high k=keys[k]:=by rw[hiQ,if_pos (by omega),getD_eq_getElem?_getD,getElem?_eq_getElem (by omega)];rfl
  rw[e]at h2
  have h2:aB_ sep keys[k]=true:=h2.resolve_left (hne _ (getElem_mem _))
  by_cases q:j=0
  ·subst q;exact h2
  ·exact b6_ h2 (pairwise_iff_getElem.1 hs k (k+j) (by omega) (by omega) (by omega))
theorem tV_{keys:List ByteArray}{k:Nat}{low high:ByteArray}(ho:∀x∈keys,inR x low high)(hk:k≤keys.length):aB_ (loQ keys low k) low=false:=by
 unfold loQ
 split
 ·rw[getD_eq_getElem?_getD,getElem?_eq_getElem (by omega)]
  exact(ho _ (getElem_mem _)).1
 ·exact eP_ _
theorem tb_{keys:List ByteArray}{k:Nat}{low high:ByteArray}(ho:∀x∈keys,inR x low high):hiQ keys high k=high∨(∃h:k<keys.length,hiQ keys high k=keys[k]):=by
 unfold hiQ
 split
 ·rename_i h
  right
  exact⟨h,by rw[getD_eq_getElem?_getD,getElem?_eq_getElem h];rfl⟩
 ·exact .inl rfl
theorem hF_{k:ByteArray}(h:bC_ k=true):k≠⟨#[]⟩:=by
 intro e
 rw[e]at h
 revert h
 decide
theorem i0_{key value:ByteArray}(hk:bC_ key=true)(hv:value.size≤64):∀(h n:Nat) (sl:List ad_) (top:Bool) (id:Int) (low high:ByteArray) (ids:List Int),h<n→cr_ sl→au_ (aa_ sl) h top id low high ids→ids.Nodup→inR key low high→kK_ (aa_ sl) ids h top id low high (bt_ n sl id key value)
 | h,0,_,_,_,_,_,_,hn,_,_,_,_=>absurd hn (Nat.not_lt_zero _)
 | 0,n+1,sl,top,id,low,high,ids,hn,ok,t,nd,hr=>by
  obtain⟨p,r,hp,hb,hf,⟨hl,ho,er⟩,ei⟩:=au_.iff.1 t
  subst er ei
  obtain⟨i1,i2,hs⟩:=ok.pgs id p hp
  rw[c2_ hp hl]
  have pg:=oZ_ hb hl (key:=key) (value:=value) hk hv
  have hlf:(aE_ p (aH_ p key).2 (aH_ p key).1 key value).Leaf=true:=by unfold aE_;split<;>exact hl
  have hrs:=ok.rise
  generalize hq:aE_ p (aH_ p key).2 (aH_ p key).1 key value=q at *
  have ok1:=ok.set (s:=⟨id,q⟩) ⟨i1,i2,pg.shape⟩
  have g:=oh_ (top:=top) (low:=low) (high:=high) (h:=0) (r:=[]) ok1 (p:=q) (by rw[be_ hrs,if_pos rfl]) pg
   (by rcases hf with e | e
       ·exact .inl e
       ·right
        have:=sd_ hl (key:=key) (value:=value) (aH_ p key).2 (k:=(aH_ p key).1)
        rw[hq]at this
        omega) ⟨hlf,by rw[←hq];exact nI_ _ _ ho hr,rfl⟩ nd
  intro hc
  obtain⟨g1,g2⟩:=g hc
  have hst:∀i,aa_ (aq_ ⟨id,q⟩ false sl) i=none→aa_ sl i=none:=fun i hi=>by
   rw[be_ hrs]at hi
   split at hi
   ·cases hi
   ·exact hi
  refine⟨fun hz=>?_,fun hz=>?_⟩
  ·obtain⟨ids',t',nd',hs'⟩:=g1 hz
   exact⟨ids',t',nd',fun i hi=>(hs' i hi).imp (fun q=>q) (hst i)⟩
  ·obtain⟨a,b,ta,tb,nd',hs',rest⟩:=g2 hz
   exact⟨a,b,ta,tb,nd',fun i hi=>(hs' i hi).imp (fun x=>x) (hst i),rest⟩
 | h+1,n+1,sl,top,id,low,high,ids,hn,ok,t,nd,hr=>by
  obtain⟨p,r,hp,hb,hf,⟨hl,ho,hka⟩,ei⟩:=au_.iff.1 t
  subst ei
  obtain⟨i1,i2,hs⟩:=ok.pgs id p hp
  obtain⟨n1,n2⟩:=nodup_cons.1 nd
  have hpg:=c0_ hb
  obtain⟨k1,k2,k3,k4⟩:=hpg.node hl
  have ho':=cy_.1 ho
  have hle:=eJ_ p key
  have hlt:(aH_ p key).1<p.Kids.length:=by omega
  have hrange:=op_ hpg.srt hl hr
  generalize hkk:(aH_ p key).1=k at *
  obtain⟨a,m,b,er,hm,hput⟩:=aJ_.seg 0 k (by omega) hka
  have hgd:p.Kids.getD k 0=p.Kids[k]:=by rw[getD_eq_getElem?_getD,getElem?_eq_getElem hlt];rfl
  have hseg:(p.Kids.drop k).take (0+1)=[p.Kids[k]]:=by rw[drop_eq_getElem_cons hlt];rfl
  rw[hseg,take_zero,Nat.add_zero]at hm
  have hm:au_ (aa_ sl) h false p.Kids[k] (loQ p.Keys low k) (hiQ p.Keys high k) m:=hm
  have hmr:∀i∈m,i∈r:=fun i hi=>by rw[er];exact mem_append_right _ (mem_append_left _ hi)
  have hab:∀i∈a++b,i∈r:=fun i hi=>by
   rw[er]
   rcases mem_append.1 hi with q|q
   ·exact mem_append_left _ q
   ·exact mem_append_right _ (mem_append_right _ q)
  rw[er]at n2
  obtain⟨d1,d2,d3⟩:=nodup_append.1 n2
  obtain⟨d4,d5,d6⟩:=nodup_append.1 d2
  have hdis:∀i∈a++b,i∉m:=fun i hi q=>by
   rcases mem_append.1 hi with e|e
   ·exact d3 i e i (mem_append_left _ q) rfl
   ·exact d6 i q i e rfl
  have ih:=i0_ hk hv h n sl false p.Kids[k] _ _ m (by omega) ok hm d4 hrange
  obtain⟨hg,hgs⟩:=eX_ hk hv h n sl false p.Kids[k] _ _ m (by omega) ok hm d4
  obtain⟨sl',sep,new,code,hres⟩:∃sl' sep new code,bt_ n sl (p.Kids.getD (aH_ p key).1 0) key value=(sl',sep,new,code):=⟨_,_,_,_,rfl⟩
  rw[gK_ hp hl hres]
  rw[hkk,hgd]at hres
  rw[hres]at ih hg hgs
  rw[hkk]
  simp only at ih hg hgs
  have hnm:id∉m:=fun q=>n1 (hmr id q)
  have hp':aa_ sl' id=some p:=(hg.kept id hnm (by rw[hp];rfl)).trans hp
  have hal:=hka.has (Q:=fun i=>(aa_ sl i).isSome=true) (fun kid lo hi m q=>au_.has q)
  have hkeep:∀i∈a++b,aa_ sl' i=aa_ sl i:=fun i hi=>hg.kept i (hdis i hi) (hal i (hab i hi))
  have hnone:∀i,aa_ sl' i=none→aa_ sl i=none:=fun i hi=>by
   cases e:aa_ sl i with
   | none=>rfl
   | some q =>
    have:=hg.dom i (by rw[e];rfl)
    rw[hi]at this;cases this
  have hidl:(aa_ sl id).isSome=true:=by rw[hp];rfl
  have hold:∀i,aa_ sl i=none→i∉id::(a++(m++b)):=fun i hi q=>by
   have:(aa_ sl i).isSome=true:=by
    rcases mem_cons.1 q with e|e
    ·rw[e];exact hidl
    ·exact hal i (by rw[er];exact e)
   rw[hi]at this;cases this
  rw[er]at nd
  by_cases hc:code=0
  ·rw[if_neg (by simpa using hc)]
   obtain⟨g1,g2⟩:=ih hc
   by_cases hz:new=0
   ·rw[if_pos hz]
    obtain⟨m',t',nd',hs'⟩:=g1 hz
    refine fun _=>⟨fun _=>⟨id::(a++(m'++b)),au_.iff.2 ⟨p,_,hp',hb,hf,⟨hl,ho,?_⟩,rfl⟩,?_,?_⟩,fun e=>absurd rfl e⟩
    ·have:=hput (fun kid lo hi m=>au_ (aa_ sl') h false kid lo hi m) [p.Kids[k]] [] m' (fun kid lo hi x hx q=>au_.congr (fun i hi=>hkeep i (hx i hi)) q) t'
     have e1:p.Kids.take k++([p.Kids[k]]++p.Kids.drop (k+(0+1)))=p.Kids:=by rw[singleton_append,Nat.zero_add,←drop_eq_getElem_cons hlt,take_append_drop]
     have e2:p.Keys.take k++([]++p.Keys.drop (k+0))=p.Keys:=by rw[nil_append,Nat.add_zero,take_append_drop]
     rw[e1,e2]at this
     exact this
    ·exact i8_ nd nd' fun i hi=>(hs' i hi).imp (fun q=>q) (hold i)
    ·intro i hi
     rw[er]
     exact qe_ hs' i hi
   ·rw[if_neg hz]
    obtain⟨x,y,tx,ty,nd',hs',new1,new2,lo1,hi1,ks⟩:=g2 hz
    have hkids:p.Kids.take (k+1)=p.Kids.take k++[p.Kids[k]]:=(take_append_getElem hlt).symm
    have pg:PgN 7 (aD_ p k sep new):=by
     refine⟨fun q hq=>?_,?_,fun v hv2=>hpg.vals v hv2,fun q hq=>?_,fun e=>?_,fun _=>⟨?_,?_,?_,k4⟩⟩
     ·simp only[aD_,mem_append,mem_cons]at hq
      rcases hq with e|e|e
      ·exact hpg.keys q (mem_of_mem_take e)
      ·rw[e];exact ks
      ·exact hpg.keys q (mem_of_mem_drop e)
     ·exact pV_ hpg.srt (by omega) lo1 hi1 fun q hq=>hF_ (hpg.keys q hq)
     ·simp only[aD_,mem_append,mem_cons]at hq
      rcases hq with e|e|e
      ·exact hpg.kids q (mem_of_mem_take e)
      ·rw[e];exact⟨new1,new2⟩
      ·exact hpg.kids q (mem_of_mem_drop e)
     ·rw[show(aD_ p k sep new).Leaf=p.Leaf from rfl,hl]at e;cases e
     all_goals simp only[aD_,la_,lc_,length_take,length_drop];omega
    have nd1:=i8_ nd nd' fun i hi=>(hs' i hi).imp (fun q=>q) (hold i)
    have hst1:∀i,i≠id→aa_ (aq_ ⟨id,aD_ p k sep new⟩ false sl') i=aa_ sl' i:=fun i hi=>by rw[be_ hg.ok.rise,if_neg (fun e=>hi e.symm)]
    have hin:∀i∈a++((x++y)++b),i≠id:=fun i hi e=>(nodup_cons.1 nd1).1 (e▸hi)
    have hloq:=tV_ (k:=k) ho' (by omega)
    have ok1:=hg.ok.set (s:=⟨id,aD_ p k sep new⟩) ⟨i1,i2,pg.shape⟩
    have g:=oh_ (top:=top) (low:=low) (high:=high) (h:=h+1) (r:=a++((x++y)++b)) ok1 (p:=aD_ p k sep new) (by rw[be_ hg.ok.rise,if_pos rfl]) pg
     (by rcases hf with e | e
         ·exact .inl e
         ·right
          rw[bG_,if_neg (by rw[hl];simp)]at e
          rw[bG_,if_neg (by rw[show(aD_ p k sep new).Leaf=p.Leaf from rfl,hl];simp)]
          simp only[aD_,la_,lc_,length_take,length_drop];omega)
     ⟨hl,by
      rw[cy_]
      intro q hq
      simp only[aD_,mem_append,mem_cons]at hq
      rcases hq with e|e|e
      ·exact ho' q (mem_of_mem_take e)
      ·rw[e]
       refine⟨dP_ (gF_ hloq lo1),?_⟩
       rcases tb_ (k:=k) ho' with e2|⟨hh,e2⟩
       ·rw[←e2];exact hi1
       ·rw[e2]at hi1
        have h3:=hi1.resolve_left (hF_ (hpg.keys _ (getElem_mem hh)))
        rcases(ho' _ (getElem_mem hh)).2 with e4|e4
        ·exact .inl e4
        ·exact .inr (b6_ h3 e4)
      ·exact ho' q (mem_of_mem_drop e),by
      have:=hput (fun kid lo hi m=>au_ (aa_ (aq_ ⟨id,aD_ p k sep new⟩ false sl')) h false kid lo hi m) [p.Kids[k],new] [sep] (x++y) (fun kid lo hi z hz q=>au_.congr (fun i hi=>(hst1 i (hin i (by
       rcases mem_append.1 (hz i hi)with e|e
       ·exact mem_append_left _ e
       ·exact mem_append_right _ (mem_append_right _ e)))).trans (hkeep i (hz i hi))) q)
       ⟨x,y,rfl,au_.congr (fun i hi=>hst1 i (hin i (mem_append_right _ (mem_append_left _ (mem_append_left _ hi))))) tx,au_.congr (fun i hi=>hst1 i (hin i (mem_append_right _ (mem_append_left _ (mem_append_right _ hi))))) ty⟩
      have e1:(aD_ p k sep new).Kids=p.Kids.take k++([p.Kids[k],new]++p.Kids.drop (k+(0+1))):=by
       show p.Kids.take (k+1)++new::p.Kids.drop (k+1)=_
       rw[hkids,Nat.zero_add,append_assoc];rfl
      have e2:(aD_ p k sep new).Keys=p.Keys.take k++([sep]++p.Keys.drop (k+0)):=rfl
      rw[e1,e2]
      exact this⟩ nd1
    have hsub:∀i,i∈id::(a++((x++y)++b))∨aa_ (aq_ ⟨id,aD_ p k sep new⟩ false sl') i=none→i∈id::r∨aa_ sl i=none:=fun i hi=>by
     rcases hi with e|e
     ·rw[er];exact qe_ hs' i e
     ·right
      refine hnone i ?_
      rw[be_ hg.ok.rise]at e
      split at e
      ·cases e
      ·exact e
    intro hc2
    obtain⟨f1,f2⟩:=g hc2
    refine⟨fun hz2=>?_,fun hz2=>?_⟩
    ·obtain⟨ids',t',nd2,hs2⟩:=f1 hz2
     exact⟨ids',t',nd2,fun i hi=>hsub i (hs2 i hi)⟩
    ·obtain⟨a2,b2,ta,tb,nd2,hs2,rest⟩:=f2 hz2
     exact⟨a2,b2,ta,tb,nd2,fun i hi=>hsub i (hs2 i hi),rest⟩
  ·rw[if_pos hc]
   exact fun e=>absurd e hc
theorem Fit.ht{b:ay_}{h:Nat}{ids:List Int}(r:Fit b h ids):h<65:=by
 have h1:∀(h:Nat) (top:Bool) (id:Int) (low high:ByteArray) (ids:List Int),au_ (aa_ b.Slots) h top id low high ids→h<ids.length:=by
  intro h
  induction h with
  | zero =>
   intro top id low high ids t
   obtain⟨p,_,_,_,_,_,e⟩:=t
   rw[e];simp
  | succ h ih =>
   intro top id low high ids t
   obtain⟨p,q1,q2,q3,q4,q5,r,q6,q7⟩:=t
   obtain⟨_,n1,n2,n3,n4,n5⟩:=cq_ q3 q2
   obtain⟨a,m,c,e,t⟩:=aJ_.get 0 (by omega) q7
   have:=ih _ _ _ _ _ t
   rw[q6,e]
   simp only[lc_,la_]
   omega
 have h2:=h1 _ _ _ _ _ _ r.tree
 have h3:ids.length≤b.Slots.length:=by
  have:ids ⊆ b.Slots.map ad_.Id:=by
   intro i hi
   obtain⟨p,hp⟩:=Option.isSome_iff_exists.1 (r.tree.has i hi)
   exact mem_map.2 ⟨_,dx_ hp,rfl⟩
  have:=bH_ r.nodup this
  simpa using this
 have:=r.ok.len
 omega
theorem mr_{p:ap_}{low high:ByteArray}{f:Int→ByteArray→ByteArray→List Int→Int→Bool×List Int×Int}{T:Int→ByteArray→ByteArray→List Int→Prop}{D:Int}{Q:List Int→Prop}(hQ:∀a b,Q a→Q (a++b))
 (hf:∀kid lo hi ids m e,T kid lo hi ids→Q m→ids.Nodup→(∀i∈ids,i∉m)→(e<0∨e=D)→f kid lo hi m e=(true,m++ids,D)) :
 ∀(r:List Int) (k:Nat) (met:List Int) (dep:Int) (ids:List Int),r=p.Kids.drop k→r≠[]→p.Kids.length=p.Keys.length+1→aJ_ T r (p.Keys.drop k) (loK p low k) high ids→Q met→ids.Nodup→(∀i∈ids,i∉met)→(dep<0∨dep=D) →
  c8_ f p low high k r met dep=(true,met++ids,D)
 | [],_,_,_,_,_,hne,_,_,_,_,_,_=>absurd rfl hne
 | kid::r,k,met,dep,ids,hr,_,hl,hk,hq,hn,hd,he=>by
  have hkl:k<p.Kids.length:=by
   have:=congrArg List.length hr
   simp only[lc_,length_drop]at this
   omega
  have hr2:r=p.Kids.drop (k+1):=by
   rw[drop_eq_getElem_cons hkl]at hr
   exact(List.cons.inj hr).2
  rw[c8_]
  cases r with
  | nil =>
   have hkk:k=p.Keys.length:=by
    have:=congrArg List.length hr2
    simp only[ln_,length_drop]at this
    omega
   rw[drop_eq_nil_of_le (by omega)]at hk
   have hk:T kid (loK p low k) high ids:=hk
   have e1:hiK p high k=high:=by rw[hiK,if_neg (by omega)]
   rw[e1,hf _ _ _ _ _ _ hk hq hn hd he]
   rfl
  | cons kid2 r =>
   have hk2:k<p.Keys.length:=by
    have:=congrArg List.length hr2
    simp only[lc_,length_drop]at this
    omega
   rw[drop_eq_getElem_cons hk2]at hk
   obtain⟨a,b,e,h1,h2⟩:=hk
   have e1:hiK p high k=p.Keys[k]:=by rw[hiK,if_pos hk2,getD_eq_getElem?_getD,getElem?_eq_getElem hk2];rfl
   have e2:loK p low (k+1)=p.Keys[k]:=by rw[loK,if_pos (by omega),Nat.add_sub_cancel,getD_eq_getElem?_getD,getElem?_eq_getElem hk2];rfl
   subst e
   obtain⟨n1,n2,n3⟩:=nodup_append.1 hn
   rw[e1,hf _ _ _ _ _ _ h1 hq n1 (fun i hi=>hd i (mem_append_left _ hi)) he]
   simp only[if_true]
   rw[mr_ hQ hf (kid2::r) (k+1) (met++a) D b hr2 (by simp) hl (by rw[e2];exact h2) (hQ _ _ hq) n2 (fun i hi q=>?_) (.inr rfl),append_assoc]
   rcases mem_append.1 q with z|z
   ·exact hd i (mem_append_right _ hi) z
   ·exact n3 i z i hi rfl
theorem om_{st:a9_}{root:Int}:∀(h n:Nat) (top:Bool) (id:Int) (low high:ByteArray) (ids:List Int) (d:Int) (met:List Int) (dep:Int),h<n→au_ st h top id low high ids→(top=true→id=root)→(id=root∨root∈met)→ids.Nodup→(∀i∈ids,i∉met)→(dep<0∨dep=d+h)→0≤d →
 ca_ st root n id low high d met dep=(true,met++ids,d+h)
 | h,0,_,_,_,_,_,_,_,_,hn,_,_,_,_,_,_,_=>absurd hn (Nat.not_lt_zero _)
 | 0,n+1,top,id,low,high,ids,d,met,dep,hn,t,ht,hr,nd,hd,he,h0=>by
  obtain⟨p,hp,hl,hb,ho,hf,ei⟩:=t
  subst ei
  have hni:met.contains id=false:=by
   have:=hd id mem_cons_self
   simpa using this
  have hfl:(!decide (id=root)&&decide ((bG_ p:Int)<3))=false:=by
   rcases hf with e|e
   ·rw[decide_eq_true (ht e)];rfl
   ·rw[bG_,if_pos hl,decide_eq_false (by omega:¬ (p.Keys.length:Int)<3),Bool.and_false]
  rw[fR_,hp]
  simp only[hni,ho,hfl,hl,Bool.false_eq_true,if_false,if_true]
  rcases he with e|e
  ·rw[if_pos e];simp
  ·have:¬ dep<0:=by omega
   rw[if_neg this,e];simp
 | h+1,n+1,top,id,low,high,ids,d,met,dep,hn,t,ht,hr,nd,hd,he,h0=>by
  obtain⟨p,hp,hl,hb,ho,hf,r,ei,hk⟩:=t
  subst ei
  obtain⟨n1,n2⟩:=nodup_cons.1 nd
  obtain⟨_,b1,b2,b3,b4,b5⟩:=cq_ hb hl
  have hni:met.contains id=false:=by
   have:=hd id mem_cons_self
   simpa using this
  have hfl:(!decide (id=root)&&decide ((bG_ p:Int)<3))=false:=by
   rcases hf with e|e
   ·rw[decide_eq_true (ht e)];rfl
   ·rw[bG_,if_neg (by rw[hl];simp),decide_eq_false (by omega:¬ (p.Kids.length:Int)<3),Bool.and_false]
  rw[fR_,hp]
  simp only[hni,ho,hfl,hl,Bool.false_eq_true,if_false]
  have hrm:root∈met++[id]:=by
   rcases hr with q|q
   ·rw[q];simp
   ·exact mem_append_left _ q
  have he2:dep<0∨dep=d+1+h:=by
   rcases he with e|e
   ·exact .inl e
   ·right;omega
  rw[mr_ (T:=fun kid lo hi m=>au_ st h false kid lo hi m) (D:=d+1+h) (Q:=fun m=>root∈m) (fun a b q=>mem_append_left _ q)
   (fun kid lo hi ids m e t q nd hd he=>om_ h n false kid lo hi ids (d+1) m e (by omega) t (fun e=>by cases e) (.inr q) nd hd he (by omega)) p.Kids 0 (met++[id]) dep r rfl (by intro e;rw[e]at b1;simp at b1) b3 hk hrm n2 (fun i hi q=>?_) he2]
  ·simp only[append_assoc,singleton_append,Prod.mk.injEq,true_and]
   omega
  ·rcases mem_append.1 q with z|z
   ·exact hd i (mem_cons_of_mem _ hi) z
   ·rw[mem_singleton]at z
    exact n1 (z▸hi)
theorem th_{sl:List ad_}(hr:df_ sl)(h:∀s∈sl,1≤s.Id∧s.Id≤64∧pageB s.Page=true):cQ_ sl=true:=by
 rw[cQ_,all_eq_true]
 intro k hk
 have hk:k<sl.length:=by simpa using hk
 obtain⟨a,b,c⟩:=h _ (getElem_mem hk)
 have e:sl.getD k hV_=sl[k]:=by rw[getD_eq_getElem?_getD,getElem?_eq_getElem hk];rfl
 rw[fr_,e,c,ba_,decide_eq_true a,decide_eq_true b]
 by_cases h0:k=0
 ·subst h0;rfl
 ·have e2:sl.getD (k-1) hV_=sl[k-1]:=by rw[getD_eq_getElem?_getD,getElem?_eq_getElem (by omega)];rfl
  have:=pairwise_iff_getElem.1 hr (k-1) k (by omega) hk (by omega)
  rw[e2,decide_eq_true this]
  simp
theorem aJ_.mem{T:Int→ByteArray→ByteArray→List Int→Prop}{Q:Int→Prop}(hQ:∀kid lo hi m,T kid lo hi m→∀i∈m,Q i):∀{kids:List Int} {keys:List ByteArray} {low high:ByteArray} {ids:List Int},aJ_ T kids keys low high ids→∀i∈ids,Q i:=aJ_.has hQ
theorem au_.pages{st:a9_}:∀{h:Nat} {top:Bool} {id:Int} {low high:ByteArray} {ids:List Int},au_ st h top id low high ids→∀i∈ids,∃p,st i=some p∧pageB p=true
 | 0,top,id,low,high,ids,t=>by
  obtain⟨p,h1,h2,h3,h4,h5,h6⟩:=t
  intro i hi
  rw[h6,mem_singleton]at hi
  exact⟨p,by rw[hi];exact h1,h3⟩
 | h+1,top,id,low,high,ids,t=>by
  obtain⟨p,h1,h2,h3,h4,h5,r,h6,h7⟩:=t
  intro i hi
  rw[h6]at hi
  rcases mem_cons.1 hi with q|q
  ·exact⟨p,by rw[q];exact h1,h3⟩
  ·exact aJ_.has (Q:=fun i=>∃p,st i=some p∧pageB p=true) (fun kid lo hi m q=>au_.pages q) h7 i q
def Whole(b:ay_)(ids:List Int):Prop:=∀i,(aa_ b.Slots i).isSome=true→i∈ids
theorem q9_{b:ay_}{h:Nat}{ids:List Int}(f:Fit b h ids)(w:Whole b ids):ids.length=b.Slots.length:=by
 have h1:ids ⊆ b.Slots.map ad_.Id:=by
  intro i hi
  obtain⟨p,hp⟩:=Option.isSome_iff_exists.1 (f.tree.has i hi)
  exact mem_map.2 ⟨_,dx_ hp,rfl⟩
 have h2:b.Slots.map ad_.Id ⊆ ids:=by
  intro i hi
  obtain⟨s,hs,rfl⟩:=mem_map.1 hi
  exact w _ (by rw[iH_ f.ok.rise hs];rfl)
 have a:=bH_ f.nodup h1
 have c:=bH_ f.ok.rise.ids h2
 rw[length_map]at a c
 omega
theorem iX_{b:ay_}{h:Nat}{ids:List Int}(f:Fit b h ids)(w:Whole b ids):c3_ b=true:=by
 have hl:=q9_ f w
 have hht:h<b.Slots.length+1:=by
  have h1:∀(h:Nat) (top:Bool) (id:Int) (low high:ByteArray) (ids:List Int),au_ (aa_ b.Slots) h top id low high ids→h<ids.length:=by
   intro h
   induction h with
   | zero =>
    intro top id low high ids t
    obtain⟨p,_,_,_,_,_,e⟩:=t
    rw[e];simp
   | succ h ih =>
    intro top id low high ids t
    obtain⟨p,q1,q2,q3,q4,q5,r,q6,q7⟩:=t
    obtain⟨_,n1,n2,n3,n4,n5⟩:=cq_ q3 q2
    obtain⟨a,m,c,e,t⟩:=aJ_.get 0 (by omega) q7
    have:=ih _ _ _ _ _ t
    rw[q6,e]
    simp only[lc_,la_]
    omega
  have:=h1 _ _ _ _ _ _ f.tree
  omega
 have hw:hT_ b=(true,[]++ids,(0:Int)+h):=om_ h _ true b.Root _ _ ids 0 [] (-1) hht f.tree (fun _=>rfl) (.inl rfl) f.nodup (fun i _ q=>by cases q) (.inl (by omega)) (by omega)
 have hs:cQ_ b.Slots=true:=th_ f.ok.rise fun s hs=>by
  have hp:=iH_ f.ok.rise hs
  obtain⟨a,c,_⟩:=f.ok.pgs _ _ hp
  obtain⟨p,e,hb⟩:=f.tree.pages s.Id (w _ (by rw[hp];rfl))
  rw[hp]at e
  have:=Option.some.inj e
  subst this
  exact⟨a,c,hb⟩
 rw[c3_,hs,hw]
 simp[hl]
def a5_(st:a9_):Nat→Int→List ByteArray
 | 0,id=>match st id with|some p=>p.Keys|none=>[]
 | h+1,id=>match st id with|some p=>p.Kids.flatMap (a5_ st h)|none=>[]
def dN_(st:a9_):Nat→ap_→List ByteArray
 | 0,p=>p.Keys
 | h+1,p=>p.Kids.flatMap (a5_ st h)
def bh_(st:a9_):Nat→Int→List Int
 | 0,id=>[id]
 | h+1,id=>id::match st id with|some p=>p.Kids.flatMap (bh_ st h)|none=>[]
def fE_(st:a9_):Nat→ap_→List Int
 | 0,p=>[]
 | h+1,p=>p.Kids.flatMap (bh_ st h)
theorem bQ_{st:a9_}{id:Int}{p:ap_}(hp:st id=some p)(h:Nat):a5_ st h id=dN_ st h p:=by
 cases h<;>simp only[a5_,dN_,hp]
theorem dn_{st:a9_}{id:Int}{p:ap_}(hp:st id=some p)(h:Nat):bh_ st h id=id::fE_ st h p:=by
 cases h<;>simp only[bh_,fE_,hp]
theorem bL_{α β:Type}{f g:α→List β}:∀{l:List α},(∀x∈l,f x=g x)→l.flatMap f=l.flatMap g
 | [],_=>rfl
 | x::l,h=>by rw[flatMap_cons,flatMap_cons,h x mem_cons_self,bL_ fun y hy=>h y (mem_cons_of_mem _ hy)]
theorem aJ_.flat{T:Int→ByteArray→ByteArray→List Int→Prop}{I:Int→List Int}(hI:∀kid lo hi m,T kid lo hi m→m=I kid):∀{kids:List Int} {keys:List ByteArray} {low high:ByteArray} {ids:List Int},aJ_ T kids keys low high ids→ids=kids.flatMap I∧∀kid∈kids,∃lo hi,T kid lo hi (I kid)
 | [],_,_,_,_,h=>h.elim
 | [kid],[],low,high,ids,h=>by
  have h:T kid low high ids:=h
  have e:=hI _ _ _ _ h
  refine⟨by rw[e];simp,fun k hk=>?_⟩
  rw[mem_singleton]at hk
  rw[hk]
  exact⟨low,high,e▸h⟩
 | _::_::_,[],_,_,_,h=>h.elim
 | [kid],k::keys,low,high,ids,h=>by
  obtain⟨a,b,e,h1,h2⟩:=h
  exact h2.elim
 | kid::kid'::kids,k::keys,low,high,ids,h=>by
  obtain⟨a,b,e,h1,h2⟩:=h
  obtain⟨e2,h3⟩:=aJ_.flat hI h2
  have e1:=hI _ _ _ _ h1
  refine⟨by rw[e,e1,e2];rfl,fun x hx=>?_⟩
  rcases mem_cons.1 hx with q|q
  ·rw[q];exact⟨low,k,e1▸h1⟩
  ·exact h3 x q
theorem au_.ids{st:a9_}:∀{h:Nat} {top:Bool} {id:Int} {low high:ByteArray} {ids:List Int},au_ st h top id low high ids→ids=bh_ st h id
 | 0,top,id,low,high,ids,t=>by
  obtain⟨p,h1,h2,h3,h4,h5,h6⟩:=t
  exact h6
 | h+1,top,id,low,high,ids,t=>by
  obtain⟨p,h1,h2,h3,h4,h5,r,h6,h7⟩:=t
  rw[h6,bh_,h1,(aJ_.flat (I:=bh_ st h) (fun kid lo hi m q=>au_.ids q) h7).1]
theorem cG_.kids{st:a9_}{h:Nat}{p:ap_}{low high:ByteArray}{r:List Int}(t:cG_ st (h+1) p low high r):r=p.Kids.flatMap (bh_ st h)∧∀kid∈p.Kids,∃lo hi,au_ st h false kid lo hi (bh_ st h kid):=by
 obtain⟨_,_,h3⟩:=t
 exact aJ_.flat (I:=bh_ st h) (fun kid lo hi m q=>au_.ids q) h3
theorem eg_{st st':a9_}:∀{h:Nat} {top:Bool} {id:Int} {low high:ByteArray} {ids:List Int},au_ st h top id low high ids→(∀i∈bh_ st h id,st' i=st i)→a5_ st' h id=a5_ st h id∧bh_ st' h id=bh_ st h id
 | 0,top,id,low,high,ids,t,hs=>by
  have:st' id=st id:=hs id mem_cons_self
  exact⟨by simp only[a5_,this],rfl⟩
 | h+1,top,id,low,high,ids,t,hs=>by
  obtain⟨p,r,hp,_,_,hn,_⟩:=au_.iff.1 t
  obtain⟨_,hk⟩:=hn.kids
  rw[dn_ hp]at hs
  have hp':st' id=some p:=(hs id mem_cons_self).trans hp
  have ih:∀kid∈p.Kids,a5_ st' h kid=a5_ st h kid∧bh_ st' h kid=bh_ st h kid:=fun kid hkid=>by
   obtain⟨lo,hi,t⟩:=hk kid hkid
   exact eg_ t fun i hi=>hs i (mem_cons_of_mem _ (mem_flatMap.2 ⟨kid,hkid,hi⟩))
  rw[bQ_ hp,bQ_ hp',dn_ hp,dn_ hp']
  exact⟨bL_ fun kid hkid=>(ih kid hkid).1,congrArg _ (bL_ fun kid hkid=>(ih kid hkid).2)⟩
theorem nZ_{st st':a9_}{h:Nat}{p:ap_}{low high:ByteArray}{r:List Int}(t:cG_ st h p low high r)(hs:∀i∈r,st' i=st i):dN_ st' h p=dN_ st h p∧fE_ st' h p=fE_ st h p:=by
 cases h with
 | zero=>exact⟨rfl,rfl⟩
 | succ h =>
  obtain⟨er,hk⟩:=t.kids
  have ih:∀kid∈p.Kids,a5_ st' h kid=a5_ st h kid∧bh_ st' h kid=bh_ st h kid:=fun kid hkid=>by
   obtain⟨lo,hi,t⟩:=hk kid hkid
   exact eg_ t fun i hi=>hs i (by rw[er];exact mem_flatMap.2 ⟨kid,hkid,hi⟩)
  exact⟨bL_ fun kid hkid=>(ih kid hkid).1,bL_ fun kid hkid=>(ih kid hkid).2⟩
theorem si_{st:a9_}{h:Nat}{p:ap_}(hl:p.Leaf=decide (h=0)):dN_ st h (aF_ p).1++dN_ st h (aF_ p).2.1=dN_ st h p∧fE_ st h (aF_ p).1++fE_ st h (aF_ p).2.1=fE_ st h p:=by
 cases h with
 | zero =>
  rw[kZ_ hl]
  exact⟨take_append_drop _ _,rfl⟩
 | succ h =>
  rw[k6_ (by rw[hl];simp)]
  simp only[dN_,fE_]
  exact⟨by rw[←flatMap_append,take_append_drop],by rw[←flatMap_append,take_append_drop]⟩
def inK(st:a9_)(h:Nat)(id new:Int)(x:ByteArray):Prop:=x∈a5_ st h id∨(new≠0∧x∈a5_ st h new)
def inI(st:a9_)(h:Nat)(id new:Int)(i:Int):Prop:=i∈bh_ st h id∨(new≠0∧i∈bh_ st h new)
theorem nT_{sl:List ad_}{id:Int}{p:ap_}{h:Nat}{low high:ByteArray}{r:List Int}(ok:cr_ sl)(hp:aa_ sl id=some p)(hpg:PgN 7 p)(t:cG_ (aa_ sl) h p low high r)(nd:(id::r).Nodup)(hc:(bU_ sl id).2.2.2=0) :
 (∀x,inK (aa_ (bU_ sl id).1) h id (bU_ sl id).2.2.1 x↔x∈a5_ (aa_ sl) h id)∧∀i,inI (aa_ (bU_ sl id).1) h id (bU_ sl id).2.2.1 i↔i∈bh_ (aa_ sl) h id∨(aa_ sl i=none∧(aa_ (bU_ sl id).1 i).isSome=true):=by
 obtain⟨n1,n2⟩:=nodup_cons.1 nd
 rw[bU_,hp]at hc⊢
 simp only at hc⊢
 by_cases hfu:b2_ p=false
 ·rw[if_pos hfu]
  refine⟨fun x=>⟨fun q=>q.resolve_right fun q=>q.1 rfl,fun q=>.inl q⟩,fun i=>⟨fun q=>.inl (q.resolve_right fun q=>q.1 rfl),fun q=>.inl (q.resolve_right fun q=>?_)⟩⟩
  obtain⟨q1,q2⟩:=q
  rw[q1]at q2;cases q2
 ·rw[if_neg hfu]at hc⊢
  have hfu':b2_ p=true:=by simpa using hfu
  by_cases hn:aG_ (aa_ sl) 64=0
  ·rw[if_pos hn]at hc
   exact absurd (show(4:Int)=0 from hc) (by decide)
  ·rw[if_neg hn]
   rcases ei_ (st:=aa_ sl) 64 (Nat.le_refl _)with q|⟨q1,q2,q3⟩
   ·exact absurd q hn
   obtain⟨a,b,er,ta,tb,pa,pb,fa,fb,ks,lo,hi⟩:=mu_ t hpg hfu'
   have hne:id≠aG_ (aa_ sl) 64:=fun e=>by rw[←e,hp]at q3;cases q3
   have hr1:df_ (aq_ ⟨id,(aF_ p).1⟩ false sl):=hG_ ok.rise
   have st1:∀i,aa_ (up2 sl id p) i=if aG_ (aa_ sl) 64=i then some (aF_ p).2.1 else if id=i then some (aF_ p).1 else aa_ sl i:=by
    intro i
    rw[up2,be_ hr1]
    by_cases e:aG_ (aa_ sl) 64=i
    ·rw[if_pos e,if_pos e]
    ·rw[if_neg e,if_neg e,be_ ok.rise]
   have hnew:aG_ (aa_ sl) 64∉r:=ks_ n2 t.has q3
   have kept:∀i∈r,aa_ (up2 sl id p) i=aa_ sl i:=fun i hi=>by
    rw[st1,if_neg (fun e=>hnew (by rw[e];exact hi)),if_neg (fun e=>n1 (by rw[e];exact hi))]
   have s1:aa_ (up2 sl id p) id=some (aF_ p).1:=by rw[st1,if_neg (Ne.symm hne),if_pos rfl]
   have s2:aa_ (up2 sl id p) (aG_ (aa_ sl) 64)=some (aF_ p).2.1:=by rw[st1,if_pos rfl]
   obtain⟨ka,ia⟩:=nZ_ ta (st':=aa_ (up2 sl id p)) fun i hi=>kept i (by rw[er];exact mem_append_left _ hi)
   obtain⟨kb,ib⟩:=nZ_ tb (st':=aa_ (up2 sl id p)) fun i hi=>kept i (by rw[er];exact mem_append_right _ hi)
   obtain⟨ek,ei⟩:=si_ (st:=aa_ sl) t.leafB
   refine⟨fun x=>?_,fun i=>?_⟩
   ·unfold inK
    simp only
    rw[bQ_ s1,bQ_ s2,bQ_ hp,ka,kb,←ek,mem_append]
    exact⟨fun q=>q.imp (fun q=>q) (fun q=>q.2),fun q=>q.imp (fun q=>q) (fun q=>⟨hn,q⟩)⟩
   ·unfold inI
    simp only
    rw[dn_ s1,dn_ s2,dn_ hp,ia,ib,←ei,mem_cons,mem_cons,mem_cons,mem_append]
    have hx:(aa_ sl i=none∧(aa_ (up2 sl id p) i).isSome=true)↔i=aG_ (aa_ sl) 64:=by
     constructor
     ·rintro⟨z1,z2⟩
      rw[st1]at z2
      by_cases e:aG_ (aa_ sl) 64=i
      ·exact e.symm
      ·rw[if_neg e]at z2
       by_cases e2:id=i
       ·rw[←e2,hp]at z1;cases z1
       ·rw[if_neg e2,z1]at z2;cases z2
     ·intro e
      rw[e,q3,s2]
      exact⟨rfl,rfl⟩
    rw[hx]
    constructor
    ·rintro((q|q)|⟨_,q|q⟩)
     ·exact .inl (.inl q)
     ·exact .inl (.inr (.inl q))
     ·exact .inr q
     ·exact .inl (.inr (.inr q))
    ·rintro((q|q|q)|q)
     ·exact .inl (.inl q)
     ·exact .inl (.inr q)
     ·exact .inr ⟨hn,.inr q⟩
     ·exact .inr ⟨hn,.inl q⟩
theorem tj_{p:ap_}(h:pageB p=true)(hl:p.Leaf=true)(key value x:ByteArray):x∈(aE_ p (aH_ p key).2 (aH_ p key).1 key value).Keys↔x=key∨x∈p.Keys:=by
 have hp:=c0_ h
 rw[hg_ hl]
 simp only
 cases hf:cw_ p.Keys key with
 | true =>
  simp only[aE_,if_true]
  refine⟨.inr,fun q=>q.elim (fun e=>?_) (fun q=>q)⟩
  have hlt:=ik_ hf
  rw[cw_,decide_eq_true_eq,getElem?_eq_getElem hlt]at hf
  rw[e,←Option.some.inj hf]
  exact getElem_mem hlt
 | false =>
  simp only[aE_,Bool.false_eq_true,if_false,mem_append,mem_cons]
  constructor
  ·rintro(q|q|q)
   ·exact .inr (mem_of_mem_take q)
   ·exact .inl q
   ·exact .inr (mem_of_mem_drop q)
  ·rintro(q|q)
   ·exact .inr (.inl q)
   ·rw[←take_append_drop (lbK p.Keys key) p.Keys,mem_append]at q
    exact q.imp (fun q=>q) (fun q=>.inr q)
theorem t8_{sl sl':List ad_}{h k:Nat}{p:ap_}{id new:Int}{low high sep:ByteArray}{a b x y:List Int}(hpg:PgN 6 p)(hl:p.Leaf=false)(hlt:k<p.Kids.length)(ho':∀q∈p.Keys,inR q low high)(okr:cr_ sl')
 (hput:∀(T':Int→ByteArray→ByteArray→List Int→Prop) (kids':List Int) (keys':List ByteArray) (m':List Int),(∀kid lo hi z,(∀i∈z,i∈a++b)→au_ (aa_ sl) h false kid lo hi z→T' kid lo hi z)→aJ_ T' kids' keys' (loQ p.Keys low k) (hiQ p.Keys high (k+0)) m'→aJ_ T' (p.Kids.take k++(kids'++p.Kids.drop (k+(0+1)))) (p.Keys.take k++(keys'++p.Keys.drop (k+0))) low high (a++(m'++b)))
 (hkeep:∀i∈a++b,aa_ sl' i=aa_ sl i) (tx:au_ (aa_ sl') h false p.Kids[k] (loQ p.Keys low k) sep x) (ty:au_ (aa_ sl') h false new sep (hiQ p.Keys high k) y) (new1:1≤new) (new2:new≤64) (lo1:aB_ (loQ p.Keys low k) sep=true) (hi1:hiQ p.Keys high k=⟨#[]⟩∨aB_ sep (hiQ p.Keys high k)=true) (ks:bC_ sep=true) (nd1:(id::(a++((x++y)++b))).Nodup) :
 PgN 7 (aD_ p k sep new)∧cG_ (aa_ (aq_ ⟨id,aD_ p k sep new⟩ false sl')) (h+1) (aD_ p k sep new) low high (a++((x++y)++b)):=by
 obtain⟨k1,k2,k3,k4⟩:=hpg.node hl
 have hkids:p.Kids.take (k+1)=p.Kids.take k++[p.Kids[k]]:=(take_append_getElem hlt).symm
 have pg:PgN 7 (aD_ p k sep new):=by
  refine⟨fun q hq=>?_,?_,fun v hv2=>hpg.vals v hv2,fun q hq=>?_,fun e=>?_,fun _=>⟨?_,?_,?_,k4⟩⟩
  ·simp only[aD_,mem_append,mem_cons]at hq
   rcases hq with e|e|e
   ·exact hpg.keys q (mem_of_mem_take e)
   ·rw[e];exact ks
   ·exact hpg.keys q (mem_of_mem_drop e)
  ·exact pV_ hpg.srt (by omega) lo1 hi1 fun q hq=>hF_ (hpg.keys q hq)
  ·simp only[aD_,mem_append,mem_cons]at hq
   rcases hq with e|e|e
   ·exact hpg.kids q (mem_of_mem_take e)
   ·rw[e];exact⟨new1,new2⟩
   ·exact hpg.kids q (mem_of_mem_drop e)
  ·rw[show(aD_ p k sep new).Leaf=p.Leaf from rfl,hl]at e;cases e
  all_goals simp only[aD_,la_,lc_,length_take,length_drop];omega
 have hst1:∀i,i≠id→aa_ (aq_ ⟨id,aD_ p k sep new⟩ false sl') i=aa_ sl' i:=fun i hi=>by rw[be_ okr.rise,if_neg (fun e=>hi e.symm)]
 have hin:∀i∈a++((x++y)++b),i≠id:=fun i hi e=>(nodup_cons.1 nd1).1 (e▸hi)
 have hloq:=tV_ (k:=k) ho' (by omega)
 refine⟨pg,hl,?_,?_⟩
 ·rw[cy_]
  intro q hq
  simp only[aD_,mem_append,mem_cons]at hq
  rcases hq with e|e|e
  ·exact ho' q (mem_of_mem_take e)
  ·rw[e]
   refine⟨dP_ (gF_ hloq lo1),?_⟩
   rcases tb_ (k:=k) ho' with e2|⟨hh,e2⟩
   ·rw[←e2];exact hi1
   ·rw[e2]at hi1
    have h3:=hi1.resolve_left (hF_ (hpg.keys _ (getElem_mem hh)))
    rcases(ho' _ (getElem_mem hh)).2 with e4|e4
    ·exact .inl e4
    ·exact .inr (b6_ h3 e4)
  ·exact ho' q (mem_of_mem_drop e)
 ·have:=hput (fun kid lo hi m=>au_ (aa_ (aq_ ⟨id,aD_ p k sep new⟩ false sl')) h false kid lo hi m) [p.Kids[k],new] [sep] (x++y) (fun kid lo hi z hz q=>au_.congr (fun i hi=>(hst1 i (hin i (by
   rcases mem_append.1 (hz i hi)with e|e
   ·exact mem_append_left _ e
   ·exact mem_append_right _ (mem_append_right _ e)))).trans (hkeep i (hz i hi))) q)
   ⟨x,y,rfl,au_.congr (fun i hi=>hst1 i (hin i (mem_append_right _ (mem_append_left _ (mem_append_left _ hi))))) tx,au_.congr (fun i hi=>hst1 i (hin i (mem_append_right _ (mem_append_left _ (mem_append_right _ hi))))) ty⟩
  have e1:(aD_ p k sep new).Kids=p.Kids.take k++([p.Kids[k],new]++p.Kids.drop (k+(0+1))):=by
   show p.Kids.take (k+1)++new::p.Kids.drop (k+1)=_
   rw[hkids,Nat.zero_add,append_assoc];rfl
  have e2:(aD_ p k sep new).Keys=p.Keys.take k++([sep]++p.Keys.drop (k+0)):=rfl
  rw[e1,e2]
  exact this
def ua_(st0:a9_)(h:Nat)(id:Int)(key:ByteArray)(r:List ad_×ByteArray×Int×Int):Prop :=
 r.2.2.2=0→(∀x,inK (aa_ r.1) h id r.2.2.1 x↔x=key∨x∈a5_ st0 h id)∧∀i,inI (aa_ r.1) h id r.2.2.1 i↔i∈bh_ st0 h id∨(st0 i=none∧(aa_ r.1 i).isSome=true)
theorem p9_{key value:ByteArray}(hk:bC_ key=true)(hv:value.size≤64):∀(h n:Nat) (sl:List ad_) (top:Bool) (id:Int) (low high:ByteArray) (ids:List Int),h<n→cr_ sl→au_ (aa_ sl) h top id low high ids→ids.Nodup→inR key low high→ua_ (aa_ sl) h id key (bt_ n sl id key value)
 | h,0,_,_,_,_,_,_,hn,_,_,_,_=>absurd hn (Nat.not_lt_zero _)
 | 0,n+1,sl,top,id,low,high,ids,hn,ok,t,nd,hr=>by
  obtain⟨p,r,hp,hb,hf,⟨hl,ho,er⟩,ei⟩:=au_.iff.1 t
  subst er ei
  obtain⟨i1,i2,hs⟩:=ok.pgs id p hp
  rw[c2_ hp hl]
  have pg:=oZ_ hb hl (key:=key) (value:=value) hk hv
  have hlf:(aE_ p (aH_ p key).2 (aH_ p key).1 key value).Leaf=true:=by unfold aE_;split<;>exact hl
  have hmem:=tj_ hb hl key value
  have hout:eQ_ (aE_ p (aH_ p key).2 (aH_ p key).1 key value) low high=false:=nI_ _ _ ho hr
  have hrs:=ok.rise
  generalize aE_ p (aH_ p key).2 (aH_ p key).1 key value=q at *
  have ok1:=ok.set (s:=⟨id,q⟩) ⟨i1,i2,pg.shape⟩
  have hq:aa_ (aq_ ⟨id,q⟩ false sl) id=some q:=by rw[be_ hrs,if_pos rfl]
  intro hc
  obtain⟨g1,g2⟩:=nT_ (low:=low) (high:=high) (h:=0) (r:=[]) ok1 hq pg ⟨hlf,hout,rfl⟩ nd hc
  rw[bQ_ hq]at g1
  refine⟨fun x=>(g1 x).trans ?_,fun i=>(g2 i).trans ?_⟩
  ·rw[bQ_ hp]
   exact hmem x
  ·have e:∀j,aa_ (aq_ ⟨id,q⟩ false sl) j=none↔aa_ sl j=none:=fun j=>by
    rw[be_ hrs]
    by_cases z:id=j
    ·rw[if_pos z,←z,hp];simp
    ·rw[if_neg z]
   rw[e];exact Iff.rfl
 | h+1,n+1,sl,top,id,low,high,ids,hn,ok,t,nd,hr=>by
  obtain⟨p,r,hp,hb,hf,hnode,ei⟩:=au_.iff.1 t
  have hnode0:=hnode
  obtain⟨hl,ho,hka⟩:=hnode
  subst ei
  obtain⟨i1,i2,hs⟩:=ok.pgs id p hp
  obtain⟨n1,n2⟩:=nodup_cons.1 nd
  have hpg:=c0_ hb
  obtain⟨k1,k2,k3,k4⟩:=hpg.node hl
  have hle:=eJ_ p key
  have hlt:(aH_ p key).1<p.Kids.length:=by omega
  have hrange:=op_ hpg.srt hl hr
  have hPT:=i0_ hk hv (h+1) (n+1) sl top id low high (id::r) hn ok t nd hr
  rw[kK_]at hPT
  obtain⟨er,hkids⟩:=hnode0.kids
  generalize hkk:(aH_ p key).1=k at *
  obtain⟨a,m,b,er2,hm,hput⟩:=aJ_.seg 0 k (by omega) hka
  have hgd:p.Kids.getD k 0=p.Kids[k]:=by rw[getD_eq_getElem?_getD,getElem?_eq_getElem hlt];rfl
  have hseg:(p.Kids.drop k).take (0+1)=[p.Kids[k]]:=by rw[drop_eq_getElem_cons hlt];rfl
  rw[hseg,take_zero,Nat.add_zero]at hm
  have hm:au_ (aa_ sl) h false p.Kids[k] (loQ p.Keys low k) (hiQ p.Keys high k) m:=hm
  have em:=hm.ids
  have hsplit:p.Kids=p.Kids.take k++(p.Kids[k]::p.Kids.drop (k+1)):=by rw[←drop_eq_getElem_cons hlt,take_append_drop]
  have er3:r=(p.Kids.take k).flatMap (bh_ (aa_ sl) h)++(m++(p.Kids.drop (k+1)).flatMap (bh_ (aa_ sl) h)):=by
   rw[er]
   conv=>lhs;rw[hsplit]
   rw[flatMap_append,flatMap_cons,em]
  have hmr:∀i∈m,i∈r:=fun i hi=>by rw[er3];exact mem_append_right _ (mem_append_left _ hi)
  have n3:=n2
  rw[er3]at n3
  obtain⟨d1,d2,d3⟩:=nodup_append.1 n3
  obtain⟨d4,d5,d6⟩:=nodup_append.1 d2
  have ih:=p9_ hk hv h n sl false p.Kids[k] _ _ m (by omega) ok hm d4 hrange
  have ihT:=i0_ hk hv h n sl false p.Kids[k] _ _ m (by omega) ok hm d4 hrange
  obtain⟨hg,hgs⟩:=eX_ hk hv h n sl false p.Kids[k] _ _ m (by omega) ok hm d4
  obtain⟨sl',sep,new,code,hres⟩:∃sl' sep new code,bt_ n sl (p.Kids.getD (aH_ p key).1 0) key value=(sl',sep,new,code):=⟨_,_,_,_,rfl⟩
  rw[gK_ hp hl hres]at hPT⊢
  rw[hkk,hgd]at hres
  rw[hres]at ih ihT hg hgs
  rw[hkk]at hPT⊢
  unfold ua_ at ih⊢
  unfold kK_ at ihT
  simp only at ih ihT hg hgs
  have hnm:id∉m:=fun q=>n1 (hmr id q)
  have hp':aa_ sl' id=some p:=(hg.kept id hnm (by rw[hp];rfl)).trans hp
  have hal:=hnode0.has
  have hoth:∀kid,(kid∈p.Kids.take k∨kid∈p.Kids.drop (k+1))→∀i∈bh_ (aa_ sl) h kid,aa_ sl' i=aa_ sl i∧i∈r:=fun kid hkid i hi=>by
   have hir:i∈(p.Kids.take k).flatMap (bh_ (aa_ sl) h)∨i∈(p.Kids.drop (k+1)).flatMap (bh_ (aa_ sl) h):=hkid.imp (fun q=>mem_flatMap.2 ⟨kid,q,hi⟩) (fun q=>mem_flatMap.2 ⟨kid,q,hi⟩)
   have hr':i∈r:=by
    rw[er3]
    rcases hir with q|q
    ·exact mem_append_left _ q
    ·exact mem_append_right _ (mem_append_right _ q)
   refine⟨hg.kept i (fun q=>?_) (hal i hr'),hr'⟩
   rcases hir with z|z
   ·exact d3 i z i (mem_append_left _ q) rfl
   ·exact d6 i q i z rfl
  have hkT:∀kid,(kid∈p.Kids.take k∨kid∈p.Kids.drop (k+1))→∃lo hi,au_ (aa_ sl) h false kid lo hi (bh_ (aa_ sl) h kid):=fun kid hkid=>hkids kid (by
   rw[hsplit]
   rcases hkid with q|q
   ·exact mem_append_left _ q
   ·exact mem_append_right _ (mem_cons_of_mem _ q))
  have hsame:∀kid,(kid∈p.Kids.take k∨kid∈p.Kids.drop (k+1))→a5_ (aa_ sl') h kid=a5_ (aa_ sl) h kid∧bh_ (aa_ sl') h kid=bh_ (aa_ sl) h kid:=fun kid hkid=>by
   obtain⟨lo,hi,t⟩:=hkT kid hkid
   exact eg_ t fun i hi=>(hoth kid hkid i hi).1
  have fk1:=bL_ fun kid hkid=>(hsame kid (.inl hkid)).1
  have fk2:=bL_ fun kid hkid=>(hsame kid (.inr hkid)).1
  have fi1:=bL_ fun kid hkid=>(hsame kid (.inl hkid)).2
  have fi2:=bL_ fun kid hkid=>(hsame kid (.inr hkid)).2
  have oldK:a5_ (aa_ sl) (h+1) id=(p.Kids.take k).flatMap (a5_ (aa_ sl) h)++(a5_ (aa_ sl) h p.Kids[k]++(p.Kids.drop (k+1)).flatMap (a5_ (aa_ sl) h)):=by
   rw[bQ_ hp,dN_]
   conv=>lhs;rw[hsplit]
   rw[flatMap_append,flatMap_cons]
  have oldI:bh_ (aa_ sl) (h+1) id=id::((p.Kids.take k).flatMap (bh_ (aa_ sl) h)++(bh_ (aa_ sl) h p.Kids[k]++(p.Kids.drop (k+1)).flatMap (bh_ (aa_ sl) h))):=by
   rw[dn_ hp,fE_]
   congr 1
   conv=>lhs;rw[hsplit]
   rw[flatMap_append,flatMap_cons]
  by_cases hc:code=0
  ·rw[if_neg (by simpa using hc)]at hPT⊢
   obtain⟨g1,g2⟩:=ih hc
   obtain⟨t1,t2⟩:=ihT hc
   by_cases hz:new=0
   ·rw[if_pos hz]at hPT⊢
    simp only[hz]at g1 g2
    have g1':∀x,x∈a5_ (aa_ sl') h p.Kids[k]↔x=key∨x∈a5_ (aa_ sl) h p.Kids[k]:=fun x=>⟨fun q=>(g1 x).1 (.inl q),fun q=>((g1 x).2 q).resolve_right fun z=>z.1 rfl⟩
    have g2':∀i,i∈bh_ (aa_ sl') h p.Kids[k]↔i∈bh_ (aa_ sl) h p.Kids[k]∨(aa_ sl i=none∧(aa_ sl' i).isSome=true):=fun i=>⟨fun q=>(g2 i).1 (.inl q),fun q=>((g2 i).2 q).resolve_right fun z=>z.1 rfl⟩
    refine fun _=>⟨fun x=>?_,fun i=>?_⟩
    ·have newK:a5_ (aa_ sl') (h+1) id=(p.Kids.take k).flatMap (a5_ (aa_ sl) h)++(a5_ (aa_ sl') h p.Kids[k]++(p.Kids.drop (k+1)).flatMap (a5_ (aa_ sl) h)):=by
      rw[bQ_ hp',dN_]
      conv=>lhs;rw[hsplit]
      rw[flatMap_append,flatMap_cons,fk1,fk2]
     unfold inK
     simp only[ne_eq,not_true_eq_false,false_and,or_false]
     rw[newK,oldK]
     simp only[mem_append,g1' x]
     constructor
     ·rintro(q|(q|q)|q)
      ·exact .inr (.inl q)
      ·exact .inl q
      ·exact .inr (.inr (.inl q))
      ·exact .inr (.inr (.inr q))
     ·rintro(q|q|q|q)
      ·exact .inr (.inl (.inl q))
      ·exact .inl q
      ·exact .inr (.inl (.inr q))
      ·exact .inr (.inr q)
    ·have newI':bh_ (aa_ sl') (h+1) id=id::((p.Kids.take k).flatMap (bh_ (aa_ sl) h)++(bh_ (aa_ sl') h p.Kids[k]++(p.Kids.drop (k+1)).flatMap (bh_ (aa_ sl) h))):=by
      rw[dn_ hp',fE_]
      congr 1
      conv=>lhs;rw[hsplit]
      rw[flatMap_append,flatMap_cons,fi1,fi2]
     unfold inI
     simp only[ne_eq,not_true_eq_false,false_and,or_false]
     rw[newI',oldI]
     simp only[mem_append,mem_cons,g2' i]
     constructor
     ·rintro(q|q|(q|q)|q)
      ·exact .inl (.inl q)
      ·exact .inl (.inr (.inl q))
      ·exact .inl (.inr (.inr (.inl q)))
      ·exact .inr q
      ·exact .inl (.inr (.inr (.inr q)))
     ·rintro((q|q|q|q)|q)
      ·exact .inl q
      ·exact .inr (.inl q)
      ·exact .inr (.inr (.inl (.inl q)))
      ·exact .inr (.inr (.inr q))
      ·exact .inr (.inr (.inl (.inr q)))
   ·rw[if_neg hz]at hPT⊢
    obtain⟨x,y,tx,ty,nd',hs',new1,new2,lo1,hi1,ks⟩:=t2 hz
    have nd2:=nd
    rw[er2]at nd2
    have hidl:(aa_ sl id).isSome=true:=by rw[hp];rfl
    have hold:∀i,aa_ sl i=none→i∉id::(a++(m++b)):=fun i hi q=>by
     have:(aa_ sl i).isSome=true:=by
      rcases mem_cons.1 q with e|e
      ·rw[e];exact hidl
      ·exact hal i (by rw[er2];exact e)
     rw[hi]at this;cases this
    have nd1:=i8_ nd2 nd' fun i hi=>(hs' i hi).imp (fun q=>q) (hold i)
    have hkeep:∀i∈a++b,aa_ sl' i=aa_ sl i:=fun i hi=>by
     have n4:=n2
     rw[er2]at n4
     obtain⟨_,c2,c3⟩:=nodup_append.1 n4
     obtain⟨_,_,c6⟩:=nodup_append.1 c2
     refine hg.kept i (fun q=>?_) (hal i ?_)
     ·rcases mem_append.1 hi with e|e
      ·exact c3 i e i (mem_append_left _ q) rfl
      ·exact c6 i q i e rfl
     ·rw[er2]
      rcases mem_append.1 hi with e|e
      ·exact mem_append_left _ e
      ·exact mem_append_right _ (mem_append_right _ e)
    obtain⟨pg,hnode1⟩:=t8_ (id:=id) hpg hl hlt (cy_.1 ho) hg.ok hput hkeep tx ty new1 new2 lo1 hi1 ks nd1
    have ok1:=hg.ok.set (s:=⟨id,aD_ p k sep new⟩) ⟨i1,i2,pg.shape⟩
    have hst1:∀i,i≠id→aa_ (aq_ ⟨id,aD_ p k sep new⟩ false sl') i=aa_ sl' i:=fun i hi=>by rw[be_ hg.ok.rise,if_neg (fun e=>hi e.symm)]
    have hq:aa_ (aq_ ⟨id,aD_ p k sep new⟩ false sl') id=some (aD_ p k sep new):=by rw[be_ hg.ok.rise,if_pos rfl]
    have hxy:∀i,i∈x∨i∈y→i≠id:=fun i hi e=>(nodup_cons.1 nd1).1 (e▸mem_append_right _ (mem_append_left _ (mem_append.2 hi)))
    obtain⟨sx1,sx2⟩:=eg_ tx (st':=aa_ (aq_ ⟨id,aD_ p k sep new⟩ false sl')) fun i hi=>hst1 i (hxy i (.inl (by rw[tx.ids];exact hi)))
    obtain⟨sy1,sy2⟩:=eg_ ty (st':=aa_ (aq_ ⟨id,aD_ p k sep new⟩ false sl')) fun i hi=>hst1 i (hxy i (.inr (by rw[ty.ids];exact hi)))
    have hsame1:∀kid,(kid∈p.Kids.take k∨kid∈p.Kids.drop (k+1))→a5_ (aa_ (aq_ ⟨id,aD_ p k sep new⟩ false sl')) h kid=a5_ (aa_ sl) h kid∧bh_ (aa_ (aq_ ⟨id,aD_ p k sep new⟩ false sl')) h kid=bh_ (aa_ sl) h kid:=fun kid hkid=>by
     obtain⟨lo,hi,t⟩:=hkT kid hkid
     exact eg_ t fun i hi=>(hst1 i (fun e=>n1 (e▸(hoth kid hkid i hi).2))).trans (hoth kid hkid i hi).1
    have gk1:=bL_ fun kid hkid=>(hsame1 kid (.inl hkid)).1
    have gk2:=bL_ fun kid hkid=>(hsame1 kid (.inr hkid)).1
    have gi1:=bL_ fun kid hkid=>(hsame1 kid (.inl hkid)).2
    have gi2:=bL_ fun kid hkid=>(hsame1 kid (.inr hkid)).2
    have ekids:(aD_ p k sep new).Kids=p.Kids.take k++(p.Kids[k]::new::p.Kids.drop (k+1)):=by
     show p.Kids.take (k+1)++new::p.Kids.drop (k+1)=_
     rw[(take_append_getElem hlt).symm,append_assoc];rfl
    have newK:a5_ (aa_ (aq_ ⟨id,aD_ p k sep new⟩ false sl')) (h+1) id=(p.Kids.take k).flatMap (a5_ (aa_ sl) h)++(a5_ (aa_ sl') h p.Kids[k]++(a5_ (aa_ sl') h new++(p.Kids.drop (k+1)).flatMap (a5_ (aa_ sl) h))):=by
     rw[bQ_ hq,dN_,ekids,flatMap_append,flatMap_cons,flatMap_cons,gk1,gk2,sx1,sy1]
    have newI':bh_ (aa_ (aq_ ⟨id,aD_ p k sep new⟩ false sl')) (h+1) id=id::((p.Kids.take k).flatMap (bh_ (aa_ sl) h)++(bh_ (aa_ sl') h p.Kids[k]++(bh_ (aa_ sl') h new++(p.Kids.drop (k+1)).flatMap (bh_ (aa_ sl) h)))):=by
     rw[dn_ hq,fE_,ekids,flatMap_append,flatMap_cons,flatMap_cons,gi1,gi2,sx2,sy2]
    have fk:=nT_ ok1 hq pg hnode1 nd1
    have fg:=(jQ_ ok1 hq).1
    generalize bU_ (aq_ ⟨id,aD_ p k sep new⟩ false sl') id=R at *
    intro hc2
    obtain⟨f1,f2⟩:=fk hc2
    have g1':∀z,(z∈a5_ (aa_ sl') h p.Kids[k]∨z∈a5_ (aa_ sl') h new)↔z=key∨z∈a5_ (aa_ sl) h p.Kids[k]:=fun z=>⟨fun q=>(g1 z).1 (q.imp (fun q=>q) fun q=>⟨hz,q⟩),fun q=>((g1 z).2 q).imp (fun q=>q) fun q=>q.2⟩
    have g2':∀i,(i∈bh_ (aa_ sl') h p.Kids[k]∨i∈bh_ (aa_ sl') h new)↔i∈bh_ (aa_ sl) h p.Kids[k]∨(aa_ sl i=none∧(aa_ sl' i).isSome=true):=fun i=>⟨fun q=>(g2 i).1 (q.imp (fun q=>q) fun q=>⟨hz,q⟩),fun q=>((g2 i).2 q).imp (fun q=>q) fun q=>q.2⟩
    refine⟨fun z=>(f1 z).trans ?_,fun i=>(f2 i).trans ?_⟩
    ·rw[newK,oldK]
     simp only[mem_append]
     have g:=g1' z
     constructor
     ·rintro(q|q|q|q)
      ·exact .inr (.inl q)
      ·exact(g.1 (.inl q)).imp (fun q=>q) (fun q=>.inr (.inl q))
      ·exact(g.1 (.inr q)).imp (fun q=>q) (fun q=>.inr (.inl q))
      ·exact .inr (.inr (.inr q))
     ·rintro(q|q|q|q)
      ·exact .inr ((g.2 (.inl q)).imp (fun q=>q) (fun q=>.inl q))
      ·exact .inl q
      ·exact .inr ((g.2 (.inr q)).imp (fun q=>q) (fun q=>.inl q))
      ·exact .inr (.inr (.inr q))
    ·have hd1:aa_ (aq_ ⟨id,aD_ p k sep new⟩ false sl') i=none→aa_ sl i=none:=fun e=>by
      cases e2:aa_ sl i with
      | none=>rfl
      | some w =>
       have h1:=hg.dom i (by rw[e2];rfl)
       by_cases e3:i=id
       ·rw[e3,hq]at e;cases e
       ·rw[hst1 i e3]at e;rw[e]at h1;cases h1
     have hd2:aa_ sl i=none→(aa_ R.1 i).isSome=true→aa_ (aq_ ⟨id,aD_ p k sep new⟩ false sl') i=none∨(aa_ sl' i).isSome=true:=fun e1 e2=>by
      cases e3:aa_ (aq_ ⟨id,aD_ p k sep new⟩ false sl') i with
      | none=>exact .inl rfl
      | some w =>
       right
       by_cases e4:i=id
       ·rw[e4,hp]at e1;cases e1
       ·rw[←hst1 i e4,e3];rfl
     have hd3:(aa_ sl' i).isSome=true→(aa_ R.1 i).isSome=true:=fun e=>fg.dom i (by
      by_cases e4:i=id
      ·rw[e4,hq];rfl
      ·rw[hst1 i e4];exact e)
     have g:=g2' i
     rw[newI',oldI]
     simp only[mem_append,mem_cons]
     constructor
     ·rintro((q|q|q|q|q)|⟨q1,q2⟩)
      ·exact .inl (.inl q)
      ·exact .inl (.inr (.inl q))
      ·rcases g.1 (.inl q)with w|⟨w1,w2⟩
       ·exact .inl (.inr (.inr (.inl w)))
       ·exact .inr ⟨w1,hd3 w2⟩
      ·rcases g.1 (.inr q)with w|⟨w1,w2⟩
       ·exact .inl (.inr (.inr (.inl w)))
       ·exact .inr ⟨w1,hd3 w2⟩
      ·exact .inl (.inr (.inr (.inr q)))
      ·exact .inr ⟨hd1 q1,q2⟩
     ·rintro((q|q|q|q)|⟨q1,q2⟩)
      ·exact .inl (.inl q)
      ·exact .inl (.inr (.inl q))
      ·rcases g.2 (.inl q)with w|w
       ·exact .inl (.inr (.inr (.inl w)))
       ·exact .inl (.inr (.inr (.inr (.inl w))))
      ·exact .inl (.inr (.inr (.inr (.inr q))))
      ·rcases hd2 q1 q2 with w|w
       ·exact .inr ⟨w,q2⟩
       ·rcases g.2 (.inr ⟨q1,w⟩)with w|w
        ·exact .inl (.inr (.inr (.inl w)))
        ·exact .inl (.inr (.inr (.inr (.inl w))))
  ·rw[if_pos hc]
   exact fun e=>absurd e hc
theorem o1_{T:Int→ByteArray→ByteArray→List Int→Prop}{f:Int→List ByteArray}(hT:∀kid lo hi m,T kid lo hi m→Srt (f kid)∧∀x∈f kid,inR x lo hi):∀{kids:List Int} {keys:List ByteArray} {low high:ByteArray} {ids:List Int},aJ_ T kids keys low high ids→Srt keys→(∀q∈keys,inR q low high∧q≠⟨#[]⟩)→Srt (kids.flatMap f)∧∀x∈kids.flatMap f,inR x low high
 | [],_,_,_,_,h,_,_=>h.elim
 | [kid],[],low,high,ids,h,_,_=>by
  have h:T kid low high ids:=h
  rw[flatMap_cons,flatMap_nil,append_nil]
  exact hT _ _ _ _ h
 | _::_::_,[],_,_,_,h,_,_=>h.elim
 | [kid],k::keys,low,high,ids,h,_,_=>by
  obtain⟨a,b,e,h1,h2⟩:=h
  exact h2.elim
 | kid::kid'::kids,k::keys,low,high,ids,h,hs,hq=>by
  obtain⟨a,b,e,h1,h2⟩:=h
  obtain⟨s1,s2⟩:=pairwise_cons.1 hs
  obtain⟨hk,hne⟩:=hq k mem_cons_self
  obtain⟨a1,a2⟩:=hT _ _ _ _ h1
  obtain⟨b1,b2⟩:=o1_ hT h2 s2 fun q hq2=>⟨⟨dP_ (s1 q hq2),(hq q (mem_cons_of_mem _ hq2)).1.2⟩,(hq q (mem_cons_of_mem _ hq2)).2⟩
  have lt1:∀x∈f kid,aB_ x k=true:=fun x hx=>(a2 x hx).2.resolve_left hne
  rw[flatMap_cons]
  refine⟨pairwise_append.2 ⟨a1,b1,fun x hx y hy=>k5_ (lt1 x hx) (b2 y hy).1⟩,fun x hx=>?_⟩
  rcases mem_append.1 hx with q|q
  ·refine⟨(a2 x q).1,?_⟩
   rcases hk.2 with e|e
   ·exact .inl e
   ·exact .inr (b6_ (lt1 x q) e)
  ·exact⟨u7_ hk.1 (b2 x q).1,(b2 x q).2⟩
theorem lw_{st:a9_}:∀{h:Nat} {top:Bool} {id:Int} {low high:ByteArray} {ids:List Int},au_ st h top id low high ids→Srt (a5_ st h id)∧∀x∈a5_ st h id,inR x low high
 | 0,top,id,low,high,ids,t=>by
  obtain⟨p,hp,hl,hb,ho,hf,ei⟩:=t
  rw[bQ_ hp]
  exact⟨(c0_ hb).srt,cy_.1 ho⟩
 | h+1,top,id,low,high,ids,t=>by
  obtain⟨p,hp,hl,hb,ho,hf,r,ei,hk⟩:=t
  rw[bQ_ hp]
  have hpg:=c0_ hb
  exact o1_ (f:=a5_ st h) (fun kid lo hi m t=>lw_ t) hk hpg.srt fun q hq=>⟨cy_.1 ho q hq,hF_ (hpg.keys q hq)⟩
theorem jg_{I:Int→List Int}{K:Int→List ByteArray}:∀{kids:List Int},(∀kid∈kids,2 * (I kid).length+1≤(K kid).length)→2 * (kids.flatMap I).length+kids.length≤(kids.flatMap K).length
 | [],_=>by simp
 | kid::kids,h=>by
  have h1:=h kid mem_cons_self
  have h2:=jg_ (I:=I) (K:=K) (kids:=kids) fun k hk=>h k (mem_cons_of_mem _ hk)
  simp only[flatMap_cons,la_,lc_]
  omega
theorem j5_{K:Int→List ByteArray}{c:Nat}:∀{kids:List Int},(∀kid∈kids,c≤(K kid).length)→kids.length * c≤(kids.flatMap K).length
 | [],_=>by simp
 | kid::kids,h=>by
  have h1:=h kid mem_cons_self
  have h2:=j5_ (K:=K) (c:=c) (kids:=kids) fun k hk=>h k (mem_cons_of_mem _ hk)
  simp only[flatMap_cons,la_,lc_,Nat.add_mul]
  omega
theorem hk_{st:a9_}:∀{h:Nat} {id:Int} {low high:ByteArray} {ids:List Int},au_ st h false id low high ids→2 * (bh_ st h id).length+1≤(a5_ st h id).length∧3 ^ (h+1)≤(a5_ st h id).length
 | 0,id,low,high,ids,t=>by
  obtain⟨p,hp,hl,hb,ho,hf,ei⟩:=t
  rw[bQ_ hp,dn_ hp]
  have hf:=hf.resolve_left (by simp)
  exact⟨by simpa[fE_,dN_]using hf,by simpa[dN_]using hf⟩
 | h+1,id,low,high,ids,t=>by
  obtain⟨p,r,hp,hb,hf,hn,ei⟩:=au_.iff.1 t
  have hl:p.Leaf=false:=hn.1
  have hf:=hf.resolve_left (by simp)
  rw[bG_,if_neg (by rw[hl];simp)]at hf
  obtain⟨_,hk⟩:=hn.kids
  rw[bQ_ hp,dn_ hp]
  have c1:=jg_ (I:=bh_ st h) (K:=a5_ st h) (kids:=p.Kids) fun kid hkid=>by
   obtain⟨lo,hi,t⟩:=hk kid hkid
   exact(hk_ t).1
  have c2:=j5_ (K:=a5_ st h) (c:=3 ^ (h+1)) (kids:=p.Kids) fun kid hkid=>by
   obtain⟨lo,hi,t⟩:=hk kid hkid
   exact(hk_ t).2
  simp only[fE_,dN_,lc_]
  refine⟨by omega,?_⟩
  have:3 * 3 ^ (h+1)≤p.Kids.length * 3 ^ (h+1):=Nat.mul_le_mul_right _ hf
  rw[Nat.pow_succ (n:=3) (m:=h+1)]
  omega
theorem tM_{st:a9_}{h:Nat}{id:Int}{low high:ByteArray}{ids:List Int}(t:au_ st h true id low high ids):2 * (bh_ st h id).length≤(a5_ st h id).length+2∧(h=0∨2 * 3 ^ h≤(a5_ st h id).length):=by
 cases h with
 | zero =>
  obtain⟨p,hp,hl,hb,ho,hf,ei⟩:=t
  rw[bQ_ hp,dn_ hp]
  exact⟨by simp[fE_],.inl rfl⟩
 | succ h =>
  obtain⟨p,r,hp,hb,hf,hn,ei⟩:=au_.iff.1 t
  have hl:p.Leaf=false:=hn.1
  have h2:=((c0_ hb).node hl).1
  obtain⟨_,hk⟩:=hn.kids
  rw[bQ_ hp,dn_ hp]
  have c1:=jg_ (I:=bh_ st h) (K:=a5_ st h) (kids:=p.Kids) fun kid hkid=>by
   obtain⟨lo,hi,t⟩:=hk kid hkid
   exact(hk_ t).1
  have c2:=j5_ (K:=a5_ st h) (c:=3 ^ (h+1)) (kids:=p.Kids) fun kid hkid=>by
   obtain⟨lo,hi,t⟩:=hk kid hkid
   exact(hk_ t).2
  simp only[fE_,dN_,lc_]
  refine⟨by omega,.inr ?_⟩
  have:2 * 3 ^ (h+1)≤p.Kids.length * 3 ^ (h+1):=Nat.mul_le_mul_right _ h2
  omega
theorem qj_{st:a9_}:∀n,n≤64→aG_ st n=0→∀m:Nat,m<n→(st (64-(m:Int))).isSome=true
 | 0,_,_,m,hm=>absurd hm (Nat.not_lt_zero m)
 | n+1,hn,h,m,hm=>by
  rw[aG_]at h
  split at h
  ·omega
  ·rename_i q
   by_cases e:m=n
   ·subst e
    cases e2:st (64-(m:Int))with
    | none=>exact absurd e2 q
    | some _=>rfl
   ·exact qj_ n (by omega) h m (by omega)
theorem oq_{sl:List ad_}(h:aG_ (aa_ sl) 64=0):64≤sl.length:=by
 have h1:(List.range 64).map (fun(m:Nat)=>64-(m:Int)) ⊆ sl.map ad_.Id:=by
  intro i hi
  obtain⟨m,hm,rfl⟩:=mem_map.1 hi
  obtain⟨p,hp⟩:=Option.isSome_iff_exists.1 (qj_ 64 (Nat.le_refl _) h m (by simpa using hm))
  exact mem_map.2 ⟨_,dx_ hp,rfl⟩
 have h2:((List.range 64).map (fun(m:Nat)=>64-(m:Int))).Nodup:=by
  refine pairwise_map.2 (List.Pairwise.imp (fun {a b} hab=>?_) nodup_range)
  omega
 have:=bH_ h2 h1
 simpa using this
theorem o8_{sl:List ad_}{id:Int}(h:sl.length<64):(bU_ sl id).2.2.2=0∧(bU_ sl id).1.length≤sl.length+2:=by
 unfold bU_
 split
 ·exact⟨rfl,Nat.le_add_right _ _⟩
 ·split
  ·exact⟨rfl,Nat.le_add_right _ _⟩
  ·split
   ·rename_i q
    have:=oq_ q
    omega
   ·rename_i p _ _ _
    refine⟨rfl,?_⟩
    have h1:=jr_ ⟨id,(aF_ p).1⟩ sl
    have h2:=jr_ ⟨aG_ (aa_ sl) 64,(aF_ p).2.1⟩ (aq_ ⟨id,(aF_ p).1⟩ false sl)
    simp only[up2]
    omega
theorem rk_{key value:ByteArray}:∀(h n:Nat) (sl:List ad_) (top:Bool) (id:Int) (low high:ByteArray) (ids:List Int),h<n→au_ (aa_ sl) h top id low high ids→sl.length+3 * (h+1)<64→(bt_ n sl id key value).2.2.2=0∧(bt_ n sl id key value).1.length≤sl.length+3 * (h+1)
 | h,0,_,_,_,_,_,_,hn,_,_=>absurd hn (Nat.not_lt_zero _)
 | 0,n+1,sl,top,id,low,high,ids,hn,t,hl=>by
  obtain⟨p,hp,hlf,_⟩:=t
  rw[c2_ hp hlf]
  have h1:=jr_ ⟨id,aE_ p (aH_ p key).2 (aH_ p key).1 key value⟩ sl
  obtain⟨h2,h3⟩:=o8_ (sl:=aq_ ⟨id,aE_ p (aH_ p key).2 (aH_ p key).1 key value⟩ false sl) (id:=id) (by omega)
  exact⟨h2,by omega⟩
 | h+1,n+1,sl,top,id,low,high,ids,hn,t,hl=>by
  obtain⟨p,r,hp,hb,hf,hnode,ei⟩:=au_.iff.1 t
  have hlf:p.Leaf=false:=hnode.1
  obtain⟨k1,k2,k3,k4⟩:=(c0_ hb).node hlf
  have hle:=eJ_ p key
  have hlt:(aH_ p key).1<p.Kids.length:=by omega
  have hgd:p.Kids.getD (aH_ p key).1 0=p.Kids[(aH_ p key).1]:=by rw[getD_eq_getElem?_getD,getElem?_eq_getElem hlt];rfl
  obtain⟨lo,hi,tk⟩:=hnode.kids.2 _ (getElem_mem hlt)
  have ih:=rk_ (key:=key) (value:=value) h n sl false _ lo hi _ (by omega) tk (by omega)
  obtain⟨sl',sep,new,code,hres⟩:∃sl' sep new code,bt_ n sl (p.Kids.getD (aH_ p key).1 0) key value=(sl',sep,new,code):=⟨_,_,_,_,rfl⟩
  rw[gK_ hp hlf hres]
  rw[hgd]at hres
  rw[hres]at ih
  obtain⟨ih1,ih2⟩:=ih
  simp only at ih1 ih2
  rw[if_neg (by simpa using ih1)]
  split
  ·exact⟨rfl,by simp only;omega⟩
  ·have h1:=jr_ ⟨id,aD_ p (aH_ p key).1 sep new⟩ sl'
   obtain⟨h2,h3⟩:=o8_ (sl:=aq_ ⟨id,aD_ p (aH_ p key).1 sep new⟩ false sl') (id:=id) (by omega)
   exact⟨h2,by omega⟩
structure Holds(b:ay_)(h:Nat)(P:ByteArray→Prop):Prop where
 fit:Fit b h (bh_ (aa_ b.Slots) h b.Root)
 whole:Whole b (bh_ (aa_ b.Slots) h b.Root)
 mem:∀x,x∈a5_ (aa_ b.Slots) h b.Root↔P x
theorem Holds.ins{b:ay_}{h:Nat}{P:ByteArray→Prop}(H:Holds b h P){key value:ByteArray}(hk:bC_ key=true)(hv:value.size≤64)(hl:b.Slots.length+3 * (h+1)<64):(eq_ 65 b key value).2=0∧∃h',Holds (eq_ 65 b key value).1 h' fun x=>x=key∨P x:=by
 have f:=H.fit
 have hr:inR key ⟨#[]⟩ ⟨#[]⟩:=⟨nL_ key,.inl rfl⟩
 have hht:=f.ht
 obtain⟨hc0,hlen⟩:=rk_ (key:=key) (value:=value) h 65 b.Slots true b.Root _ _ _ hht f.tree hl
 have gT:=i0_ hk hv h 65 b.Slots true b.Root _ _ _ hht f.ok f.tree f.nodup hr
 have gK:=p9_ hk hv h 65 b.Slots true b.Root _ _ _ hht f.ok f.tree f.nodup hr
 obtain⟨hg,hs⟩:=eX_ hk hv h 65 b.Slots true b.Root _ _ _ hht f.ok f.tree f.nodup
 have wh:=H.whole
 have hm:=H.mem
 unfold Whole at wh
 unfold eq_
 unfold kK_ at gT
 unfold ua_ at gK
 generalize bt_ 65 b.Slots b.Root key value=R at *
 obtain⟨t1,t2⟩:=gT hc0
 obtain⟨g1,g2⟩:=gK hc0
 rw[if_neg (by simpa using hc0)]
 by_cases hz:R.2.2.1=0
 ·rw[if_pos hz]
  obtain⟨ids',t',nd',_⟩:=t1 hz
  have e:=t'.ids
  subst e
  refine⟨rfl,h,⟨hg.ok,t',nd'⟩,fun i hi=>?_,fun x=>?_⟩
  ·have:inI (aa_ R.1) h b.Root R.2.2.1 i:=(g2 i).2 (by
    cases e:aa_ b.Slots i with
    | none=>exact .inr ⟨rfl,hi⟩
    | some _=>exact .inl (wh i (by rw[e];rfl)))
   exact this.resolve_right fun q=>q.1 hz
  ·rw[←hm]
   exact⟨fun q=>(g1 x).1 (.inl q),fun q=>((g1 x).2 q).resolve_right fun z=>z.1 hz⟩
 ·rw[if_neg hz]
  have hw:¬ aG_ (aa_ R.1) 64=0:=fun e=>by
   have:=oq_ e
   omega
  rw[if_neg hw]
  obtain⟨hroot,hne⟩:Fit b h (bh_ (aa_ b.Slots) h b.Root)∧True:=⟨f,trivial⟩
  rcases ei_ (st:=aa_ R.1) 64 (Nat.le_refl _)with q|⟨q1,q2,q3⟩
  ·exact absurd q hw
  obtain⟨x,y,tx,ty,nd',hs',n1,n2,lo1,hi1,ks⟩:=t2 hz
  obtain⟨_,hrt,_⟩:=tx.page
  have ho:=hg.ok.pgs b.Root _ hrt
  have pg:PgN 6 (cN_ R.2.1 b.Root R.2.2.1):=⟨fun k hk2=>by rw[show k=R.2.1 by simpa[cN_]using hk2];exact ks,by simp[Srt,cN_],fun v hv2=>(by cases hv2),fun k hk2=>by
   rcases(show k=b.Root∨k=R.2.2.1 by simpa[cN_]using hk2)with e|e
   ·rw[e];exact⟨ho.1,ho.2.1⟩
   ·rw[e];exact⟨n1,n2⟩,fun e=>(by cases e),fun _=>⟨by simp[cN_],by simp[cN_],by simp[cN_],rfl⟩⟩
  have hnw:aG_ (aa_ R.1) 64∉x++y:=ks_ nd' (fun i hi=>by
   rcases mem_append.1 hi with e|e
   ·exact tx.has i e
   ·exact ty.has i e) q3
  have hroot:aa_ (aq_ ⟨aG_ (aa_ R.1) 64,cN_ R.2.1 b.Root R.2.2.1⟩ false R.1) (aG_ (aa_ R.1) 64)=some (cN_ R.2.1 b.Root R.2.2.1):=by rw[be_ hg.ok.rise,if_pos rfl]
  have hkeep:∀i∈x++y,aa_ (aq_ ⟨aG_ (aa_ R.1) 64,cN_ R.2.1 b.Root R.2.2.1⟩ false R.1) i=aa_ R.1 i:=fun i hi=>by
   rw[be_ hg.ok.rise,if_neg (fun e=>hnw (by rw[show aG_ (aa_ R.1) 64=i from e];exact hi))]
  obtain⟨sx1,sx2⟩:=eg_ tx (st':=aa_ (aq_ ⟨aG_ (aa_ R.1) 64,cN_ R.2.1 b.Root R.2.2.1⟩ false R.1)) fun i hi=>hkeep i (mem_append_left _ (by rw[tx.ids];exact hi))
  obtain⟨sy1,sy2⟩:=eg_ ty (st':=aa_ (aq_ ⟨aG_ (aa_ R.1) 64,cN_ R.2.1 b.Root R.2.2.1⟩ false R.1)) fun i hi=>hkeep i (mem_append_right _ (by rw[ty.ids];exact hi))
  have ft:Fit ⟨aG_ (aa_ R.1) 64,aq_ ⟨aG_ (aa_ R.1) 64,cN_ R.2.1 b.Root R.2.2.1⟩ false R.1⟩ (h+1) (aG_ (aa_ R.1) 64::(x++y)) :=
   ⟨hg.ok.set ⟨q1,q2,(pg.up (by omega)).shape⟩,au_.iff.2 ⟨cN_ R.2.1 b.Root R.2.2.1,x++y,hroot,pg.pageB,.inl rfl,⟨rfl,by
    rw[cy_]
    intro q hq
    rw[show q=R.2.1 by simpa[cN_]using hq]
    exact⟨nL_ _,.inl rfl⟩,x,y,rfl,au_.congr (fun i hi=>hkeep i (mem_append_left _ hi)) tx,au_.congr (fun i hi=>hkeep i (mem_append_right _ hi)) ty⟩,rfl⟩,nodup_cons.2 ⟨hnw,nd'⟩⟩
  have ei:=ft.tree.ids
  refine⟨rfl,h+1,?_,?_,fun z=>?_⟩
  ·rw[←ei];exact ft
  ·rw[←ei]
   intro i hi
   have hi:(aa_ (aq_ ⟨aG_ (aa_ R.1) 64,cN_ R.2.1 b.Root R.2.2.1⟩ false R.1) i).isSome=true:=hi
   rw[be_ hg.ok.rise]at hi
   by_cases e:aG_ (aa_ R.1) 64=i
   ·rw[e];exact mem_cons_self
   ·rw[if_neg e]at hi
    have:inI (aa_ R.1) h b.Root R.2.2.1 i:=(g2 i).2 (by
     cases e:aa_ b.Slots i with
     | none=>exact .inr ⟨rfl,hi⟩
     | some _=>exact .inl (wh i (by rw[e];rfl)))
    refine mem_cons_of_mem _ (mem_append.2 ?_)
    rw[tx.ids,ty.ids]
    exact this.imp (fun q=>q) (fun q=>q.2)
  ·show z∈a5_ (aa_ (aq_ ⟨aG_ (aa_ R.1) 64,cN_ R.2.1 b.Root R.2.2.1⟩ false R.1)) (h+1) (aG_ (aa_ R.1) 64)↔_
   rw[bQ_ hroot,dN_]
   show z∈[b.Root,R.2.2.1].flatMap _↔_
   rw[flatMap_cons,flatMap_cons,flatMap_nil,append_nil,sx1,sy1,mem_append,←hm]
   exact⟨fun q=>(g1 z).1 (q.imp (fun q=>q) fun q=>⟨hz,q⟩),fun q=>((g1 z).2 q).imp (fun q=>q) fun q=>q.2⟩
theorem hI_{α:Type}{es:List α}{i m:Nat}(hi:i<m):(List.take (m+1-(i+1)) (List.drop i (List.take (m+1) es)))=(es.take m).drop i:=by
 rw[drop_take,drop_take,take_take]
 congr 1;omega
theorem fI_(a b:Nat):Nat.min a b=min a b:=rfl
def jm_:LC :=
 .q [.o [.nl 6],.o [.m 10 0,.m 11 1,.s 12 (.sliceSl 1 (.tmp 10) (some (.tmp 11)) none)],.o [.m 13 2,.ll 14 13,.m 7 14],.q [.o [.m 15 7,.bk 16 .eql false 15 0],.k 16 (.q [.o [.m 17 0,.m 6 17],.ghost .ret])
 .skip],.o [.m 18 0,.ll 19 18,.m 8 19],.q [.o [.m 20 1,.m 21 8,.bb 22 .eql false 20 21],.k 22 (.q [.o [.m 23 0,.m 24 2,.ap 25 9 1 16 23 24,.m 6 25],.ghost .ret]) .skip],.q [.o [.m 26 8,.m 27 7,.bb 28 .add
 false 26 27,.m 29 0,.s 30 (.capSl (.tmp 29)),.bb 31 .gtr false 28 30],.k 31 (.q [.o [.m 32 0,.m 33 1,.s 34 (.sliceSl 1 (.tmp 32) none (some (.tmp 33))),.m 35 8,.m 36 7,.bb 37 .add false 35 36,.m 38 1,.bb 39
 .sub false 37 38,.s 40 (.appendZ 9 1 16 (.string ⟨#[]⟩) (.tmp 34) (.tmp 39)),.m 9 40],.o [.m 41 9,.m 42 1,.s 43 (.sliceSl 1 (.tmp 41) (some (.tmp 42)) none),.m 44 2,.s 45 (.copySl 1 (.tmp 43) (.tmp 44))],.gops
 [.m 46 9,.m 47 1,.m 48 7,.bb 49 .add false 47 48,.s 50 (.sliceSl 1 (.tmp 46) (some (.tmp 49)) none),.m 51 0,.m 52 1,.s 53 (.sliceSl 1 (.tmp 51) (some (.tmp 52)) none)] [(.s 54 (.copySl 1 (.tmp 50) (.tmp 53)),
 [])],.o [.m 55 9,.m 6 55],.ghost .ret]) .skip],.o [.m 56 0,.m 57 8,.m 58 7,.bb 59 .add false 57 58,.s 60 (.sliceSl 1 (.tmp 56) none (some (.tmp 59))),.m 0 60],.q [.o [.m 61 2,.m 62 0,.m 63 1,.m 64 7,.bb 65
 .add false 63 64,.s 66 (.sliceSl 1 (.tmp 62) (some (.tmp 65)) none),.s 67 (.ovl (.tmp 61) (.tmp 66)),.nt 68 67],.k 68 (.q [.gops [.m 69 0,.m 70 1,.m 71 7,.bb 72 .add false 70 71,.s 73 (.sliceSl 1 (.tmp 69) (some
 (.tmp 72)) none),.m 74 0,.m 75 1,.s 76 (.sliceSl 1 (.tmp 74) (some (.tmp 75)) none)] [(.s 77 (.copySl 1 (.tmp 73) (.tmp 76)),[])],.o [.m 78 0,.m 79 1,.s 80 (.sliceSl 1 (.tmp 78) (some (.tmp 79)) none),.m 81 2,.s
 82 (.copySl 1 (.tmp 80) (.tmp 81))],.o [.m 83 0,.m 6 83],.ghost .ret]) .skip],.o [.m 84 0,.m 85 8,.s 86 (.sliceSl 1 (.tmp 84) (some (.tmp 85)) none),.m 87 2,.s 88 (.copySl 1 (.tmp 86) (.tmp 87))],.o [.m 89 0,.m
 90 1,.s 91 (.sliceSl 1 (.tmp 89) (some (.tmp 90)) none),.m 92 7,.c2 93 164 91 92],.o [.m 94 0,.m 6 94],.ghost .ret]
def hq_:LF:=⟨3,95,jm_,[.tmp 6]⟩
theorem tp_:aC_ Tryz.prog Tryz.f133 hq_:=az_
def ji_:LC :=
 .q [.o [.nl 6],.o [.m 10 0,.m 11 1,.s 12 (.sliceSl 1 (.tmp 10) (some (.tmp 11)) none)],.o [.m 13 2,.ll 14 13,.m 7 14],.q [.o [.m 15 7,.bk 16 .eql false 15 0],.k 16 (.q [.o [.m 17 0,.m 6 17],.ghost .ret])
 .skip],.o [.m 18 0,.ll 19 18,.m 8 19],.q [.o [.m 20 1,.m 21 8,.bb 22 .eql false 20 21],.k 22 (.q [.o [.m 23 0,.m 24 2,.ap 25 2 1 8 23 24,.m 6 25],.ghost .ret]) .skip],.q [.o [.m 26 8,.m 27 7,.bb 28 .add
 false 26 27,.m 29 0,.s 30 (.capSl (.tmp 29)),.bb 31 .gtr false 28 30],.k 31 (.q [.o [.m 32 0,.m 33 1,.s 34 (.sliceSl 1 (.tmp 32) none (some (.tmp 33))),.m 35 8,.m 36 7,.bb 37 .add false 35 36,.m 38 1,.bb 39
 .sub false 37 38,.s 40 (.appendZ 2 1 8 (.int .i64 0) (.tmp 34) (.tmp 39)),.m 9 40],.o [.m 41 9,.m 42 1,.s 43 (.sliceSl 1 (.tmp 41) (some (.tmp 42)) none),.m 44 2,.s 45 (.copySl 1 (.tmp 43) (.tmp 44))],.gops [.m
 46 9,.m 47 1,.m 48 7,.bb 49 .add false 47 48,.s 50 (.sliceSl 1 (.tmp 46) (some (.tmp 49)) none),.m 51 0,.m 52 1,.s 53 (.sliceSl 1 (.tmp 51) (some (.tmp 52)) none)] [(.s 54 (.copySl 1 (.tmp 50) (.tmp 53)),[])],.o
 [.m 55 9,.m 6 55],.ghost .ret]) .skip],.o [.m 56 0,.m 57 8,.m 58 7,.bb 59 .add false 57 58,.s 60 (.sliceSl 1 (.tmp 56) none (some (.tmp 59))),.m 0 60],.q [.o [.m 61 2,.m 62 0,.m 63 1,.m 64 7,.bb 65 .add
 false 63 64,.s 66 (.sliceSl 1 (.tmp 62) (some (.tmp 65)) none),.s 67 (.ovl (.tmp 61) (.tmp 66)),.nt 68 67],.k 68 (.q [.gops [.m 69 0,.m 70 1,.m 71 7,.bb 72 .add false 70 71,.s 73 (.sliceSl 1 (.tmp 69) (some (.tmp
 72)) none),.m 74 0,.m 75 1,.s 76 (.sliceSl 1 (.tmp 74) (some (.tmp 75)) none)] [(.s 77 (.copySl 1 (.tmp 73) (.tmp 76)),[])],.o [.m 78 0,.m 79 1,.s 80 (.sliceSl 1 (.tmp 78) (some (.tmp 79)) none),.m 81 2,.s 82
 (.copySl 1 (.tmp 80) (.tmp 81))],.o [.m 83 0,.m 6 83],.ghost .ret]) .skip],.o [.m 84 0,.m 85 8,.s 86 (.sliceSl 1 (.tmp 84) (some (.tmp 85)) none),.m 87 2,.s 88 (.copySl 1 (.tmp 86) (.tmp 87))],.o [.m 89 0,.m 90
 1,.s 91 (.sliceSl 1 (.tmp 89) (some (.tmp 90)) none),.m 92 7,.c2 93 166 91 92],.o [.m 94 0,.m 6 94],.ghost .ret]
def hr_:LF:=⟨3,95,ji_,[.tmp 6]⟩
theorem tk_:aC_ Tryz.prog Tryz.f134 hr_:=az_
theorem hZ_{α:Type}{es:List α}{v:α}{lo i m N:Nat}(hN:es.length=N)(hi:i<m)(hm:lo+m<N) :
 List.take (lo+i) (List.take (lo+(i+1)) es++(List.take (lo+(m+1)-(lo+(i+1))) (List.drop (lo+i) (List.take (lo+(m+1)) es))++List.drop (lo+(i+1)+min (min (lo+(m+1)) N-(lo+i)) (lo+(m+1)-(lo+(i+1)))) es)) ++
  (List.take (lo+(m+1)-(lo+i)) [v]++List.drop (lo+i+min 1 (lo+(m+1)-(lo+i))) (List.take (lo+(i+1)) es++(List.take (lo+(m+1)-(lo+(i+1))) (List.drop (lo+i) (List.take (lo+(m+1)) es))++List.drop (lo+(i+1)+min (min (lo+(m+1)) N-(lo+i)) (lo+(m+1)-(lo+(i+1)))) es))) =
 es.take (lo+i)++v::((es.take (lo+m)).drop (lo+i)++es.drop (lo+m+1)):=by
 have e1:lo+(i+1)+min (min (lo+(m+1)) N-(lo+i)) (lo+(m+1)-(lo+(i+1)))=lo+m+1:=by omega
 have e2:lo+i+min 1 (lo+(m+1)-(lo+i))=lo+i+1:=by omega
 have e3:List.take (lo+(m+1)-(lo+i)) [v]=[v]:=take_of_length_le (by simp;omega)
 have e4:(List.take (lo+(i+1)) es).length=lo+i+1:=by rw[length_take];omega
 have e5:List.take (lo+(m+1)-(lo+(i+1))) (List.drop (lo+i) (List.take (lo+(m+1)) es))=(es.take (lo+m)).drop (lo+i):=hI_ (i:=lo+i) (m:=lo+m) (by omega)
 rw[e1,e2,e3,e5,take_append_of_le_length (by omega),take_take,Nat.min_eq_left (by omega),drop_left' e4]
 rfl
set_option maxHeartbeats 1000000 in
theorem eD_{l N lo m lv i:Nat}{H:List Row}{es:List (List AV)}{v:List AV}(hr:H[l]?=some ⟨.ty 9,1,es⟩)(hN:es.length=N)(hm:lo+m<N)(hi:i≤m)(hm2:lo+m≤1073741824)(hc:∀e∈(es.take (lo+m)).drop (lo+i),e.all AV.cell=true)(hv:H[lv]?=some ⟨.ty 9,1,[v]⟩)(hvc:v.all AV.cell=true)(hlv:lv≠l)
 {K:AV→List Row→Prop} (hk:K (.sub l N lo (lo+m+1)) (H.set l ⟨.ty 9,1,es.take (lo+i)++v::((es.take (lo+m)).drop (lo+i)++es.drop (lo+m+1))⟩)):callSem Tryz.prog 133 [.sub l N lo (lo+m),.val (.int .i64 i),.own lv 1] H K:=by
 refine aO_ mixed Tryz.func133 tp_ (bA_ rfl ?_)
 have hll:=(List.getElem?_eq_some_iff.1 hr).1
 have hvl:=(List.getElem?_eq_some_iff.1 hv).1
 have hlm:lo+m-lo=m:=by omega
 by_cases hlo:lo=0
 ·subst hlo
  simp only[Nat.zero_add]at *
  by_cases him:i=m
  ·subst him
   have e1:(es.take i).drop i=[]:=drop_eq_nil_of_le (by rw[length_take];omega)
   rw[e1,nil_append]at hk
   have e2:i+1≤N:=hm
   simp(disch:=first|omega|simp only[lzz0_];first|done|omega)only[go_sem,reduceEqDiff,reduceLeDiff,reduceCtorEq,↓reduceIte,hq_,jm_,hr,hv,hN,hvc,e2,Nat.sub_zero,Nat.zero_add]
   refine⟨by omega,by omega,by omega,?_⟩
   refine bv_ _ _ bN_ ?_
   simp(disch:=first|omega|simp only[lzz0_];first|done|omega)only[go_sem,↓reduceIte]
   exact hk
  ·have him':((i:Int)=(m:Int))=False:=eq_false (by omega)
   simp(disch:=first|omega|simp only[lzz0_];first|done|omega)only[go_sem,reduceEqDiff,reduceCtorEq,↓reduceIte,hq_,jm_,hr,hv,hN,him',Nat.sub_zero,Nat.zero_add]
   refine⟨by decide,fun cap hcap=>?_⟩
   have hcf:((cap:Int)<(m:Int)+((1:Nat):Int))=False:=eq_false (by omega)
   have hm1:m+1≤N:=hm
   have htm:((m:Int)+((1:Nat):Int)).toNat=m+1:=by omega
   have hti:((i:Int)+((1:Nat):Int)).toNat=i+1:=by omega
   simp(disch:=first|omega|simp only[lzz0_];first|done|omega)only[al_,ao_,go_sem,reduceEqDiff,reduceLeDiff,reduceCtorEq,↓reduceIte,hcf,htm,hti,hr,hv,hN,hm1,Nat.sub_zero,Nat.zero_add,la_,length_take,length_drop,lc_,ln_,fI_,if_pos]
   have hroom:=hZ_ (lo:=0) (v:=v) hN (i:=i) (m:=m) (by omega) (by omega)
   simp only[Nat.zero_add]at hroom
   have hmidL:(List.take (m+1-(i+1)) (List.drop i (List.take (m+1) es)))=(es.take m).drop i:=hI_ (by omega)
   repeat(refine And.intro (by first|assumption|omega|decide|(intro e he;rw[hmidL]at he;exact hc e he)|(intro e he;have:=mem_of_mem_take he;simp only[mem_singleton]at this;subst this;exact hvc)) ?_)
   refine bv_ _ _ bN_ ?_
   simp(disch:=first|omega|simp only[lzz0_];first|done|omega)only[go_sem,↓reduceIte,hroom,set_set]
   exact hk
 ·by_cases him:i=m
  ·subst him
   have e1:(es.take (lo+i)).drop (lo+i)=[]:=drop_eq_nil_of_le (by rw[length_take];omega)
   rw[e1,nil_append]at hk
   have e2:lo+i+1≤N:=hm
   simp(disch:=first|omega|simp only[lzz0_];first|done|omega)only[go_sem,reduceEqDiff,reduceLeDiff,reduceCtorEq,↓reduceIte,hq_,jm_,hr,hv,hN,hvc,e2,hlm,hlo,not_false_eq_true]
   refine⟨by omega,by omega,by decide,by omega,by omega,?_⟩
   refine bv_ _ _ bN_ ?_
   simp(disch:=first|omega|simp only[lzz0_];first|done|omega)only[go_sem,↓reduceIte]
   exact hk
  ·have him':((i:Int)=(m:Int))=False:=eq_false (by omega)
   simp(disch:=first|omega|simp only[lzz0_];first|done|omega)only[go_sem,reduceEqDiff,reduceCtorEq,↓reduceIte,hq_,jm_,hr,hv,hN,him',hlm]
   refine⟨by decide,fun cap hcap=>?_⟩
   have hcf:((cap:Int)<(m:Int)+((1:Nat):Int))=False:=eq_false (by omega)
   have hm1:lo+(m+1)≤N:=by omega
   have htm:((m:Int)+((1:Nat):Int)).toNat=m+1:=by omega
   have hti:((i:Int)+((1:Nat):Int)).toNat=i+1:=by omega
   have hlm2:lo+(m+1)-lo=m+1:=by omega
   simp(disch:=first|omega|simp only[lzz0_];first|done|omega)only[al_,ao_,go_sem,reduceEqDiff,reduceLeDiff,reduceCtorEq,↓reduceIte,hcf,htm,hti,hr,hv,hN,hm1,hlm2,la_,length_take,length_drop,lc_,ln_,fI_,if_pos]
   have hroom:=hZ_ (lo:=lo) (v:=v) hN (i:=i) (m:=m) (by omega) (by omega)
   have hmidL:List.take (lo+(m+1)-(lo+(i+1))) (List.drop (lo+i) (List.take (lo+(m+1)) es))=(es.take (lo+m)).drop (lo+i):=hI_ (i:=lo+i) (m:=lo+m) (by omega)
   repeat(refine And.intro (by first|assumption|omega|decide|(intro e he;rw[hmidL]at he;exact hc e he)|(intro e he;have:=mem_of_mem_take he;simp only[mem_singleton]at this;subst this;exact hvc)) ?_)
   refine bv_ _ _ bN_ ?_
   simp(disch:=first|omega|simp only[lzz0_];first|done|omega)only[go_sem,↓reduceIte,hroom,set_set]
   exact hk
set_option maxHeartbeats 1000000 in
theorem eO_{l N lo m lv i:Nat}{H:List Row}{es:List (List AV)}{v:List AV}(hr:H[l]?=some ⟨.ty 2,1,es⟩)(hN:es.length=N)(hm:lo+m<N)(hi:i≤m)(hm2:lo+m≤1073741824)(hc:∀e∈(es.take (lo+m)).drop (lo+i),e.all AV.cell=true)(hv:H[lv]?=some ⟨.ty 2,1,[v]⟩)(hvc:v.all AV.cell=true)(hlv:lv≠l)
 {K:AV→List Row→Prop} (hk:K (.sub l N lo (lo+m+1)) (H.set l ⟨.ty 2,1,es.take (lo+i)++v::((es.take (lo+m)).drop (lo+i)++es.drop (lo+m+1))⟩)):callSem Tryz.prog 134 [.sub l N lo (lo+m),.val (.int .i64 i),.own lv 1] H K:=by
 refine aO_ mixed Tryz.func134 tk_ (bA_ rfl ?_)
 have hll:=(List.getElem?_eq_some_iff.1 hr).1
 have hvl:=(List.getElem?_eq_some_iff.1 hv).1
 have hlm:lo+m-lo=m:=by omega
 by_cases hlo:lo=0
 ·subst hlo
  simp only[Nat.zero_add]at *
  by_cases him:i=m
  ·subst him
   have e1:(es.take i).drop i=[]:=drop_eq_nil_of_le (by rw[length_take];omega)
   rw[e1,nil_append]at hk
   have e2:i+1≤N:=hm
   simp(disch:=first|omega|simp only[lzz0_];first|done|omega)only[go_sem,reduceEqDiff,reduceLeDiff,reduceCtorEq,↓reduceIte,hr_,ji_,hr,hv,hN,hvc,e2,Nat.sub_zero,Nat.zero_add]
   refine⟨by omega,by omega,by omega,?_⟩
   refine bv_ _ _ bN_ ?_
   simp(disch:=first|omega|simp only[lzz0_];first|done|omega)only[go_sem,↓reduceIte]
   exact hk
  ·have him':((i:Int)=(m:Int))=False:=eq_false (by omega)
   simp(disch:=first|omega|simp only[lzz0_];first|done|omega)only[go_sem,reduceEqDiff,reduceCtorEq,↓reduceIte,hr_,ji_,hr,hv,hN,him',Nat.sub_zero,Nat.zero_add]
   refine⟨by decide,fun cap hcap=>?_⟩
   have hcf:((cap:Int)<(m:Int)+((1:Nat):Int))=False:=eq_false (by omega)
   have hm1:m+1≤N:=hm
   have htm:((m:Int)+((1:Nat):Int)).toNat=m+1:=by omega
   have hti:((i:Int)+((1:Nat):Int)).toNat=i+1:=by omega
   simp(disch:=first|omega|simp only[lzz0_];first|done|omega)only[al_,ao_,go_sem,reduceEqDiff,reduceLeDiff,reduceCtorEq,↓reduceIte,hcf,htm,hti,hr,hv,hN,hm1,Nat.sub_zero,Nat.zero_add,la_,length_take,length_drop,lc_,ln_,fI_,if_pos]
   have hroom:=hZ_ (lo:=0) (v:=v) hN (i:=i) (m:=m) (by omega) (by omega)
   simp only[Nat.zero_add]at hroom
   have hmidL:(List.take (m+1-(i+1)) (List.drop i (List.take (m+1) es)))=(es.take m).drop i:=hI_ (by omega)
   repeat(refine And.intro (by first|assumption|omega|decide|(intro e he;rw[hmidL]at he;exact hc e he)|(intro e he;have:=mem_of_mem_take he;simp only[mem_singleton]at this;subst this;exact hvc)) ?_)
   refine bv_ _ _ bN_ ?_
   simp(disch:=first|omega|simp only[lzz0_];first|done|omega)only[go_sem,↓reduceIte,hroom,set_set]
   exact hk
 ·by_cases him:i=m
  ·subst him
   have e1:(es.take (lo+i)).drop (lo+i)=[]:=drop_eq_nil_of_le (by rw[length_take];omega)
   rw[e1,nil_append]at hk
   have e2:lo+i+1≤N:=hm
   simp(disch:=first|omega|simp only[lzz0_];first|done|omega)only[go_sem,reduceEqDiff,reduceLeDiff,reduceCtorEq,↓reduceIte,hr_,ji_,hr,hv,hN,hvc,e2,hlm,hlo,not_false_eq_true]
   refine⟨by omega,by omega,by decide,by omega,by omega,?_⟩
   refine bv_ _ _ bN_ ?_
   simp(disch:=first|omega|simp only[lzz0_];first|done|omega)only[go_sem,↓reduceIte]
   exact hk
  ·have him':((i:Int)=(m:Int))=False:=eq_false (by omega)
   simp(disch:=first|omega|simp only[lzz0_];first|done|omega)only[go_sem,reduceEqDiff,reduceCtorEq,↓reduceIte,hr_,ji_,hr,hv,hN,him',hlm]
   refine⟨by decide,fun cap hcap=>?_⟩
   have hcf:((cap:Int)<(m:Int)+((1:Nat):Int))=False:=eq_false (by omega)
   have hm1:lo+(m+1)≤N:=by omega
   have htm:((m:Int)+((1:Nat):Int)).toNat=m+1:=by omega
   have hti:((i:Int)+((1:Nat):Int)).toNat=i+1:=by omega
   have hlm2:lo+(m+1)-lo=m+1:=by omega
   simp(disch:=first|omega|simp only[lzz0_];first|done|omega)only[al_,ao_,go_sem,reduceEqDiff,reduceLeDiff,reduceCtorEq,↓reduceIte,hcf,htm,hti,hr,hv,hN,hm1,hlm2,la_,length_take,length_drop,lc_,ln_,fI_,if_pos]
   have hroom:=hZ_ (lo:=lo) (v:=v) hN (i:=i) (m:=m) (by omega) (by omega)
   have hmidL:List.take (lo+(m+1)-(lo+(i+1))) (List.drop (lo+i) (List.take (lo+(m+1)) es))=(es.take (lo+m)).drop (lo+i):=hI_ (i:=lo+i) (m:=lo+m) (by omega)
   repeat(refine And.intro (by first|assumption|omega|decide|(intro e he;rw[hmidL]at he;exact hc e he)|(intro e he;have:=mem_of_mem_take he;simp only[mem_singleton]at this;subst this;exact hvc)) ?_)
   refine bv_ _ _ bN_ ?_
   simp(disch:=first|omega|simp only[lzz0_];first|done|omega)only[go_sem,↓reduceIte,hroom,set_set]
   exact hk
theorem ij_{α:Type}{P Z T:List α}{v:α}{i cap M:Nat}(hP:P.length=i)(hi:i<cap)(hZ:Z.length=cap+1-i)(hT:T.length=cap-i)(hM:M=cap-i) :
 List.take (i+1) (List.take i (P++Z)++(List.take (cap+1-i) [v]++List.drop (i+min 1 (cap+1-i)) (P++Z))) ++
  (List.take (cap+1-(i+1)) T++List.drop (i+1+min M (cap+1-(i+1))) (List.take i (P++Z)++(List.take (cap+1-i) [v]++List.drop (i+min 1 (cap+1-i)) (P++Z))))=P++v::T:=by
 have e1:i+1+min M (cap+1-(i+1))=cap+1:=by omega
 have e2:i+min 1 (cap+1-i)=i+1:=by omega
 have e3:List.take (cap+1-i) [v]=[v]:=take_of_length_le (by simp;omega)
 have e5:List.take (cap+1-(i+1)) T=T:=take_of_length_le (by omega)
 have e6:List.take i (P++Z)=P:=take_left' hP
 have e7:∀W:List α,List.take (i+1) (P++([v]++W))=P++[v]:=fun W=>by
  rw[←append_assoc]
  exact take_left' (by rw[la_,hP];rfl)
 have e8:List.drop (cap+1) (P++([v]++List.drop (i+1) (P++Z)))=[]:=drop_eq_nil_of_le (by simp only[la_,length_drop,lc_,ln_,hZ,hP];omega)
 rw[e1,e2,e3,e5,e6,e7,e8,append_nil]
 simp
set_option maxHeartbeats 1000000 in
theorem hj_{l N lo lv i m:Nat}{H:List Row}{es:List (List AV)}{v:List AV}(hr:H[l]?=some ⟨.full 9,1,es⟩)(hN:es.length=N)(hm:lo+m=N)(hi:i≤m)(hm2:N≤1073741824)(hc:∀e∈es.drop (lo+i),e.all AV.cell=true)(hv:H[lv]?=some ⟨.ty 9,1,[v]⟩)(hvc:v.all AV.cell=true)(hlv:lv≠l)
 {K:AV→List Row→Prop} (hk:K (.own H.length (m+1)) (H++[⟨.ty 9,1,(es.drop lo).take i++v::es.drop (lo+i)⟩])):callSem Tryz.prog 133 [.sub l N lo N,.val (.int .i64 i),.own lv 1] H K:=by
 refine aO_ mixed Tryz.func133 tp_ (bA_ rfl ?_)
 have hll:=(List.getElem?_eq_some_iff.1 hr).1
 have hvl:=(List.getElem?_eq_some_iff.1 hv).1
 have hlm:N-lo=m:=by omega
 by_cases him:i=m
 ·subst him
  have e1:(es.drop lo).take i=es.drop lo:=take_of_length_le (by rw[length_drop];omega)
  have e2:es.drop (lo+i)=[]:=drop_eq_nil_of_le (by omega)
  have e3:es.take N=es:=take_of_length_le (by omega)
  rw[e1,e2]at hk
  by_cases hlo:lo=0
  ·subst hlo
   simp only[Nat.sub_zero,Nat.zero_add]at hlm hm
   subst hlm
   rw[drop_zero]at hk
   simp(disch:=first|omega|simp only[lzz0_];first|done|omega)only[go_sem,reduceEqDiff,reduceLeDiff,reduceCtorEq,↓reduceIte,hq_,jm_,hr,hv,hN,hvc,Nat.sub_zero,Nat.zero_add,e3]
   refine⟨by omega,by omega,by omega,?_⟩
   refine bv_ _ _ bN_ ?_
   simp(disch:=first|omega|simp only[lzz0_];first|done|omega)only[go_sem,↓reduceIte]
   exact hk
  ·simp(disch:=first|omega|simp only[lzz0_];first|done|omega)only[go_sem,reduceEqDiff,reduceLeDiff,reduceCtorEq,↓reduceIte,hq_,jm_,hr,hv,hN,hvc,hlm,hlo,not_false_eq_true,e3]
   refine⟨by omega,by decide,by omega,by omega,by omega,?_⟩
   refine bv_ _ _ bN_ ?_
   simp(disch:=first|omega|simp only[lzz0_];first|done|omega)only[go_sem,↓reduceIte]
   exact hk
 ·have him':((i:Int)=(m:Int))=False:=eq_false (by omega)
  by_cases hlo:lo=0
  ·subst hlo
   simp only[Nat.sub_zero,Nat.zero_add]at hlm hm
   subst hlm
   rw[drop_zero]at hk
   simp(disch:=first|omega|simp only[lzz0_];first|done|omega)only[go_sem,reduceEqDiff,reduceCtorEq,↓reduceIte,hq_,jm_,hr,hv,hN,him',Nat.sub_zero,Nat.zero_add]
   refine⟨by decide,fun cap hc1 hc2=>?_⟩
   subst hc2
   have hcf:((cap:Int)<(cap:Int)+((1:Nat):Int))=True:=eq_true (by omega)
   have htm:((cap:Int)+((1:Nat):Int)-(i:Int)).toNat=cap+1-i:=by omega
   have hti:((i:Int)+((1:Nat):Int)).toNat=i+1:=by omega
   have hn:i+(cap+1-i)=cap+1:=by omega
   simp(disch:=first|omega|simp only[lzz0_];first|done|omega)only[ac_,ar_,go_sem,reduceEqDiff,reduceLeDiff,reduceCtorEq,↓reduceIte,hcf,htm,hti,hn,hr,hv,hN,Nat.sub_zero,Nat.zero_add,la_,length_take,length_drop,lc_,ln_,length_replicate,fI_,if_pos]
   have hcc:∀(e:List AV),e∈List.take (cap+1-(i+1)) (List.drop i (List.take cap es))→e.all AV.cell=true:=fun e he=>hc e (by
    have h1:=mem_of_mem_take he
    rw[take_of_length_le (by omega)]at h1
    rw[Nat.zero_add]
    exact h1)
   repeat(refine And.intro (by first|assumption|omega|decide|(intro e he;have he:=mem_of_mem_take he;rw[take_of_length_le (by omega)]at he;first|exact hc e he|exact hc e (Nat.zero_add i▸he))|(intro e he;have:=mem_of_mem_take he;simp only[mem_singleton]at this;subst this;exact hvc)) ?_)
   refine bv_ _ _ bN_ ?_
   simp(disch:=first|omega|simp only[lzz0_];first|done|omega)only[go_sem,↓reduceIte]
   rw[ij_ (P:=List.take i es) (T:=List.drop i (List.take cap es)) (by rw[length_take];omega) (by omega) length_replicate (by rw[length_drop,length_take];omega) (by omega),take_of_length_le (l:=es) (i:=cap) (by omega)]
   simpa using hk
  ·simp(disch:=first|omega|simp only[lzz0_];first|done|omega)only[go_sem,reduceEqDiff,reduceCtorEq,↓reduceIte,hq_,jm_,hr,hv,hN,him',hlm]
   refine⟨by decide,fun cap hc1 hc2=>?_⟩
   subst hc2
   have hcf:((cap:Int)<(cap:Int)+((1:Nat):Int))=True:=eq_true (by omega)
   have htm:((cap:Int)+((1:Nat):Int)-(i:Int)).toNat=cap+1-i:=by omega
   have hti:((i:Int)+((1:Nat):Int)).toNat=i+1:=by omega
   have hn:i+(cap+1-i)=cap+1:=by omega
   have hli:lo+i-lo=i:=by omega
   simp(disch:=first|omega|simp only[lzz0_];first|done|omega)only[ac_,ar_,go_sem,reduceEqDiff,reduceLeDiff,reduceCtorEq,↓reduceIte,hcf,htm,hti,hn,hli,hr,hv,hN,hlm,hlo,not_false_eq_true,la_,length_take,length_drop,lc_,ln_,length_replicate,fI_,if_pos]
   repeat(refine And.intro (by first|assumption|omega|decide|(intro e he;have he:=mem_of_mem_take he;rw[take_of_length_le (by omega)]at he;first|exact hc e he|exact hc e (Nat.zero_add i▸he))|(intro e he;have:=mem_of_mem_take he;simp only[mem_singleton]at this;subst this;exact hvc)) ?_)
   refine bv_ _ _ bN_ ?_
   simp(disch:=first|omega|simp only[lzz0_];first|done|omega)only[go_sem,↓reduceIte]
   rw[ij_ (P:=List.drop lo (List.take (lo+i) es)) (T:=List.drop (lo+i) (List.take (lo+cap) es)) (by rw[length_drop,length_take];omega) (by omega) length_replicate (by rw[length_drop,length_take];omega) (by omega),take_of_length_le (l:=es) (i:=lo+cap) (by omega),drop_take,Nat.add_sub_cancel_left]
   exact hk
set_option maxHeartbeats 1000000 in
theorem hP_{l N lo lv i m:Nat}{H:List Row}{es:List (List AV)}{v:List AV}(hr:H[l]?=some ⟨.full 2,1,es⟩)(hN:es.length=N)(hm:lo+m=N)(hi:i≤m)(hm2:N≤1073741824)(hc:∀e∈es.drop (lo+i),e.all AV.cell=true)(hv:H[lv]?=some ⟨.ty 2,1,[v]⟩)(hvc:v.all AV.cell=true)(hlv:lv≠l)
 {K:AV→List Row→Prop} (hk:K (.own H.length (m+1)) (H++[⟨.ty 2,1,(es.drop lo).take i++v::es.drop (lo+i)⟩])):callSem Tryz.prog 134 [.sub l N lo N,.val (.int .i64 i),.own lv 1] H K:=by
 refine aO_ mixed Tryz.func134 tk_ (bA_ rfl ?_)
 have hll:=(List.getElem?_eq_some_iff.1 hr).1
 have hvl:=(List.getElem?_eq_some_iff.1 hv).1
 have hlm:N-lo=m:=by omega
 by_cases him:i=m
 ·subst him
  have e1:(es.drop lo).take i=es.drop lo:=take_of_length_le (by rw[length_drop];omega)
  have e2:es.drop (lo+i)=[]:=drop_eq_nil_of_le (by omega)
  have e3:es.take N=es:=take_of_length_le (by omega)
  rw[e1,e2]at hk
  by_cases hlo:lo=0
  ·subst hlo
   simp only[Nat.sub_zero,Nat.zero_add]at hlm hm
   subst hlm
   rw[drop_zero]at hk
   simp(disch:=first|omega|simp only[lzz0_];first|done|omega)only[go_sem,reduceEqDiff,reduceLeDiff,reduceCtorEq,↓reduceIte,hr_,ji_,hr,hv,hN,hvc,Nat.sub_zero,Nat.zero_add,e3]
   refine⟨by omega,by omega,by omega,?_⟩
   refine bv_ _ _ bN_ ?_
   simp(disch:=first|omega|simp only[lzz0_];first|done|omega)only[go_sem,↓reduceIte]
   exact hk
  ·simp(disch:=first|omega|simp only[lzz0_];first|done|omega)only[go_sem,reduceEqDiff,reduceLeDiff,reduceCtorEq,↓reduceIte,hr_,ji_,hr,hv,hN,hvc,hlm,hlo,not_false_eq_true,e3]
   refine⟨by omega,by decide,by omega,by omega,by omega,?_⟩
   refine bv_ _ _ bN_ ?_
   simp(disch:=first|omega|simp only[lzz0_];first|done|omega)only[go_sem,↓reduceIte]
   exact hk
 ·have him':((i:Int)=(m:Int))=False:=eq_false (by omega)
  by_cases hlo:lo=0
  ·subst hlo
   simp only[Nat.sub_zero,Nat.zero_add]at hlm hm
   subst hlm
   rw[drop_zero]at hk
   simp(disch:=first|omega|simp only[lzz0_];first|done|omega)only[go_sem,reduceEqDiff,reduceCtorEq,↓reduceIte,hr_,ji_,hr,hv,hN,him',Nat.sub_zero,Nat.zero_add]
   refine⟨by decide,fun cap hc1 hc2=>?_⟩
   subst hc2
   have hcf:((cap:Int)<(cap:Int)+((1:Nat):Int))=True:=eq_true (by omega)
   have htm:((cap:Int)+((1:Nat):Int)-(i:Int)).toNat=cap+1-i:=by omega
   have hti:((i:Int)+((1:Nat):Int)).toNat=i+1:=by omega
   have hn:i+(cap+1-i)=cap+1:=by omega
   simp(disch:=first|omega|simp only[lzz0_];first|done|omega)only[ac_,ar_,go_sem,reduceEqDiff,reduceLeDiff,reduceCtorEq,↓reduceIte,hcf,htm,hti,hn,hr,hv,hN,Nat.sub_zero,Nat.zero_add,la_,length_take,length_drop,lc_,ln_,length_replicate,fI_,if_pos]
   have hcc:∀(e:List AV),e∈List.take (cap+1-(i+1)) (List.drop i (List.take cap es))→e.all AV.cell=true:=fun e he=>hc e (by
    have h1:=mem_of_mem_take he
    rw[take_of_length_le (by omega)]at h1
    rw[Nat.zero_add]
    exact h1)
   repeat(refine And.intro (by first|assumption|omega|decide|(intro e he;have he:=mem_of_mem_take he;rw[take_of_length_le (by omega)]at he;first|exact hc e he|exact hc e (Nat.zero_add i▸he))|(intro e he;have:=mem_of_mem_take he;simp only[mem_singleton]at this;subst this;exact hvc)) ?_)
   refine bv_ _ _ bN_ ?_
   simp(disch:=first|omega|simp only[lzz0_];first|done|omega)only[go_sem,↓reduceIte]
   rw[ij_ (P:=List.take i es) (T:=List.drop i (List.take cap es)) (by rw[length_take];omega) (by omega) length_replicate (by rw[length_drop,length_take];omega) (by omega),take_of_length_le (l:=es) (i:=cap) (by omega)]
   simpa using hk
  ·simp(disch:=first|omega|simp only[lzz0_];first|done|omega)only[go_sem,reduceEqDiff,reduceCtorEq,↓reduceIte,hr_,ji_,hr,hv,hN,him',hlm]
   refine⟨by decide,fun cap hc1 hc2=>?_⟩
   subst hc2
   have hcf:((cap:Int)<(cap:Int)+((1:Nat):Int))=True:=eq_true (by omega)
   have htm:((cap:Int)+((1:Nat):Int)-(i:Int)).toNat=cap+1-i:=by omega
   have hti:((i:Int)+((1:Nat):Int)).toNat=i+1:=by omega
   have hn:i+(cap+1-i)=cap+1:=by omega
   have hli:lo+i-lo=i:=by omega
   simp(disch:=first|omega|simp only[lzz0_];first|done|omega)only[ac_,ar_,go_sem,reduceEqDiff,reduceLeDiff,reduceCtorEq,↓reduceIte,hcf,htm,hti,hn,hli,hr,hv,hN,hlm,hlo,not_false_eq_true,la_,length_take,length_drop,lc_,ln_,length_replicate,fI_,if_pos]
   repeat(refine And.intro (by first|assumption|omega|decide|(intro e he;have he:=mem_of_mem_take he;rw[take_of_length_le (by omega)]at he;first|exact hc e he|exact hc e (Nat.zero_add i▸he))|(intro e he;have:=mem_of_mem_take he;simp only[mem_singleton]at this;subst this;exact hvc)) ?_)
   refine bv_ _ _ bN_ ?_
   simp(disch:=first|omega|simp only[lzz0_];first|done|omega)only[go_sem,↓reduceIte]
   rw[ij_ (P:=List.drop lo (List.take (lo+i) es)) (T:=List.drop (lo+i) (List.take (lo+cap) es)) (by rw[length_drop,length_take];omega) (by omega) length_replicate (by rw[length_drop,length_take];omega) (by omega),take_of_length_le (l:=es) (i:=lo+cap) (by omega),drop_take,Nat.add_sub_cancel_left]
   exact hk
theorem bm_{l lv i mx:Nat}{H:List Row}{a:AV}{xs:List ByteArray}{v:ByteArray}(hp:aI_ H 9 1 a l (xs.map ak_))(hi:i≤xs.length)(hN:∀r,H[l]?=some r→r.es.length≤mx)(hmx:mx≤1073741823)(hv:H[lv]?=some ⟨.ty 9,1,[ak_ v]⟩)(hlv:lv≠l){K:AV→List Row→Prop}
 (hk:∀a' H' l',(l'=l∨H.length≤l')→l'<H'.length→H.length≤H'.length→(∀j,j<H.length→j≠l→H'[j]?=H[j]?)→aI_ H' 9 1 a' l' ((xs.take i++v::xs.drop i).map ak_)→(∀r,H'[l']?=some r→r.es.length≤mx+1)→K a' H'):callSem Tryz.prog 133 [a,.val (.int .i64 i),.own lv 1] H K:=by
 have hll:=hp.lt
 obtain⟨pre,post,rfl,hrow⟩:=hp
 have hN':=hN _ hrow
 simp only[la_,length_map]at hN'
 have hX:∀e∈(xs.drop i).map ak_,e.all AV.cell=true:=fun e he=>hd_ xs e (by rw[map_drop]at he;exact mem_of_mem_drop he)
 have hvc:(ak_ v).all AV.cell=true:=rfl
 have t1:∀q:List (List AV),List.take (pre.length+i) (pre++(xs.map ak_++q))=pre++(xs.take i).map ak_:=fun q=>by
  rw[take_length_add_append,take_append_of_le_length (by simpa using hi),map_take]
 have t2:∀q:List (List AV),List.drop (pre.length+i) (List.take (pre.length+xs.length) (pre++(xs.map ak_++q)))=(xs.drop i).map ak_:=fun q=>by
  rw[take_length_add_append,take_append_of_le_length (by simp),take_of_length_le (by simp),drop_length_add_append,map_drop]
 have t3:∀(x:List AV) (q:List (List AV)),List.drop (pre.length+xs.length+1) (pre++(xs.map ak_++x::q))=q:=fun x q=>by
  rw[Nat.add_assoc,drop_length_add_append,show xs.length+1=(xs.map ak_).length+1 by simp,drop_length_add_append];rfl
 have t4:∀q:List (List AV),pre++(xs.take i).map ak_++ak_ v::((xs.drop i).map ak_++q)=pre++((xs.take i++v::xs.drop i).map ak_++q):=fun q=>by simp
 have hlen:(xs.take i++v::xs.drop i).length=xs.length+1:=by simp only[la_,length_take,lc_,length_drop];omega
 have e0:(xs.map ak_).length=xs.length:=by simp
 have e1:((xs.take i++v::xs.drop i).map ak_).length=xs.length+1:=by rw[length_map,hlen]
 refine callSem.weaken ?_
 rw[e0]
 cases post with
 | cons q post =>
  refine eD_ (lo:=pre.length) (m:=xs.length) (lv:=lv) hrow (by simp) (by simp only[lc_];omega) hi (by omega) (fun e he=>hX e (by rwa [t2]at he)) hv hvc hlv ?_
  rw[t1,t2,t3,t4]
  refine⟨_,ez_ _,hk _ _ l (.inl rfl) (by simpa using hll) (by simp) (fun j _ hne=>al_ (Ne.symm hne)) ⟨pre,post,?_,ao_ hll⟩ (fun r hr=>?_)⟩
  ·rw[e1];congr 1<;>simp only[lc_]<;>omega
  ·rw[ao_ hll]at hr
   obtain rfl:=Option.some.inj hr
   simp only[la_,e1,lc_]at hN'⊢
   omega
 | nil =>
  rw[append_nil]at hrow
  have es1:pre.length+(xs.length+([]:List (List AV)).length)=pre.length+xs.length:=rfl
  rw[es1]
  refine k7_ hrow (by simp) (by decide) ?_ ?_
  ·have eq:pre++xs.map ak_++[List.replicate 1 AV.undef]=pre++(xs.map ak_++[List.replicate 1 AV.undef]):=append_assoc _ _ _
   rw[eq]
   refine eD_ (lo:=pre.length) (m:=xs.length) (lv:=lv) (ao_ hll) (by simp;omega) (by omega) hi (by omega) (fun e he=>hX e (by rwa [t2]at he)) (by rw[al_ (Ne.symm hlv)];exact hv) hvc hlv ?_
   rw[t1,t2,t3,t4,set_set]
   refine⟨_,ez_ _,hk _ _ l (.inl rfl) (by simpa using hll) (by simp) (fun j _ hne=>al_ (Ne.symm hne)) ⟨pre,[],?_,ao_ hll⟩ (fun r hr=>?_)⟩
   ·rw[e1];congr 1
   ·rw[ao_ hll]at hr
    obtain rfl:=Option.some.inj hr
    simp only[la_,e1,ln_]at hN'⊢
    omega
  ·refine hj_ (lo:=pre.length) (m:=xs.length) (N:=pre.length+xs.length) (lv:=lv) (ao_ hll) (by simp) rfl hi (by simp only[ln_]at hN';omega) (fun e he=>hX e ?_) (by rw[al_ (Ne.symm hlv)];exact hv) hvc hlv ?_
   ·rw[drop_length_add_append,←map_drop]at he;exact he
   ·refine⟨by rw[ac_ (by simpa using hll)];exact ao_ hll,?_⟩
    rw[ls_,drop_left,drop_length_add_append,←map_take,←map_drop]
    have hst:∀r1 r2 r3:Row,H[l]?=some r3→(H.set l r1++[r2]).set l r3=H++[r2]:=fun r1 r2 r3 q=>by
     rw[set_append_left _ _ (by simpa using hll),set_set,kY_ q]
    rw[hst _ _ _ hrow]
    have e5:(xs.take i).map ak_++ak_ v::(xs.drop i).map ak_=(xs.take i++v::xs.drop i).map ak_:=by simp
    rw[e5]
    refine⟨_,dK_ _ _,hk _ _ H.length (.inr (Nat.le_refl _)) (by simp) (by simp) (fun j hj _=>ac_ hj) ⟨[],[],?_,(by rw[append_nil,nil_append];exact ar_ rfl)⟩ (fun r hr=>?_)⟩
    ·rw[e1];simp
    ·rw[ar_ rfl]at hr
     obtain rfl:=Option.some.inj hr
     simp only[e1]at hN'⊢
     omega
theorem d7_{l lv i mx:Nat}{H:List Row}{a:AV}{xs:List Int}{v:Int}(hp:aI_ H 2 1 a l (xs.map aK_))(hi:i≤xs.length)(hN:∀r,H[l]?=some r→r.es.length≤mx)(hmx:mx≤1073741823)(hv:H[lv]?=some ⟨.ty 2,1,[aK_ v]⟩)(hlv:lv≠l){K:AV→List Row→Prop}
 (hk:∀a' H' l',(l'=l∨H.length≤l')→l'<H'.length→H.length≤H'.length→(∀j,j<H.length→j≠l→H'[j]?=H[j]?)→aI_ H' 2 1 a' l' ((xs.take i++v::xs.drop i).map aK_)→(∀r,H'[l']?=some r→r.es.length≤mx+1)→K a' H'):callSem Tryz.prog 134 [a,.val (.int .i64 i),.own lv 1] H K:=by
 have hll:=hp.lt
 obtain⟨pre,post,rfl,hrow⟩:=hp
 have hN':=hN _ hrow
 simp only[la_,length_map]at hN'
 have hX:∀e∈(xs.drop i).map aK_,e.all AV.cell=true:=fun e he=>iV_ xs e (by rw[map_drop]at he;exact mem_of_mem_drop he)
 have hvc:(aK_ v).all AV.cell=true:=rfl
 have t1:∀q:List (List AV),List.take (pre.length+i) (pre++(xs.map aK_++q))=pre++(xs.take i).map aK_:=fun q=>by
  rw[take_length_add_append,take_append_of_le_length (by simpa using hi),map_take]
 have t2:∀q:List (List AV),List.drop (pre.length+i) (List.take (pre.length+xs.length) (pre++(xs.map aK_++q)))=(xs.drop i).map aK_:=fun q=>by
  rw[take_length_add_append,take_append_of_le_length (by simp),take_of_length_le (by simp),drop_length_add_append,map_drop]
 have t3:∀(x:List AV) (q:List (List AV)),List.drop (pre.length+xs.length+1) (pre++(xs.map aK_++x::q))=q:=fun x q=>by
  rw[Nat.add_assoc,drop_length_add_append,show xs.length+1=(xs.map aK_).length+1 by simp,drop_length_add_append];rfl
 have t4:∀q:List (List AV),pre++(xs.take i).map aK_++aK_ v::((xs.drop i).map aK_++q)=pre++((xs.take i++v::xs.drop i).map aK_++q):=fun q=>by simp
 have hlen:(xs.take i++v::xs.drop i).length=xs.length+1:=by simp only[la_,length_take,lc_,length_drop];omega
 have e0:(xs.map aK_).length=xs.length:=by simp
 have e1:((xs.take i++v::xs.drop i).map aK_).length=xs.length+1:=by rw[length_map,hlen]
 refine callSem.weaken ?_
 rw[e0]
 cases post with
 | cons q post =>
  refine eO_ (lo:=pre.length) (m:=xs.length) (lv:=lv) hrow (by simp) (by simp only[lc_];omega) hi (by omega) (fun e he=>hX e (by rwa [t2]at he)) hv hvc hlv ?_
  rw[t1,t2,t3,t4]
  refine⟨_,ez_ _,hk _ _ l (.inl rfl) (by simpa using hll) (by simp) (fun j _ hne=>al_ (Ne.symm hne)) ⟨pre,post,?_,ao_ hll⟩ (fun r hr=>?_)⟩
  ·rw[e1];congr 1<;>simp only[lc_]<;>omega
  ·rw[ao_ hll]at hr
   obtain rfl:=Option.some.inj hr
   simp only[la_,e1,lc_]at hN'⊢
   omega
 | nil =>
  rw[append_nil]at hrow
  have es1:pre.length+(xs.length+([]:List (List AV)).length)=pre.length+xs.length:=rfl
  rw[es1]
  refine k7_ hrow (by simp) (by decide) ?_ ?_
  ·have eq:pre++xs.map aK_++[List.replicate 1 AV.undef]=pre++(xs.map aK_++[List.replicate 1 AV.undef]):=append_assoc _ _ _
   rw[eq]
   refine eO_ (lo:=pre.length) (m:=xs.length) (lv:=lv) (ao_ hll) (by simp;omega) (by omega) hi (by omega) (fun e he=>hX e (by rwa [t2]at he)) (by rw[al_ (Ne.symm hlv)];exact hv) hvc hlv ?_
   rw[t1,t2,t3,t4,set_set]
   refine⟨_,ez_ _,hk _ _ l (.inl rfl) (by simpa using hll) (by simp) (fun j _ hne=>al_ (Ne.symm hne)) ⟨pre,[],?_,ao_ hll⟩ (fun r hr=>?_)⟩
   ·rw[e1];congr 1
   ·rw[ao_ hll]at hr
    obtain rfl:=Option.some.inj hr
    simp only[la_,e1,ln_]at hN'⊢
    omega
  ·refine hP_ (lo:=pre.length) (m:=xs.length) (N:=pre.length+xs.length) (lv:=lv) (ao_ hll) (by simp) rfl hi (by simp only[ln_]at hN';omega) (fun e he=>hX e ?_) (by rw[al_ (Ne.symm hlv)];exact hv) hvc hlv ?_
   ·rw[drop_length_add_append,←map_drop]at he;exact he
   ·refine⟨by rw[ac_ (by simpa using hll)];exact ao_ hll,?_⟩
    rw[ls_,drop_left,drop_length_add_append,←map_take,←map_drop]
    have hst:∀r1 r2 r3:Row,H[l]?=some r3→(H.set l r1++[r2]).set l r3=H++[r2]:=fun r1 r2 r3 q=>by
     rw[set_append_left _ _ (by simpa using hll),set_set,kY_ q]
    rw[hst _ _ _ hrow]
    have e5:(xs.take i).map aK_++aK_ v::(xs.drop i).map aK_=(xs.take i++v::xs.drop i).map aK_:=by simp
    rw[e5]
    refine⟨_,dK_ _ _,hk _ _ H.length (.inr (Nat.le_refl _)) (by simp) (by simp) (fun j hj _=>ac_ hj) ⟨[],[],?_,(by rw[append_nil,nil_append];exact ar_ rfl)⟩ (fun r hr=>?_)⟩
    ·rw[e1];simp
    ·rw[ar_ rfl]at hr
     obtain rfl:=Option.some.inj hr
     simp only[e1]at hN'⊢
     omega
def PB.all(T M:Nat)(B:List PB):List Nat:=T::M::B.flatMap PB.foot
theorem bY_(T M:Nat)(B1 B2:List PB)(x:PB):(PB.all T M (B1++x::B2)).Perm (x.foot++PB.all T M (B1++B2)):=by
 have e1:PB.all T M (B1++x::B2)=(T::M::B1.flatMap PB.foot)++(x.foot++B2.flatMap PB.foot):=by simp[PB.all]
 have e2:PB.all T M (B1++B2)=(T::M::B1.flatMap PB.foot)++B2.flatMap PB.foot:=by simp[PB.all]
 rw[e1,e2]
 exact perm_append_comm_assoc _ _ _
section
variable {H H' : List Row} {T M : Nat} {root : Int} {B B1 B2 : List PB} {ents : List (Int × Nat × AV)} {ck lo : Nat}
theorem Pg.upd{x x':PB}(g:Pg H T M root (B1++x::B2) ents ck lo)(hid:x'.id=x.id)(hb:x'.b=x.b)(hk:∀l,l<H.length→l∉x.foot→H'[l]?=H[l]?)(hl:H.length≤H'.length)(hf:∀l∈x'.foot,l∈x.foot∨(H.length≤l∧l<H'.length))(h1:x'.foot.Nodup)
 (hp:fZ_ H' x'.b x'.pg x'.k x'.v x'.d):Pg H' T M root (B1++x'::B2) ents ck lo:=by
 have hone:(PB.all T M (B1++x::B2)).Nodup:=g.one
 rw[(bY_ T M B1 B2 x).nodup_iff,nodup_append]at hone
 obtain⟨n1,n2,n3⟩:=hone
 have hmem:∀l,l∈PB.all T M (B1++B2)→l∈T::M::(B1++x::B2).flatMap PB.foot:=fun l hl=>(bY_ T M B1 B2 x).mem_iff.2 (mem_append_right _ hl)
 have hkeep:∀l∈PB.all T M (B1++B2),H'[l]?=H[l]?:=fun l hl=>hk l (g.lows l (hmem l hl)).2 (fun q=>n3 l q l hl rfl)
 have hTk:=hkeep T (by simp[PB.all])
 have hMk:=hkeep M (by simp[PB.all])
 have hothers:∀y∈B1++B2,∀l∈y.foot,l∈PB.all T M (B1++B2):=fun y hy l hl=>Pg.mem_foot hy hl
 refine⟨by rw[hTk];exact g.box,by rw[hMk];exact g.map,⟨?_,g.ents.born,g.ents.old⟩,fun y hy=>?_,?_,?_,fun l hl2=>?_⟩
 ·rw[g.ents.same]
  simp[hid,hb]
 ·have hcase:y=x'∨y∈B1++B2:=by
   rcases mem_append.1 hy with q|q
   ·exact .inr (mem_append_left _ q)
   ·rcases mem_cons.1 q with q|q
    ·exact .inl q
    ·exact .inr (mem_append_right _ q)
  rcases hcase with rfl|q
  ·exact hp
  ·have hy2:y∈B1++x::B2:=by
    rcases mem_append.1 q with z|z
    ·exact mem_append_left _ z
    ·exact mem_append_right _ (mem_cons_of_mem _ z)
   have hh:=fun l hl=>hkeep l (hothers y q l hl)
   exact(g.pgs y hy2).keep (hh _ (by simp[PB.foot])) (hh _ (by simp[PB.foot])) (hh _ (by simp[PB.foot])) (hh _ (by simp[PB.foot]))
 ·show(PB.all T M (B1++x'::B2)).Nodup
  rw[(bY_ T M B1 B2 x').nodup_iff,nodup_append]
  refine⟨h1,n2,fun a ha b hb2 e=>?_⟩
  subst e
  rcases hf a ha with q|q
  ·exact n3 a q a hb2 rfl
  ·have:=(g.lows a (hmem a hb2)).2
   omega
 ·have:=g.ids
  simpa[hid]using this
 ·have hl3:=(bY_ T M B1 B2 x').mem_iff.1 (show l∈PB.all T M (B1++x'::B2)from hl2)
  rcases mem_append.1 hl3 with q|q
  ·rcases hf l q with z|z
   ·have:=g.lows l ((bY_ T M B1 B2 x).mem_iff.2 (mem_append_left _ z))
    omega
   ·have:=g.lows T (by simp)
    omega
  ·have:=g.lows l (hmem l q)
   omega
theorem Pg.reroot(g:Pg H T M root B ents ck lo){root':Int}:Pg (H.set T ⟨.ty 93,2,[[.val (.int .i64 root'),.mp M]]⟩) T M root' B ents ck lo:=by
 have hT:=(g.lows T (by simp)).2
 have hone:=g.one
 have hne:∀l∈M::B.flatMap PB.foot,(H.set T ⟨.ty 93,2,[[.val (.int .i64 root'),.mp M]]⟩)[l]?=H[l]?:=fun l hl=>getElem?_set_ne (fun e:T=l=>(nodup_cons.1 hone).1 (by rw[e];exact hl))
 refine⟨getElem?_set_self hT,by rw[hne M (by simp)];exact g.map,g.ents,fun x hx=>?_,g.one,g.ids,fun l hl=>by simpa using g.lows l hl⟩
 have hh:∀l∈x.foot,(H.set T ⟨.ty 93,2,[[.val (.int .i64 root'),.mp M]]⟩)[l]?=H[l]?:=fun l hl=>hne l (mem_cons_of_mem _ (mem_flatMap.2 ⟨x,hx,hl⟩))
 exact(g.pgs x hx).keep (hh _ (by simp[PB.foot])) (hh _ (by simp[PB.foot])) (hh _ (by simp[PB.foot])) (hh _ (by simp[PB.foot]))
end
theorem un_(a:List ad_)(s:ad_)(id:Int):aa_ (a++[s]) id=match aa_ a id with|some p=>some p|none=>if s.Id=id then some s.Page else none:=by
 induction a with
 | nil=>rw[nil_append,bo_,i4_]
 | cons e a ih =>
  rw[cons_append,bo_,bo_,ih]
  by_cases h:e.Id=id
  ·rw[if_pos h,if_pos h]
  ·rw[if_neg h,if_neg h]
theorem uu_{B1 B2:List PB}{x x':PB}(hid:x'.id=x.id)(hn:((B1++x::B2).map PB.id).Nodup)(id:Int):aa_ ((B1++x'::B2).map PB.slot) id=if x.id=id then some x'.pg else aa_ ((B1++x::B2).map PB.slot) id:=by
 induction B1 with
 | nil =>
  simp only[nil_append,map_cons,bo_]
  have e1:(PB.slot x').Id=x.id:=hid
  have e2:(PB.slot x).Id=x.id:=rfl
  rw[e1,e2]
  split<;>rfl
 | cons y B1 ih =>
  simp only[cons_append,map_cons,bo_]at hn⊢
  obtain⟨h1,h2⟩:=nodup_cons.1 hn
  rw[ih h2]
  have hne:¬ (PB.slot y).Id=x.id:=fun e=>h1 (by rw[show y.id=x.id from e];simp)
  by_cases h:(PB.slot y).Id=id
  ·rw[if_pos h,if_pos h,if_neg (fun e=>hne (h.trans e.symm))]
  ·rw[if_neg h,if_neg h]
structure PgS(H:List Row)(T M:Nat)(root:Int)(B:List PB)(lo mx:Nat)(sl:List ad_):Prop where
 pg:∃ents ck,Pg H T M root B ents ck lo
 same:∀id,aa_ (B.map PB.slot) id=aa_ sl id
 lim:Lim H (PB.all T M B) mx
structure cl_(T M:Nat)(H:List Row)(B:List PB)(H':List Row)(B':List PB):Prop where
 len:H.length≤H'.length
 kept:∀l,l<H.length→l∉PB.all T M B→H'[l]?=H[l]?
 foot:∀l∈PB.all T M B',l∈PB.all T M B∨H.length≤l
 keeps:∀y∈B,∃y'∈B',y'.id=y.id∧y'.b=y.b
theorem cl_.refl(T M:Nat)(H:List Row)(B:List PB):cl_ T M H B H B:=⟨Nat.le_refl _,fun _ _ _=>rfl,fun _ h=>.inl h,fun y hy=>⟨y,hy,rfl,rfl⟩⟩
theorem cl_.trans{T M:Nat}{H H1 H2:List Row}{B B1 B2:List PB}(a:cl_ T M H B H1 B1)(b:cl_ T M H1 B1 H2 B2):cl_ T M H B H2 B2:=by
 have l1:=a.len
 have l2:=b.len
 refine⟨by omega,fun l hl hn=>?_,fun l hl=>?_,fun y hy=>?_⟩
 ·rw[b.kept l (by omega) (fun q=>?_),a.kept l hl hn]
  rcases a.foot l q with z|z
  ·exact hn z
  ·omega
 ·rcases b.foot l hl with z|z
  ·exact a.foot l z
  ·exact .inr (by omega)
 ·obtain⟨y1,h1,h2,h3⟩:=a.keeps y hy
  obtain⟨y2,h4,h5,h6⟩:=b.keeps y1 h1
  exact⟨y2,h4,h5.trans h2,h6.trans h3⟩
theorem cl_.more{T M:Nat}{H H1:List Row}{B:List PB}(m:bu_ H H1):cl_ T M H B H1 B:=⟨m.len,fun l hl _=>m.kept l hl,fun _ h=>.inl h,fun y hy=>⟨y,hy,rfl,rfl⟩⟩
theorem PgS.more{H H1:List Row}{T M:Nat}{root:Int}{B:List PB}{lo mx:Nat}{sl:List ad_}(g:PgS H T M root B lo mx sl)(m:bu_ H H1):PgS H1 T M root B lo mx sl:=by
 obtain⟨⟨ents,ck,g0⟩,g1,g2⟩:=g
 exact⟨⟨ents,ck,g0.more m⟩,g1,fun l hl r hr=>g2 l hl r (by rw[←m.kept l (g0.lows l hl).2];exact hr)⟩
theorem PgS.find{H:List Row}{T M:Nat}{root:Int}{B:List PB}{lo mx:Nat}{sl:List ad_}(g:PgS H T M root B lo mx sl){id:Int}{p:ap_}(hp:aa_ sl id=some p):∃B1 x B2,B=B1++x::B2∧x.id=id∧x.pg=p:=by
 rw[←g.same,c4_]at hp
 cases h:B.find? (fun x=>x.id==id)with
 | none=>rw[h]at hp;cases hp
 | some x =>
  rw[h]at hp
  have h1:=mem_of_find?_eq_some h
  have h2:=find?_some h
  obtain⟨B1,B2,e⟩:=append_of_mem h1
  exact⟨B1,x,B2,e,by simpa using h2,Option.some.inj hp⟩
theorem PgS.box{H:List Row}{T M:Nat}{root:Int}{B:List PB}{lo mx:Nat}{sl:List ad_}(g:PgS H T M root B lo mx sl){x:PB}(hx:x∈B):aa_ sl x.id=some x.pg:=by
 obtain⟨ents,ck,g0⟩:=g.pg
 rw[←g.same,c4_]
 have hn:=g0.ids
 have:B.find? (fun y=>y.id==x.id)=some x:=by
  clear g g0
  induction B with
  | nil=>cases hx
  | cons y B ih =>
   rw[find?_cons]
   rw[map_cons,nodup_cons]at hn
   rcases mem_cons.1 hx with q|q
   ·rw[q];simp
   ·have:(y.id==x.id)=false:=by
     rw[beq_eq_false_iff_ne]
     intro e
     exact hn.1 (e▸mem_map_of_mem q)
    rw[this]
    exact ih q hn.2
 rw[this];rfl
theorem PgS.upd{H H':List Row}{T M:Nat}{root:Int}{B1 B2:List PB}{lo mx mx':Nat}{sl:List ad_}{x x':PB}(g:PgS H T M root (B1++x::B2) lo mx sl)(hrise:df_ sl)(hid:x'.id=x.id)(hb:x'.b=x.b)(hk:∀l,l<H.length→l∉x.foot→H'[l]?=H[l]?)(hl:H.length≤H'.length)(hf:∀l∈x'.foot,l∈x.foot∨(H.length≤l∧l<H'.length))(h1:x'.foot.Nodup)
 (hp:fZ_ H' x'.b x'.pg x'.k x'.v x'.d) (hmx:mx≤mx') (hlim:Lim H' x'.foot mx'):PgS H' T M root (B1++x'::B2) lo mx' (aq_ ⟨x.id,x'.pg⟩ false sl)∧cl_ T M H (B1++x::B2) H' (B1++x'::B2):=by
 obtain⟨⟨ents,ck,g0⟩,g1,g2⟩:=g
 have gu:=g0.upd (H':=H') (x':=x') hid hb hk hl hf h1 hp
 have hone:(PB.all T M (B1++x::B2)).Nodup:=g0.one
 rw[(bY_ T M B1 B2 x).nodup_iff,nodup_append]at hone
 obtain⟨n1,n2,n3⟩:=hone
 have hmem:∀l,l∈PB.all T M (B1++B2)→l∈PB.all T M (B1++x::B2):=fun l hl=>(bY_ T M B1 B2 x).mem_iff.2 (mem_append_right _ hl)
 refine⟨⟨⟨ents,ck,gu⟩,fun id=>?_,fun l hl2 r hr=>?_⟩,hl,fun l hl2 hn=>hk l hl2 (fun q=>hn ((bY_ T M B1 B2 x).mem_iff.2 (mem_append_left _ q))),fun l hl2=>?_,fun y hy=>?_⟩
 ·rw[uu_ hid g0.ids,be_ hrise,g1]
 ·rcases mem_append.1 ((bY_ T M B1 B2 x').mem_iff.1 hl2)with q|q
  ·exact hlim l q r hr
  ·rw[hk l (g0.lows l (hmem l q)).2 (fun z=>n3 l z l q rfl)]at hr
   exact Nat.le_trans (g2 l (hmem l q) r hr) hmx
 ·rcases mem_append.1 ((bY_ T M B1 B2 x').mem_iff.1 hl2)with q|q
  ·rcases hf l q with z|z
   ·exact .inl ((bY_ T M B1 B2 x).mem_iff.2 (mem_append_left _ z))
   ·exact .inr z.1
  ·exact .inl (hmem l q)
 ·rcases mem_append.1 hy with q|q
  ·exact⟨y,mem_append_left _ q,rfl,rfl⟩
  ·rcases mem_cons.1 q with rfl|q
   ·exact⟨x',by simp,hid,hb⟩
   ·exact⟨y,mem_append_right _ (mem_cons_of_mem _ q),rfl,rfl⟩
theorem Pg.add2{H H':List Row}{T M:Nat}{root:Int}{B:List PB}{ents:List (Int×Nat×AV)}{ck lo:Nat}(g:Pg H T M root B ents ck lo){x:PB}(hk:∀l,l<H.length→l≠M→H'[l]?=H[l]?)(hl:H.length≤H'.length)(hn:∀l∈x.foot,lo≤l∧l<H'.length∧l∉PB.all T M B)(h1:x.foot.Nodup)(hid:x.id∉B.map PB.id)
 (hp:fZ_ H' x.b x.pg x.k x.v x.d) (hm:H'[M]?=some ⟨.pmap (ents++[(x.id,ck,.ptr x.b 1 0 0)]) (ck+1),0,[]⟩):Pg H' T M root (B++[x]) (ents++[(x.id,ck,.ptr x.b 1 0 0)]) (ck+1) lo:=by
 have hone:=g.one
 have hTM:T≠M:=by
  intro e
  have:=(nodup_cons.1 hone).1
  exact this (by simp[e])
 have hMB:∀y∈B,∀l∈y.foot,l≠M:=by
  intro y hy l hl2 e
  have:=(nodup_cons.1 (nodup_cons.1 hone).2).1
  exact this (by rw[←e];exact mem_flatMap.2 ⟨y,hy,hl2⟩)
 have hall:T::M::(B++[x]).flatMap PB.foot=(T::M::B.flatMap PB.foot)++x.foot:=by simp
 refine⟨by rw[hk T (g.lows T (by simp)).2 hTM];exact g.box,hm,⟨by simp[g.ents.same],?_,?_⟩,fun y hy=>?_,?_,?_,fun l hl2=>?_⟩
 ·rw[map_append,nodup_append]
  refine⟨g.ents.born,by simp,fun a ha b hb e=>?_⟩
  simp only[map_cons,map_nil,mem_singleton]at hb
  obtain⟨q,hq,rfl⟩:=mem_map.1 ha
  have:=g.ents.old q hq
  omega
 ·intro e he
  rcases mem_append.1 he with q|q
  ·have:=g.ents.old e q;omega
  ·simp only[mem_singleton]at q;subst q;exact Nat.lt_succ_self _
 ·rcases mem_append.1 hy with q|q
  ·have hh:∀l∈y.foot,H'[l]?=H[l]?:=fun l hl2=>hk l (g.lows l (Pg.mem_foot q hl2)).2 (hMB y q l hl2)
   exact(g.pgs y q).keep (hh _ (by simp[PB.foot])) (hh _ (by simp[PB.foot])) (hh _ (by simp[PB.foot])) (hh _ (by simp[PB.foot]))
  ·simp only[mem_singleton]at q;subst q;exact hp
 ·rw[hall,nodup_append]
  refine⟨hone,h1,fun a ha b hb e=>?_⟩
  subst e
  exact(hn a hb).2.2 ha
 ·rw[map_append,nodup_append]
  refine⟨g.ids,by simp,fun a ha b hb e=>?_⟩
  simp only[map_cons,map_nil,mem_singleton]at hb
  subst hb
  exact hid (e▸ha)
 ·rw[hall]at hl2
  rcases mem_append.1 hl2 with q|q
  ·have:=g.lows l q;omega
  ·exact⟨(hn l q).1,(hn l q).2.1⟩
theorem PgS.add{H H':List Row}{T M:Nat}{root:Int}{B:List PB}{lo mx mx':Nat}{sl:List ad_}{x:PB}(g:PgS H T M root B lo mx sl)(hrise:df_ sl)(hn:aa_ sl x.id=none)(hk:∀l,l<H.length→l≠M→H'[l]?=H[l]?)(hl:H.length≤H'.length)(hf:∀l∈x.foot,lo≤l∧l<H'.length∧l∉PB.all T M B)(h1:x.foot.Nodup)
 (hp:fZ_ H' x.b x.pg x.k x.v x.d) (hm:∀ents ck,H[M]?=some ⟨.pmap ents ck,0,[]⟩→H'[M]?=some ⟨.pmap (ents++[(x.id,ck,.ptr x.b 1 0 0)]) (ck+1),0,[]⟩) (hmx:mx≤mx') (hlim:Lim H' x.foot mx') :
 PgS H' T M root (B++[x]) lo mx' (aq_ ⟨x.id,x.pg⟩ false sl):=by
 obtain⟨⟨ents,ck,g0⟩,g1,g2⟩:=g
 have hnid:x.id∉B.map PB.id:=by
  intro q
  obtain⟨y,hy,e⟩:=mem_map.1 q
  have:=PgS.box ⟨⟨ents,ck,g0⟩,g1,g2⟩ hy
  rw[e,hn]at this;cases this
 have ga:=g0.add2 (H':=H') (x:=x) hk hl hf h1 hnid hp (hm _ _ g0.map)
 have hall:PB.all T M (B++[x])=PB.all T M B++x.foot:=by simp[PB.all]
 refine⟨⟨_,_,ga⟩,fun id=>?_,fun l hl2 r hr=>?_⟩
 ·rw[map_append,map_cons,map_nil,un_,g1,be_ hrise]
  have e:(PB.slot x).Id=x.id:=rfl
  rw[e]
  by_cases h:x.id=id
  ·rw[if_pos h,if_pos h,←h,hn];rfl
  ·rw[if_neg h,if_neg h]
   cases aa_ sl id<;>rfl
 ·rw[hall]at hl2
  rcases mem_append.1 hl2 with q|q
  ·by_cases e:l=M
   ·subst e
    rw[hm _ _ g0.map]at hr
    obtain rfl:=Option.some.inj hr
    simp
   ·rw[hk l (g0.lows l q).2 e]at hr
    exact Nat.le_trans (g2 l q r hr) hmx
  ·exact hlim l q r hr
theorem cl_.add{T M:Nat}{H0 H H':List Row}{B0 B:List PB}{x:PB}(a:cl_ T M H0 B0 H B)(hk:∀l,l<H.length→l≠M→H'[l]?=H[l]?)(hl:H.length≤H'.length)(hf:∀l∈x.foot,H0.length≤l):cl_ T M H0 B0 H' (B++[x]):=by
 have l1:=a.len
 have hall:PB.all T M (B++[x])=PB.all T M B++x.foot:=by simp[PB.all]
 refine⟨by omega,fun l hl2 hn=>?_,fun l hl2=>?_,fun y hy=>?_⟩
 ·rw[hk l (by omega) (fun e=>hn (by rw[e];simp[PB.all])),a.kept l hl2 hn]
 ·rw[hall]at hl2
  rcases mem_append.1 hl2 with q|q
  ·exact a.foot l q
  ·exact .inr (hf l q)
 ·obtain⟨y1,h1,h2,h3⟩:=a.keeps y hy
  exact⟨y1,mem_append_left _ h1,h2,h3⟩
theorem aI_.cut{H:List Row}{E l:Nat}{α:Type}{f:α→List AV}{xs:List α}{pre post:List (List AV)}(n m:Nat)(hm:xs.length=m)(hn:n≤m)(h:H[l]?=some ⟨.ty E,1,pre++(xs.map f++post)⟩):aI_ H E 1 (.sub l (pre.length+(m+post.length)) pre.length (pre.length+n)) l ((xs.take n).map f):=by
 subst hm
 refine⟨pre,(xs.drop n).map f++post,?_,?_⟩
 ·simp only[la_,length_map,length_take,length_drop]
  congr 1<;>omega
 ·rw[←append_assoc ((xs.take n).map f),←map_append,take_append_drop];exact h
theorem aI_.all{H:List Row}{E l m:Nat}{α:Type}{f:α→List AV}{xs:List α}(hm:xs.length=m)(h:H[l]?=some ⟨.ty E,1,xs.map f⟩):aI_ H E 1 (.sub l m 0 m) l (xs.map f):=by
 subst hm
 exact g7_ h
theorem callSem.nilrow{P:Program}{f:FuncId}{args args':List AV}{h:List Row}{K:AV→List Row→Prop}(E:TypeId)(sz:Nat)(hc:∀S S' xs,S.le S'→Rep S' (.sub h.length 0 0 0) (.slice none 0 0)→ae_ S args xs→ae_ S' args' xs)(c:callSem P f args' (h++[⟨.ty E,sz,[]⟩]) K):callSem P f args h K:=by
 intro S w vals hm hgl hr
 obtain⟨S',st,hm',hrel⟩:=kl_ (N:=1) (t:=fun _=>AV.val (.slice none 0 0)) (t':=fun _=>AV.own h.length 0) (h:=h) (h':=h++[⟨.ty E,sz,[]⟩]) (.ty E) ⟨E,rfl⟩ sz (fun k=>.inr ⟨rfl,rfl⟩) (by simp) (by rw[getElem?_append_right (Nat.le_refl _),Nat.sub_self];rfl) (fun l r' hl hr=>⟨r',by rwa [getElem?_append_left hl]at hr,rfl,rfl,dW_.refl _ _⟩) S w { tmps:=#[.slice none 0 0],defers:=[] } hm ⟨rfl,rfl,fun k hk=>by
  have:k=0:=by omega
  subst this
  simp[Rep]⟩
 have h0:=hrel.2.2 0 (by omega)
 have h1:Rep S' (.own h.length 0) (.slice none 0 0):=by simpa using h0
 have h2:Rep S' (.sub h.length 0 0 0) (.slice none 0 0):=h1.own_sub
 refine(c S' w vals hm' (cn_.up st.le hgl) (hc S S' _ st.le h2 hr)).mono ?_
 rintro e w' ⟨v,av,S2,h2',rfl,st2,hm2,rv,hk⟩
 exact⟨v,av,S2,h2',rfl,st.trans st2,hm2,rv,hk⟩
end Go.Proofs.YtlcmlgihlojdmaaGreatDoor
