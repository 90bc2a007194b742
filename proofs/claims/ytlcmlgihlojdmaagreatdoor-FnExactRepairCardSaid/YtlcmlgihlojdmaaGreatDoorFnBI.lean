/-
 Contracts of functions. Conditions: as each theorem says.
-/
import Derived.Test.YtlcmlgihlojdmaaGreatDoorFnBC
import Derived.Test.YtlcmlgihlojdmaaGreatDoorAwPart
import Derived.Test.YtlcmlgihlojdmaaGreatDoorAwC
namespace Go.Proofs.YtlcmlgihlojdmaaGreatDoor
open Tryz (prog)
open List
open Go.AW
set_option linter.unusedVariables false
set_option linter.unusedSimpArgs false
set_option maxRecDepth 4000
def wP_:LC :=
 .q [.o [.nl 2],.q [.o [.m 3 0,.s 4 (.isNil false (.tmp 3))],.k 4 (.q [.o [.nl 2],.ghost .ret]) .skip],.o [.s 5 (.buildSlice 9 1 (.string ⟨#[]⟩) 0 []),.m 6 0,.ap 7 9 1 16 5 6,.m 2 7],.ghost .ret]
def tv_:LF:=⟨1,8,wP_,[.tmp 2]⟩
theorem vb_:az_ prog Tryz.f130 tv_:=at_
def v6_:LC :=
 .q [.o [.nl 2],.q [.o [.m 3 0,.s 4 (.isNil false (.tmp 3))],.k 4 (.q [.o [.nl 2],.ghost .ret]) .skip],.o [.s 5 (.buildSlice 2 1 (.int .i64 0) 0 []),.m 6 0,.ap 7 2 1 8 5 6,.m 2 7],.ghost .ret]
def tC_:LF:=⟨1,8,v6_,[.tmp 2]⟩
theorem uA_:az_ prog Tryz.f131 tC_:=at_
theorem f4_(xs:List ByteArray)(hx:xs.length≤1048576)(h:List Row)(K:AV→List Row→Prop)(hk:K (.sub h.length xs.length 0 xs.length) (h++[⟨.ty 9,1,xs.map ah_⟩])):callSem prog 130 [.list 0 1 (xs.map ah_)] h K:=by
 refine callSem.weaken (aJ_ mixed Tryz.func130 vb_ (bi_ rfl ?_))
 have fin:∃av',(∀S x,Rep S (.own h.length xs.length) x→Rep S av' x)∧K av' (h++[⟨.ty 9,1,xs.map ah_⟩]):=⟨_,dO_ _ _,hk⟩
 simp(disch:=omega)only[tv_,wP_,go_sem,seval]
 intro b hb
 cases b
 ·simp(disch:=omega)only[bne_self_eq_false,go_sem,seval]
  refine⟨by omega,by omega,dZ_ xs,?_⟩
  try simp(disch:=omega)only[go_sem,seval]
  refine bw_ _ _ b3_ ?_
  simp(disch:=omega)only[go_sem,↓reduceIte]
  exact fin
 ·have hx0:xs=[]:=by simpa using hb rfl
  subst hx0
  simp(disch:=omega)only[Bool.bne_false,map_nil,go_sem]
  refine bw_ _ _ (iu_ 2 9 1 rfl) ?_
  simp(disch:=omega)only[go_sem,↓reduceIte]
  exact fin
theorem bS_(xs:List ByteArray)(hx:xs.length≤1048576)(h:List Row)(a:AV)(l:Nat)(hp:aR_ h 9 1 a l (xs.map ah_))(K:AV→List Row→Prop)(hk:K (.sub h.length xs.length 0 xs.length) (h++[⟨.ty 9,1,xs.map ah_⟩])):callSem prog 130 [a] h K:=by
 have hlt:=hp.lt
 obtain⟨pre,post,rfl,hrow⟩:=hp
 have hrow2:∀r,(h++[r])[l]?=some ⟨.ty 9,1,pre++(xs.map ah_++post)⟩:=fun r=>(getElem?_append_left hlt).trans hrow
 have hmid:=qo_ pre (xs.map ah_) post xs.length (by simp)
 refine callSem.weaken (aJ_ mixed Tryz.func130 vb_ (bi_ rfl ?_))
 have fin:∃av',(∀S x,Rep S (.own h.length xs.length) x→Rep S av' x)∧K av' (h++[⟨.ty 9,1,xs.map ah_⟩]):=⟨_,dO_ _ _,hk⟩
 simp(disch:=omega)only[tv_,wP_,hrow,go_sem,seval]
 intro b hb
 cases b
 ·simp(disch:=omega)only[bne_self_eq_false,go_sem,seval]
  simp(disch:=omega)only[hrow2,hmid,fN_,go_sem,↓reduceIte]
  refine⟨by omega,by omega,dZ_ xs,?_⟩
  try simp(disch:=omega)only[go_sem,seval]
  refine bw_ _ _ b3_ ?_
  simp(disch:=omega)only[go_sem,↓reduceIte]
  exact fin
 ·have hx0:xs=[]:=by
   have:=hb rfl
   simpa using this
  subst hx0
  simp(disch:=omega)only[Bool.bne_false,go_sem]
  refine bw_ _ _ (iu_ 2 9 1 rfl) ?_
  simp(disch:=omega)only[go_sem,↓reduceIte]
  exact fin
theorem jO_(xs:List Int)(hx:xs.length≤1048576)(h:List Row)(K:AV→List Row→Prop)(hk:K (.sub h.length xs.length 0 xs.length) (h++[⟨.ty 2,1,xs.map aB_⟩])):callSem prog 131 [.list 0 1 (xs.map aB_)] h K:=by
 refine callSem.weaken (aJ_ mixed Tryz.func131 uA_ (bi_ rfl ?_))
 have fin:∃av',(∀S x,Rep S (.own h.length xs.length) x→Rep S av' x)∧K av' (h++[⟨.ty 2,1,xs.map aB_⟩]):=⟨_,dO_ _ _,hk⟩
 simp(disch:=omega)only[tC_,v6_,go_sem,seval]
 intro b hb
 cases b
 ·simp(disch:=omega)only[bne_self_eq_false,go_sem,seval]
  refine⟨by omega,by omega,dX_ xs,?_⟩
  try simp(disch:=omega)only[go_sem,seval]
  refine bw_ _ _ b3_ ?_
  simp(disch:=omega)only[go_sem,↓reduceIte]
  exact fin
 ·have hx0:xs=[]:=by simpa using hb rfl
  subst hx0
  simp(disch:=omega)only[Bool.bne_false,map_nil,go_sem]
  refine bw_ _ _ (iu_ 2 2 1 rfl) ?_
  simp(disch:=omega)only[go_sem,↓reduceIte]
  exact fin
theorem eC_(xs:List Int)(hx:xs.length≤1048576)(h:List Row)(a:AV)(l:Nat)(hp:aR_ h 2 1 a l (xs.map aB_))(K:AV→List Row→Prop)(hk:K (.sub h.length xs.length 0 xs.length) (h++[⟨.ty 2,1,xs.map aB_⟩])):callSem prog 131 [a] h K:=by
 have hlt:=hp.lt
 obtain⟨pre,post,rfl,hrow⟩:=hp
 have hrow2:∀r,(h++[r])[l]?=some ⟨.ty 2,1,pre++(xs.map aB_++post)⟩:=fun r=>(getElem?_append_left hlt).trans hrow
 have hmid:=qo_ pre (xs.map aB_) post xs.length (by simp)
 refine callSem.weaken (aJ_ mixed Tryz.func131 uA_ (bi_ rfl ?_))
 have fin:∃av',(∀S x,Rep S (.own h.length xs.length) x→Rep S av' x)∧K av' (h++[⟨.ty 2,1,xs.map aB_⟩]):=⟨_,dO_ _ _,hk⟩
 simp(disch:=omega)only[tC_,v6_,hrow,go_sem,seval]
 intro b hb
 cases b
 ·simp(disch:=omega)only[bne_self_eq_false,go_sem,seval]
  simp(disch:=omega)only[hrow2,hmid,fN_,go_sem,↓reduceIte]
  refine⟨by omega,by omega,dX_ xs,?_⟩
  try simp(disch:=omega)only[go_sem,seval]
  refine bw_ _ _ b3_ ?_
  simp(disch:=omega)only[go_sem,↓reduceIte]
  exact fin
 ·have hx0:xs=[]:=by
   have:=hb rfl
   simpa using this
  subst hx0
  simp(disch:=omega)only[Bool.bne_false,go_sem]
  refine bw_ _ _ (iu_ 2 2 1 rfl) ?_
  simp(disch:=omega)only[go_sem,↓reduceIte]
  exact fin
theorem hA_{H:List Row}{E l:Nat}{α:Type}{f:α→List AV}{xs:List α}(h:H[l]?=some ⟨.ty E,1,xs.map f⟩):aR_ H E 1 (.sub l xs.length 0 xs.length) l (xs.map f):=by
 have:=aR_.whole h
 rwa [length_map]at this
structure gt_(H:List Row)(b:Nat)(p:ai_)(k v d:Nat):Prop where
 out:∃a1 a2 a3,H[b]?=some ⟨.ty 77,4,[[.val (.bool p.Leaf),a1,a2,a3]]⟩∧aR_ H 9 1 a1 k (p.Keys.map ah_)∧aR_ H 9 1 a2 v (p.Vals.map ah_)∧aR_ H 2 1 a3 d (p.Kids.map aB_)
theorem gt_.keep{H H':List Row}{b k v d:Nat}{p:ai_}(g:gt_ H b p k v d)(hb:H'[b]?=H[b]?)(hk:H'[k]?=H[k]?)(hv:H'[v]?=H[v]?)(hd:H'[d]?=H[d]?):gt_ H' b p k v d:=by
 obtain⟨a1,a2,a3,h1,h2,h3,h4⟩:=g
 exact⟨a1,a2,a3,by rw[hb];exact h1,h2.keep hk,h3.keep hv,h4.keep hd⟩
theorem oR_{H:List Row}{p:ai_}{k v d:Nat}{a1 a2 a3:AV}(h1:aR_ H 9 1 a1 k (p.Keys.map ah_))(h2:aR_ H 9 1 a2 v (p.Vals.map ah_))(h3:aR_ H 2 1 a3 d (p.Kids.map aB_))(n:Nat):[AV.val (.bool p.Leaf),a1,a2,a3].mapM (AW.resolve H (n+2))=some (ai_.cells p):=by
 rw[mapM_cons,mapM_cons,mapM_cons,mapM_cons,h1.res (fn_ _) n,h2.res (fn_ _) n,h3.res (hF_ _) n]
 rfl
theorem w6_{H:List Row}{p:ai_}{k v d:Nat}{a1 a2 a3:AV}(h1:aR_ H 9 1 a1 k (p.Keys.map ah_))(h2:aR_ H 9 1 a2 v (p.Vals.map ah_))(h3:aR_ H 2 1 a3 d (p.Kids.map aB_))(n:Nat):AW.resolve H (n+3) (.agg [.val (.bool p.Leaf),a1,a2,a3])=some (.agg (ai_.cells p)):=by
 have e:AW.resolve H (n+3) (.agg [.val (.bool p.Leaf),a1,a2,a3])=([AV.val (.bool p.Leaf),a1,a2,a3].mapM (AW.resolve H (n+2))).map .agg:=rfl
 rw[e,oR_ h1 h2 h3];rfl
theorem gt_.res{H:List Row}{b k v d:Nat}{p:ai_}(g:gt_ H b p k v d)(n:Nat):AW.resolve H (n+3) (.ptr b 1 0 0)=some (.iptr (ai_.cells p)):=by
 obtain⟨a1,a2,a3,h1,h2,h3,h4⟩:=g
 have e:AW.resolve H (n+3) (.ptr b 1 0 0)=match H[b]? with
  | some r=>if r.es.length=1 then(match r.es[0]? with|some e=>if 0<e.length then((e.drop 0).mapM (AW.resolve H (n+2))).map .iptr else none|none=>none)else none
  | none=>none:=rfl
 rw[e,h1]
 simp only[lc_,ln_,Nat.zero_add,if_true,getElem?_cons_zero,drop_zero]
 rw[oR_ h2 h3 h4];rfl
def yc_(h:List Row)(p:ai_)(K:AV→List Row→Prop):Prop :=
 ∀(H':List Row) (k v d:Nat),bb_ h H'→h.length≤k→k<v→v<d→d<H'.length→H'[k]?=some ⟨.ty 9,1,p.Keys.map ah_⟩→H'[v]?=some ⟨.ty 9,1,p.Vals.map ah_⟩→H'[d]?=some ⟨.ty 2,1,p.Kids.map aB_⟩ →
  K (.agg [.val (.bool p.Leaf),.sub k p.Keys.length 0 p.Keys.length,.sub v p.Vals.length 0 p.Vals.length,.sub d p.Kids.length 0 p.Kids.length]) H'
def c79:LC :=
 .q [.o [.bx 1 77 0,.s 2 (.alloc 77 z1z)],.gops [.fa 3 0 1,.ln 4 3,.fa 5 1 1,.ln 6 5,.fa 8 2 1,.ln 9 8,.fa 11 3 1,.ln 12 11] [(.c1 7 130 6,[.fa 3 0 1,.ln 4 3,.fa 8 2 1,.ln 9 8,.fa 11 3 1,.ln 12 11]),(.c1
 10 130 9,[.fa 3 0 1,.ln 4 3,.fa 11 3 1,.ln 12 11]),(.c1 13 131 12,[.fa 3 0 1,.ln 4 3]),(.s 14 (.build z1z [(0,1),(1,1),(2,1),(3,1)] [(0,.tmp 4),(1,.tmp 7),(2,.tmp 10),(3,.tmp 13)]),[]),(.st 4 2
 14,[])],.ret]
def wo_:LF:=⟨1,15,c79,[.cell 2 (some 4)]⟩
theorem yz_:az_ prog Tryz.f79 wo_:=at_
theorem nE_(p:ai_)(hk:p.Keys.length≤1048576)(hv:p.Vals.length≤1048576)(hd:p.Kids.length≤1048576)(h:List Row)(K:AV→List Row→Prop)(hK:yc_ h p K):callSem prog 79 [.agg (ai_.cells p)] h K:=by
 refine aJ_ mixed Tryz.func79 yz_ (bi_ rfl ?_)
 simp(disch:=omega)only[wo_,c79,ai_.cells,go_sem,seval]
 refine f4_ _ hk _ _ ?_
 simp(disch:=first|omega|simp only[lzz0_];first|done|omega)only[as_,go_sem,seval]
 refine f4_ _ hv _ _ ?_
 simp(disch:=first|omega|simp only[lzz0_];first|done|omega)only[as_,go_sem,seval]
 refine jO_ _ hd _ _ ?_
 simp(disch:=first|omega|simp only[lzz0_];first|done|omega)only[as_,aX_,go_sem,seval,bT_]
 exact hK _ _ _ _ (bb_.app _ _) (by omega) (by omega) (by omega) (by simp) (by rw[getElem?_append_right (by omega)];simp) (by rw[getElem?_append_right (by omega)];simp) (by rw[getElem?_append_right (by omega)];simp)
theorem mt_(p:ai_)(hk:p.Keys.length≤1048576)(hv:p.Vals.length≤1048576)(hd:p.Kids.length≤1048576)(h:List Row)(K:AV→List Row→Prop){a1 a2 a3:AV}{r1 r2 r3:Nat}
 (h1:aR_ h 9 1 a1 r1 (p.Keys.map ah_)) (h2:aR_ h 9 1 a2 r2 (p.Vals.map ah_)) (h3:aR_ h 2 1 a3 r3 (p.Kids.map aB_)) (hK:yc_ h p K):callSem prog 79 [.agg [.val (.bool p.Leaf),a1,a2,a3]] h K:=by
 have l1:=h1.lt
 have l2:=h2.lt
 have l3:=h3.lt
 obtain⟨pre1,post1,rfl,e1⟩:=h1
 obtain⟨pre2,post2,rfl,e2⟩:=h2
 obtain⟨pre3,post3,rfl,e3⟩:=h3
 refine aJ_ mixed Tryz.func79 yz_ (bi_ rfl ?_)
 simp(disch:=omega)only[wo_,c79,go_sem,seval]
 refine bS_ _ hk _ _ r1 ⟨pre1,post1,by simp,by rw[getElem?_append_left l1];exact e1⟩ _ ?_
 simp(disch:=first|omega|simp only[lzz0_];first|done|omega)only[as_,go_sem,seval]
 refine bS_ _ hv _ _ r2 ⟨pre2,post2,by simp,by rw[getElem?_append_left l2];exact e2⟩ _ ?_
 simp(disch:=first|omega|simp only[lzz0_];first|done|omega)only[as_,go_sem,seval]
 refine eC_ _ hd _ _ r3 ⟨pre3,post3,by simp,by rw[getElem?_append_left l3];exact e3⟩ _ ?_
 simp(disch:=first|omega|simp only[lzz0_];first|done|omega)only[as_,aX_,go_sem,seval,bT_]
 exact hK _ _ _ _ (bb_.app _ _) (by omega) (by omega) (by omega) (by simp) (by rw[getElem?_append_right (by omega)];simp) (by rw[getElem?_append_right (by omega)];simp) (by rw[getElem?_append_right (by omega)];simp)
structure PB where
 id:Int
 pg:ai_
 b:Nat
 k:Nat
 v:Nat
 d:Nat
def PB.foot(x:PB):List Nat:=[x.b,x.k,x.v,x.d]
def PB.slot(x:PB):aa_:=⟨x.id,x.pg⟩
structure le_(ents:List (Int×Nat×AV))(ck:Nat)(B:List PB):Prop where
 same:ents.map (fun e=>(e.1,e.2.2))=B.map fun x=>(x.id,AV.ptr x.b 1 0 0)
 born:(ents.map (·.2.1)).Nodup
 old:∀e∈ents,e.2.1<ck
theorem s2_{ents:List (Int×Nat×AV)}{B:List PB}(h:ents.map (fun e=>(e.1,e.2.2))=B.map fun x=>(x.id,AV.ptr x.b 1 0 0))(n:Int):c5_ ents n=(B.find? fun x=>x.id==n).map fun x=>.ptr x.b 1 0 0:=by
 induction ents generalizing B with
 | nil=>cases B<;>simp_all[c5_]
 | cons e ents ih =>
  cases B with
  | nil=>simp at h
  | cons x B =>
   simp only[map_cons,List.cons.injEq,Prod.mk.injEq]at h
   obtain⟨⟨h1,h2⟩,h3⟩:=h
   have:=ih h3
   unfold c5_ at this⊢
   rw[find?_cons,find?_cons,h1]
   cases x.id==n
   ·exact this
   ·simp[h2]
theorem pc_{ents:List (Int×Nat×AV)}{ck:Nat}{n:Int}{v:AV}(h:c5_ ents n=none):g9_ ents ck n v=ents++[(n,ck,v)]:=by
 induction ents with
 | nil=>rfl
 | cons e ents ih =>
  unfold c5_ at h ih
  rw[find?_cons]at h
  cases hq:e.1==n with
  | true=>rw[hq]at h;simp at h
  | false =>
   rw[hq]at h
   have hne:¬ e.1=n:=by simpa using hq
   simp only[g9_,if_neg hne,cons_append,ih h]
structure Pg(H:List Row)(T M:Nat)(root:Int)(B:List PB)(ents:List (Int×Nat×AV))(ck lo:Nat):Prop where
 box:H[T]?=some ⟨.ty 93,2,[[.val (.int .i64 root),.mp M]]⟩
 map:H[M]?=some ⟨.pmap ents ck,0,[]⟩
 ents:le_ ents ck B
 pgs:∀x∈B,gt_ H x.b x.pg x.k x.v x.d
 one:(T::M::B.flatMap PB.foot).Nodup
 ids:(B.map PB.id).Nodup
 lows:∀l∈T::M::B.flatMap PB.foot,lo≤l∧l<H.length
section
variable {H H' : List Row} {T M : Nat} {root : Int} {B : List PB} {ents : List (Int × Nat × AV)} {ck lo : Nat}
theorem Pg.mem_foot{x:PB}{l:Nat}(hx:x∈B)(hl:l∈x.foot):l∈T::M::B.flatMap PB.foot :=
 mem_cons_of_mem _ (mem_cons_of_mem _ (mem_flatMap.2 ⟨x,hx,hl⟩))
theorem Pg.keep(g:Pg H T M root B ents ck lo)(hk:∀l∈T::M::B.flatMap PB.foot,H'[l]?=H[l]?)(hl:H.length≤H'.length):Pg H' T M root B ents ck lo:=by
 refine⟨by rw[hk T (by simp)];exact g.box,by rw[hk M (by simp)];exact g.map,g.ents,fun x hx=>?_,g.one,g.ids,fun l hl2=>?_⟩
 ·exact(g.pgs x hx).keep (hk _ (Pg.mem_foot hx (by simp[PB.foot]))) (hk _ (Pg.mem_foot hx (by simp[PB.foot]))) (hk _ (Pg.mem_foot hx (by simp[PB.foot]))) (hk _ (Pg.mem_foot hx (by simp[PB.foot])))
 ·have:=g.lows l hl2;omega
theorem Pg.more(g:Pg H T M root B ents ck lo)(m:bb_ H H'):Pg H' T M root B ents ck lo:=g.keep (fun l hl=>m.kept l (g.lows l hl).2) m.len
theorem Pg.find(g:Pg H T M root B ents ck lo)(n:Int):c5_ ents n=(B.find? fun x=>x.id==n).map fun x=>.ptr x.b 1 0 0:=s2_ g.ents.same n
theorem Pg.add(g:Pg H T M root B ents ck lo){x:PB}(hk:∀l,l<H.length→l≠M→H'[l]?=H[l]?)(hl:H.length≤H'.length)(hn:∀l∈x.foot,H.length≤l∧l<H'.length)(h1:x.foot.Nodup)(hid:x.id∉B.map PB.id)
 (hp:gt_ H' x.b x.pg x.k x.v x.d) (hm:H'[M]?=some ⟨.pmap (ents++[(x.id,ck,.ptr x.b 1 0 0)]) (ck+1),0,[]⟩):Pg H' T M root (B++[x]) (ents++[(x.id,ck,.ptr x.b 1 0 0)]) (ck+1) lo:=by
 have hone:=g.one
 have hTM:T≠M:=by
  intro e
  have:=(nodup_cons.1 hone).1
  exact this (by simp[e])
 have hMB:∀y∈B,∀l∈y.foot,l≠M:=by
  intro y hy l hl2 e
  have:=(nodup_cons.1 (nodup_cons.1 hone).2).1
  exact this (by rw[←e];exact mem_flatMap.2 ⟨y,hy,hl2⟩)
 refine⟨by rw[hk T (g.lows T (by simp)).2 hTM];exact g.box,hm,⟨by simp[g.ents.same],?_,?_⟩,fun y hy=>?_,?_,?_,fun l hl2=>?_⟩
 ·rw[map_append,nodup_append]
  refine⟨g.ents.born,by simp,fun a ha b hb e=>?_⟩
  simp only[map_cons,map_nil,mem_singleton]at hb
  obtain⟨q,hq,rfl⟩:=mem_map.1 ha
  have:=g.ents.old q hq
  omega
 ·intro e he
  rcases mem_append.1 he with q|q
  ·have:=g.ents.old e q;omega
  ·simp only[mem_singleton]at q;subst q;exact Nat.lt_succ_self _
 ·rcases mem_append.1 hy with q|q
  ·have hh:∀l∈y.foot,H'[l]?=H[l]?:=fun l hl2=>hk l (g.lows l (Pg.mem_foot q hl2)).2 (hMB y q l hl2)
   exact(g.pgs y q).keep (hh _ (by simp[PB.foot])) (hh _ (by simp[PB.foot])) (hh _ (by simp[PB.foot])) (hh _ (by simp[PB.foot]))
  ·simp only[mem_singleton]at q;subst q;exact hp
 ·have:T::M::(B++[x]).flatMap PB.foot=(T::M::B.flatMap PB.foot)++x.foot:=by simp
  rw[this,nodup_append]
  refine⟨hone,h1,fun a ha b hb e=>?_⟩
  have h3:=(g.lows a ha).2
  have h4:=(hn b hb).1
  omega
 ·rw[map_append,nodup_append]
  refine⟨g.ids,by simp,fun a ha b hb e=>?_⟩
  simp only[map_cons,map_nil,mem_singleton]at hb
  subst hb
  exact hid (e▸ha)
 ·have:T::M::(B++[x]).flatMap PB.foot=(T::M::B.flatMap PB.foot)++x.foot:=by simp
  rw[this]at hl2
  rcases mem_append.1 hl2 with q|q
  ·have:=g.lows l q;omega
  ·have:=hn l q
   have h5:=(g.lows T (by simp))
   omega
end
def smallP(p:ai_):Prop:=p.Keys.length≤1048576∧p.Vals.length≤1048576∧p.Kids.length≤1048576
def c38:LC :=
 .q [.o [.bx 1 28 0,.s 2 (.mov (.const (.pointer none)))],.o [.fa 7 0 1,.ln 8 7,.s 9 (.ext .mkP),.s 10 (.build (.agg #[.int .i64 0,.map none]) [(0,1),(1,1)] [(0,.tmp 8),(1,.tmp 9)]),.bx 11 93 10,.m 3 11],.q
 [.o [.fa 12 1 1,.ln 13 12,.ll 14 13,.ki 15 0],.block 0 (.loop (.q [.o [.bb 16 .lss false 15 14],.k 16 .skip (.exit 0),.block 1 (.q [.o [.ia 17 5 13 15,.ld 18 5 17,.s 5 (.alloc 79 z2z),.st 5 5 18],.o [.fa 19 1
 5,.ld 20 4 19,.c1 21 79 20,.s 6 (.alloc 77 z1z),.st 4 6 21],.gops [.m 22 3,.nc 23 22,.fa 24 1 23,.ln 25 24,.fa 26 0 5,.ln 27 26] [(.z (.ext (.updP (.tmp 25) (.tmp 27) (.tmp 6))),[])]]),.o [.bk 28 .add false
 15 1,.m 15 28]]))],.o [.m 29 3,.m 2 29],.ret]
def Ah_:LF:=⟨1,30,c38,[.tmp 2]⟩
theorem Dx_:az_ Tryz.prog Tryz.f38 Ah_:=at_
def Lim(H:List Row)(F:List Nat)(mx:Nat):Prop:=∀l∈F,∀r,H[l]?=some r→r.es.length≤mx
theorem l9_(root:Int)(sl:List aa_)(hlen:sl.length≤1048576)(hsm:∀s∈sl,smallP s.Page)(hid:(sl.map aa_.Id).Nodup)(h:List Row)(K:AV→List Row→Prop)
 (hK:∀H' T M B ents ck,bb_ h H'→Pg H' T M root B ents ck h.length→B.map PB.slot=sl→Lim H' (T::M::B.flatMap PB.foot) 1048576→K (.ptr T 1 0 0) H'):callSem Tryz.prog 38 [.agg [.val (.int .i64 root),.list 0 5 (sl.map aa_.cells)]] h K:=by
 refine aJ_ mixed Tryz.func38 Dx_ (bi_ rfl ?_)
 simp(disch:=omega)only[Ah_,c38,go_sem,seval]
 simp(disch:=first|omega|simp only[lzz0_];first|done|omega)only[go_sem,seval,bT_]
 refine aL_ (fun n t H=>∃(k:Nat) (B:List PB) (ents:List (Int×Nat×AV)) (ck:Nat),t 3=.ptr (h.length+2) 1 0 0∧t 13=.list 0 5 (sl.map aa_.cells)∧t 14=.val (.int .i64 sl.length)∧t 15=.val (.int .i64 k) ∧
  n=sl.length-k∧k≤sl.length∧bb_ h H∧Pg H (h.length+2) (h.length+1) root B ents ck h.length∧B.map PB.slot=sl.take k∧Lim H ((h.length+2)::(h.length+1)::B.flatMap PB.foot) 1048576) sl.length ?_ ?_
 ·refine⟨0,[],[],0,rfl,rfl,rfl,rfl,rfl,Nat.zero_le _,bb_.app _ _,⟨?_,?_,⟨rfl,by simp,by simp⟩,by simp,by simp,by simp,?_⟩,rfl,?_⟩
  ·rw[getElem?_append_right (by omega)];simp
  ·rw[getElem?_append_right (by omega)];simp
  ·intro l hl
   simp at hl
   simp;omega
  ·intro l hl r hr
   simp only[flatMap_nil,mem_cons,not_mem_nil,or_false]at hl
   rcases hl with rfl|rfl
   ·rw[getElem?_append_right (by omega)]at hr
    simp at hr;rw[←hr];simp
   ·rw[getElem?_append_right (by omega)]at hr
    simp at hr;rw[←hr];simp
 ·rintro J hJ n t H ⟨k,B,ents,ck,t3,t13,t14,t15,rfl,hk,hM,g,hB,hlim⟩
  by_cases hlt:k<sl.length
  ·obtain⟨z1,z2,z3⟩:=hsm _ (getElem_mem hlt)
   simp(disch:=first|omega|simp only[lzz0_];first|done|omega)only[as_,go_sem,seval,t13,t14,t15,hlt,aa_.cells]
   refine nE_ sl[k].Page z1 z2 z3 _ _ ?_
   intro H1 k1 v1 d1 m1 b1 b2 b3 b4 r1 r2 r3
   have gH:=g.more ((bb_.app _ _).trans m1)
   have gbox:=gH.box
   have gmap:=gH.map
   have o5:=m1.at (i:=H.length) (row:=⟨79,5,[[.val (.int .i64 sl[k].Id),.val (.bool sl[k].Page.Leaf),.list 0 1 (sl[k].Page.Keys.map ah_),.list 0 1 (sl[k].Page.Vals.map ah_),.list 0 1 (sl[k].Page.Kids.map aB_)]]⟩) (as_ rfl)
   have hH1:=m1.len
   rw[la_,length_singleton]at hH1
   have l0:=(List.getElem?_eq_some_iff.1 gbox).1
   have l1:=(List.getElem?_eq_some_iff.1 gmap).1
   have hnid:sl[k].Id∉B.map PB.id:=by
    have e:B.map PB.id=(sl.map aa_.Id).take k:=by
     have:=congrArg (List.map aa_.Id) hB
     rw[map_map,map_take]at this
     exact this
    rw[e]
    intro hm
    obtain⟨j,hj,hje⟩:=mem_take_iff_getElem.1 hm
    have hj2:j<sl.length:=by simp at hj;omega
    have:=(getElem_inj (xs:=sl.map aa_.Id) (h₀:=by simpa using hj2) (h₁:=by simpa using hlt) hid).1 (by simpa using hje)
    omega
   have hf:c5_ ents sl[k].Id=none:=by
    rw[g.find]
    have:B.find? (fun x=>x.id==sl[k].Id)=none:=by
     rw[find?_eq_none]
     intro x hx e
     exact hnid (mem_map.2 ⟨x,hx,by simpa using e⟩)
    rw[this];rfl
   have e1:=pc_ (ck:=ck) (v:=.ptr H1.length 1 0 0) hf
   have e2:hZ_ ents ck sl[k].Id=ck+1:=by simp[hZ_,hf]
   simp(disch:=first|omega|simp only[lzz0_];first|done|omega)only[ab_,as_,go_sem,seval,t3,t15,o5,gbox,gmap,e1,e2,aw_]
   have hlow:=g.lows
   have hkeep:∀(r r':Row) (l:Nat),l<H.length→l≠h.length+1→((H1++[r]).set (h.length+1) r')[l]?=H[l]?:=by
    intro r r' l hl hne
    rw[getElem?_set_ne (Ne.symm hne),getElem?_append_left (by omega),m1.kept l (by simp;omega),getElem?_append_left hl]
   have hget:∀(r r':Row) (l:Nat),H.length≤l→l<H1.length→((H1++[r]).set (h.length+1) r')[l]?=H1[l]?:=by
    intro r r' l hl hl2
    have:=(g.lows (h.length+1) (by simp)).2
    rw[getElem?_set_ne (by omega),getElem?_append_left hl2]
   have hM0:=(g.lows (h.length+1) (by simp)).2
   rw[la_,length_singleton]at b1
   refine⟨sl.length-(k+1),by omega,hJ _ _ _ ⟨k+1,B++[⟨sl[k].Id,sl[k].Page,H1.length,k1,v1,d1⟩],ents++[(sl[k].Id,ck,.ptr H1.length 1 0 0)],ck+1,by simp[upd,t3],by simp[upd,t13],by simp[upd,t14],by simp[upd],rfl,by omega,⟨?_,fun l hl=>?_⟩,
    g.add (x:=⟨sl[k].Id,sl[k].Page,H1.length,k1,v1,d1⟩) (hkeep _ _) (by simp;omega) ?_ ?_ hnid ?_ ?_,?_,?_⟩⟩
   ·have:=hM.len;simp;omega
   ·rw[hkeep _ _ l (by have:=hM.len;omega) (by omega)];exact hM.kept l hl
   ·intro l hl
    simp only[PB.foot,mem_cons,not_mem_nil,or_false]at hl
    simp only[ls_,la_,length_singleton]
    omega
   ·simp[PB.foot];omega
   ·show gt_ _ H1.length sl[k].Page k1 v1 d1
    refine⟨_,_,_,?_,hA_ ?_,hA_ ?_,hA_ ?_⟩
    ·rw[getElem?_set_ne (by omega),getElem?_append_right (Nat.le_refl _)];simp
    ·rw[hget _ _ _ (by omega) (by omega)];exact r1
    ·rw[hget _ _ _ (by omega) (by omega)];exact r2
    ·rw[hget _ _ _ (by omega) (by omega)];exact r3
   ·rw[getElem?_set_self (by simp;omega)]
   ·rw[map_append,hB,take_succ_eq_append_getElem hlt];rfl
   ·intro l hl r hr
    have hl2:l∈((h.length+2)::(h.length+1)::B.flatMap PB.foot)++PB.foot ⟨sl[k].Id,sl[k].Page,H1.length,k1,v1,d1⟩:=by simpa using hl
    rcases mem_append.1 hl2 with q|q
    ·by_cases hM1:l=h.length+1
     ·subst hM1
      rw[getElem?_set_self (by simp;omega)]at hr
      rw[←Option.some.inj hr];simp
     ·rw[hkeep _ _ l (g.lows l q).2 hM1]at hr
      exact hlim l q r hr
    ·simp only[PB.foot,mem_cons,not_mem_nil,or_false]at q
     rcases q with rfl|rfl|rfl|rfl
     ·rw[getElem?_set_ne (by omega),getElem?_append_right (Nat.le_refl _)]at hr
      simp at hr;rw[←hr];simp
     ·rw[hget _ _ _ (by omega) (by omega),r1]at hr
      rw[←Option.some.inj hr];simpa using z1
     ·rw[hget _ _ _ (by omega) (by omega),r2]at hr
      rw[←Option.some.inj hr];simpa using z2
     ·rw[hget _ _ _ (by omega) (by omega),r3]at hr
      rw[←Option.some.inj hr];simpa using z3
  ·simp(disch:=first|omega|simp only[lzz0_];first|done|omega)only[go_sem,seval,t3,t14,t15,hlt]
   exact hK _ _ _ _ _ _ hM g (by rw[hB,take_of_length_le (by omega)]) hlim
abbrev de_:=Int→Option ai_
def ag_(sl:List aa_):de_:=fun id=>(sl.find? fun s=>s.Id==id).map aa_.Page
theorem g8_(B:List PB)(id:Int):ag_ (B.map PB.slot) id=(B.find? fun x=>x.id==id).map PB.pg:=by
 unfold ag_
 rw[find?_map]
 simp only[Option.map_map]
 rfl
def jE_(p:ai_)(low high:ByteArray):Bool:=p.Keys.any fun key=>aP_ key low||(!decide (high=⟨#[]⟩)&&!aP_ key high)
def dG_(p:ai_):Nat:=if p.Leaf=true then p.Keys.length else p.Kids.length
theorem dM_:∀{a b:List Int},a.Nodup→a ⊆ b→a.length≤b.length
 | [],b,_,_=>Nat.zero_le _
 | x::a,b,h,hs=>by
  have hx:=hs (mem_cons_self)
  obtain⟨h1,h2⟩:=nodup_cons.1 h
  have:a ⊆ b.erase x:=by
   intro y hy
   have hne:y≠x:=fun e=>h1 (e▸hy)
   exact(mem_erase_of_ne hne).2 (hs (mem_cons_of_mem _ hy))
  have h3:=dM_ h2 this
  have h4:=length_erase_of_mem hx
  have h5:0<b.length:=length_pos_of_mem hx
  simp only[lc_]
  omega
section
variable {T M W S lo : Nat} {root : Int} {B : List PB} {ents : List (Int × Nat × AV)} {ck : Nat}
end
def k6_:aa_:=⟨0,⟨false,[],[],[]⟩⟩
def pX_(sl:List aa_)(k:Nat):Bool:=bx_ (sl.getD k k6_).Id 1 64&&pageB (sl.getD k k6_).Page&&(decide (k=0)||decide ((sl.getD (k-1) k6_).Id<(sl.getD k k6_).Id))
def iW_(sl:List aa_):Bool:=(List.range sl.length).all (pX_ sl)
theorem oJ_{sl:List aa_}(h:iW_ sl=true){k:Nat}(hk:k<sl.length):pX_ sl k=true:=by
 rw[iW_,all_eq_true]at h
 exact h k (by simpa using hk)
theorem oQ_{sl:List aa_}{k:Nat}(h:k<sl.length):pX_ sl k=(bx_ sl[k].Id 1 64&&pageB sl[k].Page&&(!decide (0<k)||!decide (sl[k-1].Id≥sl[k].Id))):=by
 have e:sl.getD k k6_=sl[k]:=by rw[getD_eq_getElem?_getD,getElem?_eq_getElem h];rfl
 have e2:sl.getD (k-1) k6_=sl[k-1]:=by rw[getD_eq_getElem?_getD,getElem?_eq_getElem (by omega)];rfl
 rw[pX_,e,e2]
 by_cases h0:k=0
 ·subst h0;simp
 ·have h1:0<k:=by omega
  congr 1
  rw[Bool.eq_iff_iff]
  simp[h0,h1]
theorem lt_{sl:List aa_}(h:iW_ sl=true):∀(j i:Nat) (hi:i<j) (hj:j<sl.length),(sl[i]'(by omega)).Id<sl[j].Id
 | 0,i,hi,hj=>absurd hi (Nat.not_lt_zero _)
 | j+1,i,hi,hj=>by
  have h1:=oJ_ h hj
  rw[oQ_ hj]at h1
  simp only[Bool.and_eq_true,Bool.or_eq_true,Bool.not_eq_true',decide_eq_false_iff_not,Nat.add_sub_cancel]at h1
  have h2:sl[j].Id<sl[j+1].Id:=by omega
  by_cases hij:i=j
  ·subst hij;exact h2
  ·have:=lt_ h j i (by omega) (by omega)
   omega
theorem tW_{sl:List aa_}(h:iW_ sl=true){s:aa_}(hs:s∈sl):1≤s.Id∧s.Id≤64∧pageB s.Page=true:=by
 obtain⟨k,hk,rfl⟩:=mem_iff_getElem.1 hs
 have h1:=oJ_ h hk
 rw[oQ_ hk]at h1
 simp only[Bool.and_eq_true,bx_,decide_eq_true_eq]at h1
 exact⟨h1.1.1.1,h1.1.1.2,h1.1.2⟩
theorem qT_{N:Nat}{t:Nat→AV}{h:List Row}{L:Nat}{E:Tag}{s:Nat}(pre post:List AV)(T:TypeId)(sz:Nat)(hL:h[L]?=some ⟨E,s,[pre++AV.val (.slice none 0 0)::post]⟩) :
 hI_ N t h t (h.set L ⟨E,s,[pre++AV.own h.length 0::post]⟩++[⟨.ty T,sz,[]⟩]):=by
 have hlt:=(List.getElem?_eq_some_iff.1 hL).1
 refine kU_ (.ty T) ⟨T,rfl⟩ sz (fun k=>.inl rfl) (by simp) (as_ (by simp)) (fun l r' hl hr=>?_)
 rw[ab_ (by simpa using hl)]at hr
 by_cases e:L=l
 ·subst e
  rw[aq_ hlt]at hr
  obtain rfl:=Option.some.inj hr
  refine⟨_,hL,rfl,rfl,⟨_,[],rfl,?_,rfl⟩⟩
  have:∀pre:List AV,CvL h.length (pre++AV.val (.slice none 0 0)::post) (pre++AV.own h.length 0::post):=by
   intro pre
   induction pre with
   | nil=>exact⟨_,_,rfl,.inr ⟨rfl,rfl⟩,CvL.refl _ _⟩
   | cons a us ih=>exact⟨a,_,rfl,.inl rfl,ih⟩
  exact this pre
 ·rw[am_ e]at hr
  exact⟨r',hr,rfl,rfl,ec_.refl _ _⟩
def atI(sl:List aa_)(id:Int):Int:=co_ (fun s=>decide (s.Id=id)) sl 0
def AA_:LC :=
 .q [.o [.bx 2 28 0,.ki 4 0],.q [.o [.ki 5 0],.block 0 (.loop (.q [.q [.o [.m 6 5,.fa 7 1 2,.ln 8 7,.ll 9 8,.bb 10 .lss false 6 9],.k 10 .skip (.exit 0)],.block 1 (.q [.o [.fa 13 1 2,.ln 14 13,.m 15 5,.ia 16 5
 14 15,.fa 17 0 16,.ln 18 17,.m 19 1,.bb 20 .eql false 18 19],.k 20 (.q [.o [.m 21 5,.m 4 21],.ret]) .skip]),.o [.m 11 5,.bk 12 .add false 11 1,.m 5 12]]))],.o [.s 4 (.mov (.const (.int .i64 (-1))))],.ret]
def x8_:LF:=⟨2,22,AA_,[.tmp 4]⟩
theorem CN_:az_ Tryz.prog Tryz.f105 x8_:=at_
theorem ha_(b:ae_)(id:Int)(hx:b.Slots.length≤1048576)(h:List Row):PureCall Tryz.prog 105 [.agg (ae_.cells b),.val (.int .i64 id)] h (.val (.int .i64 (atI b.Slots id))):=by
 refine ar_ mixed Tryz.func105 CN_ rfl rfl ?_ h
 simp(disch:=omega)only[x8_,AA_,ae_.cells,go_sem,seval]
 refine aL_ (fun n t h=>∃k:Nat,t 2=.ptr 0 1 0 0∧t 1=.val (.int .i64 id)∧t 5=.val (.int .i64 k)∧h[0]?=some ⟨28,2,[[.val (.int .i64 b.Root),.list 0 5 (b.Slots.map aa_.cells)]]⟩∧n=b.Slots.length-k∧k≤b.Slots.length∧(atI b.Slots id=co_ (fun s=>decide (s.Id=id)) (b.Slots.drop k) k)) (b.Slots.length) ?_ ?_
 ·exact⟨0,rfl,rfl,rfl,rfl,rfl,Nat.zero_le _,rfl⟩
 ·rintro J hJ n t h ⟨k,t2,t1,k5,o0,rfl,hk,hS⟩
  have p0:∀l,(h++l)[0]?=some ⟨28,2,[[.val (.int .i64 b.Root),.list 0 5 (b.Slots.map aa_.cells)]]⟩:=fun l=>bV_ o0
  by_cases hlt:k<b.Slots.length
  ·skip
   rw[h3_ _ _ k hlt]at hS
   simp(disch:=omega)only[t2,t1,k5,o0,hlt,aa_.cells,go_sem,seval]
   repeat' (first
    | exact ak_ _ _
    | exact⟨b.Slots.length-(k+1),by omega,hJ _ _ _ ⟨k+1,by simp[upd,t2],by simp[upd,t1],by simp[upd],by first|exact o0|exact p0 _,rfl,by omega,by rw[hS];simp[*]⟩⟩
    | (refine aK_ ?_;rw[hS];simp[*];done)
    | (refine aK_ ?_;rw[hS,eK_ _ _ _ (by omega)])
    | simp(disch:=omega)only[k5,go_sem,seval]
    | ((first|(apply a3_;assumption)|(apply a4_;assumption)|(apply bm_;assumption)|(apply bl_;assumption));intro hb;try simp only[hb])
    | ((first|apply aG_|apply aF_)<;>intro hb<;>(try simp only[hb])<;>(first|have hp:=bF_ hb|have hp:=bK_ hb|have hp:=bL_ hb|have hp:=bG_ hb|skip)))
  ·skip
   simp(disch:=omega)only[t2,k5,o0,hlt,go_sem,seval]
   repeat' (first
    | exact ak_ _ _
    | (refine aK_ ?_;rw[hS];simp[*];done)
    | (refine aK_ ?_;rw[hS,eK_ _ _ _ (by omega)])
    | simp(disch:=omega)only[t2,t1,k5,o0,p0,go_sem,seval]
    | ((first|(apply a3_;assumption)|(apply a4_;assumption)|(apply bm_;assumption)|(apply bl_;assumption));intro hb;try simp only[hb])
    | ((first|apply aG_|apply aF_)<;>intro hb<;>(try simp only[hb])<;>(first|have hp:=bF_ hb|have hp:=bK_ hb|have hp:=bL_ hb|have hp:=bG_ hb|skip)))
theorem jl_{sl:List aa_}{id:Int}{p:ai_}(h:ag_ sl id=some p):∃k,∃hk:k<sl.length,atI sl id=(k:Int)∧sl[k].Page=p∧sl[k].Id=id:=by
 unfold ag_ at h
 unfold atI
 rcases hh_ (fun s:aa_=>decide (s.Id=id)) sl 0 with ⟨h1,h2⟩|⟨i,hi,h1,h2,h3⟩
 ·exfalso
  rw[find?_eq_none.2 (fun x hx e=>by have:=h2 x hx;simp at this e;exact this e)]at h
  cases h
 ·refine⟨i,hi,by simpa using h1,?_,by simpa using h2⟩
  have hf:sl.find? (fun s=>s.Id==id)=some sl[i]:=by
   rw[find?_eq_some_iff_getElem]
   refine⟨by simpa using h2,i,hi,rfl,fun j hj=>?_⟩
   have:=h3 j hj
   simpa using this
  rw[hf]at h
  simpa using h
theorem wd_{sl:List aa_}{id:Int}(h:ag_ sl id=none):atI sl id = -1:=by
 unfold ag_ at h
 unfold atI
 rcases hh_ (fun s:aa_=>decide (s.Id=id)) sl 0 with ⟨h1,h2⟩|⟨i,hi,h1,h2,h3⟩
 ·exact h1
 ·exfalso
  simp only[Option.map_eq_none_iff,find?_eq_none]at h
  have:=h _ (getElem_mem hi)
  simp at this h2
  exact this h2
def c68:LC :=
 .q [.o [.bx 2 28 0,.s 4 (.alloc 77 z1z)],.gops [.fa 5 1 2,.ln 6 5,.ld 7 2 2,.m 8 1] [(.c2 9 105 7 8,[.fa 5 1 2,.ln 6 5]),(.ia 10 5 6 9,[]),(.fa 11 1 10,[]),(.ld 12 4 11,[]),(.st 4 4 12,[])],.ret]
def wu_:LF:=⟨2,13,c68,[.cell 4 (some 4)]⟩
theorem yi_:az_ Tryz.prog Tryz.f68 wu_:=at_
theorem eN_(b:ae_)(id:Int)(p:ai_)(hx:b.Slots.length≤1048576)(hp:ag_ b.Slots id=some p)(h:List Row):PureCall Tryz.prog 68 [.agg (ae_.cells b),.val (.int .i64 id)] h (.agg (ai_.cells p)):=by
 obtain⟨k,hk,e1,rfl,e3⟩:=jl_ hp
 have hc:=ha_ b id hx
 rw[e1]at hc
 unfold ae_.cells at hc
 refine ar_ mixed Tryz.func68 yi_ rfl rfl ?_ h
 simp(disch:=omega)only[wu_,c68,ae_.cells,go_sem,seval]
 repeat' (first
  | exact ak_ _ _
  | (exact fJ_ _ _ rfl)
  | simp(disch:=omega)only[aa_.cells,go_sem,seval]
  | (refine PureCall.call (hc _) ?_)
  | (refine PureCall.q (hc _) ?_)
  | ((first|(apply a3_;assumption)|(apply a4_;assumption)|(apply bm_;assumption)|(apply bl_;assumption));intro hb;try simp only[hb])
  | ((first|apply aG_|apply aF_)<;>intro hb<;>(try simp only[hb])<;>(first|have hp:=bF_ hb|have hp:=bK_ hb|have hp:=bL_ hb|have hp:=bG_ hb|skip)))
section
variable {W R : Nat} {b : ae_}
end
theorem callSem.ghost{P:Program}{f:FuncId}{args:List AV}{h h':List Row}{K:AV→List Row→Prop}{t:Nat→AV}(hg:hI_ 0 t h t h')(c:callSem P f args h' K):callSem P f args h K:=by
 intro S w vals hm hgl hr
 obtain⟨S',st,hm',_⟩:=hg S w { tmps:=#[],defers:=[] } hm ⟨rfl,rfl,fun k hk=>absurd hk (Nat.not_lt_zero k)⟩
 refine(c S' w vals hm' (cM_.up st.le hgl) (af_.up st.le _ _ hr)).mono ?_
 rintro e w' ⟨v,av,S2,h2,rfl,st2,hm2,rv,hk⟩
 exact⟨v,av,S2,h2,rfl,st.trans st2,hm2,rv,hk⟩
end Go.Proofs.YtlcmlgihlojdmaaGreatDoor
