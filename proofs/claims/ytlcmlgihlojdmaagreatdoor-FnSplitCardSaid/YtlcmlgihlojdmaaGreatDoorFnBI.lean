/-
 Contracts of functions. Conditions: as each theorem says.
-/
import Derived.Test.YtlcmlgihlojdmaaGreatDoorFnBC
import Derived.Test.YtlcmlgihlojdmaaGreatDoorAwPart
import Derived.Test.YtlcmlgihlojdmaaGreatDoorAwC
namespace Go.Proofs.YtlcmlgihlojdmaaGreatDoor
open Tryz (prog)
open List
open Go.AW
set_option linter.unusedVariables false
set_option linter.unusedSimpArgs false
set_option maxRecDepth 4000
def vj_:LC :=
 .q [.o [.nl 2],.q [.o [.m 3 0,.s 4 (.isNil false (.tmp 3))],.k 4 (.q [.o [.nl 2],.ghost .ret]) .skip],.o [.s 5 (.buildSlice 9 1 (.string ⟨#[]⟩) 0 []),.m 6 0,.ap 7 9 1 16 5 6,.m 2 7],.ghost .ret]
def sa_:LF:=⟨1,8,vj_,[.tmp 2]⟩
theorem s9_:aC_ prog Tryz.f130 sa_:=az_
def uy_:LC :=
 .q [.o [.nl 2],.q [.o [.m 3 0,.s 4 (.isNil false (.tmp 3))],.k 4 (.q [.o [.nl 2],.ghost .ret]) .skip],.o [.s 5 (.buildSlice 2 1 (.int .i64 0) 0 []),.m 6 0,.ap 7 2 1 8 5 6,.m 2 7],.ghost .ret]
def rK_:LF:=⟨1,8,uy_,[.tmp 2]⟩
theorem sX_:aC_ prog Tryz.f131 rK_:=az_
theorem fH_(xs:List ByteArray)(hx:xs.length≤1048576)(h:List Row)(K:AV→List Row→Prop)(hk:K (.sub h.length xs.length 0 xs.length) (h++[⟨.ty 9,1,xs.map ak_⟩])):callSem prog 130 [.list 0 1 (xs.map ak_)] h K:=by
 refine callSem.weaken (aO_ mixed Tryz.func130 s9_ (bA_ rfl ?_))
 have fin:∃av',(∀S x,Rep S (.own h.length xs.length) x→Rep S av' x)∧K av' (h++[⟨.ty 9,1,xs.map ak_⟩]):=⟨_,dK_ _ _,hk⟩
 simp(disch:=omega)only[sa_,vj_,go_sem,seval]
 intro b hb
 cases b
 ·simp(disch:=omega)only[bne_self_eq_false,go_sem,seval]
  refine⟨by omega,by omega,hd_ xs,?_⟩
  try simp(disch:=omega)only[go_sem,seval]
  refine bv_ _ _ bN_ ?_
  simp(disch:=omega)only[go_sem,↓reduceIte]
  exact fin
 ·have hx0:xs=[]:=by simpa using hb rfl
  subst hx0
  simp(disch:=omega)only[Bool.bne_false,map_nil,go_sem]
  refine bv_ _ _ (ic_ 2 9 1 rfl) ?_
  simp(disch:=omega)only[go_sem,↓reduceIte]
  exact fin
theorem bE_(xs:List ByteArray)(hx:xs.length≤1048576)(h:List Row)(a:AV)(l:Nat)(hp:aI_ h 9 1 a l (xs.map ak_))(K:AV→List Row→Prop)(hk:K (.sub h.length xs.length 0 xs.length) (h++[⟨.ty 9,1,xs.map ak_⟩])):callSem prog 130 [a] h K:=by
 have hlt:=hp.lt
 obtain⟨pre,post,rfl,hrow⟩:=hp
 have hrow2:∀r,(h++[r])[l]?=some ⟨.ty 9,1,pre++(xs.map ak_++post)⟩:=fun r=>(getElem?_append_left hlt).trans hrow
 have hmid:=pL_ pre (xs.map ak_) post xs.length (by simp)
 refine callSem.weaken (aO_ mixed Tryz.func130 s9_ (bA_ rfl ?_))
 have fin:∃av',(∀S x,Rep S (.own h.length xs.length) x→Rep S av' x)∧K av' (h++[⟨.ty 9,1,xs.map ak_⟩]):=⟨_,dK_ _ _,hk⟩
 simp(disch:=omega)only[sa_,vj_,hrow,go_sem,seval]
 intro b hb
 cases b
 ·simp(disch:=omega)only[bne_self_eq_false,go_sem,seval]
  simp(disch:=omega)only[hrow2,hmid,iP_,go_sem,↓reduceIte]
  refine⟨by omega,by omega,hd_ xs,?_⟩
  try simp(disch:=omega)only[go_sem,seval]
  refine bv_ _ _ bN_ ?_
  simp(disch:=omega)only[go_sem,↓reduceIte]
  exact fin
 ·have hx0:xs=[]:=by
   have:=hb rfl
   simpa using this
  subst hx0
  simp(disch:=omega)only[Bool.bne_false,go_sem]
  refine bv_ _ _ (ic_ 2 9 1 rfl) ?_
  simp(disch:=omega)only[go_sem,↓reduceIte]
  exact fin
theorem je_(xs:List Int)(hx:xs.length≤1048576)(h:List Row)(K:AV→List Row→Prop)(hk:K (.sub h.length xs.length 0 xs.length) (h++[⟨.ty 2,1,xs.map aK_⟩])):callSem prog 131 [.list 0 1 (xs.map aK_)] h K:=by
 refine callSem.weaken (aO_ mixed Tryz.func131 sX_ (bA_ rfl ?_))
 have fin:∃av',(∀S x,Rep S (.own h.length xs.length) x→Rep S av' x)∧K av' (h++[⟨.ty 2,1,xs.map aK_⟩]):=⟨_,dK_ _ _,hk⟩
 simp(disch:=omega)only[rK_,uy_,go_sem,seval]
 intro b hb
 cases b
 ·simp(disch:=omega)only[bne_self_eq_false,go_sem,seval]
  refine⟨by omega,by omega,iV_ xs,?_⟩
  try simp(disch:=omega)only[go_sem,seval]
  refine bv_ _ _ bN_ ?_
  simp(disch:=omega)only[go_sem,↓reduceIte]
  exact fin
 ·have hx0:xs=[]:=by simpa using hb rfl
  subst hx0
  simp(disch:=omega)only[Bool.bne_false,map_nil,go_sem]
  refine bv_ _ _ (ic_ 2 2 1 rfl) ?_
  simp(disch:=omega)only[go_sem,↓reduceIte]
  exact fin
theorem eu_(xs:List Int)(hx:xs.length≤1048576)(h:List Row)(a:AV)(l:Nat)(hp:aI_ h 2 1 a l (xs.map aK_))(K:AV→List Row→Prop)(hk:K (.sub h.length xs.length 0 xs.length) (h++[⟨.ty 2,1,xs.map aK_⟩])):callSem prog 131 [a] h K:=by
 have hlt:=hp.lt
 obtain⟨pre,post,rfl,hrow⟩:=hp
 have hrow2:∀r,(h++[r])[l]?=some ⟨.ty 2,1,pre++(xs.map aK_++post)⟩:=fun r=>(getElem?_append_left hlt).trans hrow
 have hmid:=pL_ pre (xs.map aK_) post xs.length (by simp)
 refine callSem.weaken (aO_ mixed Tryz.func131 sX_ (bA_ rfl ?_))
 have fin:∃av',(∀S x,Rep S (.own h.length xs.length) x→Rep S av' x)∧K av' (h++[⟨.ty 2,1,xs.map aK_⟩]):=⟨_,dK_ _ _,hk⟩
 simp(disch:=omega)only[rK_,uy_,hrow,go_sem,seval]
 intro b hb
 cases b
 ·simp(disch:=omega)only[bne_self_eq_false,go_sem,seval]
  simp(disch:=omega)only[hrow2,hmid,iP_,go_sem,↓reduceIte]
  refine⟨by omega,by omega,iV_ xs,?_⟩
  try simp(disch:=omega)only[go_sem,seval]
  refine bv_ _ _ bN_ ?_
  simp(disch:=omega)only[go_sem,↓reduceIte]
  exact fin
 ·have hx0:xs=[]:=by
   have:=hb rfl
   simpa using this
  subst hx0
  simp(disch:=omega)only[Bool.bne_false,go_sem]
  refine bv_ _ _ (ic_ 2 2 1 rfl) ?_
  simp(disch:=omega)only[go_sem,↓reduceIte]
  exact fin
theorem g7_{H:List Row}{E l:Nat}{α:Type}{f:α→List AV}{xs:List α}(h:H[l]?=some ⟨.ty E,1,xs.map f⟩):aI_ H E 1 (.sub l xs.length 0 xs.length) l (xs.map f):=by
 have:=aI_.whole h
 rwa [length_map]at this
structure fZ_(H:List Row)(b:Nat)(p:ap_)(k v d:Nat):Prop where
 out:∃a1 a2 a3,H[b]?=some ⟨.ty 77,4,[[.val (.bool p.Leaf),a1,a2,a3]]⟩∧aI_ H 9 1 a1 k (p.Keys.map ak_)∧aI_ H 9 1 a2 v (p.Vals.map ak_)∧aI_ H 2 1 a3 d (p.Kids.map aK_)
theorem fZ_.keep{H H':List Row}{b k v d:Nat}{p:ap_}(g:fZ_ H b p k v d)(hb:H'[b]?=H[b]?)(hk:H'[k]?=H[k]?)(hv:H'[v]?=H[v]?)(hd:H'[d]?=H[d]?):fZ_ H' b p k v d:=by
 obtain⟨a1,a2,a3,h1,h2,h3,h4⟩:=g
 exact⟨a1,a2,a3,by rw[hb];exact h1,h2.keep hk,h3.keep hv,h4.keep hd⟩
theorem nX_{H:List Row}{p:ap_}{k v d:Nat}{a1 a2 a3:AV}(h1:aI_ H 9 1 a1 k (p.Keys.map ak_))(h2:aI_ H 9 1 a2 v (p.Vals.map ak_))(h3:aI_ H 2 1 a3 d (p.Kids.map aK_))(n:Nat):[AV.val (.bool p.Leaf),a1,a2,a3].mapM (AW.resolve H (n+2))=some (ap_.cells p):=by
 rw[mapM_cons,mapM_cons,mapM_cons,mapM_cons,h1.res (g6_ _) n,h2.res (g6_ _) n,h3.res (l8_ _) n]
 rfl
theorem uX_{H:List Row}{p:ap_}{k v d:Nat}{a1 a2 a3:AV}(h1:aI_ H 9 1 a1 k (p.Keys.map ak_))(h2:aI_ H 9 1 a2 v (p.Vals.map ak_))(h3:aI_ H 2 1 a3 d (p.Kids.map aK_))(n:Nat):AW.resolve H (n+3) (.agg [.val (.bool p.Leaf),a1,a2,a3])=some (.agg (ap_.cells p)):=by
 have e:AW.resolve H (n+3) (.agg [.val (.bool p.Leaf),a1,a2,a3])=([AV.val (.bool p.Leaf),a1,a2,a3].mapM (AW.resolve H (n+2))).map .agg:=rfl
 rw[e,nX_ h1 h2 h3];rfl
theorem fZ_.res{H:List Row}{b k v d:Nat}{p:ap_}(g:fZ_ H b p k v d)(n:Nat):AW.resolve H (n+3) (.ptr b 1 0 0)=some (.iptr (ap_.cells p)):=by
 obtain⟨a1,a2,a3,h1,h2,h3,h4⟩:=g
 have e:AW.resolve H (n+3) (.ptr b 1 0 0)=match H[b]? with
  | some r=>if r.es.length=1 then(match r.es[0]? with|some e=>if 0<e.length then((e.drop 0).mapM (AW.resolve H (n+2))).map .iptr else none|none=>none)else none
  | none=>none:=rfl
 rw[e,h1]
 simp only[lc_,ln_,Nat.zero_add,if_true,getElem?_cons_zero,drop_zero]
 rw[nX_ h2 h3 h4];rfl
def v5_(h:List Row)(p:ap_)(K:AV→List Row→Prop):Prop :=
 ∀(H':List Row) (k v d:Nat),bu_ h H'→h.length≤k→k<v→v<d→d<H'.length→H'[k]?=some ⟨.ty 9,1,p.Keys.map ak_⟩→H'[v]?=some ⟨.ty 9,1,p.Vals.map ak_⟩→H'[d]?=some ⟨.ty 2,1,p.Kids.map aK_⟩ →
  K (.agg [.val (.bool p.Leaf),.sub k p.Keys.length 0 p.Keys.length,.sub v p.Vals.length 0 p.Vals.length,.sub d p.Kids.length 0 p.Kids.length]) H'
def c79:LC :=
 .q [.o [.bx 1 77 0,.s 2 (.alloc 77 z1z)],.gops [.fa 3 0 1,.ln 4 3,.fa 5 1 1,.ln 6 5,.fa 8 2 1,.ln 9 8,.fa 11 3 1,.ln 12 11] [(.c1 7 130 6,[.fa 3 0 1,.ln 4 3,.fa 8 2 1,.ln 9 8,.fa 11 3 1,.ln 12 11]),(.c1
 10 130 9,[.fa 3 0 1,.ln 4 3,.fa 11 3 1,.ln 12 11]),(.c1 13 131 12,[.fa 3 0 1,.ln 4 3]),(.s 14 (.build z1z [(0,1),(1,1),(2,1),(3,1)] [(0,.tmp 4),(1,.tmp 7),(2,.tmp 10),(3,.tmp 13)]),[]),(.st 4 2
 14,[])],.ret]
def vo_:LF:=⟨1,15,c79,[.cell 2 (some 4)]⟩
theorem v6_:aC_ prog Tryz.f79 vo_:=az_
theorem mp_(p:ap_)(hk:p.Keys.length≤1048576)(hv:p.Vals.length≤1048576)(hd:p.Kids.length≤1048576)(h:List Row)(K:AV→List Row→Prop)(hK:v5_ h p K):callSem prog 79 [.agg (ap_.cells p)] h K:=by
 refine aO_ mixed Tryz.func79 v6_ (bA_ rfl ?_)
 simp(disch:=omega)only[vo_,c79,ap_.cells,go_sem,seval]
 refine fH_ _ hk _ _ ?_
 simp(disch:=first|omega|simp only[lzz0_];first|done|omega)only[ar_,go_sem,seval]
 refine fH_ _ hv _ _ ?_
 simp(disch:=first|omega|simp only[lzz0_];first|done|omega)only[ar_,go_sem,seval]
 refine je_ _ hd _ _ ?_
 simp(disch:=first|omega|simp only[lzz0_];first|done|omega)only[ar_,a1_,go_sem,seval,co_]
 exact hK _ _ _ _ (bu_.app _ _) (by omega) (by omega) (by omega) (by simp) (by rw[getElem?_append_right (by omega)];simp) (by rw[getElem?_append_right (by omega)];simp) (by rw[getElem?_append_right (by omega)];simp)
theorem mt_(p:ap_)(hk:p.Keys.length≤1048576)(hv:p.Vals.length≤1048576)(hd:p.Kids.length≤1048576)(h:List Row)(K:AV→List Row→Prop){a1 a2 a3:AV}{r1 r2 r3:Nat}
 (h1:aI_ h 9 1 a1 r1 (p.Keys.map ak_)) (h2:aI_ h 9 1 a2 r2 (p.Vals.map ak_)) (h3:aI_ h 2 1 a3 r3 (p.Kids.map aK_)) (hK:v5_ h p K):callSem prog 79 [.agg [.val (.bool p.Leaf),a1,a2,a3]] h K:=by
 have l1:=h1.lt
 have l2:=h2.lt
 have l3:=h3.lt
 obtain⟨pre1,post1,rfl,e1⟩:=h1
 obtain⟨pre2,post2,rfl,e2⟩:=h2
 obtain⟨pre3,post3,rfl,e3⟩:=h3
 refine aO_ mixed Tryz.func79 v6_ (bA_ rfl ?_)
 simp(disch:=omega)only[vo_,c79,go_sem,seval]
 refine bE_ _ hk _ _ r1 ⟨pre1,post1,by simp,by rw[getElem?_append_left l1];exact e1⟩ _ ?_
 simp(disch:=first|omega|simp only[lzz0_];first|done|omega)only[ar_,go_sem,seval]
 refine bE_ _ hv _ _ r2 ⟨pre2,post2,by simp,by rw[getElem?_append_left l2];exact e2⟩ _ ?_
 simp(disch:=first|omega|simp only[lzz0_];first|done|omega)only[ar_,go_sem,seval]
 refine eu_ _ hd _ _ r3 ⟨pre3,post3,by simp,by rw[getElem?_append_left l3];exact e3⟩ _ ?_
 simp(disch:=first|omega|simp only[lzz0_];first|done|omega)only[ar_,a1_,go_sem,seval,co_]
 exact hK _ _ _ _ (bu_.app _ _) (by omega) (by omega) (by omega) (by simp) (by rw[getElem?_append_right (by omega)];simp) (by rw[getElem?_append_right (by omega)];simp) (by rw[getElem?_append_right (by omega)];simp)
structure PB where
 id:Int
 pg:ap_
 b:Nat
 k:Nat
 v:Nat
 d:Nat
def PB.foot(x:PB):List Nat:=[x.b,x.k,x.v,x.d]
def PB.slot(x:PB):ad_:=⟨x.id,x.pg⟩
structure kJ_(ents:List (Int×Nat×AV))(ck:Nat)(B:List PB):Prop where
 same:ents.map (fun e=>(e.1,e.2.2))=B.map fun x=>(x.id,AV.ptr x.b 1 0 0)
 born:(ents.map (·.2.1)).Nodup
 old:∀e∈ents,e.2.1<ck
theorem rR_{ents:List (Int×Nat×AV)}{B:List PB}(h:ents.map (fun e=>(e.1,e.2.2))=B.map fun x=>(x.id,AV.ptr x.b 1 0 0))(n:Int):cP_ ents n=(B.find? fun x=>x.id==n).map fun x=>.ptr x.b 1 0 0:=by
 induction ents generalizing B with
 | nil=>cases B<;>simp_all[cP_]
 | cons e ents ih =>
  cases B with
  | nil=>simp at h
  | cons x B =>
   simp only[map_cons,List.cons.injEq,Prod.mk.injEq]at h
   obtain⟨⟨h1,h2⟩,h3⟩:=h
   have:=ih h3
   unfold cP_ at this⊢
   rw[find?_cons,find?_cons,h1]
   cases x.id==n
   ·exact this
   ·simp[h2]
theorem n8_{ents:List (Int×Nat×AV)}{ck:Nat}{n:Int}{v:AV}(h:cP_ ents n=none):gQ_ ents ck n v=ents++[(n,ck,v)]:=by
 induction ents with
 | nil=>rfl
 | cons e ents ih =>
  unfold cP_ at h ih
  rw[find?_cons]at h
  cases hq:e.1==n with
  | true=>rw[hq]at h;simp at h
  | false =>
   rw[hq]at h
   have hne:¬ e.1=n:=by simpa using hq
   simp only[gQ_,if_neg hne,cons_append,ih h]
structure Pg(H:List Row)(T M:Nat)(root:Int)(B:List PB)(ents:List (Int×Nat×AV))(ck lo:Nat):Prop where
 box:H[T]?=some ⟨.ty 93,2,[[.val (.int .i64 root),.mp M]]⟩
 map:H[M]?=some ⟨.pmap ents ck,0,[]⟩
 ents:kJ_ ents ck B
 pgs:∀x∈B,fZ_ H x.b x.pg x.k x.v x.d
 one:(T::M::B.flatMap PB.foot).Nodup
 ids:(B.map PB.id).Nodup
 lows:∀l∈T::M::B.flatMap PB.foot,lo≤l∧l<H.length
section
variable {H H' : List Row} {T M : Nat} {root : Int} {B : List PB} {ents : List (Int × Nat × AV)} {ck lo : Nat}
theorem Pg.mem_foot{x:PB}{l:Nat}(hx:x∈B)(hl:l∈x.foot):l∈T::M::B.flatMap PB.foot :=
 mem_cons_of_mem _ (mem_cons_of_mem _ (mem_flatMap.2 ⟨x,hx,hl⟩))
theorem Pg.keep(g:Pg H T M root B ents ck lo)(hk:∀l∈T::M::B.flatMap PB.foot,H'[l]?=H[l]?)(hl:H.length≤H'.length):Pg H' T M root B ents ck lo:=by
 refine⟨by rw[hk T (by simp)];exact g.box,by rw[hk M (by simp)];exact g.map,g.ents,fun x hx=>?_,g.one,g.ids,fun l hl2=>?_⟩
 ·exact(g.pgs x hx).keep (hk _ (Pg.mem_foot hx (by simp[PB.foot]))) (hk _ (Pg.mem_foot hx (by simp[PB.foot]))) (hk _ (Pg.mem_foot hx (by simp[PB.foot]))) (hk _ (Pg.mem_foot hx (by simp[PB.foot])))
 ·have:=g.lows l hl2;omega
theorem Pg.more(g:Pg H T M root B ents ck lo)(m:bu_ H H'):Pg H' T M root B ents ck lo:=g.keep (fun l hl=>m.kept l (g.lows l hl).2) m.len
theorem Pg.find(g:Pg H T M root B ents ck lo)(n:Int):cP_ ents n=(B.find? fun x=>x.id==n).map fun x=>.ptr x.b 1 0 0:=rR_ g.ents.same n
theorem Pg.add(g:Pg H T M root B ents ck lo){x:PB}(hk:∀l,l<H.length→l≠M→H'[l]?=H[l]?)(hl:H.length≤H'.length)(hn:∀l∈x.foot,H.length≤l∧l<H'.length)(h1:x.foot.Nodup)(hid:x.id∉B.map PB.id)
 (hp:fZ_ H' x.b x.pg x.k x.v x.d) (hm:H'[M]?=some ⟨.pmap (ents++[(x.id,ck,.ptr x.b 1 0 0)]) (ck+1),0,[]⟩):Pg H' T M root (B++[x]) (ents++[(x.id,ck,.ptr x.b 1 0 0)]) (ck+1) lo:=by
 have hone:=g.one
 have hTM:T≠M:=by
  intro e
  have:=(nodup_cons.1 hone).1
  exact this (by simp[e])
 have hMB:∀y∈B,∀l∈y.foot,l≠M:=by
  intro y hy l hl2 e
  have:=(nodup_cons.1 (nodup_cons.1 hone).2).1
  exact this (by rw[←e];exact mem_flatMap.2 ⟨y,hy,hl2⟩)
 refine⟨by rw[hk T (g.lows T (by simp)).2 hTM];exact g.box,hm,⟨by simp[g.ents.same],?_,?_⟩,fun y hy=>?_,?_,?_,fun l hl2=>?_⟩
 ·rw[map_append,nodup_append]
  refine⟨g.ents.born,by simp,fun a ha b hb e=>?_⟩
  simp only[map_cons,map_nil,mem_singleton]at hb
  obtain⟨q,hq,rfl⟩:=mem_map.1 ha
  have:=g.ents.old q hq
  omega
 ·intro e he
  rcases mem_append.1 he with q|q
  ·have:=g.ents.old e q;omega
  ·simp only[mem_singleton]at q;subst q;exact Nat.lt_succ_self _
 ·rcases mem_append.1 hy with q|q
  ·have hh:∀l∈y.foot,H'[l]?=H[l]?:=fun l hl2=>hk l (g.lows l (Pg.mem_foot q hl2)).2 (hMB y q l hl2)
   exact(g.pgs y q).keep (hh _ (by simp[PB.foot])) (hh _ (by simp[PB.foot])) (hh _ (by simp[PB.foot])) (hh _ (by simp[PB.foot]))
  ·simp only[mem_singleton]at q;subst q;exact hp
 ·have:T::M::(B++[x]).flatMap PB.foot=(T::M::B.flatMap PB.foot)++x.foot:=by simp
  rw[this,nodup_append]
  refine⟨hone,h1,fun a ha b hb e=>?_⟩
  have h3:=(g.lows a ha).2
  have h4:=(hn b hb).1
  omega
 ·rw[map_append,nodup_append]
  refine⟨g.ids,by simp,fun a ha b hb e=>?_⟩
  simp only[map_cons,map_nil,mem_singleton]at hb
  subst hb
  exact hid (e▸ha)
 ·have:T::M::(B++[x]).flatMap PB.foot=(T::M::B.flatMap PB.foot)++x.foot:=by simp
  rw[this]at hl2
  rcases mem_append.1 hl2 with q|q
  ·have:=g.lows l q;omega
  ·have:=hn l q
   have h5:=(g.lows T (by simp))
   omega
end
def smallP(p:ap_):Prop:=p.Keys.length≤1048576∧p.Vals.length≤1048576∧p.Kids.length≤1048576
def c38:LC :=
 .q [.o [.bx 1 28 0,.s 2 (.mov (.const (.pointer none)))],.o [.fa 7 0 1,.ln 8 7,.s 9 (.ext .mkP),.s 10 (.build (.agg #[.int .i64 0,.map none]) [(0,1),(1,1)] [(0,.tmp 8),(1,.tmp 9)]),.bx 11 93 10,.m 3 11],.q
 [.o [.fa 12 1 1,.ln 13 12,.ll 14 13,.ki 15 0],.block 0 (.loop (.q [.o [.bb 16 .lss false 15 14],.k 16 .skip (.exit 0),.block 1 (.q [.o [.ia 17 5 13 15,.ld 18 5 17,.s 5 (.alloc 79 z2z),.st 5 5 18],.o [.fa 19 1
 5,.ld 20 4 19,.c1 21 79 20,.s 6 (.alloc 77 z1z),.st 4 6 21],.gops [.m 22 3,.nc 23 22,.fa 24 1 23,.ln 25 24,.fa 26 0 5,.ln 27 26] [(.z (.ext (.updP (.tmp 25) (.tmp 27) (.tmp 6))),[])]]),.o [.bk 28 .add false
 15 1,.m 15 28]]))],.o [.m 29 3,.m 2 29],.ret]
def yr_:LF:=⟨1,30,c38,[.tmp 2]⟩
theorem AO_:aC_ Tryz.prog Tryz.f38 yr_:=az_
def Lim(H:List Row)(F:List Nat)(mx:Nat):Prop:=∀l∈F,∀r,H[l]?=some r→r.es.length≤mx
theorem ek_(root:Int)(sl:List ad_)(hlen:sl.length≤1048576)(hsm:∀s∈sl,smallP s.Page)(hid:(sl.map ad_.Id).Nodup)(h:List Row)(K:AV→List Row→Prop)
 (hK:∀H' T M B ents ck,bu_ h H'→Pg H' T M root B ents ck h.length→B.map PB.slot=sl→Lim H' (T::M::B.flatMap PB.foot) 1048576→K (.ptr T 1 0 0) H'):callSem Tryz.prog 38 [.agg [.val (.int .i64 root),.list 0 5 (sl.map ad_.cells)]] h K:=by
 refine aO_ mixed Tryz.func38 AO_ (bA_ rfl ?_)
 simp(disch:=omega)only[yr_,c38,go_sem,seval]
 simp(disch:=first|omega|simp only[lzz0_];first|done|omega)only[go_sem,seval,co_]
 refine a4_ (fun n t H=>∃(k:Nat) (B:List PB) (ents:List (Int×Nat×AV)) (ck:Nat),t 3=.ptr (h.length+2) 1 0 0∧t 13=.list 0 5 (sl.map ad_.cells)∧t 14=.val (.int .i64 sl.length)∧t 15=.val (.int .i64 k) ∧
  n=sl.length-k∧k≤sl.length∧bu_ h H∧Pg H (h.length+2) (h.length+1) root B ents ck h.length∧B.map PB.slot=sl.take k∧Lim H ((h.length+2)::(h.length+1)::B.flatMap PB.foot) 1048576) sl.length ?_ ?_
 ·refine⟨0,[],[],0,rfl,rfl,rfl,rfl,rfl,Nat.zero_le _,bu_.app _ _,⟨?_,?_,⟨rfl,by simp,by simp⟩,by simp,by simp,by simp,?_⟩,rfl,?_⟩
  ·rw[getElem?_append_right (by omega)];simp
  ·rw[getElem?_append_right (by omega)];simp
  ·intro l hl
   simp at hl
   simp;omega
  ·intro l hl r hr
   simp only[flatMap_nil,mem_cons,not_mem_nil,or_false]at hl
   rcases hl with rfl|rfl
   ·rw[getElem?_append_right (by omega)]at hr
    simp at hr;rw[←hr];simp
   ·rw[getElem?_append_right (by omega)]at hr
    simp at hr;rw[←hr];simp
 ·rintro J hJ n t H ⟨k,B,ents,ck,t3,t13,t14,t15,rfl,hk,hM,g,hB,hlim⟩
  by_cases hlt:k<sl.length
  ·obtain⟨z1,z2,z3⟩:=hsm _ (getElem_mem hlt)
   simp(disch:=first|omega|simp only[lzz0_];first|done|omega)only[ar_,go_sem,seval,t13,t14,t15,hlt,ad_.cells]
   refine mp_ sl[k].Page z1 z2 z3 _ _ ?_
   intro H1 k1 v1 d1 m1 b1 b2 b3 b4 r1 r2 r3
   have gH:=g.more ((bu_.app _ _).trans m1)
   have gbox:=gH.box
   have gmap:=gH.map
   have o5:=m1.at (i:=H.length) (row:=⟨79,5,[[.val (.int .i64 sl[k].Id),.val (.bool sl[k].Page.Leaf),.list 0 1 (sl[k].Page.Keys.map ak_),.list 0 1 (sl[k].Page.Vals.map ak_),.list 0 1 (sl[k].Page.Kids.map aK_)]]⟩) (ar_ rfl)
   have hH1:=m1.len
   rw[la_,length_singleton]at hH1
   have l0:=(List.getElem?_eq_some_iff.1 gbox).1
   have l1:=(List.getElem?_eq_some_iff.1 gmap).1
   have hnid:sl[k].Id∉B.map PB.id:=by
    have e:B.map PB.id=(sl.map ad_.Id).take k:=by
     have:=congrArg (List.map ad_.Id) hB
     rw[map_map,map_take]at this
     exact this
    rw[e]
    intro hm
    obtain⟨j,hj,hje⟩:=mem_take_iff_getElem.1 hm
    have hj2:j<sl.length:=by simp at hj;omega
    have:=(getElem_inj (xs:=sl.map ad_.Id) (h₀:=by simpa using hj2) (h₁:=by simpa using hlt) hid).1 (by simpa using hje)
    omega
   have hf:cP_ ents sl[k].Id=none:=by
    rw[g.find]
    have:B.find? (fun x=>x.id==sl[k].Id)=none:=by
     rw[find?_eq_none]
     intro x hx e
     exact hnid (mem_map.2 ⟨x,hx,by simpa using e⟩)
    rw[this];rfl
   have e1:=n8_ (ck:=ck) (v:=.ptr H1.length 1 0 0) hf
   have e2:hK_ ents ck sl[k].Id=ck+1:=by simp[hK_,hf]
   simp(disch:=first|omega|simp only[lzz0_];first|done|omega)only[ac_,ar_,go_sem,seval,t3,t15,o5,gbox,gmap,e1,e2,aA_]
   have hlow:=g.lows
   have hkeep:∀(r r':Row) (l:Nat),l<H.length→l≠h.length+1→((H1++[r]).set (h.length+1) r')[l]?=H[l]?:=by
    intro r r' l hl hne
    rw[getElem?_set_ne (Ne.symm hne),getElem?_append_left (by omega),m1.kept l (by simp;omega),getElem?_append_left hl]
   have hget:∀(r r':Row) (l:Nat),H.length≤l→l<H1.length→((H1++[r]).set (h.length+1) r')[l]?=H1[l]?:=by
    intro r r' l hl hl2
    have:=(g.lows (h.length+1) (by simp)).2
    rw[getElem?_set_ne (by omega),getElem?_append_left hl2]
   have hM0:=(g.lows (h.length+1) (by simp)).2
   rw[la_,length_singleton]at b1
   refine⟨sl.length-(k+1),by omega,hJ _ _ _ ⟨k+1,B++[⟨sl[k].Id,sl[k].Page,H1.length,k1,v1,d1⟩],ents++[(sl[k].Id,ck,.ptr H1.length 1 0 0)],ck+1,by simp[upd,t3],by simp[upd,t13],by simp[upd,t14],by simp[upd],rfl,by omega,⟨?_,fun l hl=>?_⟩,
    g.add (x:=⟨sl[k].Id,sl[k].Page,H1.length,k1,v1,d1⟩) (hkeep _ _) (by simp;omega) ?_ ?_ hnid ?_ ?_,?_,?_⟩⟩
   ·have:=hM.len;simp;omega
   ·rw[hkeep _ _ l (by have:=hM.len;omega) (by omega)];exact hM.kept l hl
   ·intro l hl
    simp only[PB.foot,mem_cons,not_mem_nil,or_false]at hl
    simp only[ls_,la_,length_singleton]
    omega
   ·simp[PB.foot];omega
   ·show fZ_ _ H1.length sl[k].Page k1 v1 d1
    refine⟨_,_,_,?_,g7_ ?_,g7_ ?_,g7_ ?_⟩
    ·rw[getElem?_set_ne (by omega),getElem?_append_right (Nat.le_refl _)];simp
    ·rw[hget _ _ _ (by omega) (by omega)];exact r1
    ·rw[hget _ _ _ (by omega) (by omega)];exact r2
    ·rw[hget _ _ _ (by omega) (by omega)];exact r3
   ·rw[getElem?_set_self (by simp;omega)]
   ·rw[map_append,hB,take_succ_eq_append_getElem hlt];rfl
   ·intro l hl r hr
    have hl2:l∈((h.length+2)::(h.length+1)::B.flatMap PB.foot)++PB.foot ⟨sl[k].Id,sl[k].Page,H1.length,k1,v1,d1⟩:=by simpa using hl
    rcases mem_append.1 hl2 with q|q
    ·by_cases hM1:l=h.length+1
     ·subst hM1
      rw[getElem?_set_self (by simp;omega)]at hr
      rw[←Option.some.inj hr];simp
     ·rw[hkeep _ _ l (g.lows l q).2 hM1]at hr
      exact hlim l q r hr
    ·simp only[PB.foot,mem_cons,not_mem_nil,or_false]at q
     rcases q with rfl|rfl|rfl|rfl
     ·rw[getElem?_set_ne (by omega),getElem?_append_right (Nat.le_refl _)]at hr
      simp at hr;rw[←hr];simp
     ·rw[hget _ _ _ (by omega) (by omega),r1]at hr
      rw[←Option.some.inj hr];simpa using z1
     ·rw[hget _ _ _ (by omega) (by omega),r2]at hr
      rw[←Option.some.inj hr];simpa using z2
     ·rw[hget _ _ _ (by omega) (by omega),r3]at hr
      rw[←Option.some.inj hr];simpa using z3
  ·simp(disch:=first|omega|simp only[lzz0_];first|done|omega)only[go_sem,seval,t3,t14,t15,hlt]
   exact hK _ _ _ _ _ _ hM g (by rw[hB,take_of_length_le (by omega)]) hlim
abbrev a9_:=Int→Option ap_
def aa_(sl:List ad_):a9_:=fun id=>(sl.find? fun s=>s.Id==id).map ad_.Page
theorem c4_(B:List PB)(id:Int):aa_ (B.map PB.slot) id=(B.find? fun x=>x.id==id).map PB.pg:=by
 unfold aa_
 rw[find?_map]
 simp only[Option.map_map]
 rfl
def eQ_(p:ap_)(low high:ByteArray):Bool:=p.Keys.any fun key=>aB_ key low||(!decide (high=⟨#[]⟩)&&!aB_ key high)
def loK(p:ap_)(low:ByteArray)(k:Nat):ByteArray:=if 0<k then p.Keys.getD (k-1) ⟨#[]⟩else low
def hiK(p:ap_)(high:ByteArray)(k:Nat):ByteArray:=if k<p.Keys.length then p.Keys.getD k ⟨#[]⟩else high
def bG_(p:ap_):Nat:=if p.Leaf=true then p.Keys.length else p.Kids.length
def c8_(f:Int→ByteArray→ByteArray→List Int→Int→Bool×List Int×Int)(p:ap_)(low high:ByteArray):Nat→List Int→List Int→Int→Bool×List Int×Int
 | _,[],met,dep=>(true,met,dep)
 | k,kid::r,met,dep=>if(f kid (loK p low k) (hiK p high k) met dep).1=true then c8_ f p low high (k+1) r (f kid (loK p low k) (hiK p high k) met dep).2.1 (f kid (loK p low k) (hiK p high k) met dep).2.2 else(false,(f kid (loK p low k) (hiK p high k) met dep).2)
def ca_(st:a9_)(root:Int):Nat→Int→ByteArray→ByteArray→Int→List Int→Int→Bool×List Int×Int
 | 0,_,_,_,_,met,dep=>(false,met,dep)
 | n+1,id,low,high,d,met,dep =>
  match st id with
  | none=>(false,met,dep)
  | some p =>
   if met.contains id=true then(false,met,dep)
   else if eQ_ p low high=true then(false,met++[id],dep)
   else if(!decide (id=root)&&decide ((bG_ p:Int)<3))=true then(false,met++[id],dep)
   else if p.Leaf=true then(decide ((if dep<0 then d else dep)=d),met++[id],if dep<0 then d else dep)
   else c8_ (fun kid lo hi m e=>ca_ st root n kid lo hi (d+1) m e) p low high 0 p.Kids (met++[id]) dep
theorem fR_(st:a9_)(root:Int)(n:Nat)(id:Int)(low high:ByteArray)(d:Int)(met:List Int)(dep:Int):ca_ st root (n+1) id low high d met dep=match st id with
 | none=>(false,met,dep)
 | some p =>
  if met.contains id=true then(false,met,dep)
  else if eQ_ p low high=true then(false,met++[id],dep)
  else if(!decide (id=root)&&decide ((bG_ p:Int)<3))=true then(false,met++[id],dep)
  else if p.Leaf=true then(decide ((if dep<0 then d else dep)=d),met++[id],if dep<0 then d else dep)
  else c8_ (fun kid lo hi m e=>ca_ st root n kid lo hi (d+1) m e) p low high 0 p.Kids (met++[id]) dep:=rfl
def eB_(st:a9_)(met:List Int):Prop:=met.Nodup∧∀i∈met,(st i).isSome=true
theorem jq_{st:a9_}{met:List Int}{id:Int}{p:ap_}(h:eB_ st met)(hp:st id=some p)(hn:met.contains id=false):eB_ st (met++[id]):=by
 refine⟨?_,fun i hi=>?_⟩
 ·rw[nodup_append]
  refine⟨h.1,by simp,fun a ha b hb e=>?_⟩
  simp only[mem_singleton]at hb
  subst hb e
  simp at hn
  exact hn ha
 ·rcases mem_append.1 hi with q|q
  ·exact h.2 i q
  ·simp only[mem_singleton]at q;subst q;rw[hp];rfl
theorem of_{f:Int→ByteArray→ByteArray→List Int→Int→Bool×List Int×Int}{st:a9_}(p:ap_)(low high:ByteArray)(hf:∀kid lo hi m e,eB_ st m→eB_ st (f kid lo hi m e).2.1∧m.length≤(f kid lo hi m e).2.1.length) :
 ∀(r:List Int) (k:Nat) (met:List Int) (dep:Int),eB_ st met→eB_ st (c8_ f p low high k r met dep).2.1∧met.length≤(c8_ f p low high k r met dep).2.1.length
 | [],k,met,dep,h=>⟨h,Nat.le_refl _⟩
 | kid::r,k,met,dep,h=>by
  obtain⟨h1,h2⟩:=hf kid (loK p low k) (hiK p high k) met dep h
  unfold c8_
  split
  ·obtain⟨h3,h4⟩:=of_ p low high hf r (k+1) _ (f kid (loK p low k) (hiK p high k) met dep).2.2 h1
   exact⟨h3,by omega⟩
  ·exact⟨h1,h2⟩
theorem kh_{st:a9_}{root:Int}:∀(n:Nat) (id:Int) (low high:ByteArray) (d:Int) (met:List Int) (dep:Int),eB_ st met→eB_ st (ca_ st root n id low high d met dep).2.1∧met.length≤(ca_ st root n id low high d met dep).2.1.length
 | 0,_,_,_,_,met,dep,h=>⟨h,Nat.le_refl _⟩
 | n+1,id,low,high,d,met,dep,h=>by
  unfold ca_
  split
  ·exact⟨h,Nat.le_refl _⟩
  ·rename_i p hp
   split
   ·exact⟨h,Nat.le_refl _⟩
   ·rename_i hc
    have hs:=jq_ h hp (by simpa using hc)
    have hl:met.length≤(met++[id]).length:=by simp
    split
    ·exact⟨hs,hl⟩
    ·split
     ·exact⟨hs,hl⟩
     ·split
      ·exact⟨hs,hl⟩
      ·obtain⟨h3,h4⟩:=of_ p low high (fun kid lo hi m e hm=>kh_ n kid lo hi (d+1) m e hm) p.Kids 0 (met++[id]) dep hs
       exact⟨h3,by omega⟩
theorem bH_:∀{a b:List Int},a.Nodup→a ⊆ b→a.length≤b.length
 | [],b,_,_=>Nat.zero_le _
 | x::a,b,h,hs=>by
  have hx:=hs (mem_cons_self)
  obtain⟨h1,h2⟩:=nodup_cons.1 h
  have:a ⊆ b.erase x:=by
   intro y hy
   have hne:y≠x:=fun e=>h1 (e▸hy)
   exact(mem_erase_of_ne hne).2 (hs (mem_cons_of_mem _ hy))
  have h3:=bH_ h2 this
  have h4:=length_erase_of_mem hx
  have h5:0<b.length:=length_pos_of_mem hx
  simp only[lc_]
  omega
theorem kv_{B:List PB}{met:List Int}(h:eB_ (aa_ (B.map PB.slot)) met):met.length≤B.length:=by
 have h1:met ⊆ B.map PB.id:=by
  intro i hi
  have:=h.2 i hi
  rw[c4_]at this
  rw[Option.isSome_map]at this
  obtain⟨x,hx⟩:=Option.isSome_iff_exists.1 this
  have hx2:=find?_some hx
  exact mem_map.2 ⟨x,mem_of_find?_eq_some hx,by simpa using hx2⟩
 have:=bH_ h.1 h1
 simpa using this
abbrev kE_(met:List Int):List (Int×Value):=met.map fun i=>(i,Value.bool true)
theorem te_(met:List Int)(id:Int):((kE_ met).lookup id).getD (.bool false)=.bool (met.contains id):=by
 induction met with
 | nil=>rfl
 | cons a met ih =>
  simp only[kE_,map_cons,List.lookup,contains_cons]at ih⊢
  cases id==a
  ·simpa using ih
  ·rfl
theorem va_(met:List Int)(id:Int)(h:met.contains id=false):ew_ (kE_ met) id (.bool true)=kE_ (met++[id]):=by
 induction met with
 | nil=>rfl
 | cons a met ih =>
  rw[contains_cons,Bool.or_eq_false_iff]at h
  have hne:¬ a=id:=fun e=>by subst e;simp at h
  simp only[kE_,map_cons,cons_append,ew_,if_neg hne]at ih⊢
  rw[ih h.2]
structure Wk(H:List Row)(W T S:Nat)(met:List Int)(dep:Int):Prop where
 box:H[W]?=some ⟨.ty 118,3,[[.ptr T 1 0 0,.mp S,.val (.int .i64 dep)]]⟩
 map:H[S]?=some ⟨.map (kE_ met),0,[]⟩
theorem gI_(xs:List ByteArray)(p:ByteArray→Bool)(g:Nat)(caps:List AV)(hcf:caps.all AV.flat=true)(hx:xs.length≤1048576)(hc:cB_ prog g=true)(hp:∀x∈xs,∀h,PureCall prog g (.val (.string x)::caps) h (.val (.bool (p x))))(h:List Row) :
 PureCall prog 129 [.list 0 1 (xs.map ak_),.fn g [] caps] h (.val (.int .i64 (bR_ p xs 0))):=by
 refine av_ mixed Tryz.func129 tT_ rfl (by simp only[all_cons,all_nil,mU_,px_ _ _ hcf];rfl) ?_ h
 simp(disch:=omega)only[se_,uC_,go_sem,seval]
 refine a4_ (fun n t h=>∃k:Nat,t 0=.list 0 1 (xs.map ak_)∧t 1=.fn g [] caps∧t 6=.list 0 1 (xs.map ak_)∧t 7=.val (.int .i64 xs.length)∧t 8=.val (.int .i64 k)∧n=xs.length-k∧k≤xs.length∧(bR_ p xs 0=bR_ p (xs.drop k) k)) (xs.length) ?_ ?_
 ·exact⟨0,rfl,rfl,rfl,rfl,rfl,rfl,Nat.zero_le _,rfl⟩
 ·rintro J hJ n t h ⟨k,t0,t1,t6,t7,k8,rfl,hk,hS⟩
  by_cases hlt:k<xs.length
  ·skip
   rw[ga_ p xs k hlt]at hS
   simp(disch:=omega)only[t0,t1,t7,k8,hlt,hc,ak_,go_sem,seval]
   repeat' (first
    | exact am_ _ _
    | exact⟨xs.length-(k+1),by omega,hJ _ _ _ ⟨k+1,by simp[upd,t0],by simp[upd,t1],by simp[upd,t6],by simp[upd,t7],by simp[upd],rfl,by omega,by rw[hS];simp[*]⟩⟩
    | (refine aM_ ?_;rw[hS];simp[*];done)
    | (refine aM_ ?_;rw[hS,dl_ _ _ _ (by omega)])
    | simp(disch:=omega)only[k8,go_sem,seval]
    | (refine PureCall.call (hp xs[k] (getElem_mem hlt) _) ?_)
    | (refine PureCall.q (hp xs[k] (getElem_mem hlt) _) ?_)
    | ((first|(apply bz_;assumption)|(apply by_;assumption)|(apply bS_;assumption)|(apply bT_;assumption));intro hb;try simp only[hb])
    | ((first|(apply aT_;assumption)|(apply aR_;assumption)|(apply a6_;assumption)|(apply a7_;assumption));intro hb;try simp only[hb])
    | ((first|(apply mj_;assumption)|(apply lZ_;assumption)|(apply oR_;assumption)|(apply oX_;assumption));intro hb;try simp only[hb])
    | ((first|apply aQ_|apply aZ_|apply at_|apply as_|apply hl_|apply h4_)<;>intro hb<;>(try simp only[hb])<;>(first|have hp:=br_ hb|have hp:=bn_ hb|have hp:=bq_ hb|have hp:=bp_ hb|skip)))
  ·skip
   simp(disch:=omega)only[t7,k8,hlt,go_sem,seval]
   repeat' (first
    | exact am_ _ _
    | (refine aM_ ?_;rw[hS];simp[*];done)
    | (refine aM_ ?_;rw[hS,dl_ _ _ _ (by omega)])
    | simp(disch:=omega)only[t0,t1,t6,t7,k8,go_sem,seval]
    | (refine PureCall.call (hp xs[k] (getElem_mem hlt) _) ?_)
    | (refine PureCall.q (hp xs[k] (getElem_mem hlt) _) ?_)
    | ((first|(apply bz_;assumption)|(apply by_;assumption)|(apply bS_;assumption)|(apply bT_;assumption));intro hb;try simp only[hb])
    | ((first|(apply aT_;assumption)|(apply aR_;assumption)|(apply a6_;assumption)|(apply a7_;assumption));intro hb;try simp only[hb])
    | ((first|(apply mj_;assumption)|(apply lZ_;assumption)|(apply oR_;assumption)|(apply oX_;assumption));intro hb;try simp only[hb])
    | ((first|apply aQ_|apply aZ_|apply at_|apply as_|apply hl_|apply h4_)<;>intro hb<;>(try simp only[hb])<;>(first|have hp:=br_ hb|have hp:=bn_ hb|have hp:=bq_ hb|have hp:=bp_ hb|skip)))
theorem f0_(xs:List ByteArray)(p:ByteArray→Bool)(g:Nat)(caps:List AV)(hcf:caps.all AV.flat=true)(hx:xs.length≤1048576)(hc:cB_ prog g=true)(hp:∀x∈xs,∀h,PureCall prog g (.val (.string x)::caps) h (.val (.bool (p x))))(h:List Row) :
 PureCall prog 77 [.list 0 1 (xs.map ak_),.fn g [] caps] h (.val (.bool (xs.any p))):=by
 refine av_ mixed Tryz.func77 v8_ rfl (by simp only[all_cons,all_nil,mU_,px_ _ _ hcf];rfl) ?_ h
 simp(disch:=omega)only[uo_,c77,go_sem,seval]
 refine PureCall.call (gI_ xs p g caps hcf hx hc hp _) ?_
 simp(disch:=omega)only[go_sem,↓reduceIte]
 exact af_ (ir_ p xs)
def yT_:LC :=
 .q [.o [.f 4],.o [.m 5 0,.ln 6 1,.bb 7 .lss false 5 6,.m 8 7,.gn 9 8 false 2,.g 10 8 false (.bin .neq false (.tmp 9) (.const (.string ⟨#[]⟩))),.gm 11 8 false 10,.gm 12 11 true 0,.gn 13 11 true 2,.g 14 11 true
 (.bin .geq false (.tmp 12) (.tmp 13)),.g 15 8 false (.pick (.tmp 11) (.tmp 14) (.const (.bool false))),.pt 16 8 15,.m 4 16],.ret]
def vZ_:LF:=⟨3,17,yT_,[.tmp 4]⟩
theorem xX_:aC_ prog Tryz.f125 vZ_:=az_
theorem is_(key low high:ByteArray)  (h:List Row):PureCall prog 125 [.val (.string key),.iptr [.val (.string low)],.iptr [.val (.string high)]] h (.val (.bool (aB_ key low||(!decide (high=⟨#[]⟩)&&!aB_ key high)))):=by
 refine av_ mixed Tryz.func125 xX_ rfl rfl ?_ h
 simp(disch:=omega)only[vZ_,yT_,rx_,go_sem,seval]
 repeat' (first
  | exact am_ _ _
  | (refine af_ ?_;first|rfl|(simp only[*,Bool.false_or];done)|(simp[*];done))
  | (refine af_ ?_;simp_all;done)
  | (refine af_ ?_;trace_state;fail)
  | simp(disch:=omega)only[ki_,go_sem,seval]
  | ((first|(apply bz_;assumption)|(apply by_;assumption)|(apply bS_;assumption)|(apply bT_;assumption));intro hb;try simp only[hb])
  | ((first|(apply aT_;assumption)|(apply aR_;assumption)|(apply a6_;assumption)|(apply a7_;assumption));intro hb;try simp only[hb])
  | ((first|apply aQ_|apply aZ_|apply at_|apply as_)<;>intro hb<;>(try simp only[hb])<;>(first|have hp:=br_ hb|have hp:=bn_ hb|have hp:=bq_ hb|have hp:=bp_ hb|skip)))
def c75:LC :=
 .q [.o [.bx 7 9 2,.bx 8 9 3,.f 10],.o [.m 19 0,.nc 20 19,.fa 21 0 20,.ln 22 21,.nc 23 22,.fa 24 1 23,.ln 25 24,.m 26 1,.s 27 (.ext (.lookP true (.tmp 25) (.tmp 26))),.m 18 27,.ex 28 18 0,.ex 29 18 1,.m 11
 28,.m 12 29],.q [.o [.m 30 12,.nt 31 30,.m 32 31,.gm 33 32 false 0,.g 34 32 false (.nilCheck (.tmp 33)),.gf 35 32 false 1 34,.gn 36 32 false 35,.gm 37 32 false 1,.g 38 32 false (.lookup (.bool false) false
 (.tmp 36) (.tmp 37)),.pt 39 32 38],.k 39 (.q [.o [.f 10],.ret]) .skip],.o [.m 40 0,.nc 41 40,.fa 42 1 41,.ln 43 42,.m 44 1,.z (.mapUpd (.tmp 43) (.tmp 44) (.const (.bool true)))],.q [.o [.m 45 11,.nc 46 45,
 .fa 47 1 46,.ln 48 47,.s 49 (.mkFunc 125 [] [.tmp 7,.tmp 8]),.c2 50 77 48 49],.k 50 (.q [.o [.f 10],.ret]) .skip],.o [.m 51 11,.nc 52 51,.fa 53 1 52,.ln 54 53,.ll 55 54,.m 13 55],.q [.o [.m 56 11,.nc 57 56,
 .fa 58 0 57,.ln 59 58,.nt 60 59],.k 60 (.o [.m 61 11,.nc 62 61,.fa 63 3 62,.ln 64 63,.ll 65 64,.m 13 65]) .skip],.q [.o [.m 66 1,.m 67 0,.nc 68 67,.fa 69 0 68,.ln 70 69,.nc 71 70,.fa 72 0 71,.ln 73 72,
 .bb 74 .neq false 66 73,.m 75 74,.gm 76 75 true 13,.g 77 75 true (.bin .lss false (.tmp 76) (.const (.int .i64 3))),.pf 78 75 77],.k 78 (.q [.o [.f 10],.ret]) .skip],.q [.o [.m 79 11,.nc 80 79,.fa 81 0 80,.ln
 82 81],.k 82 (.q [.q [.o [.m 83 0,.nc 84 83,.fa 85 2 84,.ln 86 85,.bk 87 .lss false 86 0],.k 87 (.o [.m 88 0,.m 89 4,.nc 90 88,.fa 91 2 90,.st 1 91 89]) .skip],.o [.m 92 0,.nc 93 92,.fa 94 2 93,.ln 95 94,
 .m 96 4,.bb 97 .eql false 95 96,.m 10 97],.ret]) .skip],.q [.o [.m 98 11,.nc 99 98,.fa 100 3 99,.ln 101 100,.ll 102 101,.ki 103 0],.block 0 (.loop (.q [.o [.bb 104 .lss false 103 102],.k 104 .skip (.exit 0),
 .block 1 (.q [.o [.m 105 103,.ia 106 1 101 103,.ln 107 106,.m 14 105,.m 15 107],.dops [.ln 108 7,.ln 109 8,.m 16 108,.m 17 109],.q [.o [.m 110 14,.bk 111 .gtr false 110 0],.k 111 (.o [.m 112 11,.nc 113 112,
 .fa 114 1 113,.ln 115 114,.m 116 14,.bk 117 .sub false 116 1,.ia 118 1 115 117,.ln 119 118,.m 16 119]) .skip],.q [.o [.m 120 14,.m 121 11,.nc 122 121,.fa 123 1 122,.ln 124 123,.ll 125 124,.bb 126 .lss false
 120 125],.k 126 (.o [.m 127 11,.nc 128 127,.fa 129 1 128,.ln 130 129,.m 131 14,.ia 132 1 130 131,.ln 133 132,.m 17 133]) .skip],.o [.m 134 0,.m 135 15,.m 136 16,.m 137 17,.m 138 4,.bk 139 .add false 138 1,
 .s 140 (.call 75 [.tmp 134,.tmp 135,.tmp 136,.tmp 137,.tmp 139]),.nt 141 140],.k 141 (.q [.o [.f 10],.ret]) .skip]),.o [.bk 142 .add false 103 1,.m 103 142]]))],.o [.t 10],.ret]
def rQ_:LF:=⟨5,143,c75,[.tmp 10]⟩
theorem Av_:aC_ prog Tryz.f75 rQ_:=az_
section
variable {T M W S lo : Nat} {root : Int} {B : List PB} {ents : List (Int × Nat × AV)} {ck : Nat}
set_option maxHeartbeats 2000000 in
theorem jL_(hTW:W∉T::M::B.flatMap PB.foot)(hTS:S∉T::M::B.flatMap PB.foot)(hWS:W≠S)(hB:B.length≤1048576)(hpg:∀x∈B,pageB x.pg=true):∀(n:Nat) (id:Int) (low high:ByteArray) (d:Int) (met:List Int) (dep:Int) (H:List Row) (K:AV→List Row→Prop),B.length+1≤n+met.length→eB_ (aa_ (B.map PB.slot)) met→0≤d→d≤met.length →
 Pg H T M root B ents ck lo→Wk H W T S met dep →
 (∀H',(∀l,l<H.length→l≠W→l≠S→H'[l]?=H[l]?)→H.length≤H'.length→Wk H' W T S (ca_ (aa_ (B.map PB.slot)) root n id low high d met dep).2.1 (ca_ (aa_ (B.map PB.slot)) root n id low high d met dep).2.2→K (.val (.bool (ca_ (aa_ (B.map PB.slot)) root n id low high d met dep).1)) H') →
 callSem prog 75 [.ptr W 1 0 0,.val (.int .i64 id),.val (.string low),.val (.string high),.val (.int .i64 d)] H K
 | 0,_,_,_,_,met,_,_,_,hn,hm,_,_,_,_,_=>by have:=kv_ hm;omega
 | n+1,id,low,high,d,met,dep,H,K,hn,hm,hd0,hd1,g,wk,hK=>by
  refine aO_ mixed Tryz.func75 Av_ (bA_ rfl ?_)
  have hml:=kv_ hm
  have wB:=wk.box
  have wS:=wk.map
  have gT:=g.box
  have gM:=g.map
  have lW:=(List.getElem?_eq_some_iff.1 wB).1
  have lS:=(List.getElem?_eq_some_iff.1 wS).1
  have lT:=(List.getElem?_eq_some_iff.1 gT).1
  have lM:=(List.getElem?_eq_some_iff.1 gM).1
  have hwk:=fR_ (aa_ (B.map PB.slot)) root n id low high d met dep
  rw[c4_]at hwk
  have hfd:=g.find id
  have hlk:=te_ met id
  cases hx:B.find? (fun x=>x.id==id)with
  | none =>
   rw[hx]at hfd hwk
   simp only[Option.map_none]at hfd hwk
   simp(disch:=omega)only[rQ_,c75,go_sem,seval]
   simp(disch:=first|omega|simp only[lzz0_];first|done|omega)only[ac_,go_sem,seval,wB,gT,gM,hfd,Option.getD_none,Option.isSome_none]
   rw[hwk]at hK
   refine hK _ (fun l hl _ _=>getElem?_append_left hl) (by simp) ⟨?_,?_⟩
   ·rw[getElem?_append_left lW];exact wB
   ·rw[getElem?_append_left lS];exact wS
  | some x =>
   rw[hx]at hfd hwk
   simp only[Option.map_some]at hfd hwk
   have hxB:=mem_of_find?_eq_some hx
   have nS:∀l∈x.foot,l<H.length∧S≠l∧W≠l:=fun l hl=>⟨(g.lows l (Pg.mem_foot hxB hl)).2,fun e=>hTS (e▸Pg.mem_foot hxB hl),fun e=>hTW (e▸Pg.mem_foot hxB hl)⟩
   obtain⟨lb,nb,mb⟩:=nS x.b (by simp[PB.foot])
   obtain⟨lk,nk,mk⟩:=nS x.k (by simp[PB.foot])
   obtain⟨lv,nv,mv⟩:=nS x.v (by simp[PB.foot])
   obtain⟨ld,nd,md⟩:=nS x.d (by simp[PB.foot])
   have nT:S≠T∧W≠T:=⟨fun e=>hTS (by simp[e]),fun e=>hTW (by simp[e])⟩
   have nM:S≠M∧W≠M:=⟨fun e=>hTS (by simp[e]),fun e=>hTW (by simp[e])⟩
   obtain⟨nT1,nT2⟩:=nT
   obtain⟨nM1,nM2⟩:=nM
   obtain⟨a1,a2,a3,pb,p1,p2,p3⟩:=g.pgs x hxB
   cases hc:met.contains id with
   | true =>
    rw[hc,if_pos rfl]at hwk
    rw[hc]at hlk
    simp(disch:=omega)only[rQ_,c75,go_sem,seval]
    simp(disch:=first|omega|simp only[lzz0_];first|done|omega)only[ac_,go_sem,seval,wB,wS,gT,gM,hfd,hlk,Option.getD_some,Option.isSome_some]
    rw[hwk]at hK
    refine hK _ (fun l hl _ _=>getElem?_append_left hl) (by simp) ⟨?_,?_⟩
    ·rw[getElem?_append_left lW];exact wB
    ·rw[getElem?_append_left lS];exact wS
   | false =>
    have hms:=va_ met id hc
    rw[hc]at hlk
    rw[hc]at hwk
    simp(disch:=omega)only[rQ_,c75,go_sem,seval]
    simp(disch:=first|omega|simp only[lzz0_];first|done|omega)only[al_,ac_,go_sem,seval,wB,wS,gT,gM,hfd,hlk,hms,pb,Option.getD_some,Option.isSome_some]
    obtain⟨Hs,hHs⟩:∃Hs:List Row,Hs=List.set (H++([⟨.ty 9,1,[[.val (.string low)]]⟩,⟨.ty 9,1,[[.val (.string high)]]⟩]:List Row)) S ⟨.map (kE_ (met++[id])),0,[]⟩:=⟨_,rfl⟩
    rw[←hHs]
    have len:Hs.length=H.length+2:=by rw[hHs];simp
    have kept:∀l,l<H.length→S≠l→Hs[l]?=H[l]?:=fun l h1 h2=>by rw[hHs,getElem?_set_ne h2,getElem?_append_left h1]
    have sS:Hs[S]?=some ⟨.map (kE_ (met++[id])),0,[]⟩:=by rw[hHs,getElem?_set_self (by simp;omega)]
    have s0:Hs[H.length]?=some ⟨.ty 9,1,[[.val (.string low)]]⟩:=by rw[hHs,getElem?_set_ne (by omega),getElem?_append_right (Nat.le_refl _),Nat.sub_self];rfl
    have s1:Hs[H.length+1]?=some ⟨.ty 9,1,[[.val (.string high)]]⟩:=by rw[hHs,getElem?_set_ne (by omega),getElem?_append_right (by omega),Nat.add_sub_cancel_left];rfl
    have gs:Pg Hs T M root B ents ck lo:=g.keep (fun l hl=>kept l (g.lows l hl).2 (fun e=>hTS (e▸hl))) (by omega)
    clear hHs
    have sW:Hs[W]?=some _:=(kept W lW (Ne.symm hWS)).trans wB
    have sT:=gs.box
    have sb:Hs[x.b]?=some _:=(kept x.b lb nb).trans pb
    have q1:=p1.keep (kept x.k lk nk)
    have q2:=p2.keep (kept x.v lv nv)
    have q3:=p3.keep (kept x.d ld nd)
    have hpx:=hpg x hxB
    have hkl:x.pg.Keys.length≤6∧(x.pg.Leaf=false→x.pg.Kids.length=x.pg.Keys.length+1∧x.pg.Kids.length≤6):=by
     unfold pageB at hpx
     cases hlf:x.pg.Leaf
     ·simp only[hlf,Bool.false_eq_true,if_false,ba_,Bool.and_eq_true,decide_eq_true_eq]at hpx
      obtain⟨_,⟨⟨⟨_,_⟩,_⟩,_⟩,_⟩:=hpx
      exact⟨by omega,fun _=>⟨by omega,by omega⟩⟩
     ·simp only[hlf,if_true,Bool.and_eq_true,decide_eq_true_eq]at hpx
      obtain⟨_,⟨⟨_,_⟩,_⟩,_⟩:=hpx
      exact⟨by omega,fun e=>by cases e⟩
    have hcall:PureCall prog 77 [a1,.fn 125 [] [.ptr H.length 1 0 0,.ptr (H.length+1) 1 0 0]] Hs (.val (.bool (eQ_ x.pg low high))):=Go.AW.frozen (fun h=>f0_ x.pg.Keys (fun key=>aB_ key low||(!decide (high=⟨#[]⟩)&&!aB_ key high)) 125 [.iptr [.val (.string low)],.iptr [.val (.string high)]] rfl (by omega) (by kernel_rfl) (fun y _ h=>is_ y low high h) h) (gJ_ (q1.res (g6_ _) 2) (fC_ (n:=4) (yC_ (n:=3) rfl (gJ_ (rr_ (n:=1) s0 rfl (by simp)) (fC_ (rr_ (n:=1) s1 rfl (by simp)))))))
    refine PureCall.call hcall ?_
    clear hcall
    cases hout:eQ_ x.pg low high with
    | true =>
     rw[hout]at hwk
     rw[if_neg (by simp),if_pos rfl]at hwk
     simp(disch:=first|omega|simp only[lzz0_];first|done|omega)only[go_sem,↓reduceIte]
     rw[hwk]at hK
     exact hK _ (fun l h1 h2 h3=>kept l h1 (Ne.symm h3)) (by omega) ⟨sW,sS⟩
    | false =>
    rw[hout]at hwk
    rw[if_neg (by simp),if_neg (by simp)]at hwk
    clear p1 p2 p3 pb wB wS gT gM
    obtain⟨pre1,post1,rfl,e1⟩:=q1
    obtain⟨pre3,post3,rfl,e3⟩:=q3
    have z1:pre1.length+x.pg.Keys.length-pre1.length=x.pg.Keys.length:=by omega
    have z3:pre3.length+x.pg.Kids.length-pre3.length=x.pg.Kids.length:=by omega
    simp(disch:=first|omega|simp only[lzz0_];first|done|omega)only[go_sem,seval,sb,e1,z1]
    cases hlf:x.pg.Leaf with
    | true =>
     have hfl:bG_ x.pg=x.pg.Keys.length:=by simp[bG_,hlf]
     rw[hfl,hlf,if_pos rfl]at hwk
     rw[hlf]at sb
     by_cases hbad:(!decide (id=root)&&decide ((x.pg.Keys.length:Int)<3))=true
     ·rw[if_pos hbad]at hwk
      obtain⟨h1,h2⟩:=Bool.and_eq_true_iff.1 hbad
      rw[Bool.not_eq_true']at h1
      simp(disch:=first|omega|simp only[lzz0_];first|done|omega)only[go_sem,seval,sW,sT,h1,h2]
      rw[hwk]at hK
      exact hK _ (fun l h1 h2 h3=>kept l h1 (Ne.symm h3)) (by omega) ⟨sW,sS⟩
     ·rw[if_neg hbad]at hwk
      have hgood:(decide (id=root)=true∧(id==id)=true)∨(decide (id=root)=false∧decide ((x.pg.Keys.length:Int)<3)=false):=by
       cases h1:decide (id=root)
       ·rw[h1]at hbad;right;exact⟨rfl,by simpa using hbad⟩
       ·left;simp
      cases hdp:decide (dep<0)with
      | true =>
       rw[if_pos (of_decide_eq_true hdp),(by simp:decide (d=d)=true)]at hwk
       rcases hgood with ⟨h1,h2⟩|⟨h1,h2⟩<;>(
        simp(disch:=first|omega|simp only[lzz0_];first|done|omega)only[ao_,go_sem,seval,sb,sW,sT,h1,h2,hdp]
        rw[hwk]at hK
        exact hK _ (fun l h1 h2 h3=>by rw[getElem?_set_ne (Ne.symm h2)];exact kept l h1 (Ne.symm h3)) (by rw[ls_];omega) ⟨getElem?_set_self (by omega),(getElem?_set_ne hWS).trans sS⟩)
      | false =>
       rw[if_neg (of_decide_eq_false hdp)]at hwk
       rcases hgood with ⟨h1,h2⟩|⟨h1,h2⟩<;>(
        simp(disch:=first|omega|simp only[lzz0_];first|done|omega)only[go_sem,seval,sb,sW,sT,h1,h2,hdp]
        rw[hwk]at hK
        exact hK _ (fun l h1 h2 h3=>kept l h1 (Ne.symm h3)) (by omega) ⟨sW,sS⟩)
    | false =>
     have hfl:bG_ x.pg=x.pg.Kids.length:=by simp[bG_,hlf]
     obtain⟨hkd,hkd2⟩:=hkl.2 hlf
     rw[hfl,hlf,if_neg (by simp:¬ (false=true))]at hwk
     rw[hlf]at sb
     by_cases hbad:(!decide (id=root)&&decide ((x.pg.Kids.length:Int)<3))=true
     ·rw[if_pos hbad]at hwk
      obtain⟨h1,h2⟩:=Bool.and_eq_true_iff.1 hbad
      rw[Bool.not_eq_true']at h1
      simp(disch:=first|omega|simp only[lzz0_];first|done|omega)only[go_sem,seval,sb,sW,sT,e3,z3,h1,h2]
      rw[hwk]at hK
      exact hK _ (fun l h1 h2 h3=>kept l h1 (Ne.symm h3)) (by omega) ⟨sW,sS⟩
     ·rw[if_neg hbad]at hwk
      have hgood:(decide (id=root)=true∧(id==id)=true)∨(decide (id=root)=false∧decide ((x.pg.Kids.length:Int)<3)=false):=by
       cases h1:decide (id=root)
       ·rw[h1]at hbad;right;exact⟨rfl,by simpa using hbad⟩
       ·left;simp
      rcases hgood with ⟨h1,h2⟩|⟨h1,h2⟩<;>(
       simp(disch:=first|omega|simp only[lzz0_];first|done|omega)only[go_sem,seval,sb,sW,sT,e3,z3,h1,h2]
       refine a4_ (fun n' t H'=>∃(k:Nat) (met':List Int) (dep':Int),t 0=.ptr W 1 0 0∧t 4=.val (.int .i64 d)∧t 7=.ptr H.length 1 0 0∧t 8=.ptr (H.length+1) 1 0 0∧t 11=.ptr x.b 1 0 0 ∧
        t 101=.sub x.d (pre3.length+(x.pg.Kids.length+post3.length)) pre3.length (pre3.length+x.pg.Kids.length)∧t 102=.val (.int .i64 x.pg.Kids.length)∧t 103=.val (.int .i64 k)∧n'=x.pg.Kids.length-k∧k≤x.pg.Kids.length ∧
        (∀l,l<Hs.length→l≠W→l≠S→H'[l]?=Hs[l]?)∧Hs.length≤H'.length∧Wk H' W T S met' dep'∧eB_ (aa_ (B.map PB.slot)) met'∧met.length+1≤met'.length ∧
        c8_ (fun kid lo hi m e=>ca_ (aa_ (B.map PB.slot)) root n kid lo hi (d+1) m e) x.pg low high 0 x.pg.Kids (met++[id]) dep=c8_ (fun kid lo hi m e=>ca_ (aa_ (B.map PB.slot)) root n kid lo hi (d+1) m e) x.pg low high k (x.pg.Kids.drop k) met' dep') x.pg.Kids.length ?_ ?_
       ·refine⟨0,met++[id],dep,rfl,rfl,rfl,rfl,rfl,(by first|rfl|(simp[upd];done)|trace_state),rfl,rfl,rfl,Nat.zero_le _,fun _ _ _ _=>rfl,Nat.le_refl _,⟨sW,sS⟩,jq_ hm (by rw[c4_,hx];rfl) hc,by simp,rfl⟩
       ·rintro J hJ n' t H' ⟨k,met',dep',t0,t4,t7,t8,t11,t101,t102,t103,rfl,hk,hkp,hlen,wk',hm',hml2,hkk⟩
        have r0:=(hkp H.length (by omega) (by omega) (by omega)).trans s0
        have r1:=(hkp (H.length+1) (by omega) (by omega) (by omega)).trans s1
        have rb:=(hkp x.b (by omega) (Ne.symm mb) (Ne.symm nb)).trans sb
        have ra:=(hkp x.k (by omega) (Ne.symm mk) (Ne.symm nk)).trans e1
        have rd:=(hkp x.d (by omega) (Ne.symm md) (Ne.symm nd)).trans e3
        have rW:=wk'.box
        have rS:=wk'.map
        by_cases hlt:k<x.pg.Kids.length
        ·have c3:=gl_ pre3.length x.pg.Kids.length k hlt
         have g3:(pre3++(x.pg.Kids.map aK_++post3))[pre3.length+k]?=some (aK_ x.pg.Kids[k]):=by rw[dQ_ _ _ _ _ (by simpa using hlt)];simp[hlt]
         have c1:∀j,j<x.pg.Keys.length→(((pre1.length:Nat):Int)+(j:Int)<((pre1.length+x.pg.Keys.length:Nat):Int))=True:=fun j=>gl_ pre1.length x.pg.Keys.length j
         have g1:∀j,j<x.pg.Keys.length→(pre1++(x.pg.Keys.map ak_++post1))[pre1.length+j]?=some (ak_ (x.pg.Keys.getD j ⟨#[]⟩)):=fun j hj=>by rw[dQ_ _ _ _ _ (by simpa using hj)];simp[hj]
         have km:0<k→(k:Int)-1=((k-1:Nat):Int):=fun _=>by omega
         have gs':Pg H' T M root B ents ck lo:=gs.keep (fun l hl=>hkp l (gs.lows l hl).2 (fun e=>hTW (e▸hl)) (fun e=>hTS (e▸hl))) hlen
         have hdd:x.pg.Kids.drop k=x.pg.Kids[k]::x.pg.Kids.drop (k+1):=drop_eq_getElem_cons hlt
         have hml3:=kv_ hm'
         have hgo:∃lo' hi',lo'=loK x.pg low k∧hi'=hiK x.pg high k:=⟨_,_,rfl,rfl⟩
         by_cases hk0:0<k<;>by_cases hk1:k<x.pg.Keys.length<;>(
          simp(disch:=first|omega|simp only[lzz0_];first|done|omega)only[go_sem,seval,t0,t4,t7,t8,t11,t101,t102,t103,hlt,c3,g3,r0,r1,rb,ra,rd,z1,hk0,hk1,km,c1,g1,aA_]
          refine jL_ hTW hTS hWS hB hpg n x.pg.Kids[k] _ _ (d+1) met' dep' H' _ (by omega) hm' (by omega) (by omega) gs' wk' ?_
          intro H2 kp2 len2 wk2
          have hlo:loK x.pg low k=(if 0<k then x.pg.Keys.getD (k-1) (txt [])else low):=rfl
          have hhi:hiK x.pg high k=(if k<x.pg.Keys.length then x.pg.Keys.getD k (txt [])else high):=rfl
          simp only[hk0,hk1,if_true,if_false]at hlo hhi
          rw[hdd,c8_,hlo,hhi]at hkk
          have kp3:∀l,l<Hs.length→l≠W→l≠S→H2[l]?=Hs[l]?:=fun l h1 h2 h3=>(kp2 l (by omega) h2 h3).trans (hkp l h1 h2 h3)
          obtain⟨hm3,hl3⟩:=kh_ (st:=aa_ (B.map PB.slot)) (root:=root) n x.pg.Kids[k] (loK x.pg low k) (hiK x.pg high k) (d+1) met' dep' hm'
          rw[hlo,hhi]at hm3 hl3
          split at hkk
          ·rename_i hr
           simp(disch:=first|omega|simp only[lzz0_];first|done|omega)only[go_sem,seval,t103,hr,aA_]
           exact⟨x.pg.Kids.length-(k+1),by omega,hJ _ _ _ ⟨k+1,_,_,by simp[upd,t0],by simp[upd,t4],by simp[upd,t7],by simp[upd,t8],by simp[upd,t11],by simp[upd,t101],by simp[upd,t102],by simp[upd],rfl,by omega,kp3,by omega,wk2,hm3,by omega,hkk⟩⟩
          ·rename_i hr
           rw[Bool.not_eq_true]at hr
           simp(disch:=first|omega|simp only[lzz0_];first|done|omega)only[go_sem,↓reduceIte,hr]
           rw[hwk,hkk]at hK
           exact hK _ (fun l h1 h2 h3=>(kp3 l (by omega) h2 h3).trans (kept l h1 (Ne.symm h3))) (by omega) wk2)
        ·simp(disch:=omega)only[t102,t103,hlt,go_sem,↓reduceIte]
         rw[hwk,hkk,drop_eq_nil_of_le (by omega)]at hK
         exact hK _ (fun l h1 h2 h3=>(hkp l (by omega) h2 h3).trans (kept l h1 (Ne.symm h3))) (by omega) wk')
end
def hV_:ad_:=⟨0,⟨false,[],[],[]⟩⟩
def fr_(sl:List ad_)(k:Nat):Bool:=ba_ (sl.getD k hV_).Id 1 64&&pageB (sl.getD k hV_).Page&&(decide (k=0)||decide ((sl.getD (k-1) hV_).Id<(sl.getD k hV_).Id))
def cQ_(sl:List ad_):Bool:=(List.range sl.length).all (fr_ sl)
theorem et_{sl:List ad_}{k:Nat}(h:k<sl.length)(hb:fr_ sl k=false):cQ_ sl=false:=by
 rw[cQ_,all_eq_false]
 exact⟨k,by simpa using h,by simp[hb]⟩
theorem ld_{sl:List ad_}(h:∀k,k<sl.length→fr_ sl k=true):cQ_ sl=true:=by
 rw[cQ_,all_eq_true]
 intro k hk;exact h k (by simpa using hk)
theorem n4_{sl:List ad_}(h:cQ_ sl=true){k:Nat}(hk:k<sl.length):fr_ sl k=true:=by
 rw[cQ_,all_eq_true]at h
 exact h k (by simpa using hk)
theorem h0_{sl:List ad_}{k:Nat}(h:k<sl.length):fr_ sl k=(ba_ sl[k].Id 1 64&&pageB sl[k].Page&&(!decide (0<k)||!decide (sl[k-1].Id≥sl[k].Id))):=by
 have e:sl.getD k hV_=sl[k]:=by rw[getD_eq_getElem?_getD,getElem?_eq_getElem h];rfl
 have e2:sl.getD (k-1) hV_=sl[k-1]:=by rw[getD_eq_getElem?_getD,getElem?_eq_getElem (by omega)];rfl
 rw[fr_,e,e2]
 by_cases h0:k=0
 ·subst h0;simp
 ·have h1:0<k:=by omega
  congr 1
  rw[Bool.eq_iff_iff]
  simp[h0,h1]
theorem he_{sl:List ad_}{k:Nat}(hS:∀j,j<k→fr_ sl j=true)(q:fr_ sl k=true):∀j,j<k+1→fr_ sl j=true:=by
 intro j hj
 rcases Nat.lt_or_ge j k with q2|q2
 ·exact hS j q2
 ·have:j=k:=by omega
  subst this;exact q
theorem ix_{sl:List ad_}(h:cQ_ sl=true):∀(j i:Nat) (hi:i<j) (hj:j<sl.length),(sl[i]'(by omega)).Id<sl[j].Id
 | 0,i,hi,hj=>absurd hi (Nat.not_lt_zero _)
 | j+1,i,hi,hj=>by
  have h1:=n4_ h hj
  rw[h0_ hj]at h1
  simp only[Bool.and_eq_true,Bool.or_eq_true,Bool.not_eq_true',decide_eq_false_iff_not,Nat.add_sub_cancel]at h1
  have h2:sl[j].Id<sl[j+1].Id:=by omega
  by_cases hij:i=j
  ·subst hij;exact h2
  ·have:=ix_ h j i (by omega) (by omega)
   omega
theorem f7_{sl:List ad_}(h:cQ_ sl=true){s:ad_}(hs:s∈sl):1≤s.Id∧s.Id≤64∧pageB s.Page=true:=by
 obtain⟨k,hk,rfl⟩:=mem_iff_getElem.1 hs
 have h1:=n4_ h hk
 rw[h0_ hk]at h1
 simp only[Bool.and_eq_true,ba_,decide_eq_true_eq]at h1
 exact⟨h1.1.1.1,h1.1.1.2,h1.1.2⟩
theorem jB_{sl:List ad_}(h:cQ_ sl=true):(sl.map ad_.Id).Nodup:=by
 refine pairwise_iff_getElem.2 fun i j hi hj hij e=>?_
 have:=ix_ h j i hij (by simpa using hj)
 rw[getElem_map,getElem_map]at e
 omega
theorem mH_{sl:List ad_}(h:cQ_ sl=true):sl.length≤64:=by
 have h1:(sl.map ad_.Id) ⊆ (List.range 64).map (fun(k:Nat)=>(k:Int)+1):=by
  intro i hi
  obtain⟨s,hs,rfl⟩:=mem_map.1 hi
  obtain⟨a,b,_⟩:=f7_ h hs
  exact mem_map.2 ⟨(s.Id-1).toNat,by simp;omega,by omega⟩
 have:=bH_ (jB_ h) h1
 simpa using this
def hT_(b:ay_):Bool×List Int×Int:=ca_ (aa_ b.Slots) b.Root (b.Slots.length+1) b.Root ⟨#[]⟩ ⟨#[]⟩ 0 [] (-1)
def c3_(b:ay_):Bool:=cQ_ b.Slots&&((hT_ b).1&&decide (((hT_ b).2.1.length:Int)=b.Slots.length))
def c35:LC :=
 .q [.o [.bx 1 28 0,.f 2],.q [.o [.fa 6 1 1,.ln 7 6,.ll 8 7,.ki 9 0],.block 0 (.loop (.q [.o [.bb 10 .lss false 9 8],.k 10 .skip (.exit 0),.block 1 (.q [.o [.m 11 9,.ia 12 5 7 9,.ld 13 5 12,.s 4 (.alloc 79
 z2z),.m 3 11,.st 5 4 13],.pops [.fa 14 0 4,.ln 15 14] (.s 16 (.call 73 [.tmp 15,.const (.int .i64 1),.const (.int .i64 64)])) [.nt 17 16,.m 18 17,.gf 19 18 false 1 4,.gl 20 18 false 4 19,.gc 21 18 false 74 20,
 .gu 22 18 false 21,.pt 23 18 22,.m 24 23,.gm 25 24 false 3,.g 26 24 false (.bin .gtr false (.tmp 25) (.const (.int .i64 0))),.gm 27 24 false 26,.gf 28 27 true 1 1,.gn 29 27 true 28,.gm 30 27 true 3,.g 31 27 true
 (.bin .sub false (.tmp 30) (.const (.int .i64 1))),.g 32 27 true (.indexAddr 5 (.tmp 29) (.tmp 31)),.gf 33 27 true 0 32,.gn 34 27 true 33,.gf 35 27 true 0 4,.gn 36 27 true 35,.g 37 27 true (.bin .geq false (.tmp
 34) (.tmp 36)),.g 38 24 false (.pick (.tmp 27) (.tmp 37) (.const (.bool false))),.pt 39 24 38],.k 39 (.q [.o [.f 2],.ret]) .skip]),.o [.bk 40 .add false 9 1,.m 9 40]]))],.o [.ld 41 2 1,.c1 42 38 41,.s 43
 (.mkMap),.s 44 (.build (.agg #[.pointer none,.map none,.int .i64 0]) [(0,1),(1,1),(2,1)] [(0,.tmp 42),(1,.tmp 43),(2,.const (.int .i64 (-1)))]),.bx 45 118 44,.m 5 45],.pops [.m 46 5,.fa 47 0 1,.ln 48
 47] (.s 49 (.call 75 [.tmp 46,.tmp 48,.const (.string ⟨#[]⟩),.const (.string ⟨#[]⟩),.const (.int .i64 0)])) [.m 50 49,.gm 51 50 true 5,.g 52 50 true (.nilCheck (.tmp 51)),.gf 53 50 true 1 52,.gn 54 50 true 53,.g
 55 50 true (.ext (.lenM (.tmp 54))),.gf 56 50 true 1 1,.gn 57 50 true 56,.g 58 50 true (.lenSl (.tmp 57)),.g 59 50 true (.bin .eql false (.tmp 55) (.tmp 58)),.pf 60 50 59,.m 2 60],.ret]
def xP_:LF:=⟨1,61,c35,[.tmp 2]⟩
theorem A5_:aC_ Tryz.prog Tryz.f35 xP_:=do_
theorem f3_(b:ay_)(hlen:b.Slots.length≤1048576)(hsm:∀s∈b.Slots,smallP s.Page)(hsz:∀s∈b.Slots,d5_ s.Page.Keys)(h:List Row):PureCall Tryz.prog 35 [.agg (ay_.cells b)] h (.val (.bool (c3_ b))):=by
 refine fun K hk=>jZ_ (R:=fun r=>r=.val (.bool (c3_ b))) rfl ?_ h K (fun r hr=>hr▸hk)
 refine aO_ mixed Tryz.func35 A5_ (bA_ rfl ?_)
 have fin:∀(H:List Row) (v:Bool),v=c3_ b→∃n r,AW.resolve H n (.val (.bool v))=some r∧r=.val (.bool (c3_ b)):=fun H v e=>⟨1,_,rfl,by rw[e]⟩
 simp(disch:=omega)only[xP_,c35,ay_.cells,go_sem,seval]
 refine a4_ (fun n t H=>∃k:Nat,t 1=.ptr 0 1 0 0∧t 7=.list 0 5 (b.Slots.map ad_.cells)∧t 8=.val (.int .i64 b.Slots.length)∧t 9=.val (.int .i64 k)∧H[0]?=some ⟨.ty 28,2,[[.val (.int .i64 b.Root),.list 0 5 (b.Slots.map ad_.cells)]]⟩∧n=b.Slots.length-k∧k≤b.Slots.length∧∀j,j<k→fr_ b.Slots j=true) b.Slots.length ?_ ?_
 ·exact⟨0,rfl,rfl,rfl,rfl,rfl,rfl,Nat.zero_le _,fun j hj=>absurd hj (Nat.not_lt_zero j)⟩
 ·rintro J hJ n t H ⟨k,t1,t7,t8,t9,o0,rfl,hk,hS⟩
  have hH:=(List.getElem?_eq_some_iff.1 o0).1
  by_cases hlt:k<b.Slots.length
  ·have hkv:=h0_ hlt
   have hmem:=getElem_mem hlt
   obtain⟨s1,s2,s3⟩:=hsm _ hmem
   simp(disch:=first|omega|simp only[lzz0_];first|done|omega)only[ar_,go_sem,seval,t7,t8,t9,hlt,ad_.cells]
   refine PureCall.call (cS_ _ _ _ _) ?_
   cases hw:ba_ b.Slots[k].Id 1 64 with
   | false =>
    simp(disch:=first|omega|simp only[lzz0_];first|done|omega)only[go_sem,seval]
    exact fin _ _ (by rw[c3_,et_ hlt (by rw[hkv,hw];rfl)];rfl)
   | true =>
    simp(disch:=first|omega|simp only[lzz0_];first|done|omega)only[ar_,go_sem,seval]
    refine PureCall.q (m4_ b.Slots[k].Page s1 s2 s3 (hsz _ hmem) _) ?_
    cases hp:pageB b.Slots[k].Page with
    | false =>
     simp(disch:=first|omega|simp only[lzz0_];first|done|omega)only[go_sem,seval]
     exact fin _ _ (by rw[c3_,et_ hlt (by rw[hkv,hw,hp];rfl)];rfl)
    | true =>
     by_cases h0:0<k
     ·have km:(k:Int)-1=((k-1:Nat):Int):=by omega
      have hk1:k-1<b.Slots.length:=by omega
      by_cases hr:b.Slots[k].Id≤b.Slots[k-1].Id
      ·simp(disch:=first|omega|simp only[lzz0_];first|done|omega)only[ac_,ar_,go_sem,seval,t1,o0,h0,km,hr,aA_,ad_.cells]
       exact fin _ _ (by rw[c3_,et_ hlt (by rw[hkv,hw,hp,decide_eq_true h0,decide_eq_true (p:=b.Slots[k-1].Id≥b.Slots[k].Id) hr];rfl),Bool.false_and])
      ·simp(disch:=first|omega|simp only[lzz0_];first|done|omega)only[ac_,ar_,go_sem,seval,t1,t9,o0,h0,km,hr,aA_,ad_.cells]
       exact⟨b.Slots.length-(k+1),by omega,hJ _ _ _ ⟨k+1,by simp[upd,t1],by simp[upd,t7],by simp[upd,t8],by simp[upd],(getElem?_append_left hH).trans o0,rfl,by omega,he_ hS (by rw[hkv,hw,hp,decide_eq_false (p:=b.Slots[k-1].Id≥b.Slots[k].Id) hr];simp)⟩⟩
     ·simp(disch:=first|omega|simp only[lzz0_];first|done|omega)only[go_sem,seval,t9,h0,aA_]
      exact⟨b.Slots.length-(k+1),by omega,hJ _ _ _ ⟨k+1,by simp[upd,t1],by simp[upd,t7],by simp[upd,t8],by simp[upd],(getElem?_append_left hH).trans o0,rfl,by omega,he_ hS (by rw[hkv,hw,hp,decide_eq_false h0];rfl)⟩⟩
  ·have hsl:=ld_ fun j hj=>hS j (by omega)
   have hl64:=mH_ hsl
   simp(disch:=first|omega|simp only[lzz0_];first|done|omega)only[go_sem,seval,t1,t8,t9,o0,hlt]
   refine ek_ b.Root b.Slots hlen hsm (jB_ hsl) _ _ ?_
   intro H1 T M B ents ck hmo g hB _
   have o1:=hmo.at o0
   have gT:=g.lows T (by simp)
   have hnone:∀l,H1.length≤l→l∉T::M::B.flatMap PB.foot:=fun l hl hm=>by have:=(g.lows l hm).2;omega
   simp(disch:=first|omega|simp only[lzz0_];first|done|omega)only[ac_,go_sem,seval,t1,o1,co_]
   have hBl:B.length=b.Slots.length:=by rw[←hB,length_map]
   have o2:(H1++[⟨.map [],0,[]⟩,⟨.ty 118,3,[[.ptr T 1 0 0,.mp H1.length,.val (.int .i64 (-1))]]⟩])[0]?=some _:=(getElem?_append_left (List.getElem?_eq_some_iff.1 o1).1).trans o1
   refine jL_ (T:=T) (M:=M) (W:=H1.length+1) (S:=H1.length) (root:=b.Root) (B:=B) (ents:=ents) (ck:=ck) (lo:=H.length) (hnone _ (by omega)) (hnone _ (Nat.le_refl _)) (by omega) (by omega) (fun x hx=>(f7_ hsl (by rw[←hB];exact mem_map_of_mem hx)).2.2) (b.Slots.length+1) b.Root _ _ 0 [] (-1) _ _ (by simp;omega) ⟨nodup_nil,fun i hi=>by cases hi⟩ (Int.le_refl _) (by simp) (g.more (bu_.app _ _)) ⟨?_,?_⟩ ?_
   ·rw[getElem?_append_right (by omega),Nat.add_sub_cancel_left];rfl
   ·rw[getElem?_append_right (by omega),Nat.sub_self];rfl
   intro H2 kp len wk
   rw[hB]at wk⊢
   have hwB:ca_ (aa_ b.Slots) b.Root (b.Slots.length+1) b.Root (txt []) (txt []) 0 [] (-1)=hT_ b:=rfl
   rw[hwB]at wk⊢
   have o3:=(kp 0 (by simp) (by omega) (by omega)).trans o2
   have wb:=wk.box
   have ws:=wk.map
   cases hw:(hT_ b).1 with
   | false =>
    simp(disch:=first|omega|simp only[lzz0_];first|done|omega)only[go_sem,seval]
    exact fin _ _ (by rw[c3_,hw,Bool.false_and,Bool.and_false])
   | true =>
    simp(disch:=first|omega|simp only[lzz0_];first|done|omega)only[go_sem,seval,t1,o3,wb,ws]
    exact fin _ _ (by rw[c3_,hw,hsl,Bool.true_and,Bool.true_and])
theorem pG_{N:Nat}{t:Nat→AV}{h:List Row}{L:Nat}{E:Tag}{s:Nat}(pre post:List AV)(T:TypeId)(sz:Nat)(hL:h[L]?=some ⟨E,s,[pre++AV.val (.slice none 0 0)::post]⟩) :
 g8_ N t h t (h.set L ⟨E,s,[pre++AV.own h.length 0::post]⟩++[⟨.ty T,sz,[]⟩]):=by
 have hlt:=(List.getElem?_eq_some_iff.1 hL).1
 refine kl_ (.ty T) ⟨T,rfl⟩ sz (fun k=>.inl rfl) (by simp) (ar_ (by simp)) (fun l r' hl hr=>?_)
 rw[ac_ (by simpa using hl)]at hr
 by_cases e:L=l
 ·subst e
  rw[ao_ hlt]at hr
  obtain rfl:=Option.some.inj hr
  refine⟨_,hL,rfl,rfl,⟨_,[],rfl,?_,rfl⟩⟩
  have:∀pre:List AV,CvL h.length (pre++AV.val (.slice none 0 0)::post) (pre++AV.own h.length 0::post):=by
   intro pre
   induction pre with
   | nil=>exact⟨_,_,rfl,.inr ⟨rfl,rfl⟩,CvL.refl _ _⟩
   | cons a us ih=>exact⟨a,_,rfl,.inl rfl,ih⟩
  exact this pre
 ·rw[al_ e]at hr
  exact⟨r',hr,rfl,rfl,dW_.refl _ _⟩
def lz_(xs:List Int)(v:Int):Bool:=xs.any fun x=>decide (v=x)
theorem wN_(xs:List Int)(v:Int):lz_ xs v=xs.contains v:=by
 induction xs with
 | nil=>rfl
 | cons a xs ih =>
  rw[lz_,any_cons,contains_cons,←ih]
  rfl
def zD_:LC :=
 .q [.o [.f 4],.q [.o [.ki 5 0],.block 0 (.loop (.q [.q [.o [.m 6 5,.m 7 0,.ll 8 7,.bb 9 .lss false 6 8],.k 9 .skip (.exit 0)],.block 1 (.q [.o [.m 12 0,.m 13 5,.ia 14 1 12 13,.ln 15 14,.m 16 1,.bb 17 .eql
 false 15 16],.k 17 (.q [.o [.t 4],.ret]) .skip]),.o [.m 10 5,.bk 11 .add false 10 1,.m 5 11]]))],.o [.f 4],.ret]
def v9_:LF:=⟨2,18,zD_,[.tmp 4]⟩
theorem zm_:aC_ Tryz.prog Tryz.f106 v9_:=az_
theorem nB_(xs:List Int)(v:Int)(hx:xs.length≤1048576)(h:List Row):PureCall Tryz.prog 106 [.list 0 1 (xs.map aK_),.val (.int .i64 v)] h (.val (.bool (lz_ xs v))):=by
 refine av_ mixed Tryz.func106 zm_ rfl rfl ?_ h
 simp(disch:=omega)only[v9_,zD_,go_sem]
 refine a4_ (fun n t h=>∃k:Nat,t 0=.list 0 1 (xs.map aK_)∧t 1=.val (.int .i64 v)∧t 5=.val (.int .i64 k)∧n=xs.length-k∧k≤xs.length∧(lz_ xs v=lz_ (xs.drop k) v)) (xs.length) ?_ ?_
 ·exact⟨0,rfl,rfl,rfl,rfl,Nat.zero_le _,rfl⟩
 ·rintro J hJ n t h ⟨k,t0,t1,k5,rfl,hk,hS⟩
  by_cases hlt:k<xs.length
  ·skip
   rw[show lz_ (xs.drop k) v=(decide (v=xs[k])||lz_ (xs.drop (k+1)) v)from by rw[drop_eq_getElem_cons hlt];rfl]at hS
   have hsym:decide (v=xs[k])=decide (xs[k]=v):=by simp[eq_comm]
   rw[hsym]at hS
   simp(disch:=omega)only[t0,t1,k5,hlt,aK_,go_sem,seval]
   repeat' (first
    | exact am_ _ _
    | exact⟨xs.length-(k+1),by omega,hJ _ _ _ ⟨k+1,by simp[upd,t0],by simp[upd,t1],by simp[upd],rfl,by omega,by rw[hS];simp[*]⟩⟩
    | (refine af_ ?_;rw[hS];simp[*];done)
    | (refine af_ ?_;rw[hS,drop_eq_nil_of_le (by omega)];rfl)
    | simp(disch:=omega)only[k5,go_sem,seval]
    | ((first|(apply aT_;assumption)|(apply aR_;assumption)|(apply a6_;assumption)|(apply a7_;assumption));intro hb;try simp only[hb])
    | ((first|apply at_|apply as_)<;>intro hb<;>(try simp only[hb])<;>(first|have hp:=br_ hb|have hp:=bn_ hb|have hp:=bq_ hb|have hp:=bp_ hb|skip)))
  ·skip
   simp(disch:=omega)only[t0,k5,hlt,go_sem,seval]
   repeat' (first
    | exact am_ _ _
    | (refine af_ ?_;rw[hS];simp[*];done)
    | (refine af_ ?_;rw[hS,drop_eq_nil_of_le (by omega)];rfl)
    | simp(disch:=omega)only[t0,t1,k5,go_sem,seval]
    | ((first|(apply aT_;assumption)|(apply aR_;assumption)|(apply a6_;assumption)|(apply a7_;assumption));intro hb;try simp only[hb])
    | ((first|apply at_|apply as_)<;>intro hb<;>(try simp only[hb])<;>(first|have hp:=br_ hb|have hp:=bn_ hb|have hp:=bq_ hb|have hp:=bp_ hb|skip)))
def atI(sl:List ad_)(id:Int):Int:=bR_ (fun s=>decide (s.Id=id)) sl 0
def yZ_:LC :=
 .q [.o [.bx 2 28 0,.ki 4 0],.q [.o [.ki 5 0],.block 0 (.loop (.q [.q [.o [.m 6 5,.fa 7 1 2,.ln 8 7,.ll 9 8,.bb 10 .lss false 6 9],.k 10 .skip (.exit 0)],.block 1 (.q [.o [.fa 13 1 2,.ln 14 13,.m 15 5,.ia 16 5
 14 15,.fa 17 0 16,.ln 18 17,.m 19 1,.bb 20 .eql false 18 19],.k 20 (.q [.o [.m 21 5,.m 4 21],.ret]) .skip]),.o [.m 11 5,.bk 12 .add false 11 1,.m 5 12]]))],.o [.s 4 (.mov (.const (.int .i64 (-1))))],.ret]
def wB_:LF:=⟨2,22,yZ_,[.tmp 4]⟩
theorem zR_:aC_ Tryz.prog Tryz.f105 wB_:=az_
theorem oL_(b:ay_)(id:Int)(hx:b.Slots.length≤1048576)(h:List Row):PureCall Tryz.prog 105 [.agg (ay_.cells b),.val (.int .i64 id)] h (.val (.int .i64 (atI b.Slots id))):=by
 refine av_ mixed Tryz.func105 zR_ rfl rfl ?_ h
 simp(disch:=omega)only[wB_,yZ_,ay_.cells,go_sem,seval]
 refine a4_ (fun n t h=>∃k:Nat,t 2=.ptr 0 1 0 0∧t 1=.val (.int .i64 id)∧t 5=.val (.int .i64 k)∧h[0]?=some ⟨28,2,[[.val (.int .i64 b.Root),.list 0 5 (b.Slots.map ad_.cells)]]⟩∧n=b.Slots.length-k∧k≤b.Slots.length∧(atI b.Slots id=bR_ (fun s=>decide (s.Id=id)) (b.Slots.drop k) k)) (b.Slots.length) ?_ ?_
 ·exact⟨0,rfl,rfl,rfl,rfl,rfl,Nat.zero_le _,rfl⟩
 ·rintro J hJ n t h ⟨k,t2,t1,k5,o0,rfl,hk,hS⟩
  have p0:∀l,(h++l)[0]?=some ⟨28,2,[[.val (.int .i64 b.Root),.list 0 5 (b.Slots.map ad_.cells)]]⟩:=fun l=>nv_ o0
  by_cases hlt:k<b.Slots.length
  ·skip
   rw[ga_ _ _ k hlt]at hS
   simp(disch:=omega)only[t2,t1,k5,o0,hlt,ad_.cells,go_sem,seval]
   repeat' (first
    | exact am_ _ _
    | exact⟨b.Slots.length-(k+1),by omega,hJ _ _ _ ⟨k+1,by simp[upd,t2],by simp[upd,t1],by simp[upd],by first|exact o0|exact p0 _,rfl,by omega,by rw[hS];simp[*]⟩⟩
    | (refine aM_ ?_;rw[hS];simp[*];done)
    | (refine aM_ ?_;rw[hS,dl_ _ _ _ (by omega)])
    | simp(disch:=omega)only[k5,go_sem,seval]
    | ((first|(apply aT_;assumption)|(apply aR_;assumption)|(apply a6_;assumption)|(apply a7_;assumption));intro hb;try simp only[hb])
    | ((first|apply at_|apply as_)<;>intro hb<;>(try simp only[hb])<;>(first|have hp:=br_ hb|have hp:=bn_ hb|have hp:=bq_ hb|have hp:=bp_ hb|skip)))
  ·skip
   simp(disch:=omega)only[t2,k5,o0,hlt,go_sem,seval]
   repeat' (first
    | exact am_ _ _
    | (refine aM_ ?_;rw[hS];simp[*];done)
    | (refine aM_ ?_;rw[hS,dl_ _ _ _ (by omega)])
    | simp(disch:=omega)only[t2,t1,k5,o0,p0,go_sem,seval]
    | ((first|(apply aT_;assumption)|(apply aR_;assumption)|(apply a6_;assumption)|(apply a7_;assumption));intro hb;try simp only[hb])
    | ((first|apply at_|apply as_)<;>intro hb<;>(try simp only[hb])<;>(first|have hp:=br_ hb|have hp:=bn_ hb|have hp:=bq_ hb|have hp:=bp_ hb|skip)))
theorem vn_{sl:List ad_}{id:Int}{p:ap_}(h:aa_ sl id=some p):∃k,∃hk:k<sl.length,atI sl id=(k:Int)∧sl[k].Page=p∧sl[k].Id=id:=by
 unfold aa_ at h
 unfold atI
 rcases gW_ (fun s:ad_=>decide (s.Id=id)) sl 0 with ⟨h1,h2⟩|⟨i,hi,h1,h2,h3⟩
 ·exfalso
  rw[find?_eq_none.2 (fun x hx e=>by have:=h2 x hx;simp at this e;exact this e)]at h
  cases h
 ·refine⟨i,hi,by simpa using h1,?_,by simpa using h2⟩
  have hf:sl.find? (fun s=>s.Id==id)=some sl[i]:=by
   rw[find?_eq_some_iff_getElem]
   refine⟨by simpa using h2,i,hi,rfl,fun j hj=>?_⟩
   have:=h3 j hj
   simpa using this
  rw[hf]at h
  simpa using h
theorem t0_{sl:List ad_}{id:Int}(h:aa_ sl id=none):atI sl id = -1:=by
 unfold aa_ at h
 unfold atI
 rcases gW_ (fun s:ad_=>decide (s.Id=id)) sl 0 with ⟨h1,h2⟩|⟨i,hi,h1,h2,h3⟩
 ·exact h1
 ·exfalso
  simp only[Option.map_eq_none_iff,find?_eq_none]at h
  have:=h _ (getElem_mem hi)
  simp at this h2
  exact this h2
theorem tG_{p:ap_}(hr:cF_ p.Keys=true)(low high:ByteArray):eQ_ p low high=(decide (0<p.Keys.length)&&(aB_ (p.Keys.getD 0 ⟨#[]⟩) low||(!decide (high=⟨#[]⟩)&&!aB_ (p.Keys.getD (p.Keys.length-1) ⟨#[]⟩) high))):=by
 unfold eQ_
 by_cases h0:0<p.Keys.length
 ·have e0:p.Keys.getD 0 ⟨#[]⟩=p.Keys[0]:=by simp[h0]
  have e1:p.Keys.getD (p.Keys.length-1) ⟨#[]⟩=p.Keys[p.Keys.length-1]:=by
   rw[getD_eq_getElem?_getD,getElem?_eq_getElem (by omega)];rfl
  rw[e0,e1,decide_eq_true h0,Bool.true_and,Bool.eq_iff_iff,any_eq_true]
  constructor
  ·rintro⟨x,hx,h1⟩
   obtain⟨j,hj,rfl⟩:=mem_iff_getElem.1 hx
   rw[Bool.or_eq_true]at h1⊢
   rcases h1 with h1|h1
   ·left
    by_cases hj0:j=0
    ·subst hj0;exact h1
    ·exact b6_ (ha_ hr 0 j hj (by omega)) h1
   ·right
    rw[Bool.and_eq_true,Bool.not_eq_true']at h1⊢
    refine⟨h1.1,?_⟩
    by_cases hj0:j=p.Keys.length-1
    ·subst hj0;exact h1.2
    ·rw[Bool.not_eq_true']
     have h3:=ha_ hr j (p.Keys.length-1) (by omega) (by omega)
     cases h4:aB_ p.Keys[p.Keys.length-1] high
     ·rfl
     ·rw[b6_ h3 h4]at h1;simp at h1
  ·intro h1
   rw[Bool.or_eq_true]at h1
   rcases h1 with h1|h1
   ·exact⟨_,getElem_mem h0,by rw[h1];rfl⟩
   ·exact⟨_,getElem_mem (by omega:p.Keys.length-1<p.Keys.length),by rw[h1,Bool.or_true]⟩
 ·have:p.Keys=[]:=eq_nil_of_length_eq_zero (by omega)
  rw[this];rfl
structure Wd(H:List Row)(W R:Nat)(b:ay_)(met:List Int)(dep:Int):Prop where
 box:H[W]?=some ⟨.ty 88,4,[[.val (.int .i64 b.Root),.list 0 5 (b.Slots.map ad_.cells),.own R met.length,.val (.int .i64 (dep+1))]]⟩
 row:H[R]?=some ⟨.ty 2,1,met.map aK_⟩
theorem hp_{sl:List ad_}{met:List Int}(h:eB_ (aa_ sl) met):met.length≤sl.length:=by
 have h1:met ⊆ sl.map ad_.Id:=by
  intro i hi
  have:=h.2 i hi
  unfold aa_ at this
  rw[Option.isSome_map]at this
  obtain⟨x,hx⟩:=Option.isSome_iff_exists.1 this
  have hx2:=find?_some hx
  exact mem_map.2 ⟨x,mem_of_find?_eq_some hx,by simpa using hx2⟩
 have:=bH_ h.1 h1
 simpa using this
theorem nJ_{f:Int→ByteArray→ByteArray→List Int→Int→Bool×List Int×Int}(Q:List Int→Int→Prop)(p:ap_)(low high:ByteArray)(hf:∀kid lo hi m e,Q m e→Q (f kid lo hi m e).2.1 (f kid lo hi m e).2.2) :
 ∀(r:List Int) (k:Nat) (met:List Int) (dep:Int),Q met dep→Q (c8_ f p low high k r met dep).2.1 (c8_ f p low high k r met dep).2.2
 | [],k,met,dep,h=>h
 | kid::r,k,met,dep,h=>by
  have h1:=hf kid (loK p low k) (hiK p high k) met dep h
  unfold c8_
  split
  ·exact nJ_ Q p low high hf r (k+1) _ _ h1
  ·exact h1
theorem jU_{st:a9_}{root:Int}(Q:List Int→Int→Prop)(h1:∀met dep id,Q met dep→Q (met++[id]) dep)(h2:∀met dep d,0≤d→Q met dep→Q met (if dep<0 then d else dep)):∀(n:Nat) (id:Int) (low high:ByteArray) (d:Int) (met:List Int) (dep:Int),0≤d→Q met dep→Q (ca_ st root n id low high d met dep).2.1 (ca_ st root n id low high d met dep).2.2
 | 0,_,_,_,_,met,dep,_,h=>h
 | n+1,id,low,high,d,met,dep,hd,h=>by
  unfold ca_
  split
  ·exact h
  ·split
   ·exact h
   ·split
    ·exact h1 _ _ _ h
    ·split
     ·exact h1 _ _ _ h
     ·split
      ·exact h2 _ _ _ hd (h1 _ _ _ h)
      ·rename_i p _ _ _ _ _
       exact nJ_ Q p low high (fun kid lo hi m e hm=>jU_ Q h1 h2 n kid lo hi (d+1) m e (by omega) hm) p.Kids 0 (met++[id]) dep (h1 _ _ _ h)
theorem sI_{st:a9_}{root:Int}(n:Nat)(id:Int)(low high:ByteArray)(d:Int)(met:List Int)(dep:Int)(hd:0≤d)(h : -1≤dep) : -1≤(ca_ st root n id low high d met dep).2.2 :=
 jU_ (fun _ dep => -1≤dep) (fun _ _ _ h=>h) (fun _ _ _ hd h=>by show -1≤(if _<0 then _ else _:Int);split<;>omega) n id low high d met dep hd h
theorem tW_{st:a9_}{root x:Int}(n:Nat)(id:Int)(low high:ByteArray)(d:Int)(met:List Int)(dep:Int)(h:x∈met)(hd:0≤d:=by omega):x∈(ca_ st root n id low high d met dep).2.1 :=
 jU_ (fun met _=>x∈met) (fun _ _ _ h=>mem_append_left _ h) (fun _ _ _ _ h=>h) n id low high d met dep hd h
def c59:LC :=
 .q [.o [.f 10],.o [.m 17 0,.nc 18 17,.fa 19 0 18,.ld 20 2 19,.m 21 1,.c2 22 105 20 21,.m 11 22],.q [.o [.m 23 11,.bk 24 .lss false 23 0,.m 25 24,.gm 26 25 false 0,.g 27 25 false (.nilCheck (.tmp 26)),.gf 28
 25 false 2 27,.gn 29 25 false 28,.gm 30 25 false 1,.g 31 25 false (.call 106 [.tmp 29,.tmp 30]),.pt 32 25 31,.m 33 32,.gm 34 33 false 2,.g 35 33 false (.bin .gtr false (.tmp 34) (.const (.int .i64 64))),.pt 36
 33 35],.k 36 (.q [.o [.f 10],.ret]) .skip],.o [.m 37 0,.m 38 0,.nc 39 38,.fa 40 2 39,.ln 41 40,.m 42 1,.s 43 (.buildSlice 2 1 (.int .i64 0) 1 [(0,.tmp 42)]),.ap 44 2 1 8 41 43,.nc 45 37,.fa 46 2 45,.st 1 46
 44],.o [.m 47 0,.nc 48 47,.fa 49 0 48,.fa 50 1 49,.ln 51 50,.m 52 11,.ia 53 5 51 52,.fa 54 1 53,.ld 55 4 54,.s 12 (.alloc 77 z1z),.st 4 12 55],.q [.o [.fa 56 1 12,.ln 57 56,.ll 58 57,.m 13 58],.o [.m 59
 13,.bk 60 .gtr false 59 0,.m 61 60,.gf 62 61 true 1 12,.gn 63 61 true 62,.g 64 61 true (.indexAddr 1 (.tmp 63) (.const (.int .i64 0))),.gn 65 61 true 64,.gm 66 61 true 3,.g 67 61 true (.bin .lss false (.tmp 65)
 (.tmp 66)),.gm 68 61 true 67,.gm 69 68 false 4,.g 70 68 false (.bin .neq false (.tmp 69) (.const (.string ⟨#[]⟩))),.gm 71 68 false 70,.gf 72 71 true 1 12,.gn 73 71 true 72,.gm 74 71 true 13,.g 75 71 true (.bin
 .sub false (.tmp 74) (.const (.int .i64 1))),.g 76 71 true (.indexAddr 1 (.tmp 73) (.tmp 75)),.gn 77 71 true 76,.gm 78 71 true 4,.g 79 71 true (.bin .geq false (.tmp 77) (.tmp 78)),.g 80 68 false (.pick (.tmp 71)
 (.tmp 79) (.const (.bool false))),.g 81 61 true (.pick (.tmp 68) (.const (.bool true)) (.tmp 80)),.pf 82 61 81],.k 82 (.q [.o [.f 10],.ret]) .skip],.q [.o [.fa 83 0 12,.ln 84 83],.k 84 (.q [.q [.o [.m 85 0,.nc 86
 85,.fa 87 3 86,.ln 88 87,.bk 89 .eql false 88 0],.k 89 (.o [.m 90 0,.m 91 2,.nc 92 90,.fa 93 3 92,.st 1 93 91]) .skip],.o [.m 94 0,.nc 95 94,.fa 96 3 95,.ln 97 96,.m 98 2,.bb 99 .eql false 97 98,.m 100 99,
 .gm 101 100 true 2,.g 102 100 true (.bin .eql false (.tmp 101) (.const (.int .i64 1))),.gm 103 100 true 102,.gf 104 103 false 1 12,.gn 105 103 false 104,.g 106 103 false (.lenSl (.tmp 105)),.g 107 103 false (.bin
 .geq false (.tmp 106) (.const (.int .i64 3))),.g 108 100 true (.pick (.tmp 103) (.const (.bool true)) (.tmp 107)),.pf 109 100 108,.m 10 109],.ret]) .skip],.q [.o [.m 110 2,.bk 111 .gtr false 110 1,.m 112 111,.gf
 113 112 true 3 12,.gn 114 112 true 113,.g 115 112 true (.lenSl (.tmp 114)),.g 116 112 true (.bin .lss false (.tmp 115) (.const (.int .i64 3))),.pf 117 112 116],.k 117 (.q [.o [.f 10],.ret]) .skip],.q [.o [.ki 14
 0],.block 0 (.loop (.q [.q [.o [.m 118 14,.fa 119 3 12,.ln 120 119,.ll 121 120,.bb 122 .lss false 118 121],.k 122 .skip (.exit 0)],.block 1 (.q [.o [.m 125 3,.m 126 4,.m 15 125,.m 16 126],.q [.o [.m 127 14,
 .bk 128 .gtr false 127 0],.k 128 (.o [.fa 129 1 12,.ln 130 129,.m 131 14,.bk 132 .sub false 131 1,.ia 133 1 130 132,.ln 134 133,.m 15 134]) .skip],.q [.o [.m 135 14,.fa 136 1 12,.ln 137 136,.ll 138 137,.bb
 139 .lss false 135 138],.k 139 (.o [.fa 140 1 12,.ln 141 140,.m 142 14,.ia 143 1 141 142,.ln 144 143,.m 16 144]) .skip],.o [.m 145 0,.fa 146 3 12,.ln 147 146,.m 148 14,.ia 149 1 147 148,.ln 150 149,.m 151 2,
 .bk 152 .add false 151 1,.m 153 15,.m 154 16,.s 155 (.call 59 [.tmp 145,.tmp 150,.tmp 152,.tmp 153,.tmp 154]),.nt 156 155],.k 156 (.q [.o [.f 10],.ret]) .skip]),.o [.m 123 14,.bk 124 .add false 123 1,.m 14
 124]]))],.o [.t 10],.ret]
def ue_:LF:=⟨5,157,c59,[.tmp 10]⟩
theorem AY_:aC_ Tryz.prog Tryz.f59 ue_:=az_
section
variable {W R : Nat} {b : ay_}
set_option maxHeartbeats 2000000 in
theorem jD_(hWR:W≠R)(hB:b.Slots.length≤64)(hpg:∀s∈b.Slots,pageB s.Page=true):∀(n:Nat) (id:Int) (low high:ByteArray) (d:Int) (met:List Int) (dep:Int) (H:List Row) (K:AV→List Row→Prop),b.Slots.length+1≤n+met.length→eB_ (aa_ b.Slots) met→0≤d→d≤met.length→(d=0→id=b.Root)→(0<d→b.Root∈met) → -1≤dep →
 Wd H W R b met dep →
 (∀H',((ca_ (aa_ b.Slots) b.Root n id low high d met dep).1=true→(∀l,l<H.length→l≠W→l≠R→H'[l]?=H[l]?)∧H.length≤H'.length∧Wd H' W R b (ca_ (aa_ b.Slots) b.Root n id low high d met dep).2.1 (ca_ (aa_ b.Slots) b.Root n id low high d met dep).2.2)→K (.val (.bool (ca_ (aa_ b.Slots) b.Root n id low high d met dep).1)) H') →
 callSem Tryz.prog 59 [.ptr W 1 0 0,.val (.int .i64 id),.val (.int .i64 (d+1)),.val (.string low),.val (.string high)] H K
 | 0,_,_,_,_,met,_,_,_,hn,hm,_,_,_,_,_,_,_=>by have:=hp_ hm;omega
 | n+1,id,low,high,d,met,dep,H,K,hn,hm,hd0,hd1,hr0,hr1,hp0,wk,hK=>by
  refine aO_ mixed Tryz.func59 AY_ (bA_ rfl ?_)
  have hml:=hp_ hm
  have wB:=wk.box
  have wR:=wk.row
  have lW:=(List.getElem?_eq_some_iff.1 wB).1
  have lR:=(List.getElem?_eq_some_iff.1 wR).1
  have hwk:=fR_ (aa_ b.Slots) b.Root n id low high d met dep
  have hat:=oL_ b id (by omega)
  unfold ay_.cells at hat
  have hhas:∀h',h'[R]?=some ⟨.ty 2,1,met.map aK_⟩→PureCall Tryz.prog 106 [.own R met.length,.val (.int .i64 id)] h' (.val (.bool (met.contains id))):=fun h' e=>by
   have e2:[AV.own R met.length,.val (.int .i64 id)].mapM (AW.resolve h' 5)=some [.list 0 1 (met.map aK_),.val (.int .i64 id)]:=gJ_ (gk_ (n:=3) (r:=⟨.ty 2,1,met.map aK_⟩) e (by simp) (l8_ _)) (fC_ rfl)
   have:=Go.AW.frozen (fun h=>nB_ met id (by omega) h) e2
   rwa [wN_]at this
  cases hx:aa_ b.Slots id with
  | none =>
   rw[hx]at hwk
   rw[t0_ hx]at hat
   simp(disch:=omega)only[ue_,c59,wB,lc_,ln_,go_sem,seval]
   refine PureCall.call (hat _) ?_
   simp(disch:=first|omega|simp only[lzz0_];first|done|omega)only[go_sem,seval]
   rw[hwk]at hK
   exact hK _ (fun e=>absurd e Bool.false_ne_true)
  | some p =>
   rw[hx]at hwk
   obtain⟨i,hi,a1,a2,a3⟩:=vn_ hx
   rw[a1]at hat
   have hpp:pageB p=true:=a2▸hpg _ (getElem_mem hi)
   have hkeys:cF_ p.Keys=true:=by unfold pageB at hpp;rw[Bool.and_eq_true]at hpp;exact hpp.1
   have hoe:=tG_ hkeys low high
   have i0:decide ((i:Int)<0)=false:=by rw[decide_eq_false_iff_not];omega
   simp(disch:=omega)only[ue_,c59,wB,lc_,ln_,go_sem,seval]
   refine PureCall.call (hat _) ?_
   simp(disch:=first|omega|simp only[lzz0_];first|done|omega)only[go_sem,seval,wB,i0]
   refine PureCall.call (hhas _ wR) ?_
   cases hc:met.contains id with
   | true =>
    simp only[hc,if_true]at hwk
    simp(disch:=first|omega|simp only[lzz0_];first|done|omega)only[go_sem,seval]
    rw[hwk]at hK
    exact hK _ (fun e=>absurd e Bool.false_ne_true)
   | false =>
    have hm1:=jq_ hm hx hc
    have hml1:=hp_ hm1
    rw[la_,length_singleton]at hml1
    have i1:decide (d+1>64)=false:=by rw[decide_eq_false_iff_not];omega
    simp only[hc,Bool.false_eq_true,if_false]at hwk
    subst a2
    simp(disch:=first|omega|simp only[lzz0_];first|done|omega)only[al_,ao_,ac_,ar_,ls_,go_sem,seval,wB,wR,i1,ad_.cells]
    refine⟨by omega,by omega,?_⟩
    obtain⟨Hs,hHs⟩:∃Hs:List Row,Hs=List.set (List.set (H++([⟨.ty 2,1,[[.val (.int .i64 id)]]⟩]:List Row)) R ⟨.ty 2,1,met.map aK_++[[.val (.int .i64 id)]]⟩) W ⟨.ty 88,4,[[.val (.int .i64 b.Root),.list 0 5 (b.Slots.map ad_.cells),.own R (met.length+1),.val (.int .i64 (dep+1))]]⟩:=⟨_,rfl⟩
    rw[←hHs]
    generalize hpe:b.Slots[i].Page=p at *
    obtain⟨G,hG⟩:∃G:List Row,G=List.set (Hs++([⟨.ty 77,4,[[.val (.bool false),.val (.slice none 0 0),.val (.slice none 0 0),.val (.slice none 0 0)]]⟩]:List Row)) (H.length+1) ⟨.ty 77,4,[[.val (.bool p.Leaf),.list 0 1 (p.Keys.map ak_),.list 0 1 (p.Vals.map ak_),.list 0 1 (p.Kids.map aK_)]]⟩:=⟨_,rfl⟩
    rw[←hG]
    have lHs:Hs.length=H.length+1:=by rw[hHs];simp
    have lG:G.length=H.length+2:=by rw[hG,ls_,la_,lHs];rfl
    have hGe:∀l,l<H.length→G[l]?=Hs[l]?:=fun l hl=>by rw[hG,getElem?_set_ne (by omega),getElem?_append_left (by omega)]
    have gP:G[H.length+1]?=some ⟨.ty 77,4,[[.val (.bool p.Leaf),.list 0 1 (p.Keys.map ak_),.list 0 1 (p.Vals.map ak_),.list 0 1 (p.Kids.map aK_)]]⟩:=by rw[hG,getElem?_set_self (by rw[la_,lHs];simp)]
    have gW:G[W]?=some ⟨.ty 88,4,[[.val (.int .i64 b.Root),.list 0 5 (b.Slots.map ad_.cells),.own R (met.length+1),.val (.int .i64 (dep+1))]]⟩:=by rw[hGe W lW,hHs,getElem?_set_self (by simp;omega)]
    have gR:G[R]?=some ⟨.ty 2,1,met.map aK_++[[.val (.int .i64 id)]]⟩:=by rw[hGe R lR,hHs,getElem?_set_ne hWR,getElem?_set_self (by simp;omega)]
    have kept:∀l,l<H.length→l≠W→l≠R→G[l]?=H[l]?:=fun l h1 h2 h3=>by rw[hGe l h1,hHs,getElem?_set_ne (Ne.symm h2),getElem?_set_ne (Ne.symm h3),getElem?_append_left h1]
    clear hG hHs
    have wd1:Wd G W R b (met++[id]) dep:=⟨by rw[gW];simp,by rw[gR];simp⟩
    have hroot:decide (id=b.Root)=decide (d=0):=by
     by_cases h0:d=0
     ·simp[hr0 h0,h0]
     ·have h1:=hr1 (by omega)
      have hne:id≠b.Root:=fun e=>by rw[←e]at h1;simp[h1]at hc
      simp[hne,h0]
    have hkl:p.Keys.length≤6∧(p.Leaf=false→p.Kids.length=p.Keys.length+1∧p.Kids.length≤6∧2≤p.Kids.length):=by
     unfold pageB at hpp
     cases hlf:p.Leaf
     ·simp only[hlf,Bool.false_eq_true,if_false,ba_,Bool.and_eq_true,decide_eq_true_eq]at hpp
      obtain⟨_,⟨⟨⟨_,_⟩,_⟩,_⟩,_⟩:=hpp
      exact⟨by omega,fun _=>⟨by omega,by omega,by omega⟩⟩
     ·simp only[hlf,if_true,Bool.and_eq_true,decide_eq_true_eq]at hpp
      obtain⟨_,⟨⟨_,_⟩,_⟩,_⟩:=hpp
      exact⟨by omega,fun e=>by cases e⟩
    rw[hoe]at hwk
    have q1:decide (dep+1=0)=decide (dep<0):=by rw[decide_eq_decide];omega
    have q2:decide (dep+1=d+1)=decide (dep=d):=by rw[decide_eq_decide];omega
    have q3:decide (d+1=1)=decide (d=0):=by rw[decide_eq_decide];omega
    have q4:decide ((p.Keys.length:Int)≥3)=!decide ((p.Keys.length:Int)<3):=by rw[←decide_not,decide_eq_decide];omega
    have q5:decide (d+1>1)=!decide (d=0):=by rw[←decide_not,decide_eq_decide];omega
    by_cases hbad:(decide (0<p.Keys.length)&&(aB_ (p.Keys.getD 0 ⟨#[]⟩) low||(!decide (high=⟨#[]⟩)&&!aB_ (p.Keys.getD (p.Keys.length-1) ⟨#[]⟩) high)))=true
    ·rw[if_pos hbad]at hwk
     rw[Bool.and_eq_true,decide_eq_true_eq]at hbad
     obtain⟨n0,hbad⟩:=hbad
     have n1:p.Keys.length-1<p.Keys.length:=by omega
     have km:(p.Keys.length:Int)-1=((p.Keys.length-1:Nat):Int):=by omega
     have e0:p.Keys.getD 0 ⟨#[]⟩=p.Keys[0]:=by simp[n0]
     have e1:p.Keys.getD (p.Keys.length-1) ⟨#[]⟩=p.Keys[p.Keys.length-1]:=by rw[getD_eq_getElem?_getD,getElem?_eq_getElem n1];rfl
     rw[e0,e1]at hbad
     cases h1:aB_ p.Keys[0] low with
     | true =>
      simp(disch:=first|omega|simp only[lzz0_];first|done|omega)only[go_sem,seval,gP,n0,h1]
      rw[hwk]at hK
      exact hK _ (fun e=>absurd e Bool.false_ne_true)
     | false =>
      rw[h1,Bool.false_or,Bool.and_eq_true,Bool.not_eq_true',Bool.not_eq_true']at hbad
      obtain⟨h2,h3⟩:=hbad
      have h2':decide (high=txt [])=false:=h2
      simp(disch:=first|omega|simp only[lzz0_];first|done|omega)only[go_sem,seval,gP,n0,km,h1,h2',h3,aA_,ki_]
      rw[hwk]at hK
      exact hK _ (fun e=>absurd e Bool.false_ne_true)
    ·rw[if_neg hbad]at hwk
     have hgood:(decide (0<p.Keys.length)=false)∨(∃n0:0<p.Keys.length,aB_ p.Keys[0] low=false∧decide (high=txt [])=true)∨(∃n0:0<p.Keys.length,aB_ p.Keys[0] low=false∧decide (high=txt [])=false∧aB_ (p.Keys[p.Keys.length-1]'(by omega)) high=true):=by
      by_cases n0:0<p.Keys.length
      ·right
       have e0:p.Keys.getD 0 ⟨#[]⟩=p.Keys[0]:=by simp[n0]
       have e1:p.Keys.getD (p.Keys.length-1) ⟨#[]⟩=p.Keys[p.Keys.length-1]:=by rw[getD_eq_getElem?_getD,getElem?_eq_getElem (by omega)];rfl
       rw[e0,e1,decide_eq_true n0,Bool.true_and,Bool.not_eq_true,Bool.or_eq_false_iff,Bool.and_eq_false_iff,Bool.not_eq_false',Bool.not_eq_false']at hbad
       obtain⟨h1,h2⟩:=hbad
       cases h3:decide (high=⟨#[]⟩)
       ·rw[h3]at h2
        rcases h2 with h2|h2
        ·cases h2
        ·exact .inr ⟨n0,h1,h3,h2⟩
       ·exact .inl ⟨n0,h1,h3⟩
      ·left;exact decide_eq_false n0
     have n1:0<p.Keys.length→p.Keys.length-1<p.Keys.length:=fun _=>by omega
     have km:0<p.Keys.length→(p.Keys.length:Int)-1=((p.Keys.length-1:Nat):Int):=fun _=>by omega
     rcases hgood with h0|⟨n0,h1,h2⟩|⟨n0,h1,h2,h3⟩
     all_goals first
      | (simp(disch:=first|omega|simp only[lzz0_];first|done|omega)only[go_sem,seval,gP,n0,km,h1,h2,h3,aA_,ki_])
      | (simp(disch:=first|omega|simp only[lzz0_];first|done|omega)only[go_sem,seval,gP,n0,h1,h2])
      | (simp(disch:=first|omega|simp only[lzz0_];first|done|omega)only[go_sem,seval,gP,h0])
     all_goals(
      cases hlf:p.Leaf with
      | true =>
       have hfl:bG_ p=p.Keys.length:=by simp[bG_,hlf]
       rw[hfl,hlf,if_pos rfl,hroot]at hwk
       rw[hlf]at gP
       have hif:(if dep<0 then d else dep)=(bif decide (dep<0)then d else dep):=by by_cases e:dep<0<;>simp[e]
       have hv:decide ((bif decide (dep<0)then d else dep)=d)=(decide (dep<0)||decide (dep=d)):=by by_cases e:dep<0<;>simp[e]
       rw[hif,hv]at hwk
       cases hdp:decide (dep<0)<;>cases hde:decide (dep=d)<;>cases hd:decide (d=0)<;>cases hf:decide ((p.Keys.length:Int)<3)<;>(
        simp only[hdp,hde,hd,hf,if_true,if_false,cond_true,cond_false,Bool.not_true,Bool.not_false,Bool.true_or,Bool.false_or,Bool.or_false,Bool.and_false,Bool.and_true,Bool.false_eq_true]at hwk
        simp(disch:=first|omega|simp only[lzz0_];first|done|omega)only[al_,ao_,go_sem,seval,gP,gW,q1,q2,q3,q4,hdp,hde,hd,hf]
        rw[hwk]at hK
        first
         | exact hK _ (fun e=>absurd e Bool.false_ne_true)
         | exact hK _ (fun _=>⟨fun l h1 h2 h3=>kept l h1 h2 h3,by omega,wd1⟩)
         | exact hK _ (fun _=>⟨fun l h1 h2 h3=>(getElem?_set_ne (Ne.symm h2)).trans (kept l h1 h2 h3),by rw[ls_];omega,⟨(getElem?_set_self (by omega)).trans (by rw[la_];rfl),(getElem?_set_ne hWR).trans (by rw[gR,map_append];rfl)⟩⟩)
         | trace_state)
      | false =>
       have hfl:bG_ p=p.Kids.length:=by simp[bG_,hlf]
       obtain⟨hkd,hkd2,hkd3⟩:=hkl.2 hlf
       rw[hfl,hlf,if_neg (by simp:¬ (false=true)),hroot]at hwk
       rw[hlf]at gP
       have hpass:(decide (d=0)=false∧decide ((p.Kids.length:Int)<3)=true)∨(decide (d=0)=true∧(id==id)=true)∨(decide (d=0)=false∧decide ((p.Kids.length:Int)<3)=false):=by
        cases decide (d=0)<;>cases decide ((p.Kids.length:Int)<3)<;>simp
       rcases hpass with ⟨hd,hf⟩|hpass
       ·rw[hd,hf,if_pos (by rfl:(!false&&true)=true)]at hwk
        simp(disch:=first|omega|simp only[lzz0_];first|done|omega)only[go_sem,seval,gP,q5,hd,hf]
        rw[hwk]at hK
        exact hK _ (fun e=>absurd e Bool.false_ne_true)
       ·have hgo:(!decide (d=0)&&decide ((p.Kids.length:Int)<3))=false:=by rcases hpass with ⟨hd,hf⟩|⟨hd,hf⟩<;>simp only[hd,hf,Bool.not_true,Bool.not_false,Bool.false_and,Bool.true_and]
        rw[hgo,if_neg (by simp:¬ (false=true))]at hwk
        rcases hpass with ⟨hd,hf⟩|⟨hd,hf⟩<;>(
         simp(disch:=first|omega|simp only[lzz0_];first|done|omega)only[go_sem,seval,gP,q5,hd,hf]
         refine a4_ (fun n' t H'=>∃(k:Nat) (met':List Int) (dep':Int),t 0=.ptr W 1 0 0∧t 2=.val (.int .i64 (d+1))∧t 3=.val (.string low)∧t 4=.val (.string high)∧t 12=.ptr (H.length+1) 1 0 0∧t 14=.val (.int .i64 k)∧n'=p.Kids.length-k∧k≤p.Kids.length ∧
          (∀l,l<G.length→l≠W→l≠R→H'[l]?=G[l]?)∧G.length≤H'.length∧Wd H' W R b met' dep'∧eB_ (aa_ b.Slots) met'∧met.length+1≤met'.length∧b.Root∈met' ∧ -1≤dep' ∧
          c8_ (fun kid lo hi m e=>ca_ (aa_ b.Slots) b.Root n kid lo hi (d+1) m e) p low high 0 p.Kids (met++[id]) dep=c8_ (fun kid lo hi m e=>ca_ (aa_ b.Slots) b.Root n kid lo hi (d+1) m e) p low high k (p.Kids.drop k) met' dep') p.Kids.length ?_ ?_
         ·have hrm:b.Root∈met++[id]:=by
           by_cases h0:d=0
           ·rw[hr0 h0];simp
           ·exact mem_append_left _ (hr1 (by omega))
          exact⟨0,met++[id],dep,rfl,rfl,rfl,rfl,rfl,rfl,rfl,Nat.zero_le _,fun _ _ _ _=>rfl,Nat.le_refl _,wd1,hm1,by simp,hrm,hp0,rfl⟩
         ·rintro J hJ n' t H' ⟨k,met',dep',t0,t2,t3,t4,t12,t14,rfl,hk,hkp,hlen,wk',hm',hml2,hrm,hp0',hkk⟩
          have rP:=(hkp (H.length+1) (by omega) (by omega) (by omega)).trans gP
          by_cases hlt:k<p.Kids.length
          ·have gd:∀(j:Nat) (hj:j<p.Keys.length),p.Keys.getD j (txt [])=p.Keys[j]:=fun j hj=>by rw[getD_eq_getElem?_getD,getElem?_eq_getElem hj];rfl
           have kn:0<k→k-1<p.Keys.length:=fun _=>by omega
           have km1:0<k→(k:Int)-1=((k-1:Nat):Int):=fun _=>by omega
           have hdd:p.Kids.drop k=p.Kids[k]::p.Kids.drop (k+1):=drop_eq_getElem_cons hlt
           have hml3:=hp_ hm'
           by_cases hk0:0<k<;>by_cases hk1:k<p.Keys.length<;>first|(exfalso;omega)|(
            simp(disch:=first|omega|simp only[lzz0_];first|done|omega)only[go_sem,seval,t0,t2,t3,t4,t12,t14,hlt,rP,hk0,hk1,km1,aK_,ak_,aA_]
            refine jD_ hWR hB hpg n p.Kids[k] _ _ (d+1) met' dep' H' _ (by omega) hm' (by omega) (by omega) (fun e=>by omega) (fun _=>hrm) hp0' wk' ?_
            intro H2 hres
            have hlo:loK p low k=(if 0<k then p.Keys.getD (k-1) (txt [])else low):=rfl
            have hhi:hiK p high k=(if k<p.Keys.length then p.Keys.getD k (txt [])else high):=rfl
            simp(disch:=omega)only[hk0,hk1,if_true,if_false,gd]at hlo hhi
            rw[hdd,c8_,hlo,hhi]at hkk
            obtain⟨hm3,hl3⟩:=kh_ (st:=aa_ b.Slots) (root:=b.Root) n p.Kids[k] (loK p low k) (hiK p high k) (d+1) met' dep' hm'
            rw[hlo,hhi]at hm3 hl3
            have hdp:=sI_ (st:=aa_ b.Slots) (root:=b.Root) n p.Kids[k] (loK p low k) (hiK p high k) (d+1) met' dep' (by omega) hp0'
            have hmm:=tW_ (st:=aa_ b.Slots) (root:=b.Root) n p.Kids[k] (loK p low k) (hiK p high k) (d+1) met' dep' hrm
            rw[hlo,hhi]at hdp hmm
            split at hkk
            ·rename_i hr
             obtain⟨kp2,len2,wk2⟩:=hres hr
             have kp3:∀l,l<G.length→l≠W→l≠R→H2[l]?=G[l]?:=fun l h1 h2 h3=>(kp2 l (by omega) h2 h3).trans (hkp l h1 h2 h3)
             simp(disch:=first|omega|simp only[lzz0_];first|done|omega)only[go_sem,seval,t14,hr,aA_]
             exact⟨p.Kids.length-(k+1),by omega,hJ _ _ _ ⟨k+1,_,_,by simp[upd,t0],by simp[upd,t2],by simp[upd,t3],by simp[upd,t4],by simp[upd,t12],by simp[upd],rfl,by omega,kp3,by omega,wk2,hm3,by omega,hmm,hdp,hkk⟩⟩
            ·rename_i hr
             rw[Bool.not_eq_true]at hr
             simp(disch:=first|omega|simp only[lzz0_];first|done|omega)only[go_sem,↓reduceIte,hr]
             rw[hwk,hkk]at hK
             exact hK _ (fun e=>absurd e Bool.false_ne_true))
          ·simp(disch:=first|omega|simp only[lzz0_];first|done|omega)only[go_sem,seval,t12,t14,hlt,rP]
           rw[hwk,hkk,drop_eq_nil_of_le (by omega)]at hK
           exact hK _ (fun _=>⟨fun l h1 h2 h3=>(hkp l (by omega) h2 h3).trans (kept l h1 h2 h3),by omega,wk'⟩)))
end
theorem callSem.ghost{P:Program}{f:FuncId}{args:List AV}{h h':List Row}{K:AV→List Row→Prop}{t:Nat→AV}(hg:g8_ 0 t h t h')(c:callSem P f args h' K):callSem P f args h K:=by
 intro S w vals hm hgl hr
 obtain⟨S',st,hm',_⟩:=hg S w { tmps:=#[],defers:=[] } hm ⟨rfl,rfl,fun k hk=>absurd hk (Nat.not_lt_zero k)⟩
 refine(c S' w vals hm' (cn_.up st.le hgl) (ae_.up st.le _ _ hr)).mono ?_
 rintro e w' ⟨v,av,S2,h2,rfl,st2,hm2,rv,hk⟩
 exact⟨v,av,S2,h2,rfl,st.trans st2,hm2,rv,hk⟩
def c27:LC :=
 .q [.o [.bx 1 28 0,.f 2],.q [.o [.fa 6 1 1,.ln 7 6,.ll 8 7,.bk 9 .gtr false 8 64],.k 9 (.q [.o [.f 2],.ret]) .skip],.q [.o [.ki 3 0],.block 0 (.loop (.q [.q [.o [.m 10 3,.fa 11 1 1,.ln 12 11,.ll 13 12,.bb 14
 .lss false 10 13],.k 14 .skip (.exit 0)],.block 1 (.q [.o [.fa 17 1 1,.ln 18 17,.m 19 3,.ia 20 5 18 19,.ld 21 5 20,.s 4 (.alloc 79 z2z),.st 5 4 21],.pops [.fa 22 0 4,.ln 23 22] (.s 24 (.call 57 [.tmp 23,.const
 (.int .i64 1),.const (.int .i64 64)])) [.nt 25 24,.m 26 25,.gm 27 26 false 3,.g 28 26 false (.bin .gtr false (.tmp 27) (.const (.int .i64 0))),.gm 29 26 false 28,.gf 30 29 true 1 1,.gn 31 29 true 30,.gm 32 29
 true 3,.g 33 29 true (.bin .sub false (.tmp 32) (.const (.int .i64 1))),.g 34 29 true (.indexAddr 5 (.tmp 31) (.tmp 33)),.gf 35 29 true 0 34,.gn 36 29 true 35,.gf 37 29 true 0 4,.gn 38 29 true 37,.g 39 29 true
 (.bin .geq false (.tmp 36) (.tmp 38)),.g 40 26 false (.pick (.tmp 29) (.tmp 39) (.const (.bool false))),.pt 41 26 40,.m 42 41,.gf 43 42 false 1 4,.gl 44 42 false 4 43,.gc 45 42 false 58 44,.gu 46 42 false 45,.pt
 47 42 46],.k 47 (.q [.o [.f 2],.ret]) .skip]),.o [.m 15 3,.bk 16 .add false 15 1,.m 3 16]]))],.o [.ld 48 2 1,.s 49 (.build (.agg #[.int .i64 0,.slice none 0 0,.slice none 0 0,.int .i64 0]) [(0,2),(2,1),(3,
 1)] [(0,.tmp 48)]),.bx 50 88 49,.m 5 50],.pops [.m 51 5,.fa 52 0 1,.ln 53 52] (.s 54 (.call 59 [.tmp 51,.tmp 53,.const (.int .i64 1),.const (.string ⟨#[]⟩),.const (.string ⟨#[]⟩)])) [.m 55 54,.gm 56 55 true 5,
 .g 57 55 true (.nilCheck (.tmp 56)),.gf 58 55 true 2 57,.gn 59 55 true 58,.g 60 55 true (.lenSl (.tmp 59)),.gf 61 55 true 1 1,.gn 62 55 true 61,.g 63 55 true (.lenSl (.tmp 62)),.g 64 55 true (.bin .eql false (.tmp
 60) (.tmp 63)),.pf 65 55 64,.m 2 65],.ret]
def x8_:LF:=⟨1,66,c27,[.tmp 2]⟩
theorem AJ_:aC_ Tryz.prog Tryz.f27 x8_:=do_
theorem ml_(b:ay_)(hlen:b.Slots.length≤1048576)(hsm:∀s∈b.Slots,smallP s.Page)(hsz:∀s∈b.Slots,d5_ s.Page.Keys)(h:List Row):PureCall Tryz.prog 27 [.agg (ay_.cells b)] h (.val (.bool (c3_ b))):=by
 refine fun K hk=>jZ_ (R:=fun r=>r=.val (.bool (c3_ b))) rfl ?_ h K (fun r hr=>hr▸hk)
 refine aO_ mixed Tryz.func27 AJ_ (bA_ rfl ?_)
 have fin:∀(H:List Row) (v:Bool),v=c3_ b→∃n r,AW.resolve H n (.val (.bool v))=some r∧r=.val (.bool (c3_ b)):=fun H v e=>⟨1,_,rfl,by rw[e]⟩
 simp(disch:=omega)only[x8_,c27,ay_.cells,go_sem,seval]
 by_cases hl:64<b.Slots.length
 ·have hl':((b.Slots.length:Int)>64)=True:=eq_true (by omega)
  simp(disch:=first|omega|simp only[lzz0_];first|done|omega)only[go_sem,↓reduceIte,hl']
  refine fin _ _ ?_
  have:cQ_ b.Slots=false:=by
   cases e:cQ_ b.Slots
   ·rfl
   ·have:=mH_ e;omega
  rw[c3_,this];rfl
 have hl':((b.Slots.length:Int)>64)=False:=eq_false (by omega)
 simp(disch:=first|omega|simp only[lzz0_];first|done|omega)only[go_sem,hl']
 refine a4_ (fun n t H=>∃k:Nat,t 1=.ptr 0 1 0 0∧t 3=.val (.int .i64 k)∧H[0]?=some ⟨.ty 28,2,[[.val (.int .i64 b.Root),.list 0 5 (b.Slots.map ad_.cells)]]⟩∧n=b.Slots.length-k∧k≤b.Slots.length∧∀j,j<k→fr_ b.Slots j=true) b.Slots.length ?_ ?_
 ·exact⟨0,rfl,rfl,rfl,rfl,Nat.zero_le _,fun j hj=>absurd hj (Nat.not_lt_zero j)⟩
 ·rintro J hJ n t H ⟨k,t1,t3,o0,rfl,hk,hS⟩
  have hH:=(List.getElem?_eq_some_iff.1 o0).1
  by_cases hlt:k<b.Slots.length
  ·have hkv:=h0_ hlt
   have hmem:=getElem_mem hlt
   obtain⟨s1,s2,s3⟩:=hsm _ hmem
   simp(disch:=first|omega|simp only[lzz0_];first|done|omega)only[ar_,go_sem,seval,t1,t3,o0,hlt,ad_.cells]
   refine PureCall.call (cK_ _ _ _ _) ?_
   cases hw:ba_ b.Slots[k].Id 1 64 with
   | false =>
    simp(disch:=first|omega|simp only[lzz0_];first|done|omega)only[go_sem,seval]
    exact fin _ _ (by rw[c3_,et_ hlt (by rw[hkv,hw];rfl)];rfl)
   | true =>
    by_cases h0:0<k
    ·have km:(k:Int)-1=((k-1:Nat):Int):=by omega
     have hk1:k-1<b.Slots.length:=by omega
     by_cases hr:b.Slots[k].Id≤b.Slots[k-1].Id
     ·simp(disch:=first|omega|simp only[lzz0_];first|done|omega)only[ac_,ar_,go_sem,seval,t1,t3,o0,h0,km,hr,aA_,ad_.cells]
      exact fin _ _ (by rw[c3_,et_ hlt (by rw[hkv,hw,decide_eq_true h0,decide_eq_true (p:=b.Slots[k-1].Id≥b.Slots[k].Id) hr];simp),Bool.false_and])
     ·simp(disch:=first|omega|simp only[lzz0_];first|done|omega)only[ac_,ar_,go_sem,seval,t1,t3,o0,h0,km,hr,aA_,ad_.cells]
      refine PureCall.q (iG_ b.Slots[k].Page s1 s2 s3 (hsz _ hmem) _) ?_
      cases hp:pageB b.Slots[k].Page with
      | false =>
       simp(disch:=first|omega|simp only[lzz0_];first|done|omega)only[go_sem,↓reduceIte]
       exact fin _ _ (by rw[c3_,et_ hlt (by rw[hkv,hw,hp];rfl)];rfl)
      | true =>
       simp(disch:=first|omega|simp only[lzz0_];first|done|omega)only[go_sem,seval,t3,aA_]
       exact⟨b.Slots.length-(k+1),by omega,hJ _ _ _ ⟨k+1,by simp[upd,t1],by simp[upd],(getElem?_append_left hH).trans o0,rfl,by omega,he_ hS (by rw[hkv,hw,hp,decide_eq_false (p:=b.Slots[k-1].Id≥b.Slots[k].Id) hr];simp)⟩⟩
    ·simp(disch:=first|omega|simp only[lzz0_];first|done|omega)only[ar_,go_sem,seval,t3,h0]
     refine PureCall.q (iG_ b.Slots[k].Page s1 s2 s3 (hsz _ hmem) _) ?_
     cases hp:pageB b.Slots[k].Page with
     | false =>
      simp(disch:=first|omega|simp only[lzz0_];first|done|omega)only[go_sem,↓reduceIte]
      exact fin _ _ (by rw[c3_,et_ hlt (by rw[hkv,hw,hp];rfl)];rfl)
     | true =>
      simp(disch:=first|omega|simp only[lzz0_];first|done|omega)only[go_sem,seval,t3,aA_]
      exact⟨b.Slots.length-(k+1),by omega,hJ _ _ _ ⟨k+1,by simp[upd,t1],by simp[upd],(getElem?_append_left hH).trans o0,rfl,by omega,he_ hS (by rw[hkv,hw,hp,decide_eq_false h0];rfl)⟩⟩
  ·have hsl:=ld_ fun j hj=>hS j (by omega)
   simp(disch:=first|omega|simp only[lzz0_];first|done|omega)only[ac_,go_sem,seval,t1,t3,o0,hlt,co_,Option.map_some]
   have hbox:(H++[⟨.ty 88,4,[[.val (.int .i64 b.Root),.list 0 5 (b.Slots.map ad_.cells),.val (.slice none 0 0),.val (.int .i64 0)]]⟩]:List Row)[H.length]?=some ⟨.ty 88,4,[[.val (.int .i64 b.Root),.list 0 5 (b.Slots.map ad_.cells)]++.val (.slice none 0 0)::[.val (.int .i64 0)]]⟩:=by rw[getElem?_append_right (Nat.le_refl _),Nat.sub_self];rfl
   refine callSem.ghost (t:=fun _=>.undef) (pG_ _ _ 2 1 hbox) ?_
   obtain⟨G,hG⟩:∃G:List Row,G=List.set (H++([⟨.ty 88,4,[[.val (.int .i64 b.Root),.list 0 5 (b.Slots.map ad_.cells),.val (.slice none 0 0),.val (.int .i64 0)]]⟩]:List Row)) H.length ⟨.ty 88,4,[[.val (.int .i64 b.Root),.list 0 5 (b.Slots.map ad_.cells)]++.own (H++([⟨.ty 88,4,[[.val (.int .i64 b.Root),.list 0 5 (b.Slots.map ad_.cells),.val (.slice none 0 0),.val (.int .i64 0)]]⟩]:List Row)).length 0::[.val (.int .i64 0)]]⟩++([⟨.ty 2,1,[]⟩]:List Row):=⟨_,rfl⟩
   rw[←hG]
   have lG:G.length=H.length+2:=by rw[hG];simp
   have g0:G[0]?=some ⟨.ty 28,2,[[.val (.int .i64 b.Root),.list 0 5 (b.Slots.map ad_.cells)]]⟩:=by rw[hG,getElem?_append_left (by simp),getElem?_set_ne (by omega),getElem?_append_left hH];exact o0
   have wd:Wd G H.length (H.length+1) b [] (-1):=by
    refine⟨?_,?_⟩
    ·rw[hG,getElem?_append_left (by simp),getElem?_set_self (by simp)];simp
    ·rw[hG,getElem?_append_right (by simp)];simp
   clear hG
   refine jD_ (W:=H.length) (R:=H.length+1) (b:=b) (by omega) (by omega) (fun s hs=>(f7_ hsl hs).2.2) (b.Slots.length+1) b.Root _ _ 0 [] (-1) _ _ (by simp) ⟨nodup_nil,fun i hi=>by cases hi⟩ (Int.le_refl _) (by simp) (fun _=>rfl) (fun e=>by omega) (Int.le_refl _) wd ?_
   intro H2 hres
   have hwB:ca_ (aa_ b.Slots) b.Root (b.Slots.length+1) b.Root (txt []) (txt []) 0 [] (-1)=hT_ b:=rfl
   rw[hwB]at hres⊢
   cases hw:(hT_ b).1 with
   | false =>
    simp(disch:=first|omega|simp only[lzz0_];first|done|omega)only[go_sem,seval]
    exact fin _ _ (by rw[c3_,hw,Bool.false_and,Bool.and_false])
   | true =>
    obtain⟨kp,len,wk⟩:=hres hw
    have o3:=(kp 0 (by omega) (by omega) (by omega)).trans g0
    have wb:=wk.box
    have ws:=wk.row
    simp(disch:=first|omega|simp only[lzz0_];first|done|omega)only[go_sem,seval,t1,o3,wb,ws]
    exact fin _ _ (by rw[c3_,hw,hsl,Bool.true_and,Bool.true_and])
end Go.Proofs.YtlcmlgihlojdmaaGreatDoor
