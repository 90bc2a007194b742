/-
 Contracts of functions. Conditions: as each theorem says.
-/
import Derived.Test.YtlcmlgihlojdmaaGreatDoorFnBC
import Derived.Test.YtlcmlgihlojdmaaGreatDoorAwPart
import Derived.Test.YtlcmlgihlojdmaaGreatDoorAwC
namespace Go.Proofs.YtlcmlgihlojdmaaGreatDoor
open Tryz (prog)
open List
open Go.AW
set_option linter.unusedVariables false
set_option linter.unusedSimpArgs false
set_option maxRecDepth 4000
def wE_:LC :=
 .q [.o [.nl 2],.q [.o [.m 3 0,.s 4 (.isNil false (.tmp 3))],.k 4 (.q [.o [.nl 2],.ghost .ret]) .skip],.o [.s 5 (.buildSlice 9 1 (.string ⟨#[]⟩) 0 []),.m 6 0,.ap 7 9 1 16 5 6,.m 2 7],.ghost .ret]
def tc_:LF:=⟨1,8,wE_,[.tmp 2]⟩
theorem up_:aA_ prog Tryz.f130 tc_:=as_
def wm_:LC :=
 .q [.o [.nl 2],.q [.o [.m 3 0,.s 4 (.isNil false (.tmp 3))],.k 4 (.q [.o [.nl 2],.ghost .ret]) .skip],.o [.s 5 (.buildSlice 2 1 (.int .i64 0) 0 []),.m 6 0,.ap 7 2 1 8 5 6,.m 2 7],.ghost .ret]
def ts_:LF:=⟨1,8,wm_,[.tmp 2]⟩
theorem uZ_:aA_ prog Tryz.f131 ts_:=as_
theorem f5_(xs:List ByteArray)(hx:xs.length≤1048576)(h:List Row)(K:AV→List Row→Prop)(hk:K (.sub h.length xs.length 0 xs.length) (h++[⟨.ty 9,1,xs.map ag_⟩])):callSem prog 130 [.list 0 1 (xs.map ag_)] h K:=by
 refine callSem.weaken (aF_ mixed Tryz.func130 up_ (a9_ rfl ?_))
 have fin:∃av',(∀S x,Rep S (.own h.length xs.length) x→Rep S av' x)∧K av' (h++[⟨.ty 9,1,xs.map ag_⟩]):=⟨_,dY_ _ _,hk⟩
 simp(disch:=omega)only[tc_,wE_,go_sem,seval]
 intro b hb
 cases b
 ·simp(disch:=omega)only[bne_self_eq_false,go_sem,seval]
  refine⟨by omega,by omega,dQ_ xs,?_⟩
  try simp(disch:=omega)only[go_sem,seval]
  refine bB_ _ _ b0_ ?_
  simp(disch:=omega)only[go_sem,↓reduceIte]
  exact fin
 ·have hx0:xs=[]:=by simpa using hb rfl
  subst hx0
  simp(disch:=omega)only[Bool.bne_false,map_nil,go_sem]
  refine bB_ _ _ (iK_ 2 9 1 rfl) ?_
  simp(disch:=omega)only[go_sem,↓reduceIte]
  exact fin
theorem bS_(xs:List ByteArray)(hx:xs.length≤1048576)(h:List Row)(a:AV)(l:Nat)(hp:aP_ h 9 1 a l (xs.map ag_))(K:AV→List Row→Prop)(hk:K (.sub h.length xs.length 0 xs.length) (h++[⟨.ty 9,1,xs.map ag_⟩])):callSem prog 130 [a] h K:=by
 have hlt:=hp.lt
 obtain⟨pre,post,rfl,hrow⟩:=hp
 have hrow2:∀r,(h++[r])[l]?=some ⟨.ty 9,1,pre++(xs.map ag_++post)⟩:=fun r=>(getElem?_append_left hlt).trans hrow
 have hmid:=qH_ pre (xs.map ag_) post xs.length (by simp)
 refine callSem.weaken (aF_ mixed Tryz.func130 up_ (a9_ rfl ?_))
 have fin:∃av',(∀S x,Rep S (.own h.length xs.length) x→Rep S av' x)∧K av' (h++[⟨.ty 9,1,xs.map ag_⟩]):=⟨_,dY_ _ _,hk⟩
 simp(disch:=omega)only[tc_,wE_,hrow,go_sem,seval]
 intro b hb
 cases b
 ·simp(disch:=omega)only[bne_self_eq_false,go_sem,seval]
  simp(disch:=omega)only[hrow2,hmid,fS_,go_sem,↓reduceIte]
  refine⟨by omega,by omega,dQ_ xs,?_⟩
  try simp(disch:=omega)only[go_sem,seval]
  refine bB_ _ _ b0_ ?_
  simp(disch:=omega)only[go_sem,↓reduceIte]
  exact fin
 ·have hx0:xs=[]:=by
   have:=hb rfl
   simpa using this
  subst hx0
  simp(disch:=omega)only[Bool.bne_false,go_sem]
  refine bB_ _ _ (iK_ 2 9 1 rfl) ?_
  simp(disch:=omega)only[go_sem,↓reduceIte]
  exact fin
theorem jv_(xs:List Int)(hx:xs.length≤1048576)(h:List Row)(K:AV→List Row→Prop)(hk:K (.sub h.length xs.length 0 xs.length) (h++[⟨.ty 2,1,xs.map ay_⟩])):callSem prog 131 [.list 0 1 (xs.map ay_)] h K:=by
 refine callSem.weaken (aF_ mixed Tryz.func131 uZ_ (a9_ rfl ?_))
 have fin:∃av',(∀S x,Rep S (.own h.length xs.length) x→Rep S av' x)∧K av' (h++[⟨.ty 2,1,xs.map ay_⟩]):=⟨_,dY_ _ _,hk⟩
 simp(disch:=omega)only[ts_,wm_,go_sem,seval]
 intro b hb
 cases b
 ·simp(disch:=omega)only[bne_self_eq_false,go_sem,seval]
  refine⟨by omega,by omega,dT_ xs,?_⟩
  try simp(disch:=omega)only[go_sem,seval]
  refine bB_ _ _ b0_ ?_
  simp(disch:=omega)only[go_sem,↓reduceIte]
  exact fin
 ·have hx0:xs=[]:=by simpa using hb rfl
  subst hx0
  simp(disch:=omega)only[Bool.bne_false,map_nil,go_sem]
  refine bB_ _ _ (iK_ 2 2 1 rfl) ?_
  simp(disch:=omega)only[go_sem,↓reduceIte]
  exact fin
theorem ey_(xs:List Int)(hx:xs.length≤1048576)(h:List Row)(a:AV)(l:Nat)(hp:aP_ h 2 1 a l (xs.map ay_))(K:AV→List Row→Prop)(hk:K (.sub h.length xs.length 0 xs.length) (h++[⟨.ty 2,1,xs.map ay_⟩])):callSem prog 131 [a] h K:=by
 have hlt:=hp.lt
 obtain⟨pre,post,rfl,hrow⟩:=hp
 have hrow2:∀r,(h++[r])[l]?=some ⟨.ty 2,1,pre++(xs.map ay_++post)⟩:=fun r=>(getElem?_append_left hlt).trans hrow
 have hmid:=qH_ pre (xs.map ay_) post xs.length (by simp)
 refine callSem.weaken (aF_ mixed Tryz.func131 uZ_ (a9_ rfl ?_))
 have fin:∃av',(∀S x,Rep S (.own h.length xs.length) x→Rep S av' x)∧K av' (h++[⟨.ty 2,1,xs.map ay_⟩]):=⟨_,dY_ _ _,hk⟩
 simp(disch:=omega)only[ts_,wm_,hrow,go_sem,seval]
 intro b hb
 cases b
 ·simp(disch:=omega)only[bne_self_eq_false,go_sem,seval]
  simp(disch:=omega)only[hrow2,hmid,fS_,go_sem,↓reduceIte]
  refine⟨by omega,by omega,dT_ xs,?_⟩
  try simp(disch:=omega)only[go_sem,seval]
  refine bB_ _ _ b0_ ?_
  simp(disch:=omega)only[go_sem,↓reduceIte]
  exact fin
 ·have hx0:xs=[]:=by
   have:=hb rfl
   simpa using this
  subst hx0
  simp(disch:=omega)only[Bool.bne_false,go_sem]
  refine bB_ _ _ (iK_ 2 2 1 rfl) ?_
  simp(disch:=omega)only[go_sem,↓reduceIte]
  exact fin
theorem hO_{H:List Row}{E l:Nat}{α:Type}{f:α→List AV}{xs:List α}(h:H[l]?=some ⟨.ty E,1,xs.map f⟩):aP_ H E 1 (.sub l xs.length 0 xs.length) l (xs.map f):=by
 have:=aP_.whole h
 rwa [length_map]at this
structure gw_(H:List Row)(b:Nat)(p:am_)(k v d:Nat):Prop where
 out:∃a1 a2 a3,H[b]?=some ⟨.ty 77,4,[[.val (.bool p.Leaf),a1,a2,a3]]⟩∧aP_ H 9 1 a1 k (p.Keys.map ag_)∧aP_ H 9 1 a2 v (p.Vals.map ag_)∧aP_ H 2 1 a3 d (p.Kids.map ay_)
theorem gw_.keep{H H':List Row}{b k v d:Nat}{p:am_}(g:gw_ H b p k v d)(hb:H'[b]?=H[b]?)(hk:H'[k]?=H[k]?)(hv:H'[v]?=H[v]?)(hd:H'[d]?=H[d]?):gw_ H' b p k v d:=by
 obtain⟨a1,a2,a3,h1,h2,h3,h4⟩:=g
 exact⟨a1,a2,a3,by rw[hb];exact h1,h2.keep hk,h3.keep hv,h4.keep hd⟩
theorem o7_{H:List Row}{p:am_}{k v d:Nat}{a1 a2 a3:AV}(h1:aP_ H 9 1 a1 k (p.Keys.map ag_))(h2:aP_ H 9 1 a2 v (p.Vals.map ag_))(h3:aP_ H 2 1 a3 d (p.Kids.map ay_))(n:Nat):[AV.val (.bool p.Leaf),a1,a2,a3].mapM (AW.resolve H (n+2))=some (am_.cells p):=by
 rw[mapM_cons,mapM_cons,mapM_cons,mapM_cons,h1.res (eE_ _) n,h2.res (eE_ _) n,h3.res (f9_ _) n]
 rfl
theorem v8_{H:List Row}{p:am_}{k v d:Nat}{a1 a2 a3:AV}(h1:aP_ H 9 1 a1 k (p.Keys.map ag_))(h2:aP_ H 9 1 a2 v (p.Vals.map ag_))(h3:aP_ H 2 1 a3 d (p.Kids.map ay_))(n:Nat):AW.resolve H (n+3) (.agg [.val (.bool p.Leaf),a1,a2,a3])=some (.agg (am_.cells p)):=by
 have e:AW.resolve H (n+3) (.agg [.val (.bool p.Leaf),a1,a2,a3])=([AV.val (.bool p.Leaf),a1,a2,a3].mapM (AW.resolve H (n+2))).map .agg:=rfl
 rw[e,o7_ h1 h2 h3];rfl
theorem gw_.res{H:List Row}{b k v d:Nat}{p:am_}(g:gw_ H b p k v d)(n:Nat):AW.resolve H (n+3) (.ptr b 1 0 0)=some (.iptr (am_.cells p)):=by
 obtain⟨a1,a2,a3,h1,h2,h3,h4⟩:=g
 have e:AW.resolve H (n+3) (.ptr b 1 0 0)=match H[b]? with
  | some r=>if r.es.length=1 then(match r.es[0]? with|some e=>if 0<e.length then((e.drop 0).mapM (AW.resolve H (n+2))).map .iptr else none|none=>none)else none
  | none=>none:=rfl
 rw[e,h1]
 simp only[lc_,ln_,Nat.zero_add,if_true,getElem?_cons_zero,drop_zero]
 rw[o7_ h2 h3 h4];rfl
def xq_(h:List Row)(p:am_)(K:AV→List Row→Prop):Prop :=
 ∀(H':List Row) (k v d:Nat),bd_ h H'→h.length≤k→k<v→v<d→d<H'.length→H'[k]?=some ⟨.ty 9,1,p.Keys.map ag_⟩→H'[v]?=some ⟨.ty 9,1,p.Vals.map ag_⟩→H'[d]?=some ⟨.ty 2,1,p.Kids.map ay_⟩ →
  K (.agg [.val (.bool p.Leaf),.sub k p.Keys.length 0 p.Keys.length,.sub v p.Vals.length 0 p.Vals.length,.sub d p.Kids.length 0 p.Kids.length]) H'
def c79:LC :=
 .q [.o [.bx 1 77 0,.s 2 (.alloc 77 z0z)],.gops [.fa 3 0 1,.ln 4 3,.fa 5 1 1,.ln 6 5,.fa 8 2 1,.ln 9 8,.fa 11 3 1,.ln 12 11] [(.c1 7 130 6,[.fa 3 0 1,.ln 4 3,.fa 8 2 1,.ln 9 8,.fa 11 3 1,.ln 12 11]),(.c1
 10 130 9,[.fa 3 0 1,.ln 4 3,.fa 11 3 1,.ln 12 11]),(.c1 13 131 12,[.fa 3 0 1,.ln 4 3]),(.s 14 (.build z0z [(0,1),(1,1),(2,1),(3,1)] [(0,.tmp 4),(1,.tmp 7),(2,.tmp 10),(3,.tmp 13)]),[]),(.st 4 2
 14,[])],.ret]
def vn_:LF:=⟨1,15,c79,[.cell 2 (some 4)]⟩
theorem xL_:aA_ prog Tryz.f79 vn_:=as_
theorem mR_(p:am_)(hk:p.Keys.length≤1048576)(hv:p.Vals.length≤1048576)(hd:p.Kids.length≤1048576)(h:List Row)(K:AV→List Row→Prop)(hK:xq_ h p K):callSem prog 79 [.agg (am_.cells p)] h K:=by
 refine aF_ mixed Tryz.func79 xL_ (a9_ rfl ?_)
 simp(disch:=omega)only[vn_,c79,am_.cells,go_sem,seval]
 refine f5_ _ hk _ _ ?_
 simp(disch:=first|omega|simp only[lzz0_];first|done|omega)only[at_,go_sem,seval]
 refine f5_ _ hv _ _ ?_
 simp(disch:=first|omega|simp only[lzz0_];first|done|omega)only[at_,go_sem,seval]
 refine jv_ _ hd _ _ ?_
 simp(disch:=first|omega|simp only[lzz0_];first|done|omega)only[at_,a0_,go_sem,seval,bR_]
 exact hK _ _ _ _ (bd_.app _ _) (by omega) (by omega) (by omega) (by simp) (by rw[getElem?_append_right (by omega)];simp) (by rw[getElem?_append_right (by omega)];simp) (by rw[getElem?_append_right (by omega)];simp)
theorem m2_(p:am_)(hk:p.Keys.length≤1048576)(hv:p.Vals.length≤1048576)(hd:p.Kids.length≤1048576)(h:List Row)(K:AV→List Row→Prop){a1 a2 a3:AV}{r1 r2 r3:Nat}
 (h1:aP_ h 9 1 a1 r1 (p.Keys.map ag_)) (h2:aP_ h 9 1 a2 r2 (p.Vals.map ag_)) (h3:aP_ h 2 1 a3 r3 (p.Kids.map ay_)) (hK:xq_ h p K):callSem prog 79 [.agg [.val (.bool p.Leaf),a1,a2,a3]] h K:=by
 have l1:=h1.lt
 have l2:=h2.lt
 have l3:=h3.lt
 obtain⟨pre1,post1,rfl,e1⟩:=h1
 obtain⟨pre2,post2,rfl,e2⟩:=h2
 obtain⟨pre3,post3,rfl,e3⟩:=h3
 refine aF_ mixed Tryz.func79 xL_ (a9_ rfl ?_)
 simp(disch:=omega)only[vn_,c79,go_sem,seval]
 refine bS_ _ hk _ _ r1 ⟨pre1,post1,by simp,by rw[getElem?_append_left l1];exact e1⟩ _ ?_
 simp(disch:=first|omega|simp only[lzz0_];first|done|omega)only[at_,go_sem,seval]
 refine bS_ _ hv _ _ r2 ⟨pre2,post2,by simp,by rw[getElem?_append_left l2];exact e2⟩ _ ?_
 simp(disch:=first|omega|simp only[lzz0_];first|done|omega)only[at_,go_sem,seval]
 refine ey_ _ hd _ _ r3 ⟨pre3,post3,by simp,by rw[getElem?_append_left l3];exact e3⟩ _ ?_
 simp(disch:=first|omega|simp only[lzz0_];first|done|omega)only[at_,a0_,go_sem,seval,bR_]
 exact hK _ _ _ _ (bd_.app _ _) (by omega) (by omega) (by omega) (by simp) (by rw[getElem?_append_right (by omega)];simp) (by rw[getElem?_append_right (by omega)];simp) (by rw[getElem?_append_right (by omega)];simp)
structure PB where
 id:Int
 pg:am_
 b:Nat
 k:Nat
 v:Nat
 d:Nat
def PB.foot(x:PB):List Nat:=[x.b,x.k,x.v,x.d]
def PB.slot(x:PB):ab_:=⟨x.id,x.pg⟩
structure lA_(ents:List (Int×Nat×AV))(ck:Nat)(B:List PB):Prop where
 same:ents.map (fun e=>(e.1,e.2.2))=B.map fun x=>(x.id,AV.ptr x.b 1 0 0)
 born:(ents.map (·.2.1)).Nodup
 old:∀e∈ents,e.2.1<ck
theorem sG_{ents:List (Int×Nat×AV)}{B:List PB}(h:ents.map (fun e=>(e.1,e.2.2))=B.map fun x=>(x.id,AV.ptr x.b 1 0 0))(n:Int):da_ ents n=(B.find? fun x=>x.id==n).map fun x=>.ptr x.b 1 0 0:=by
 induction ents generalizing B with
 | nil=>cases B<;>simp_all[da_]
 | cons e ents ih =>
  cases B with
  | nil=>simp at h
  | cons x B =>
   simp only[map_cons,List.cons.injEq,Prod.mk.injEq]at h
   obtain⟨⟨h1,h2⟩,h3⟩:=h
   have:=ih h3
   unfold da_ at this⊢
   rw[find?_cons,find?_cons,h1]
   cases x.id==n
   ·exact this
   ·simp[h2]
theorem oG_{ents:List (Int×Nat×AV)}{ck:Nat}{n:Int}{v:AV}(h:da_ ents n=none):hi_ ents ck n v=ents++[(n,ck,v)]:=by
 induction ents with
 | nil=>rfl
 | cons e ents ih =>
  unfold da_ at h ih
  rw[find?_cons]at h
  cases hq:e.1==n with
  | true=>rw[hq]at h;simp at h
  | false =>
   rw[hq]at h
   have hne:¬ e.1=n:=by simpa using hq
   simp only[hi_,if_neg hne,cons_append,ih h]
structure Pg(H:List Row)(T M:Nat)(root:Int)(B:List PB)(ents:List (Int×Nat×AV))(ck lo:Nat):Prop where
 box:H[T]?=some ⟨.ty 93,2,[[.val (.int .i64 root),.mp M]]⟩
 map:H[M]?=some ⟨.pmap ents ck,0,[]⟩
 ents:lA_ ents ck B
 pgs:∀x∈B,gw_ H x.b x.pg x.k x.v x.d
 one:(T::M::B.flatMap PB.foot).Nodup
 ids:(B.map PB.id).Nodup
 lows:∀l∈T::M::B.flatMap PB.foot,lo≤l∧l<H.length
section
variable {H H' : List Row} {T M : Nat} {root : Int} {B : List PB} {ents : List (Int × Nat × AV)} {ck lo : Nat}
theorem Pg.mem_foot{x:PB}{l:Nat}(hx:x∈B)(hl:l∈x.foot):l∈T::M::B.flatMap PB.foot :=
 mem_cons_of_mem _ (mem_cons_of_mem _ (mem_flatMap.2 ⟨x,hx,hl⟩))
theorem Pg.keep(g:Pg H T M root B ents ck lo)(hk:∀l∈T::M::B.flatMap PB.foot,H'[l]?=H[l]?)(hl:H.length≤H'.length):Pg H' T M root B ents ck lo:=by
 refine⟨by rw[hk T (by simp)];exact g.box,by rw[hk M (by simp)];exact g.map,g.ents,fun x hx=>?_,g.one,g.ids,fun l hl2=>?_⟩
 ·exact(g.pgs x hx).keep (hk _ (Pg.mem_foot hx (by simp[PB.foot]))) (hk _ (Pg.mem_foot hx (by simp[PB.foot]))) (hk _ (Pg.mem_foot hx (by simp[PB.foot]))) (hk _ (Pg.mem_foot hx (by simp[PB.foot])))
 ·have:=g.lows l hl2;omega
theorem Pg.more(g:Pg H T M root B ents ck lo)(m:bd_ H H'):Pg H' T M root B ents ck lo:=g.keep (fun l hl=>m.kept l (g.lows l hl).2) m.len
theorem Pg.find(g:Pg H T M root B ents ck lo)(n:Int):da_ ents n=(B.find? fun x=>x.id==n).map fun x=>.ptr x.b 1 0 0:=sG_ g.ents.same n
theorem Pg.add(g:Pg H T M root B ents ck lo){x:PB}(hk:∀l,l<H.length→l≠M→H'[l]?=H[l]?)(hl:H.length≤H'.length)(hn:∀l∈x.foot,H.length≤l∧l<H'.length)(h1:x.foot.Nodup)(hid:x.id∉B.map PB.id)
 (hp:gw_ H' x.b x.pg x.k x.v x.d) (hm:H'[M]?=some ⟨.pmap (ents++[(x.id,ck,.ptr x.b 1 0 0)]) (ck+1),0,[]⟩):Pg H' T M root (B++[x]) (ents++[(x.id,ck,.ptr x.b 1 0 0)]) (ck+1) lo:=by
 have hone:=g.one
 have hTM:T≠M:=by
  intro e
  have:=(nodup_cons.1 hone).1
  exact this (by simp[e])
 have hMB:∀y∈B,∀l∈y.foot,l≠M:=by
  intro y hy l hl2 e
  have:=(nodup_cons.1 (nodup_cons.1 hone).2).1
  exact this (by rw[←e];exact mem_flatMap.2 ⟨y,hy,hl2⟩)
 refine⟨by rw[hk T (g.lows T (by simp)).2 hTM];exact g.box,hm,⟨by simp[g.ents.same],?_,?_⟩,fun y hy=>?_,?_,?_,fun l hl2=>?_⟩
 ·rw[map_append,nodup_append]
  refine⟨g.ents.born,by simp,fun a ha b hb e=>?_⟩
  simp only[map_cons,map_nil,mem_singleton]at hb
  obtain⟨q,hq,rfl⟩:=mem_map.1 ha
  have:=g.ents.old q hq
  omega
 ·intro e he
  rcases mem_append.1 he with q|q
  ·have:=g.ents.old e q;omega
  ·simp only[mem_singleton]at q;subst q;exact Nat.lt_succ_self _
 ·rcases mem_append.1 hy with q|q
  ·have hh:∀l∈y.foot,H'[l]?=H[l]?:=fun l hl2=>hk l (g.lows l (Pg.mem_foot q hl2)).2 (hMB y q l hl2)
   exact(g.pgs y q).keep (hh _ (by simp[PB.foot])) (hh _ (by simp[PB.foot])) (hh _ (by simp[PB.foot])) (hh _ (by simp[PB.foot]))
  ·simp only[mem_singleton]at q;subst q;exact hp
 ·have:T::M::(B++[x]).flatMap PB.foot=(T::M::B.flatMap PB.foot)++x.foot:=by simp
  rw[this,nodup_append]
  refine⟨hone,h1,fun a ha b hb e=>?_⟩
  have h3:=(g.lows a ha).2
  have h4:=(hn b hb).1
  omega
 ·rw[map_append,nodup_append]
  refine⟨g.ids,by simp,fun a ha b hb e=>?_⟩
  simp only[map_cons,map_nil,mem_singleton]at hb
  subst hb
  exact hid (e▸ha)
 ·have:T::M::(B++[x]).flatMap PB.foot=(T::M::B.flatMap PB.foot)++x.foot:=by simp
  rw[this]at hl2
  rcases mem_append.1 hl2 with q|q
  ·have:=g.lows l q;omega
  ·have:=hn l q
   have h5:=(g.lows T (by simp))
   omega
end
def smallP(p:am_):Prop:=p.Keys.length≤1048576∧p.Vals.length≤1048576∧p.Kids.length≤1048576
def c38:LC :=
 .q [.o [.bx 1 28 0,.s 2 (.mov (.const (.pointer none)))],.o [.fa 7 0 1,.ln 8 7,.s 9 (.ext .mkP),.s 10 (.build (.agg #[.int .i64 0,.map none]) [(0,1),(1,1)] [(0,.tmp 8),(1,.tmp 9)]),.bx 11 93 10,.m 3 11],.q
 [.o [.fa 12 1 1,.ln 13 12,.ll 14 13,.ki 15 0],.block 0 (.loop (.q [.o [.bb 16 .lss false 15 14],.k 16 .skip (.exit 0),.block 1 (.q [.o [.ia 17 5 13 15,.ld 18 5 17,.s 5 (.alloc 79 z2z),.st 5 5 18],.o [.fa 19 1
 5,.ld 20 4 19,.c1 21 79 20,.s 6 (.alloc 77 z0z),.st 4 6 21],.gops [.m 22 3,.nc 23 22,.fa 24 1 23,.ln 25 24,.fa 26 0 5,.ln 27 26] [(.z (.ext (.updP (.tmp 25) (.tmp 27) (.tmp 6))),[])]]),.o [.bk 28 .add false
 15 1,.m 15 28]]))],.o [.m 29 3,.m 2 29],.ret]
def BZ_:LF:=⟨1,30,c38,[.tmp 2]⟩
theorem CX_:aA_ Tryz.prog Tryz.f38 BZ_:=as_
def Lim(H:List Row)(F:List Nat)(mx:Nat):Prop:=∀l∈F,∀r,H[l]?=some r→r.es.length≤mx
theorem hY_(root:Int)(sl:List ab_)(hlen:sl.length≤1048576)(hsm:∀s∈sl,smallP s.Page)(hid:(sl.map ab_.Id).Nodup)(h:List Row)(K:AV→List Row→Prop)
 (hK:∀H' T M B ents ck,bd_ h H'→Pg H' T M root B ents ck h.length→B.map PB.slot=sl→Lim H' (T::M::B.flatMap PB.foot) 1048576→K (.ptr T 1 0 0) H'):callSem Tryz.prog 38 [.agg [.val (.int .i64 root),.list 0 5 (sl.map ab_.cells)]] h K:=by
 refine aF_ mixed Tryz.func38 CX_ (a9_ rfl ?_)
 simp(disch:=omega)only[BZ_,c38,go_sem,seval]
 simp(disch:=first|omega|simp only[lzz0_];first|done|omega)only[go_sem,seval,bR_]
 refine aK_ (fun n t H=>∃(k:Nat) (B:List PB) (ents:List (Int×Nat×AV)) (ck:Nat),t 3=.ptr (h.length+2) 1 0 0∧t 13=.list 0 5 (sl.map ab_.cells)∧t 14=.val (.int .i64 sl.length)∧t 15=.val (.int .i64 k) ∧
  n=sl.length-k∧k≤sl.length∧bd_ h H∧Pg H (h.length+2) (h.length+1) root B ents ck h.length∧B.map PB.slot=sl.take k∧Lim H ((h.length+2)::(h.length+1)::B.flatMap PB.foot) 1048576) sl.length ?_ ?_
 ·refine⟨0,[],[],0,rfl,rfl,rfl,rfl,rfl,Nat.zero_le _,bd_.app _ _,⟨?_,?_,⟨rfl,by simp,by simp⟩,by simp,by simp,by simp,?_⟩,rfl,?_⟩
  ·rw[getElem?_append_right (by omega)];simp
  ·rw[getElem?_append_right (by omega)];simp
  ·intro l hl
   simp at hl
   simp;omega
  ·intro l hl r hr
   simp only[flatMap_nil,mem_cons,not_mem_nil,or_false]at hl
   rcases hl with rfl|rfl
   ·rw[getElem?_append_right (by omega)]at hr
    simp at hr;rw[←hr];simp
   ·rw[getElem?_append_right (by omega)]at hr
    simp at hr;rw[←hr];simp
 ·rintro J hJ n t H ⟨k,B,ents,ck,t3,t13,t14,t15,rfl,hk,hM,g,hB,hlim⟩
  by_cases hlt:k<sl.length
  ·obtain⟨z1,z2,z3⟩:=hsm _ (getElem_mem hlt)
   simp(disch:=first|omega|simp only[lzz0_];first|done|omega)only[at_,go_sem,seval,t13,t14,t15,hlt,ab_.cells]
   refine mR_ sl[k].Page z1 z2 z3 _ _ ?_
   intro H1 k1 v1 d1 m1 b1 b2 b3 b4 r1 r2 r3
   have gH:=g.more ((bd_.app _ _).trans m1)
   have gbox:=gH.box
   have gmap:=gH.map
   have o5:=m1.at (i:=H.length) (row:=⟨79,5,[[.val (.int .i64 sl[k].Id),.val (.bool sl[k].Page.Leaf),.list 0 1 (sl[k].Page.Keys.map ag_),.list 0 1 (sl[k].Page.Vals.map ag_),.list 0 1 (sl[k].Page.Kids.map ay_)]]⟩) (at_ rfl)
   have hH1:=m1.len
   rw[la_,length_singleton]at hH1
   have l0:=(List.getElem?_eq_some_iff.1 gbox).1
   have l1:=(List.getElem?_eq_some_iff.1 gmap).1
   have hnid:sl[k].Id∉B.map PB.id:=by
    have e:B.map PB.id=(sl.map ab_.Id).take k:=by
     have:=congrArg (List.map ab_.Id) hB
     rw[map_map,map_take]at this
     exact this
    rw[e]
    intro hm
    obtain⟨j,hj,hje⟩:=mem_take_iff_getElem.1 hm
    have hj2:j<sl.length:=by simp at hj;omega
    have:=(getElem_inj (xs:=sl.map ab_.Id) (h₀:=by simpa using hj2) (h₁:=by simpa using hlt) hid).1 (by simpa using hje)
    omega
   have hf:da_ ents sl[k].Id=none:=by
    rw[g.find]
    have:B.find? (fun x=>x.id==sl[k].Id)=none:=by
     rw[find?_eq_none]
     intro x hx e
     exact hnid (mem_map.2 ⟨x,hx,by simpa using e⟩)
    rw[this];rfl
   have e1:=oG_ (ck:=ck) (v:=.ptr H1.length 1 0 0) hf
   have e2:ia_ ents ck sl[k].Id=ck+1:=by simp[ia_,hf]
   simp(disch:=first|omega|simp only[lzz0_];first|done|omega)only[ad_,at_,go_sem,seval,t3,t15,o5,gbox,gmap,e1,e2,au_]
   have hlow:=g.lows
   have hkeep:∀(r r':Row) (l:Nat),l<H.length→l≠h.length+1→((H1++[r]).set (h.length+1) r')[l]?=H[l]?:=by
    intro r r' l hl hne
    rw[getElem?_set_ne (Ne.symm hne),getElem?_append_left (by omega),m1.kept l (by simp;omega),getElem?_append_left hl]
   have hget:∀(r r':Row) (l:Nat),H.length≤l→l<H1.length→((H1++[r]).set (h.length+1) r')[l]?=H1[l]?:=by
    intro r r' l hl hl2
    have:=(g.lows (h.length+1) (by simp)).2
    rw[getElem?_set_ne (by omega),getElem?_append_left hl2]
   have hM0:=(g.lows (h.length+1) (by simp)).2
   rw[la_,length_singleton]at b1
   refine⟨sl.length-(k+1),by omega,hJ _ _ _ ⟨k+1,B++[⟨sl[k].Id,sl[k].Page,H1.length,k1,v1,d1⟩],ents++[(sl[k].Id,ck,.ptr H1.length 1 0 0)],ck+1,by simp[upd,t3],by simp[upd,t13],by simp[upd,t14],by simp[upd],rfl,by omega,⟨?_,fun l hl=>?_⟩,
    g.add (x:=⟨sl[k].Id,sl[k].Page,H1.length,k1,v1,d1⟩) (hkeep _ _) (by simp;omega) ?_ ?_ hnid ?_ ?_,?_,?_⟩⟩
   ·have:=hM.len;simp;omega
   ·rw[hkeep _ _ l (by have:=hM.len;omega) (by omega)];exact hM.kept l hl
   ·intro l hl
    simp only[PB.foot,mem_cons,not_mem_nil,or_false]at hl
    simp only[ls_,la_,length_singleton]
    omega
   ·simp[PB.foot];omega
   ·show gw_ _ H1.length sl[k].Page k1 v1 d1
    refine⟨_,_,_,?_,hO_ ?_,hO_ ?_,hO_ ?_⟩
    ·rw[getElem?_set_ne (by omega),getElem?_append_right (Nat.le_refl _)];simp
    ·rw[hget _ _ _ (by omega) (by omega)];exact r1
    ·rw[hget _ _ _ (by omega) (by omega)];exact r2
    ·rw[hget _ _ _ (by omega) (by omega)];exact r3
   ·rw[getElem?_set_self (by simp;omega)]
   ·rw[map_append,hB,take_succ_eq_append_getElem hlt];rfl
   ·intro l hl r hr
    have hl2:l∈((h.length+2)::(h.length+1)::B.flatMap PB.foot)++PB.foot ⟨sl[k].Id,sl[k].Page,H1.length,k1,v1,d1⟩:=by simpa using hl
    rcases mem_append.1 hl2 with q|q
    ·by_cases hM1:l=h.length+1
     ·subst hM1
      rw[getElem?_set_self (by simp;omega)]at hr
      rw[←Option.some.inj hr];simp
     ·rw[hkeep _ _ l (g.lows l q).2 hM1]at hr
      exact hlim l q r hr
    ·simp only[PB.foot,mem_cons,not_mem_nil,or_false]at q
     rcases q with rfl|rfl|rfl|rfl
     ·rw[getElem?_set_ne (by omega),getElem?_append_right (Nat.le_refl _)]at hr
      simp at hr;rw[←hr];simp
     ·rw[hget _ _ _ (by omega) (by omega),r1]at hr
      rw[←Option.some.inj hr];simpa using z1
     ·rw[hget _ _ _ (by omega) (by omega),r2]at hr
      rw[←Option.some.inj hr];simpa using z2
     ·rw[hget _ _ _ (by omega) (by omega),r3]at hr
      rw[←Option.some.inj hr];simpa using z3
  ·simp(disch:=first|omega|simp only[lzz0_];first|done|omega)only[go_sem,seval,t3,t14,t15,hlt]
   exact hK _ _ _ _ _ _ hM g (by rw[hB,take_of_length_le (by omega)]) hlim
abbrev c4_:=Int→Option am_
def aj_(sl:List ab_):c4_:=fun id=>(sl.find? fun s=>s.Id==id).map ab_.Page
theorem et_(B:List PB)(id:Int):aj_ (B.map PB.slot) id=(B.find? fun x=>x.id==id).map PB.pg:=by
 unfold aj_
 rw[find?_map]
 simp only[Option.map_map]
 rfl
def i3_(p:am_)(low high:ByteArray):Bool:=p.Keys.any fun key=>bP_ key low||(!decide (high=⟨#[]⟩)&&!bP_ key high)
def loK(p:am_)(low:ByteArray)(k:Nat):ByteArray:=if 0<k then p.Keys.getD (k-1) ⟨#[]⟩else low
def hiK(p:am_)(high:ByteArray)(k:Nat):ByteArray:=if k<p.Keys.length then p.Keys.getD k ⟨#[]⟩else high
def fo_(p:am_):Nat:=if p.Leaf=true then p.Keys.length else p.Kids.length
def dI_(f:Int→ByteArray→ByteArray→List Int→Int→Bool×List Int×Int)(p:am_)(low high:ByteArray):Nat→List Int→List Int→Int→Bool×List Int×Int
 | _,[],met,dep=>(true,met,dep)
 | k,kid::r,met,dep=>if(f kid (loK p low k) (hiK p high k) met dep).1=true then dI_ f p low high (k+1) r (f kid (loK p low k) (hiK p high k) met dep).2.1 (f kid (loK p low k) (hiK p high k) met dep).2.2 else(false,(f kid (loK p low k) (hiK p high k) met dep).2)
def cx_(st:c4_)(root:Int):Nat→Int→ByteArray→ByteArray→Int→List Int→Int→Bool×List Int×Int
 | 0,_,_,_,_,met,dep=>(false,met,dep)
 | n+1,id,low,high,d,met,dep =>
  match st id with
  | none=>(false,met,dep)
  | some p =>
   if met.contains id=true then(false,met,dep)
   else if i3_ p low high=true then(false,met++[id],dep)
   else if(!decide (id=root)&&decide ((fo_ p:Int)<3))=true then(false,met++[id],dep)
   else if p.Leaf=true then(decide ((if dep<0 then d else dep)=d),met++[id],if dep<0 then d else dep)
   else dI_ (fun kid lo hi m e=>cx_ st root n kid lo hi (d+1) m e) p low high 0 p.Kids (met++[id]) dep
theorem jU_(st:c4_)(root:Int)(n:Nat)(id:Int)(low high:ByteArray)(d:Int)(met:List Int)(dep:Int):cx_ st root (n+1) id low high d met dep=match st id with
 | none=>(false,met,dep)
 | some p =>
  if met.contains id=true then(false,met,dep)
  else if i3_ p low high=true then(false,met++[id],dep)
  else if(!decide (id=root)&&decide ((fo_ p:Int)<3))=true then(false,met++[id],dep)
  else if p.Leaf=true then(decide ((if dep<0 then d else dep)=d),met++[id],if dep<0 then d else dep)
  else dI_ (fun kid lo hi m e=>cx_ st root n kid lo hi (d+1) m e) p low high 0 p.Kids (met++[id]) dep:=rfl
def eQ_(st:c4_)(met:List Int):Prop:=met.Nodup∧∀i∈met,(st i).isSome=true
theorem jR_{st:c4_}{met:List Int}{id:Int}{p:am_}(h:eQ_ st met)(hp:st id=some p)(hn:met.contains id=false):eQ_ st (met++[id]):=by
 refine⟨?_,fun i hi=>?_⟩
 ·rw[nodup_append]
  refine⟨h.1,by simp,fun a ha b hb e=>?_⟩
  simp only[mem_singleton]at hb
  subst hb e
  simp at hn
  exact hn ha
 ·rcases mem_append.1 hi with q|q
  ·exact h.2 i q
  ·simp only[mem_singleton]at q;subst q;rw[hp];rfl
theorem o2_{f:Int→ByteArray→ByteArray→List Int→Int→Bool×List Int×Int}{st:c4_}(p:am_)(low high:ByteArray)(hf:∀kid lo hi m e,eQ_ st m→eQ_ st (f kid lo hi m e).2.1∧m.length≤(f kid lo hi m e).2.1.length) :
 ∀(r:List Int) (k:Nat) (met:List Int) (dep:Int),eQ_ st met→eQ_ st (dI_ f p low high k r met dep).2.1∧met.length≤(dI_ f p low high k r met dep).2.1.length
 | [],k,met,dep,h=>⟨h,Nat.le_refl _⟩
 | kid::r,k,met,dep,h=>by
  obtain⟨h1,h2⟩:=hf kid (loK p low k) (hiK p high k) met dep h
  unfold dI_
  split
  ·obtain⟨h3,h4⟩:=o2_ p low high hf r (k+1) _ (f kid (loK p low k) (hiK p high k) met dep).2.2 h1
   exact⟨h3,by omega⟩
  ·exact⟨h1,h2⟩
theorem lb_{st:c4_}{root:Int}:∀(n:Nat) (id:Int) (low high:ByteArray) (d:Int) (met:List Int) (dep:Int),eQ_ st met→eQ_ st (cx_ st root n id low high d met dep).2.1∧met.length≤(cx_ st root n id low high d met dep).2.1.length
 | 0,_,_,_,_,met,dep,h=>⟨h,Nat.le_refl _⟩
 | n+1,id,low,high,d,met,dep,h=>by
  unfold cx_
  split
  ·exact⟨h,Nat.le_refl _⟩
  ·rename_i p hp
   split
   ·exact⟨h,Nat.le_refl _⟩
   ·rename_i hc
    have hs:=jR_ h hp (by simpa using hc)
    have hl:met.length≤(met++[id]).length:=by simp
    split
    ·exact⟨hs,hl⟩
    ·split
     ·exact⟨hs,hl⟩
     ·split
      ·exact⟨hs,hl⟩
      ·obtain⟨h3,h4⟩:=o2_ p low high (fun kid lo hi m e hm=>lb_ n kid lo hi (d+1) m e hm) p.Kids 0 (met++[id]) dep hs
       exact⟨h3,by omega⟩
theorem cI_:∀{a b:List Int},a.Nodup→a ⊆ b→a.length≤b.length
 | [],b,_,_=>Nat.zero_le _
 | x::a,b,h,hs=>by
  have hx:=hs (mem_cons_self)
  obtain⟨h1,h2⟩:=nodup_cons.1 h
  have:a ⊆ b.erase x:=by
   intro y hy
   have hne:y≠x:=fun e=>h1 (e▸hy)
   exact(mem_erase_of_ne hne).2 (hs (mem_cons_of_mem _ hy))
  have h3:=cI_ h2 this
  have h4:=length_erase_of_mem hx
  have h5:0<b.length:=length_pos_of_mem hx
  simp only[lc_]
  omega
theorem kT_{B:List PB}{met:List Int}(h:eQ_ (aj_ (B.map PB.slot)) met):met.length≤B.length:=by
 have h1:met ⊆ B.map PB.id:=by
  intro i hi
  have:=h.2 i hi
  rw[et_]at this
  rw[Option.isSome_map]at this
  obtain⟨x,hx⟩:=Option.isSome_iff_exists.1 this
  have hx2:=find?_some hx
  exact mem_map.2 ⟨x,mem_of_find?_eq_some hx,by simpa using hx2⟩
 have:=cI_ h.1 h1
 simpa using this
abbrev ku_(met:List Int):List (Int×Value):=met.map fun i=>(i,Value.bool true)
theorem uV_(met:List Int)(id:Int):((ku_ met).lookup id).getD (.bool false)=.bool (met.contains id):=by
 induction met with
 | nil=>rfl
 | cons a met ih =>
  simp only[ku_,map_cons,List.lookup,contains_cons]at ih⊢
  cases id==a
  ·simpa using ih
  ·rfl
theorem vO_(met:List Int)(id:Int)(h:met.contains id=false):eJ_ (ku_ met) id (.bool true)=ku_ (met++[id]):=by
 induction met with
 | nil=>rfl
 | cons a met ih =>
  rw[contains_cons,Bool.or_eq_false_iff]at h
  have hne:¬ a=id:=fun e=>by subst e;simp at h
  simp only[ku_,map_cons,cons_append,eJ_,if_neg hne]at ih⊢
  rw[ih h.2]
structure Wk(H:List Row)(W T S:Nat)(met:List Int)(dep:Int):Prop where
 box:H[W]?=some ⟨.ty 118,3,[[.ptr T 1 0 0,.mp S,.val (.int .i64 dep)]]⟩
 map:H[S]?=some ⟨.map (ku_ met),0,[]⟩
theorem g8_(xs:List ByteArray)(p:ByteArray→Bool)(g:Nat)(caps:List AV)(hcf:caps.all AV.flat=true)(hx:xs.length≤1048576)(hc:cU_ prog g=true)(hp:∀x∈xs,∀h,aa_ prog g (.val (.string x)::caps) h (.val (.bool (p x))))(h:List Row) :
 aa_ prog 129 [.list 0 1 (xs.map ag_),.fn g [] caps] h (.val (.int .i64 (b5_ p xs 0))):=by
 refine ar_ mixed Tryz.func129 ua_ rfl (by simp only[all_cons,all_nil,mX_,ra_ _ _ hcf];rfl) ?_ h
 simp(disch:=omega)only[sU_,vp_,go_sem,seval]
 refine aK_ (fun n t h=>∃k:Nat,t 0=.list 0 1 (xs.map ag_)∧t 1=.fn g [] caps∧t 6=.list 0 1 (xs.map ag_)∧t 7=.val (.int .i64 xs.length)∧t 8=.val (.int .i64 k)∧n=xs.length-k∧k≤xs.length∧(b5_ p xs 0=b5_ p (xs.drop k) k)) (xs.length) ?_ ?_
 ·exact⟨0,rfl,rfl,rfl,rfl,rfl,rfl,Nat.zero_le _,rfl⟩
 ·rintro J hJ n t h ⟨k,t0,t1,t6,t7,k8,rfl,hk,hS⟩
  by_cases hlt:k<xs.length
  ·skip
   rw[gf_ p xs k hlt]at hS
   simp(disch:=omega)only[t0,t1,t7,k8,hlt,hc,ag_,go_sem,seval]
   repeat' (first
    | exact ah_ _ _
    | exact⟨xs.length-(k+1),by omega,hJ _ _ _ ⟨k+1,by simp[upd,t0],by simp[upd,t1],by simp[upd,t6],by simp[upd,t7],by simp[upd],rfl,by omega,by rw[hS];simp[*]⟩⟩
    | (refine aG_ ?_;rw[hS];simp[*];done)
    | (refine aG_ ?_;rw[hS,du_ _ _ _ (by omega)])
    | simp(disch:=omega)only[k8,go_sem,seval]
    | (refine aa_.call (hp xs[k] (getElem_mem hlt) _) ?_)
    | (refine aa_.q (hp xs[k] (getElem_mem hlt) _) ?_)
    | ((first|(apply bL_;assumption)|(apply bK_;assumption)|(apply b9_;assumption)|(apply b8_;assumption));intro hb;try simp only[hb])
    | ((first|(apply aW_;assumption)|(apply aV_;assumption)|(apply bb_;assumption)|(apply be_;assumption));intro hb;try simp only[hb])
    | ((first|(apply nv_;assumption)|(apply nn_;assumption)|(apply pL_;assumption)|(apply pK_;assumption));intro hb;try simp only[hb])
    | ((first|apply aZ_|apply a7_|apply aB_|apply aC_|apply hA_|apply iz_)<;>intro hb<;>(try simp only[hb])<;>(first|have hp:=bx_ hb|have hp:=bw_ hb|have hp:=bu_ hb|have hp:=bv_ hb|skip)))
  ·skip
   simp(disch:=omega)only[t7,k8,hlt,go_sem,seval]
   repeat' (first
    | exact ah_ _ _
    | (refine aG_ ?_;rw[hS];simp[*];done)
    | (refine aG_ ?_;rw[hS,du_ _ _ _ (by omega)])
    | simp(disch:=omega)only[t0,t1,t6,t7,k8,go_sem,seval]
    | (refine aa_.call (hp xs[k] (getElem_mem hlt) _) ?_)
    | (refine aa_.q (hp xs[k] (getElem_mem hlt) _) ?_)
    | ((first|(apply bL_;assumption)|(apply bK_;assumption)|(apply b9_;assumption)|(apply b8_;assumption));intro hb;try simp only[hb])
    | ((first|(apply aW_;assumption)|(apply aV_;assumption)|(apply bb_;assumption)|(apply be_;assumption));intro hb;try simp only[hb])
    | ((first|(apply nv_;assumption)|(apply nn_;assumption)|(apply pL_;assumption)|(apply pK_;assumption));intro hb;try simp only[hb])
    | ((first|apply aZ_|apply a7_|apply aB_|apply aC_|apply hA_|apply iz_)<;>intro hb<;>(try simp only[hb])<;>(first|have hp:=bx_ hb|have hp:=bw_ hb|have hp:=bu_ hb|have hp:=bv_ hb|skip)))
theorem gq_(xs:List ByteArray)(p:ByteArray→Bool)(g:Nat)(caps:List AV)(hcf:caps.all AV.flat=true)(hx:xs.length≤1048576)(hc:cU_ prog g=true)(hp:∀x∈xs,∀h,aa_ prog g (.val (.string x)::caps) h (.val (.bool (p x))))(h:List Row) :
 aa_ prog 77 [.list 0 1 (xs.map ag_),.fn g [] caps] h (.val (.bool (xs.any p))):=by
 refine ar_ mixed Tryz.func77 xF_ rfl (by simp only[all_cons,all_nil,mX_,ra_ _ _ hcf];rfl) ?_ h
 simp(disch:=omega)only[wC_,c77,go_sem,seval]
 refine aa_.call (g8_ xs p g caps hcf hx hc hp _) ?_
 simp(disch:=omega)only[go_sem,↓reduceIte]
 exact ai_ (iS_ p xs)
def z1_:LC :=
 .q [.o [.f 4],.o [.m 5 0,.ln 6 1,.bb 7 .lss false 5 6,.m 8 7,.gn 9 8 false 2,.g 10 8 false (.bin .neq false (.tmp 9) (.const (.string ⟨#[]⟩))),.gm 11 8 false 10,.gm 12 11 true 0,.gn 13 11 true 2,.g 14 11 true
 (.bin .geq false (.tmp 12) (.tmp 13)),.g 15 8 false (.pick (.tmp 11) (.tmp 14) (.const (.bool false))),.pt 16 8 15,.m 4 16],.ret]
def ya_:LF:=⟨3,17,z1_,[.tmp 4]⟩
theorem zy_:aA_ prog Tryz.f125 ya_:=as_
theorem iU_(key low high:ByteArray)  (h:List Row):aa_ prog 125 [.val (.string key),.iptr [.val (.string low)],.iptr [.val (.string high)]] h (.val (.bool (bP_ key low||(!decide (high=⟨#[]⟩)&&!bP_ key high)))):=by
 refine ar_ mixed Tryz.func125 zy_ rfl rfl ?_ h
 simp(disch:=omega)only[ya_,z1_,sk_,go_sem,seval]
 repeat' (first
  | exact ah_ _ _
  | (refine ai_ ?_;first|rfl|(simp only[*,Bool.false_or];done)|(simp[*];done))
  | (refine ai_ ?_;simp_all;done)
  | (refine ai_ ?_;trace_state;fail)
  | simp(disch:=omega)only[kG_,go_sem,seval]
  | ((first|(apply bL_;assumption)|(apply bK_;assumption)|(apply b9_;assumption)|(apply b8_;assumption));intro hb;try simp only[hb])
  | ((first|(apply aW_;assumption)|(apply aV_;assumption)|(apply bb_;assumption)|(apply be_;assumption));intro hb;try simp only[hb])
  | ((first|apply aZ_|apply a7_|apply aB_|apply aC_)<;>intro hb<;>(try simp only[hb])<;>(first|have hp:=bx_ hb|have hp:=bw_ hb|have hp:=bu_ hb|have hp:=bv_ hb|skip)))
def c75:LC :=
 .q [.o [.bx 7 9 2,.bx 8 9 3,.f 10],.o [.m 19 0,.nc 20 19,.fa 21 0 20,.ln 22 21,.nc 23 22,.fa 24 1 23,.ln 25 24,.m 26 1,.s 27 (.ext (.lookP true (.tmp 25) (.tmp 26))),.m 18 27,.ex 28 18 0,.ex 29 18 1,.m 11
 28,.m 12 29],.q [.o [.m 30 12,.nt 31 30,.m 32 31,.gm 33 32 false 0,.g 34 32 false (.nilCheck (.tmp 33)),.gf 35 32 false 1 34,.gn 36 32 false 35,.gm 37 32 false 1,.g 38 32 false (.lookup (.bool false) false
 (.tmp 36) (.tmp 37)),.pt 39 32 38],.k 39 (.q [.o [.f 10],.ret]) .skip],.o [.m 40 0,.nc 41 40,.fa 42 1 41,.ln 43 42,.m 44 1,.z (.mapUpd (.tmp 43) (.tmp 44) (.const (.bool true)))],.q [.o [.m 45 11,.nc 46 45,
 .fa 47 1 46,.ln 48 47,.s 49 (.mkFunc 125 [] [.tmp 7,.tmp 8]),.c2 50 77 48 49],.k 50 (.q [.o [.f 10],.ret]) .skip],.o [.m 51 11,.nc 52 51,.fa 53 1 52,.ln 54 53,.ll 55 54,.m 13 55],.q [.o [.m 56 11,.nc 57 56,
 .fa 58 0 57,.ln 59 58,.nt 60 59],.k 60 (.o [.m 61 11,.nc 62 61,.fa 63 3 62,.ln 64 63,.ll 65 64,.m 13 65]) .skip],.q [.o [.m 66 1,.m 67 0,.nc 68 67,.fa 69 0 68,.ln 70 69,.nc 71 70,.fa 72 0 71,.ln 73 72,
 .bb 74 .neq false 66 73,.m 75 74,.gm 76 75 true 13,.g 77 75 true (.bin .lss false (.tmp 76) (.const (.int .i64 3))),.pf 78 75 77],.k 78 (.q [.o [.f 10],.ret]) .skip],.q [.o [.m 79 11,.nc 80 79,.fa 81 0 80,.ln
 82 81],.k 82 (.q [.q [.o [.m 83 0,.nc 84 83,.fa 85 2 84,.ln 86 85,.bk 87 .lss false 86 0],.k 87 (.o [.m 88 0,.m 89 4,.nc 90 88,.fa 91 2 90,.st 1 91 89]) .skip],.o [.m 92 0,.nc 93 92,.fa 94 2 93,.ln 95 94,
 .m 96 4,.bb 97 .eql false 95 96,.m 10 97],.ret]) .skip],.q [.o [.m 98 11,.nc 99 98,.fa 100 3 99,.ln 101 100,.ll 102 101,.ki 103 0],.block 0 (.loop (.q [.o [.bb 104 .lss false 103 102],.k 104 .skip (.exit 0),
 .block 1 (.q [.o [.m 105 103,.ia 106 1 101 103,.ln 107 106,.m 14 105,.m 15 107],.dops [.ln 108 7,.ln 109 8,.m 16 108,.m 17 109],.q [.o [.m 110 14,.bk 111 .gtr false 110 0],.k 111 (.o [.m 112 11,.nc 113 112,
 .fa 114 1 113,.ln 115 114,.m 116 14,.bk 117 .sub false 116 1,.ia 118 1 115 117,.ln 119 118,.m 16 119]) .skip],.q [.o [.m 120 14,.m 121 11,.nc 122 121,.fa 123 1 122,.ln 124 123,.ll 125 124,.bb 126 .lss false
 120 125],.k 126 (.o [.m 127 11,.nc 128 127,.fa 129 1 128,.ln 130 129,.m 131 14,.ia 132 1 130 131,.ln 133 132,.m 17 133]) .skip],.o [.m 134 0,.m 135 15,.m 136 16,.m 137 17,.m 138 4,.bk 139 .add false 138 1,
 .s 140 (.call 75 [.tmp 134,.tmp 135,.tmp 136,.tmp 137,.tmp 139]),.nt 141 140],.k 141 (.q [.o [.f 10],.ret]) .skip]),.o [.bk 142 .add false 103 1,.m 103 142]]))],.o [.t 10],.ret]
def sH_:LF:=⟨5,143,c75,[.tmp 10]⟩
theorem Cl_:aA_ prog Tryz.f75 sH_:=as_
section
variable {T M W S lo : Nat} {root : Int} {B : List PB} {ents : List (Int × Nat × AV)} {ck : Nat}
set_option maxHeartbeats 2000000 in
theorem kg_(hTW:W∉T::M::B.flatMap PB.foot)(hTS:S∉T::M::B.flatMap PB.foot)(hWS:W≠S)(hB:B.length≤1048576)(hpg:∀x∈B,bk_ x.pg=true):∀(n:Nat) (id:Int) (low high:ByteArray) (d:Int) (met:List Int) (dep:Int) (H:List Row) (K:AV→List Row→Prop),B.length+1≤n+met.length→eQ_ (aj_ (B.map PB.slot)) met→0≤d→d≤met.length →
 Pg H T M root B ents ck lo→Wk H W T S met dep →
 (∀H',(∀l,l<H.length→l≠W→l≠S→H'[l]?=H[l]?)→H.length≤H'.length→Wk H' W T S (cx_ (aj_ (B.map PB.slot)) root n id low high d met dep).2.1 (cx_ (aj_ (B.map PB.slot)) root n id low high d met dep).2.2→K (.val (.bool (cx_ (aj_ (B.map PB.slot)) root n id low high d met dep).1)) H') →
 callSem prog 75 [.ptr W 1 0 0,.val (.int .i64 id),.val (.string low),.val (.string high),.val (.int .i64 d)] H K
 | 0,_,_,_,_,met,_,_,_,hn,hm,_,_,_,_,_=>by have:=kT_ hm;omega
 | n+1,id,low,high,d,met,dep,H,K,hn,hm,hd0,hd1,g,wk,hK=>by
  refine aF_ mixed Tryz.func75 Cl_ (a9_ rfl ?_)
  have hml:=kT_ hm
  have wB:=wk.box
  have wS:=wk.map
  have gT:=g.box
  have gM:=g.map
  have lW:=(List.getElem?_eq_some_iff.1 wB).1
  have lS:=(List.getElem?_eq_some_iff.1 wS).1
  have lT:=(List.getElem?_eq_some_iff.1 gT).1
  have lM:=(List.getElem?_eq_some_iff.1 gM).1
  have hwk:=jU_ (aj_ (B.map PB.slot)) root n id low high d met dep
  rw[et_]at hwk
  have hfd:=g.find id
  have hlk:=uV_ met id
  cases hx:B.find? (fun x=>x.id==id)with
  | none =>
   rw[hx]at hfd hwk
   simp only[Option.map_none]at hfd hwk
   simp(disch:=omega)only[sH_,c75,go_sem,seval]
   simp(disch:=first|omega|simp only[lzz0_];first|done|omega)only[ad_,go_sem,seval,wB,gT,gM,hfd,Option.getD_none,Option.isSome_none]
   rw[hwk]at hK
   refine hK _ (fun l hl _ _=>getElem?_append_left hl) (by simp) ⟨?_,?_⟩
   ·rw[getElem?_append_left lW];exact wB
   ·rw[getElem?_append_left lS];exact wS
  | some x =>
   rw[hx]at hfd hwk
   simp only[Option.map_some]at hfd hwk
   have hxB:=mem_of_find?_eq_some hx
   have nS:∀l∈x.foot,l<H.length∧S≠l∧W≠l:=fun l hl=>⟨(g.lows l (Pg.mem_foot hxB hl)).2,fun e=>hTS (e▸Pg.mem_foot hxB hl),fun e=>hTW (e▸Pg.mem_foot hxB hl)⟩
   obtain⟨lb,nb,mb⟩:=nS x.b (by simp[PB.foot])
   obtain⟨lk,nk,mk⟩:=nS x.k (by simp[PB.foot])
   obtain⟨lv,nv,mv⟩:=nS x.v (by simp[PB.foot])
   obtain⟨ld,nd,md⟩:=nS x.d (by simp[PB.foot])
   have nT:S≠T∧W≠T:=⟨fun e=>hTS (by simp[e]),fun e=>hTW (by simp[e])⟩
   have nM:S≠M∧W≠M:=⟨fun e=>hTS (by simp[e]),fun e=>hTW (by simp[e])⟩
   obtain⟨nT1,nT2⟩:=nT
   obtain⟨nM1,nM2⟩:=nM
   obtain⟨a1,a2,a3,pb,p1,p2,p3⟩:=g.pgs x hxB
   cases hc:met.contains id with
   | true =>
    rw[hc,if_pos rfl]at hwk
    rw[hc]at hlk
    simp(disch:=omega)only[sH_,c75,go_sem,seval]
    simp(disch:=first|omega|simp only[lzz0_];first|done|omega)only[ad_,go_sem,seval,wB,wS,gT,gM,hfd,hlk,Option.getD_some,Option.isSome_some]
    rw[hwk]at hK
    refine hK _ (fun l hl _ _=>getElem?_append_left hl) (by simp) ⟨?_,?_⟩
    ·rw[getElem?_append_left lW];exact wB
    ·rw[getElem?_append_left lS];exact wS
   | false =>
    have hms:=vO_ met id hc
    rw[hc]at hlk
    rw[hc]at hwk
    simp(disch:=omega)only[sH_,c75,go_sem,seval]
    simp(disch:=first|omega|simp only[lzz0_];first|done|omega)only[ao_,ad_,go_sem,seval,wB,wS,gT,gM,hfd,hlk,hms,pb,Option.getD_some,Option.isSome_some]
    obtain⟨Hs,hHs⟩:∃Hs:List Row,Hs=List.set (H++([⟨.ty 9,1,[[.val (.string low)]]⟩,⟨.ty 9,1,[[.val (.string high)]]⟩]:List Row)) S ⟨.map (ku_ (met++[id])),0,[]⟩:=⟨_,rfl⟩
    rw[←hHs]
    have len:Hs.length=H.length+2:=by rw[hHs];simp
    have kept:∀l,l<H.length→S≠l→Hs[l]?=H[l]?:=fun l h1 h2=>by rw[hHs,getElem?_set_ne h2,getElem?_append_left h1]
    have sS:Hs[S]?=some ⟨.map (ku_ (met++[id])),0,[]⟩:=by rw[hHs,getElem?_set_self (by simp;omega)]
    have s0:Hs[H.length]?=some ⟨.ty 9,1,[[.val (.string low)]]⟩:=by rw[hHs,getElem?_set_ne (by omega),getElem?_append_right (Nat.le_refl _),Nat.sub_self];rfl
    have s1:Hs[H.length+1]?=some ⟨.ty 9,1,[[.val (.string high)]]⟩:=by rw[hHs,getElem?_set_ne (by omega),getElem?_append_right (by omega),Nat.add_sub_cancel_left];rfl
    have gs:Pg Hs T M root B ents ck lo:=g.keep (fun l hl=>kept l (g.lows l hl).2 (fun e=>hTS (e▸hl))) (by omega)
    clear hHs
    have sW:Hs[W]?=some _:=(kept W lW (Ne.symm hWS)).trans wB
    have sT:=gs.box
    have sb:Hs[x.b]?=some _:=(kept x.b lb nb).trans pb
    have q1:=p1.keep (kept x.k lk nk)
    have q2:=p2.keep (kept x.v lv nv)
    have q3:=p3.keep (kept x.d ld nd)
    have hpx:=hpg x hxB
    have hkl:x.pg.Keys.length≤6∧(x.pg.Leaf=false→x.pg.Kids.length=x.pg.Keys.length+1∧x.pg.Kids.length≤6):=by
     unfold bk_ at hpx
     cases hlf:x.pg.Leaf
     ·simp only[hlf,Bool.false_eq_true,if_false,br_,Bool.and_eq_true,decide_eq_true_eq]at hpx
      obtain⟨_,⟨⟨⟨_,_⟩,_⟩,_⟩,_⟩:=hpx
      exact⟨by omega,fun _=>⟨by omega,by omega⟩⟩
     ·simp only[hlf,if_true,Bool.and_eq_true,decide_eq_true_eq]at hpx
      obtain⟨_,⟨⟨_,_⟩,_⟩,_⟩:=hpx
      exact⟨by omega,fun e=>by cases e⟩
    have hcall:aa_ prog 77 [a1,.fn 125 [] [.ptr H.length 1 0 0,.ptr (H.length+1) 1 0 0]] Hs (.val (.bool (i3_ x.pg low high))):=Go.AW.frozen (fun h=>gq_ x.pg.Keys (fun key=>bP_ key low||(!decide (high=⟨#[]⟩)&&!bP_ key high)) 125 [.iptr [.val (.string low)],.iptr [.val (.string high)]] rfl (by omega) (by kernel_rfl) (fun y _ h=>iU_ y low high h) h) (iJ_ (q1.res (eE_ _) 2) (fX_ (n:=4) (Bb_ (n:=3) rfl (iJ_ (sf_ (n:=1) s0 rfl (by simp)) (fX_ (sf_ (n:=1) s1 rfl (by simp)))))))
    refine aa_.call hcall ?_
    clear hcall
    cases hout:i3_ x.pg low high with
    | true =>
     rw[hout]at hwk
     rw[if_neg (by simp),if_pos rfl]at hwk
     simp(disch:=first|omega|simp only[lzz0_];first|done|omega)only[go_sem,↓reduceIte]
     rw[hwk]at hK
     exact hK _ (fun l h1 h2 h3=>kept l h1 (Ne.symm h3)) (by omega) ⟨sW,sS⟩
    | false =>
    rw[hout]at hwk
    rw[if_neg (by simp),if_neg (by simp)]at hwk
    clear p1 p2 p3 pb wB wS gT gM
    obtain⟨pre1,post1,rfl,e1⟩:=q1
    obtain⟨pre3,post3,rfl,e3⟩:=q3
    have z1:pre1.length+x.pg.Keys.length-pre1.length=x.pg.Keys.length:=by omega
    have z3:pre3.length+x.pg.Kids.length-pre3.length=x.pg.Kids.length:=by omega
    simp(disch:=first|omega|simp only[lzz0_];first|done|omega)only[go_sem,seval,sb,e1,z1]
    cases hlf:x.pg.Leaf with
    | true =>
     have hfl:fo_ x.pg=x.pg.Keys.length:=by simp[fo_,hlf]
     rw[hfl,hlf,if_pos rfl]at hwk
     rw[hlf]at sb
     by_cases hbad:(!decide (id=root)&&decide ((x.pg.Keys.length:Int)<3))=true
     ·rw[if_pos hbad]at hwk
      obtain⟨h1,h2⟩:=Bool.and_eq_true_iff.1 hbad
      rw[Bool.not_eq_true']at h1
      simp(disch:=first|omega|simp only[lzz0_];first|done|omega)only[go_sem,seval,sW,sT,h1,h2]
      rw[hwk]at hK
      exact hK _ (fun l h1 h2 h3=>kept l h1 (Ne.symm h3)) (by omega) ⟨sW,sS⟩
     ·rw[if_neg hbad]at hwk
      have hgood:(decide (id=root)=true∧(id==id)=true)∨(decide (id=root)=false∧decide ((x.pg.Keys.length:Int)<3)=false):=by
       cases h1:decide (id=root)
       ·rw[h1]at hbad;right;exact⟨rfl,by simpa using hbad⟩
       ·left;simp
      cases hdp:decide (dep<0)with
      | true =>
       rw[if_pos (of_decide_eq_true hdp),(by simp:decide (d=d)=true)]at hwk
       rcases hgood with ⟨h1,h2⟩|⟨h1,h2⟩<;>(
        simp(disch:=first|omega|simp only[lzz0_];first|done|omega)only[aq_,go_sem,seval,sb,sW,sT,h1,h2,hdp]
        rw[hwk]at hK
        exact hK _ (fun l h1 h2 h3=>by rw[getElem?_set_ne (Ne.symm h2)];exact kept l h1 (Ne.symm h3)) (by rw[ls_];omega) ⟨getElem?_set_self (by omega),(getElem?_set_ne hWS).trans sS⟩)
      | false =>
       rw[if_neg (of_decide_eq_false hdp)]at hwk
       rcases hgood with ⟨h1,h2⟩|⟨h1,h2⟩<;>(
        simp(disch:=first|omega|simp only[lzz0_];first|done|omega)only[go_sem,seval,sb,sW,sT,h1,h2,hdp]
        rw[hwk]at hK
        exact hK _ (fun l h1 h2 h3=>kept l h1 (Ne.symm h3)) (by omega) ⟨sW,sS⟩)
    | false =>
     have hfl:fo_ x.pg=x.pg.Kids.length:=by simp[fo_,hlf]
     obtain⟨hkd,hkd2⟩:=hkl.2 hlf
     rw[hfl,hlf,if_neg (by simp:¬ (false=true))]at hwk
     rw[hlf]at sb
     by_cases hbad:(!decide (id=root)&&decide ((x.pg.Kids.length:Int)<3))=true
     ·rw[if_pos hbad]at hwk
      obtain⟨h1,h2⟩:=Bool.and_eq_true_iff.1 hbad
      rw[Bool.not_eq_true']at h1
      simp(disch:=first|omega|simp only[lzz0_];first|done|omega)only[go_sem,seval,sb,sW,sT,e3,z3,h1,h2]
      rw[hwk]at hK
      exact hK _ (fun l h1 h2 h3=>kept l h1 (Ne.symm h3)) (by omega) ⟨sW,sS⟩
     ·rw[if_neg hbad]at hwk
      have hgood:(decide (id=root)=true∧(id==id)=true)∨(decide (id=root)=false∧decide ((x.pg.Kids.length:Int)<3)=false):=by
       cases h1:decide (id=root)
       ·rw[h1]at hbad;right;exact⟨rfl,by simpa using hbad⟩
       ·left;simp
      rcases hgood with ⟨h1,h2⟩|⟨h1,h2⟩<;>(
       simp(disch:=first|omega|simp only[lzz0_];first|done|omega)only[go_sem,seval,sb,sW,sT,e3,z3,h1,h2]
       refine aK_ (fun n' t H'=>∃(k:Nat) (met':List Int) (dep':Int),t 0=.ptr W 1 0 0∧t 4=.val (.int .i64 d)∧t 7=.ptr H.length 1 0 0∧t 8=.ptr (H.length+1) 1 0 0∧t 11=.ptr x.b 1 0 0 ∧
        t 101=.sub x.d (pre3.length+(x.pg.Kids.length+post3.length)) pre3.length (pre3.length+x.pg.Kids.length)∧t 102=.val (.int .i64 x.pg.Kids.length)∧t 103=.val (.int .i64 k)∧n'=x.pg.Kids.length-k∧k≤x.pg.Kids.length ∧
        (∀l,l<Hs.length→l≠W→l≠S→H'[l]?=Hs[l]?)∧Hs.length≤H'.length∧Wk H' W T S met' dep'∧eQ_ (aj_ (B.map PB.slot)) met'∧met.length+1≤met'.length ∧
        dI_ (fun kid lo hi m e=>cx_ (aj_ (B.map PB.slot)) root n kid lo hi (d+1) m e) x.pg low high 0 x.pg.Kids (met++[id]) dep=dI_ (fun kid lo hi m e=>cx_ (aj_ (B.map PB.slot)) root n kid lo hi (d+1) m e) x.pg low high k (x.pg.Kids.drop k) met' dep') x.pg.Kids.length ?_ ?_
       ·refine⟨0,met++[id],dep,rfl,rfl,rfl,rfl,rfl,(by first|rfl|(simp[upd];done)|trace_state),rfl,rfl,rfl,Nat.zero_le _,fun _ _ _ _=>rfl,Nat.le_refl _,⟨sW,sS⟩,jR_ hm (by rw[et_,hx];rfl) hc,by simp,rfl⟩
       ·rintro J hJ n' t H' ⟨k,met',dep',t0,t4,t7,t8,t11,t101,t102,t103,rfl,hk,hkp,hlen,wk',hm',hml2,hkk⟩
        have r0:=(hkp H.length (by omega) (by omega) (by omega)).trans s0
        have r1:=(hkp (H.length+1) (by omega) (by omega) (by omega)).trans s1
        have rb:=(hkp x.b (by omega) (Ne.symm mb) (Ne.symm nb)).trans sb
        have ra:=(hkp x.k (by omega) (Ne.symm mk) (Ne.symm nk)).trans e1
        have rd:=(hkp x.d (by omega) (Ne.symm md) (Ne.symm nd)).trans e3
        have rW:=wk'.box
        have rS:=wk'.map
        by_cases hlt:k<x.pg.Kids.length
        ·have c3:=ly_ pre3.length x.pg.Kids.length k hlt
         have g3:(pre3++(x.pg.Kids.map ay_++post3))[pre3.length+k]?=some (ay_ x.pg.Kids[k]):=by rw[gM_ _ _ _ _ (by simpa using hlt)];simp[hlt]
         have c1:∀j,j<x.pg.Keys.length→(((pre1.length:Nat):Int)+(j:Int)<((pre1.length+x.pg.Keys.length:Nat):Int))=True:=fun j=>ly_ pre1.length x.pg.Keys.length j
         have g1:∀j,j<x.pg.Keys.length→(pre1++(x.pg.Keys.map ag_++post1))[pre1.length+j]?=some (ag_ (x.pg.Keys.getD j ⟨#[]⟩)):=fun j hj=>by rw[gM_ _ _ _ _ (by simpa using hj)];simp[hj]
         have km:0<k→(k:Int)-1=((k-1:Nat):Int):=fun _=>by omega
         have gs':Pg H' T M root B ents ck lo:=gs.keep (fun l hl=>hkp l (gs.lows l hl).2 (fun e=>hTW (e▸hl)) (fun e=>hTS (e▸hl))) hlen
         have hdd:x.pg.Kids.drop k=x.pg.Kids[k]::x.pg.Kids.drop (k+1):=drop_eq_getElem_cons hlt
         have hml3:=kT_ hm'
         have hgo:∃lo' hi',lo'=loK x.pg low k∧hi'=hiK x.pg high k:=⟨_,_,rfl,rfl⟩
         by_cases hk0:0<k<;>by_cases hk1:k<x.pg.Keys.length<;>(
          simp(disch:=first|omega|simp only[lzz0_];first|done|omega)only[go_sem,seval,t0,t4,t7,t8,t11,t101,t102,t103,hlt,c3,g3,r0,r1,rb,ra,rd,z1,hk0,hk1,km,c1,g1,au_]
          refine kg_ hTW hTS hWS hB hpg n x.pg.Kids[k] _ _ (d+1) met' dep' H' _ (by omega) hm' (by omega) (by omega) gs' wk' ?_
          intro H2 kp2 len2 wk2
          have hlo:loK x.pg low k=(if 0<k then x.pg.Keys.getD (k-1) (txt [])else low):=rfl
          have hhi:hiK x.pg high k=(if k<x.pg.Keys.length then x.pg.Keys.getD k (txt [])else high):=rfl
          simp only[hk0,hk1,if_true,if_false]at hlo hhi
          rw[hdd,dI_,hlo,hhi]at hkk
          have kp3:∀l,l<Hs.length→l≠W→l≠S→H2[l]?=Hs[l]?:=fun l h1 h2 h3=>(kp2 l (by omega) h2 h3).trans (hkp l h1 h2 h3)
          obtain⟨hm3,hl3⟩:=lb_ (st:=aj_ (B.map PB.slot)) (root:=root) n x.pg.Kids[k] (loK x.pg low k) (hiK x.pg high k) (d+1) met' dep' hm'
          rw[hlo,hhi]at hm3 hl3
          split at hkk
          ·rename_i hr
           simp(disch:=first|omega|simp only[lzz0_];first|done|omega)only[go_sem,seval,t103,hr,au_]
           exact⟨x.pg.Kids.length-(k+1),by omega,hJ _ _ _ ⟨k+1,_,_,by simp[upd,t0],by simp[upd,t4],by simp[upd,t7],by simp[upd,t8],by simp[upd,t11],by simp[upd,t101],by simp[upd,t102],by simp[upd],rfl,by omega,kp3,by omega,wk2,hm3,by omega,hkk⟩⟩
          ·rename_i hr
           rw[Bool.not_eq_true]at hr
           simp(disch:=first|omega|simp only[lzz0_];first|done|omega)only[go_sem,↓reduceIte,hr]
           rw[hwk,hkk]at hK
           exact hK _ (fun l h1 h2 h3=>(kp3 l (by omega) h2 h3).trans (kept l h1 (Ne.symm h3))) (by omega) wk2)
        ·simp(disch:=omega)only[t102,t103,hlt,go_sem,↓reduceIte]
         rw[hwk,hkk,drop_eq_nil_of_le (by omega)]at hK
         exact hK _ (fun l h1 h2 h3=>(hkp l (by omega) h2 h3).trans (kept l h1 (Ne.symm h3))) (by omega) wk')
end
def lv_:ab_:=⟨0,⟨false,[],[],[]⟩⟩
def gj_(sl:List ab_)(k:Nat):Bool:=br_ (sl.getD k lv_).Id 1 64&&bk_ (sl.getD k lv_).Page&&(decide (k=0)||decide ((sl.getD (k-1) lv_).Id<(sl.getD k lv_).Id))
def dF_(sl:List ab_):Bool:=(List.range sl.length).all (gj_ sl)
theorem eA_{sl:List ab_}{k:Nat}(h:k<sl.length)(hb:gj_ sl k=false):dF_ sl=false:=by
 rw[dF_,all_eq_false]
 exact⟨k,by simpa using h,by simp[hb]⟩
theorem lL_{sl:List ab_}(h:∀k,k<sl.length→gj_ sl k=true):dF_ sl=true:=by
 rw[dF_,all_eq_true]
 intro k hk;exact h k (by simpa using hk)
theorem pd_{sl:List ab_}(h:dF_ sl=true){k:Nat}(hk:k<sl.length):gj_ sl k=true:=by
 rw[dF_,all_eq_true]at h
 exact h k (by simpa using hk)
theorem iq_{sl:List ab_}{k:Nat}(h:k<sl.length):gj_ sl k=(br_ sl[k].Id 1 64&&bk_ sl[k].Page&&(!decide (0<k)||!decide (sl[k-1].Id≥sl[k].Id))):=by
 have e:sl.getD k lv_=sl[k]:=by rw[getD_eq_getElem?_getD,getElem?_eq_getElem h];rfl
 have e2:sl.getD (k-1) lv_=sl[k-1]:=by rw[getD_eq_getElem?_getD,getElem?_eq_getElem (by omega)];rfl
 rw[gj_,e,e2]
 by_cases h0:k=0
 ·subst h0;simp
 ·have h1:0<k:=by omega
  congr 1
  rw[Bool.eq_iff_iff]
  simp[h0,h1]
theorem hS_{sl:List ab_}{k:Nat}(hS:∀j,j<k→gj_ sl j=true)(q:gj_ sl k=true):∀j,j<k+1→gj_ sl j=true:=by
 intro j hj
 rcases Nat.lt_or_ge j k with q2|q2
 ·exact hS j q2
 ·have:j=k:=by omega
  subst this;exact q
theorem iZ_{sl:List ab_}(h:dF_ sl=true):∀(j i:Nat) (hi:i<j) (hj:j<sl.length),(sl[i]'(by omega)).Id<sl[j].Id
 | 0,i,hi,hj=>absurd hi (Nat.not_lt_zero _)
 | j+1,i,hi,hj=>by
  have h1:=pd_ h hj
  rw[iq_ hj]at h1
  simp only[Bool.and_eq_true,Bool.or_eq_true,Bool.not_eq_true',decide_eq_false_iff_not,Nat.add_sub_cancel]at h1
  have h2:sl[j].Id<sl[j+1].Id:=by omega
  by_cases hij:i=j
  ·subst hij;exact h2
  ·have:=iZ_ h j i (by omega) (by omega)
   omega
theorem gb_{sl:List ab_}(h:dF_ sl=true){s:ab_}(hs:s∈sl):1≤s.Id∧s.Id≤64∧bk_ s.Page=true:=by
 obtain⟨k,hk,rfl⟩:=mem_iff_getElem.1 hs
 have h1:=pd_ h hk
 rw[iq_ hk]at h1
 simp only[Bool.and_eq_true,br_,decide_eq_true_eq]at h1
 exact⟨h1.1.1.1,h1.1.1.2,h1.1.2⟩
theorem jK_{sl:List ab_}(h:dF_ sl=true):(sl.map ab_.Id).Nodup:=by
 refine pairwise_iff_getElem.2 fun i j hi hj hij e=>?_
 have:=iZ_ h j i hij (by simpa using hj)
 rw[getElem_map,getElem_map]at e
 omega
theorem nD_{sl:List ab_}(h:dF_ sl=true):sl.length≤64:=by
 have h1:(sl.map ab_.Id) ⊆ (List.range 64).map (fun(k:Nat)=>(k:Int)+1):=by
  intro i hi
  obtain⟨s,hs,rfl⟩:=mem_map.1 hi
  obtain⟨a,b,_⟩:=gb_ h hs
  exact mem_map.2 ⟨(s.Id-1).toNat,by simp;omega,by omega⟩
 have:=cI_ (jK_ h) h1
 simpa using this
def jJ_(b:af_):Bool×List Int×Int:=cx_ (aj_ b.Slots) b.Root (b.Slots.length+1) b.Root ⟨#[]⟩ ⟨#[]⟩ 0 [] (-1)
def dg_(b:af_):Bool:=dF_ b.Slots&&((jJ_ b).1&&decide (((jJ_ b).2.1.length:Int)=b.Slots.length))
def c35:LC :=
 .q [.o [.bx 1 28 0,.f 2],.q [.o [.fa 6 1 1,.ln 7 6,.ll 8 7,.ki 9 0],.block 0 (.loop (.q [.o [.bb 10 .lss false 9 8],.k 10 .skip (.exit 0),.block 1 (.q [.o [.m 11 9,.ia 12 5 7 9,.ld 13 5 12,.s 4 (.alloc 79
 z2z),.m 3 11,.st 5 4 13],.pops [.fa 14 0 4,.ln 15 14] (.s 16 (.call 73 [.tmp 15,.const (.int .i64 1),.const (.int .i64 64)])) [.nt 17 16,.m 18 17,.gf 19 18 false 1 4,.gl 20 18 false 4 19,.gc 21 18 false 74 20,
 .gu 22 18 false 21,.pt 23 18 22,.m 24 23,.gm 25 24 false 3,.g 26 24 false (.bin .gtr false (.tmp 25) (.const (.int .i64 0))),.gm 27 24 false 26,.gf 28 27 true 1 1,.gn 29 27 true 28,.gm 30 27 true 3,.g 31 27 true
 (.bin .sub false (.tmp 30) (.const (.int .i64 1))),.g 32 27 true (.indexAddr 5 (.tmp 29) (.tmp 31)),.gf 33 27 true 0 32,.gn 34 27 true 33,.gf 35 27 true 0 4,.gn 36 27 true 35,.g 37 27 true (.bin .geq false (.tmp
 34) (.tmp 36)),.g 38 24 false (.pick (.tmp 27) (.tmp 37) (.const (.bool false))),.pt 39 24 38],.k 39 (.q [.o [.f 2],.ret]) .skip]),.o [.bk 40 .add false 9 1,.m 9 40]]))],.o [.ld 41 2 1,.c1 42 38 41,.s 43
 (.mkMap),.s 44 (.build (.agg #[.pointer none,.map none,.int .i64 0]) [(0,1),(1,1),(2,1)] [(0,.tmp 42),(1,.tmp 43),(2,.const (.int .i64 (-1)))]),.bx 45 118 44,.m 5 45],.pops [.m 46 5,.fa 47 0 1,.ln 48
 47] (.s 49 (.call 75 [.tmp 46,.tmp 48,.const (.string ⟨#[]⟩),.const (.string ⟨#[]⟩),.const (.int .i64 0)])) [.m 50 49,.gm 51 50 true 5,.g 52 50 true (.nilCheck (.tmp 51)),.gf 53 50 true 1 52,.gn 54 50 true 53,.g
 55 50 true (.ext (.lenM (.tmp 54))),.gf 56 50 true 1 1,.gn 57 50 true 56,.g 58 50 true (.lenSl (.tmp 57)),.g 59 50 true (.bin .eql false (.tmp 55) (.tmp 58)),.pf 60 50 59,.m 2 60],.ret]
def As_:LF:=⟨1,61,c35,[.tmp 2]⟩
theorem CD_:aA_ Tryz.prog Tryz.f35 As_:=fh_
theorem nC_(b:af_)(hlen:b.Slots.length≤1048576)(hsm:∀s∈b.Slots,smallP s.Page)(hsz:∀s∈b.Slots,gL_ s.Page.Keys)(h:List Row):aa_ Tryz.prog 35 [.agg (af_.cells b)] h (.val (.bool (dg_ b))):=by
 refine fun K hk=>g7_ (R:=fun r=>r=.val (.bool (dg_ b))) rfl ?_ h K (fun r hr=>hr▸hk)
 refine aF_ mixed Tryz.func35 CD_ (a9_ rfl ?_)
 have fin:∀(H:List Row) (v:Bool),v=dg_ b→∃n r,AW.resolve H n (.val (.bool v))=some r∧r=.val (.bool (dg_ b)):=fun H v e=>⟨1,_,rfl,by rw[e]⟩
 simp(disch:=omega)only[As_,c35,af_.cells,go_sem,seval]
 refine aK_ (fun n t H=>∃k:Nat,t 1=.ptr 0 1 0 0∧t 7=.list 0 5 (b.Slots.map ab_.cells)∧t 8=.val (.int .i64 b.Slots.length)∧t 9=.val (.int .i64 k)∧H[0]?=some ⟨.ty 28,2,[[.val (.int .i64 b.Root),.list 0 5 (b.Slots.map ab_.cells)]]⟩∧n=b.Slots.length-k∧k≤b.Slots.length∧∀j,j<k→gj_ b.Slots j=true) b.Slots.length ?_ ?_
 ·exact⟨0,rfl,rfl,rfl,rfl,rfl,rfl,Nat.zero_le _,fun j hj=>absurd hj (Nat.not_lt_zero j)⟩
 ·rintro J hJ n t H ⟨k,t1,t7,t8,t9,o0,rfl,hk,hS⟩
  have hH:=(List.getElem?_eq_some_iff.1 o0).1
  by_cases hlt:k<b.Slots.length
  ·have hkv:=iq_ hlt
   have hmem:=getElem_mem hlt
   obtain⟨s1,s2,s3⟩:=hsm _ hmem
   simp(disch:=first|omega|simp only[lzz0_];first|done|omega)only[at_,go_sem,seval,t7,t8,t9,hlt,ab_.cells]
   refine aa_.call (c8_ _ _ _ _) ?_
   cases hw:br_ b.Slots[k].Id 1 64 with
   | false =>
    simp(disch:=first|omega|simp only[lzz0_];first|done|omega)only[go_sem,seval]
    exact fin _ _ (by rw[dg_,eA_ hlt (by rw[hkv,hw];rfl)];rfl)
   | true =>
    simp(disch:=first|omega|simp only[lzz0_];first|done|omega)only[at_,go_sem,seval]
    refine aa_.q (n9_ b.Slots[k].Page s1 s2 s3 (hsz _ hmem) _) ?_
    cases hp:bk_ b.Slots[k].Page with
    | false =>
     simp(disch:=first|omega|simp only[lzz0_];first|done|omega)only[go_sem,seval]
     exact fin _ _ (by rw[dg_,eA_ hlt (by rw[hkv,hw,hp];rfl)];rfl)
    | true =>
     by_cases h0:0<k
     ·have km:(k:Int)-1=((k-1:Nat):Int):=by omega
      have hk1:k-1<b.Slots.length:=by omega
      by_cases hr:b.Slots[k].Id≤b.Slots[k-1].Id
      ·simp(disch:=first|omega|simp only[lzz0_];first|done|omega)only[ad_,at_,go_sem,seval,t1,o0,h0,km,hr,au_,ab_.cells]
       exact fin _ _ (by rw[dg_,eA_ hlt (by rw[hkv,hw,hp,decide_eq_true h0,decide_eq_true (p:=b.Slots[k-1].Id≥b.Slots[k].Id) hr];rfl),Bool.false_and])
      ·simp(disch:=first|omega|simp only[lzz0_];first|done|omega)only[ad_,at_,go_sem,seval,t1,t9,o0,h0,km,hr,au_,ab_.cells]
       exact⟨b.Slots.length-(k+1),by omega,hJ _ _ _ ⟨k+1,by simp[upd,t1],by simp[upd,t7],by simp[upd,t8],by simp[upd],(getElem?_append_left hH).trans o0,rfl,by omega,hS_ hS (by rw[hkv,hw,hp,decide_eq_false (p:=b.Slots[k-1].Id≥b.Slots[k].Id) hr];simp)⟩⟩
     ·simp(disch:=first|omega|simp only[lzz0_];first|done|omega)only[go_sem,seval,t9,h0,au_]
      exact⟨b.Slots.length-(k+1),by omega,hJ _ _ _ ⟨k+1,by simp[upd,t1],by simp[upd,t7],by simp[upd,t8],by simp[upd],(getElem?_append_left hH).trans o0,rfl,by omega,hS_ hS (by rw[hkv,hw,hp,decide_eq_false h0];rfl)⟩⟩
  ·have hsl:=lL_ fun j hj=>hS j (by omega)
   have hl64:=nD_ hsl
   simp(disch:=first|omega|simp only[lzz0_];first|done|omega)only[go_sem,seval,t1,t8,t9,o0,hlt]
   refine hY_ b.Root b.Slots hlen hsm (jK_ hsl) _ _ ?_
   intro H1 T M B ents ck hmo g hB _
   have o1:=hmo.at o0
   have gT:=g.lows T (by simp)
   have hnone:∀l,H1.length≤l→l∉T::M::B.flatMap PB.foot:=fun l hl hm=>by have:=(g.lows l hm).2;omega
   simp(disch:=first|omega|simp only[lzz0_];first|done|omega)only[ad_,go_sem,seval,t1,o1,bR_]
   have hBl:B.length=b.Slots.length:=by rw[←hB,length_map]
   have o2:(H1++[⟨.map [],0,[]⟩,⟨.ty 118,3,[[.ptr T 1 0 0,.mp H1.length,.val (.int .i64 (-1))]]⟩])[0]?=some _:=(getElem?_append_left (List.getElem?_eq_some_iff.1 o1).1).trans o1
   refine kg_ (T:=T) (M:=M) (W:=H1.length+1) (S:=H1.length) (root:=b.Root) (B:=B) (ents:=ents) (ck:=ck) (lo:=H.length) (hnone _ (by omega)) (hnone _ (Nat.le_refl _)) (by omega) (by omega) (fun x hx=>(gb_ hsl (by rw[←hB];exact mem_map_of_mem hx)).2.2) (b.Slots.length+1) b.Root _ _ 0 [] (-1) _ _ (by simp;omega) ⟨nodup_nil,fun i hi=>by cases hi⟩ (Int.le_refl _) (by simp) (g.more (bd_.app _ _)) ⟨?_,?_⟩ ?_
   ·rw[getElem?_append_right (by omega),Nat.add_sub_cancel_left];rfl
   ·rw[getElem?_append_right (by omega),Nat.sub_self];rfl
   intro H2 kp len wk
   rw[hB]at wk⊢
   have hwB:cx_ (aj_ b.Slots) b.Root (b.Slots.length+1) b.Root (txt []) (txt []) 0 [] (-1)=jJ_ b:=rfl
   rw[hwB]at wk⊢
   have o3:=(kp 0 (by simp) (by omega) (by omega)).trans o2
   have wb:=wk.box
   have ws:=wk.map
   cases hw:(jJ_ b).1 with
   | false =>
    simp(disch:=first|omega|simp only[lzz0_];first|done|omega)only[go_sem,seval]
    exact fin _ _ (by rw[dg_,hw,Bool.false_and,Bool.and_false])
   | true =>
    simp(disch:=first|omega|simp only[lzz0_];first|done|omega)only[go_sem,seval,t1,o3,wb,ws]
    exact fin _ _ (by rw[dg_,hw,hsl,Bool.true_and,Bool.true_and])
theorem mp_{N:Nat}{t:Nat→AV}{h:List Row}{L:Nat}{E:Tag}{s:Nat}(pre post:List AV)(T:TypeId)(sz:Nat)(hL:h[L]?=some ⟨E,s,[pre++AV.val (.slice none 0 0)::post]⟩) :
 hP_ N t h t (h.set L ⟨E,s,[pre++AV.own h.length 0::post]⟩++[⟨.ty T,sz,[]⟩]):=by
 have hlt:=(List.getElem?_eq_some_iff.1 hL).1
 refine kE_ (.ty T) ⟨T,rfl⟩ sz (fun k=>.inl rfl) (by simp) (at_ (by simp)) (fun l r' hl hr=>?_)
 rw[ad_ (by simpa using hl)]at hr
 by_cases e:L=l
 ·subst e
  rw[aq_ hlt]at hr
  obtain rfl:=Option.some.inj hr
  refine⟨_,hL,rfl,rfl,⟨_,[],rfl,?_,rfl⟩⟩
  have:∀pre:List AV,CvL h.length (pre++AV.val (.slice none 0 0)::post) (pre++AV.own h.length 0::post):=by
   intro pre
   induction pre with
   | nil=>exact⟨_,_,rfl,.inr ⟨rfl,rfl⟩,CvL.refl _ _⟩
   | cons a us ih=>exact⟨a,_,rfl,.inl rfl,ih⟩
  exact this pre
 ·rw[ao_ e]at hr
  exact⟨r',hr,rfl,rfl,d6_.refl _ _⟩
def mr_(xs:List Int)(v:Int):Bool:=xs.any fun x=>decide (v=x)
theorem zi_(xs:List Int)(v:Int):mr_ xs v=xs.contains v:=by
 induction xs with
 | nil=>rfl
 | cons a xs ih =>
  rw[mr_,any_cons,contains_cons,←ih]
  rfl
def AD_:LC :=
 .q [.o [.f 4],.q [.o [.ki 5 0],.block 0 (.loop (.q [.q [.o [.m 6 5,.m 7 0,.ll 8 7,.bb 9 .lss false 6 8],.k 9 .skip (.exit 0)],.block 1 (.q [.o [.m 12 0,.m 13 5,.ia 14 1 12 13,.ln 15 14,.m 16 1,.bb 17 .eql
 false 15 16],.k 17 (.q [.o [.t 4],.ret]) .skip]),.o [.m 10 5,.bk 11 .add false 10 1,.m 5 11]]))],.o [.f 4],.ret]
def xw_:LF:=⟨2,18,AD_,[.tmp 4]⟩
theorem zB_:aA_ prog Tryz.f106 xw_:=as_
theorem ou_(xs:List Int)(v:Int)(hx:xs.length≤1048576)(h:List Row):aa_ prog 106 [.list 0 1 (xs.map ay_),.val (.int .i64 v)] h (.val (.bool (mr_ xs v))):=by
 refine ar_ mixed Tryz.func106 zB_ rfl rfl ?_ h
 simp(disch:=omega)only[xw_,AD_,go_sem]
 refine aK_ (fun n t h=>∃k:Nat,t 0=.list 0 1 (xs.map ay_)∧t 1=.val (.int .i64 v)∧t 5=.val (.int .i64 k)∧n=xs.length-k∧k≤xs.length∧(mr_ xs v=mr_ (xs.drop k) v)) (xs.length) ?_ ?_
 ·exact⟨0,rfl,rfl,rfl,rfl,Nat.zero_le _,rfl⟩
 ·rintro J hJ n t h ⟨k,t0,t1,k5,rfl,hk,hS⟩
  by_cases hlt:k<xs.length
  ·skip
   rw[show mr_ (xs.drop k) v=(decide (v=xs[k])||mr_ (xs.drop (k+1)) v)from by rw[drop_eq_getElem_cons hlt];rfl]at hS
   have hsym:decide (v=xs[k])=decide (xs[k]=v):=by simp[eq_comm]
   rw[hsym]at hS
   simp(disch:=omega)only[t0,t1,k5,hlt,ay_,go_sem,seval]
   repeat' (first
    | exact ah_ _ _
    | exact⟨xs.length-(k+1),by omega,hJ _ _ _ ⟨k+1,by simp[upd,t0],by simp[upd,t1],by simp[upd],rfl,by omega,by rw[hS];simp[*]⟩⟩
    | (refine ai_ ?_;rw[hS];simp[*];done)
    | (refine ai_ ?_;rw[hS,drop_eq_nil_of_le (by omega)];rfl)
    | simp(disch:=omega)only[k5,go_sem,seval]
    | ((first|(apply aW_;assumption)|(apply aV_;assumption)|(apply bb_;assumption)|(apply be_;assumption));intro hb;try simp only[hb])
    | ((first|apply aB_|apply aC_)<;>intro hb<;>(try simp only[hb])<;>(first|have hp:=bx_ hb|have hp:=bw_ hb|have hp:=bu_ hb|have hp:=bv_ hb|skip)))
  ·skip
   simp(disch:=omega)only[t0,k5,hlt,go_sem,seval]
   repeat' (first
    | exact ah_ _ _
    | (refine ai_ ?_;rw[hS];simp[*];done)
    | (refine ai_ ?_;rw[hS,drop_eq_nil_of_le (by omega)];rfl)
    | simp(disch:=omega)only[t0,t1,k5,go_sem,seval]
    | ((first|(apply aW_;assumption)|(apply aV_;assumption)|(apply bb_;assumption)|(apply be_;assumption));intro hb;try simp only[hb])
    | ((first|apply aB_|apply aC_)<;>intro hb<;>(try simp only[hb])<;>(first|have hp:=bx_ hb|have hp:=bw_ hb|have hp:=bu_ hb|have hp:=bv_ hb|skip)))
def atI(sl:List ab_)(id:Int):Int:=b5_ (fun s=>decide (s.Id=id)) sl 0
def Av_:LC :=
 .q [.o [.bx 2 28 0,.ki 4 0],.q [.o [.ki 5 0],.block 0 (.loop (.q [.q [.o [.m 6 5,.fa 7 1 2,.ln 8 7,.ll 9 8,.bb 10 .lss false 6 9],.k 10 .skip (.exit 0)],.block 1 (.q [.o [.fa 13 1 2,.ln 14 13,.m 15 5,.ia 16 5
 14 15,.fa 17 0 16,.ln 18 17,.m 19 1,.bb 20 .eql false 18 19],.k 20 (.q [.o [.m 21 5,.m 4 21],.ret]) .skip]),.o [.m 11 5,.bk 12 .add false 11 1,.m 5 12]]))],.o [.s 4 (.mov (.const (.int .i64 (-1))))],.ret]
def xa_:LF:=⟨2,22,Av_,[.tmp 4]⟩
theorem zO_:aA_ prog Tryz.f105 xa_:=as_
theorem fR_(b:af_)(id:Int)(hx:b.Slots.length≤1048576)(h:List Row):aa_ prog 105 [.agg (af_.cells b),.val (.int .i64 id)] h (.val (.int .i64 (atI b.Slots id))):=by
 refine ar_ mixed Tryz.func105 zO_ rfl rfl ?_ h
 simp(disch:=omega)only[xa_,Av_,af_.cells,go_sem,seval]
 refine aK_ (fun n t h=>∃k:Nat,t 2=.ptr 0 1 0 0∧t 1=.val (.int .i64 id)∧t 5=.val (.int .i64 k)∧h[0]?=some ⟨28,2,[[.val (.int .i64 b.Root),.list 0 5 (b.Slots.map ab_.cells)]]⟩∧n=b.Slots.length-k∧k≤b.Slots.length∧(atI b.Slots id=b5_ (fun s=>decide (s.Id=id)) (b.Slots.drop k) k)) (b.Slots.length) ?_ ?_
 ·exact⟨0,rfl,rfl,rfl,rfl,rfl,Nat.zero_le _,rfl⟩
 ·rintro J hJ n t h ⟨k,t2,t1,k5,o0,rfl,hk,hS⟩
  have p0:∀l,(h++l)[0]?=some ⟨28,2,[[.val (.int .i64 b.Root),.list 0 5 (b.Slots.map ab_.cells)]]⟩:=fun l=>bT_ o0
  by_cases hlt:k<b.Slots.length
  ·skip
   rw[gf_ _ _ k hlt]at hS
   simp(disch:=omega)only[t2,t1,k5,o0,hlt,ab_.cells,go_sem,seval]
   repeat' (first
    | exact ah_ _ _
    | exact⟨b.Slots.length-(k+1),by omega,hJ _ _ _ ⟨k+1,by simp[upd,t2],by simp[upd,t1],by simp[upd],by first|exact o0|exact p0 _,rfl,by omega,by rw[hS];simp[*]⟩⟩
    | (refine aG_ ?_;rw[hS];simp[*];done)
    | (refine aG_ ?_;rw[hS,du_ _ _ _ (by omega)])
    | simp(disch:=omega)only[k5,go_sem,seval]
    | ((first|(apply aW_;assumption)|(apply aV_;assumption)|(apply bb_;assumption)|(apply be_;assumption));intro hb;try simp only[hb])
    | ((first|apply aB_|apply aC_)<;>intro hb<;>(try simp only[hb])<;>(first|have hp:=bx_ hb|have hp:=bw_ hb|have hp:=bu_ hb|have hp:=bv_ hb|skip)))
  ·skip
   simp(disch:=omega)only[t2,k5,o0,hlt,go_sem,seval]
   repeat' (first
    | exact ah_ _ _
    | (refine aG_ ?_;rw[hS];simp[*];done)
    | (refine aG_ ?_;rw[hS,du_ _ _ _ (by omega)])
    | simp(disch:=omega)only[t2,t1,k5,o0,p0,go_sem,seval]
    | ((first|(apply aW_;assumption)|(apply aV_;assumption)|(apply bb_;assumption)|(apply be_;assumption));intro hb;try simp only[hb])
    | ((first|apply aB_|apply aC_)<;>intro hb<;>(try simp only[hb])<;>(first|have hp:=bx_ hb|have hp:=bw_ hb|have hp:=bu_ hb|have hp:=bv_ hb|skip)))
theorem ij_{sl:List ab_}{id:Int}{p:am_}(h:aj_ sl id=some p):∃k,∃hk:k<sl.length,atI sl id=(k:Int)∧sl[k].Page=p∧sl[k].Id=id:=by
 unfold aj_ at h
 unfold atI
 rcases ho_ (fun s:ab_=>decide (s.Id=id)) sl 0 with ⟨h1,h2⟩|⟨i,hi,h1,h2,h3⟩
 ·exfalso
  rw[find?_eq_none.2 (fun x hx e=>by have:=h2 x hx;simp at this e;exact this e)]at h
  cases h
 ·refine⟨i,hi,by simpa using h1,?_,by simpa using h2⟩
  have hf:sl.find? (fun s=>s.Id==id)=some sl[i]:=by
   rw[find?_eq_some_iff_getElem]
   refine⟨by simpa using h2,i,hi,rfl,fun j hj=>?_⟩
   have:=h3 j hj
   simpa using this
  rw[hf]at h
  simpa using h
theorem pV_{sl:List ab_}{id:Int}(h:aj_ sl id=none):atI sl id = -1:=by
 unfold aj_ at h
 unfold atI
 rcases ho_ (fun s:ab_=>decide (s.Id=id)) sl 0 with ⟨h1,h2⟩|⟨i,hi,h1,h2,h3⟩
 ·exact h1
 ·exfalso
  simp only[Option.map_eq_none_iff,find?_eq_none]at h
  have:=h _ (getElem_mem hi)
  simp at this h2
  exact this h2
def c68:LC :=
 .q [.o [.bx 2 28 0,.s 4 (.alloc 77 z0z)],.gops [.fa 5 1 2,.ln 6 5,.ld 7 2 2,.m 8 1] [(.c2 9 105 7 8,[.fa 5 1 2,.ln 6 5]),(.ia 10 5 6 9,[]),(.fa 11 1 10,[]),(.ld 12 4 11,[]),(.st 4 4 12,[])],.ret]
def vG_:LF:=⟨2,13,c68,[.cell 4 (some 4)]⟩
theorem xN_:aA_ prog Tryz.f68 vG_:=as_
theorem eT_(b:af_)(id:Int)(p:am_)(hx:b.Slots.length≤1048576)(hp:aj_ b.Slots id=some p)(h:List Row):aa_ prog 68 [.agg (af_.cells b),.val (.int .i64 id)] h (.agg (am_.cells p)):=by
 obtain⟨k,hk,e1,rfl,e3⟩:=ij_ hp
 have hc:=fR_ b id hx
 rw[e1]at hc
 unfold af_.cells at hc
 refine ar_ mixed Tryz.func68 xN_ rfl rfl ?_ h
 simp(disch:=omega)only[vG_,c68,af_.cells,go_sem,seval]
 repeat' (first
  | exact ah_ _ _
  | (exact fG_ _ _ rfl)
  | simp(disch:=omega)only[ab_.cells,go_sem,seval]
  | (refine aa_.call (hc _) ?_)
  | (refine aa_.q (hc _) ?_)
  | ((first|(apply aW_;assumption)|(apply aV_;assumption)|(apply bb_;assumption)|(apply be_;assumption));intro hb;try simp only[hb])
  | ((first|apply aB_|apply aC_)<;>intro hb<;>(try simp only[hb])<;>(first|have hp:=bx_ hb|have hp:=bw_ hb|have hp:=bu_ hb|have hp:=bv_ hb|skip)))
theorem tX_{p:am_}(hr:dc_ p.Keys=true)(low high:ByteArray):i3_ p low high=(decide (0<p.Keys.length)&&(bP_ (p.Keys.getD 0 ⟨#[]⟩) low||(!decide (high=⟨#[]⟩)&&!bP_ (p.Keys.getD (p.Keys.length-1) ⟨#[]⟩) high))):=by
 unfold i3_
 by_cases h0:0<p.Keys.length
 ·have e0:p.Keys.getD 0 ⟨#[]⟩=p.Keys[0]:=by simp[h0]
  have e1:p.Keys.getD (p.Keys.length-1) ⟨#[]⟩=p.Keys[p.Keys.length-1]:=by
   rw[getD_eq_getElem?_getD,getElem?_eq_getElem (by omega)];rfl
  rw[e0,e1,decide_eq_true h0,Bool.true_and,Bool.eq_iff_iff,any_eq_true]
  constructor
  ·rintro⟨x,hx,h1⟩
   obtain⟨j,hj,rfl⟩:=mem_iff_getElem.1 hx
   rw[Bool.or_eq_true]at h1⊢
   rcases h1 with h1|h1
   ·left
    by_cases hj0:j=0
    ·subst hj0;exact h1
    ·exact g0_ (jH_ hr 0 j hj (by omega)) h1
   ·right
    rw[Bool.and_eq_true,Bool.not_eq_true']at h1⊢
    refine⟨h1.1,?_⟩
    by_cases hj0:j=p.Keys.length-1
    ·subst hj0;exact h1.2
    ·rw[Bool.not_eq_true']
     have h3:=jH_ hr j (p.Keys.length-1) (by omega) (by omega)
     cases h4:bP_ p.Keys[p.Keys.length-1] high
     ·rfl
     ·rw[g0_ h3 h4]at h1;simp at h1
  ·intro h1
   rw[Bool.or_eq_true]at h1
   rcases h1 with h1|h1
   ·exact⟨_,getElem_mem h0,by rw[h1];rfl⟩
   ·exact⟨_,getElem_mem (by omega:p.Keys.length-1<p.Keys.length),by rw[h1,Bool.or_true]⟩
 ·have:p.Keys=[]:=eq_nil_of_length_eq_zero (by omega)
  rw[this];rfl
structure Wd(H:List Row)(W R:Nat)(b:af_)(met:List Int)(dep:Int):Prop where
 box:H[W]?=some ⟨.ty 88,4,[[.val (.int .i64 b.Root),.list 0 5 (b.Slots.map ab_.cells),.own R met.length,.val (.int .i64 (dep+1))]]⟩
 row:H[R]?=some ⟨.ty 2,1,met.map ay_⟩
theorem hR_{sl:List ab_}{met:List Int}(h:eQ_ (aj_ sl) met):met.length≤sl.length:=by
 have h1:met ⊆ sl.map ab_.Id:=by
  intro i hi
  have:=h.2 i hi
  unfold aj_ at this
  rw[Option.isSome_map]at this
  obtain⟨x,hx⟩:=Option.isSome_iff_exists.1 this
  have hx2:=find?_some hx
  exact mem_map.2 ⟨x,mem_of_find?_eq_some hx,by simpa using hx2⟩
 have:=cI_ h.1 h1
 simpa using this
theorem pc_{f:Int→ByteArray→ByteArray→List Int→Int→Bool×List Int×Int}(Q:List Int→Int→Prop)(p:am_)(low high:ByteArray)(hf:∀kid lo hi m e,Q m e→Q (f kid lo hi m e).2.1 (f kid lo hi m e).2.2) :
 ∀(r:List Int) (k:Nat) (met:List Int) (dep:Int),Q met dep→Q (dI_ f p low high k r met dep).2.1 (dI_ f p low high k r met dep).2.2
 | [],k,met,dep,h=>h
 | kid::r,k,met,dep,h=>by
  have h1:=hf kid (loK p low k) (hiK p high k) met dep h
  unfold dI_
  split
  ·exact pc_ Q p low high hf r (k+1) _ _ h1
  ·exact h1
theorem kC_{st:c4_}{root:Int}(Q:List Int→Int→Prop)(h1:∀met dep id,Q met dep→Q (met++[id]) dep)(h2:∀met dep d,0≤d→Q met dep→Q met (if dep<0 then d else dep)):∀(n:Nat) (id:Int) (low high:ByteArray) (d:Int) (met:List Int) (dep:Int),0≤d→Q met dep→Q (cx_ st root n id low high d met dep).2.1 (cx_ st root n id low high d met dep).2.2
 | 0,_,_,_,_,met,dep,_,h=>h
 | n+1,id,low,high,d,met,dep,hd,h=>by
  unfold cx_
  split
  ·exact h
  ·split
   ·exact h
   ·split
    ·exact h1 _ _ _ h
    ·split
     ·exact h1 _ _ _ h
     ·split
      ·exact h2 _ _ _ hd (h1 _ _ _ h)
      ·rename_i p _ _ _ _ _
       exact pc_ Q p low high (fun kid lo hi m e hm=>kC_ Q h1 h2 n kid lo hi (d+1) m e (by omega) hm) p.Kids 0 (met++[id]) dep (h1 _ _ _ h)
theorem ug_{st:c4_}{root:Int}(n:Nat)(id:Int)(low high:ByteArray)(d:Int)(met:List Int)(dep:Int)(hd:0≤d)(h : -1≤dep) : -1≤(cx_ st root n id low high d met dep).2.2 :=
 kC_ (fun _ dep => -1≤dep) (fun _ _ _ h=>h) (fun _ _ _ hd h=>by show -1≤(if _<0 then _ else _:Int);split<;>omega) n id low high d met dep hd h
theorem uL_{st:c4_}{root x:Int}(n:Nat)(id:Int)(low high:ByteArray)(d:Int)(met:List Int)(dep:Int)(h:x∈met)(hd:0≤d:=by omega):x∈(cx_ st root n id low high d met dep).2.1 :=
 kC_ (fun met _=>x∈met) (fun _ _ _ h=>mem_append_left _ h) (fun _ _ _ _ h=>h) n id low high d met dep hd h
def c59:LC :=
 .q [.o [.f 10],.o [.m 17 0,.nc 18 17,.fa 19 0 18,.ld 20 2 19,.m 21 1,.c2 22 105 20 21,.m 11 22],.q [.o [.m 23 11,.bk 24 .lss false 23 0,.m 25 24,.gm 26 25 false 0,.g 27 25 false (.nilCheck (.tmp 26)),.gf 28
 25 false 2 27,.gn 29 25 false 28,.gm 30 25 false 1,.g 31 25 false (.call 106 [.tmp 29,.tmp 30]),.pt 32 25 31,.m 33 32,.gm 34 33 false 2,.g 35 33 false (.bin .gtr false (.tmp 34) (.const (.int .i64 64))),.pt 36
 33 35],.k 36 (.q [.o [.f 10],.ret]) .skip],.o [.m 37 0,.m 38 0,.nc 39 38,.fa 40 2 39,.ln 41 40,.m 42 1,.s 43 (.buildSlice 2 1 (.int .i64 0) 1 [(0,.tmp 42)]),.ap 44 2 1 8 41 43,.nc 45 37,.fa 46 2 45,.st 1 46
 44],.o [.m 47 0,.nc 48 47,.fa 49 0 48,.fa 50 1 49,.ln 51 50,.m 52 11,.ia 53 5 51 52,.fa 54 1 53,.ld 55 4 54,.s 12 (.alloc 77 z0z),.st 4 12 55],.q [.o [.fa 56 1 12,.ln 57 56,.ll 58 57,.m 13 58],.o [.m 59
 13,.bk 60 .gtr false 59 0,.m 61 60,.gf 62 61 true 1 12,.gn 63 61 true 62,.g 64 61 true (.indexAddr 1 (.tmp 63) (.const (.int .i64 0))),.gn 65 61 true 64,.gm 66 61 true 3,.g 67 61 true (.bin .lss false (.tmp 65)
 (.tmp 66)),.gm 68 61 true 67,.gm 69 68 false 4,.g 70 68 false (.bin .neq false (.tmp 69) (.const (.string ⟨#[]⟩))),.gm 71 68 false 70,.gf 72 71 true 1 12,.gn 73 71 true 72,.gm 74 71 true 13,.g 75 71 true (.bin
 .sub false (.tmp 74) (.const (.int .i64 1))),.g 76 71 true (.indexAddr 1 (.tmp 73) (.tmp 75)),.gn 77 71 true 76,.gm 78 71 true 4,.g 79 71 true (.bin .geq false (.tmp 77) (.tmp 78)),.g 80 68 false (.pick (.tmp 71)
 (.tmp 79) (.const (.bool false))),.g 81 61 true (.pick (.tmp 68) (.const (.bool true)) (.tmp 80)),.pf 82 61 81],.k 82 (.q [.o [.f 10],.ret]) .skip],.q [.o [.fa 83 0 12,.ln 84 83],.k 84 (.q [.q [.o [.m 85 0,.nc 86
 85,.fa 87 3 86,.ln 88 87,.bk 89 .eql false 88 0],.k 89 (.o [.m 90 0,.m 91 2,.nc 92 90,.fa 93 3 92,.st 1 93 91]) .skip],.o [.m 94 0,.nc 95 94,.fa 96 3 95,.ln 97 96,.m 98 2,.bb 99 .eql false 97 98,.m 100 99,
 .gm 101 100 true 2,.g 102 100 true (.bin .eql false (.tmp 101) (.const (.int .i64 1))),.gm 103 100 true 102,.gf 104 103 false 1 12,.gn 105 103 false 104,.g 106 103 false (.lenSl (.tmp 105)),.g 107 103 false (.bin
 .geq false (.tmp 106) (.const (.int .i64 3))),.g 108 100 true (.pick (.tmp 103) (.const (.bool true)) (.tmp 107)),.pf 109 100 108,.m 10 109],.ret]) .skip],.q [.o [.m 110 2,.bk 111 .gtr false 110 1,.m 112 111,.gf
 113 112 true 3 12,.gn 114 112 true 113,.g 115 112 true (.lenSl (.tmp 114)),.g 116 112 true (.bin .lss false (.tmp 115) (.const (.int .i64 3))),.pf 117 112 116],.k 117 (.q [.o [.f 10],.ret]) .skip],.q [.o [.ki 14
 0],.block 0 (.loop (.q [.q [.o [.m 118 14,.fa 119 3 12,.ln 120 119,.ll 121 120,.bb 122 .lss false 118 121],.k 122 .skip (.exit 0)],.block 1 (.q [.o [.m 125 3,.m 126 4,.m 15 125,.m 16 126],.q [.o [.m 127 14,
 .bk 128 .gtr false 127 0],.k 128 (.o [.fa 129 1 12,.ln 130 129,.m 131 14,.bk 132 .sub false 131 1,.ia 133 1 130 132,.ln 134 133,.m 15 134]) .skip],.q [.o [.m 135 14,.fa 136 1 12,.ln 137 136,.ll 138 137,.bb
 139 .lss false 135 138],.k 139 (.o [.fa 140 1 12,.ln 141 140,.m 142 14,.ia 143 1 141 142,.ln 144 143,.m 16 144]) .skip],.o [.m 145 0,.fa 146 3 12,.ln 147 146,.m 148 14,.ia 149 1 147 148,.ln 150 149,.m 151 2,
 .bk 152 .add false 151 1,.m 153 15,.m 154 16,.s 155 (.call 59 [.tmp 145,.tmp 150,.tmp 152,.tmp 153,.tmp 154]),.nt 156 155],.k 156 (.q [.o [.f 10],.ret]) .skip]),.o [.m 123 14,.bk 124 .add false 123 1,.m 14
 124]]))],.o [.t 10],.ret]
def wl_:LF:=⟨5,157,c59,[.tmp 10]⟩
theorem C6_:aA_ prog Tryz.f59 wl_:=as_
section
variable {W R : Nat} {b : af_}
set_option maxHeartbeats 2000000 in
theorem ka_(hWR:W≠R)(hB:b.Slots.length≤64)(hpg:∀s∈b.Slots,bk_ s.Page=true):∀(n:Nat) (id:Int) (low high:ByteArray) (d:Int) (met:List Int) (dep:Int) (H:List Row) (K:AV→List Row→Prop),b.Slots.length+1≤n+met.length→eQ_ (aj_ b.Slots) met→0≤d→d≤met.length→(d=0→id=b.Root)→(0<d→b.Root∈met) → -1≤dep →
 Wd H W R b met dep →
 (∀H',((cx_ (aj_ b.Slots) b.Root n id low high d met dep).1=true→(∀l,l<H.length→l≠W→l≠R→H'[l]?=H[l]?)∧H.length≤H'.length∧Wd H' W R b (cx_ (aj_ b.Slots) b.Root n id low high d met dep).2.1 (cx_ (aj_ b.Slots) b.Root n id low high d met dep).2.2)→K (.val (.bool (cx_ (aj_ b.Slots) b.Root n id low high d met dep).1)) H') →
 callSem prog 59 [.ptr W 1 0 0,.val (.int .i64 id),.val (.int .i64 (d+1)),.val (.string low),.val (.string high)] H K
 | 0,_,_,_,_,met,_,_,_,hn,hm,_,_,_,_,_,_,_=>by have:=hR_ hm;omega
 | n+1,id,low,high,d,met,dep,H,K,hn,hm,hd0,hd1,hr0,hr1,hp0,wk,hK=>by
  refine aF_ mixed Tryz.func59 C6_ (a9_ rfl ?_)
  have hml:=hR_ hm
  have wB:=wk.box
  have wR:=wk.row
  have lW:=(List.getElem?_eq_some_iff.1 wB).1
  have lR:=(List.getElem?_eq_some_iff.1 wR).1
  have hwk:=jU_ (aj_ b.Slots) b.Root n id low high d met dep
  have hat:=fR_ b id (by omega)
  unfold af_.cells at hat
  have hhas:∀h',h'[R]?=some ⟨.ty 2,1,met.map ay_⟩→aa_ prog 106 [.own R met.length,.val (.int .i64 id)] h' (.val (.bool (met.contains id))):=fun h' e=>by
   have e2:[AV.own R met.length,.val (.int .i64 id)].mapM (AW.resolve h' 5)=some [.list 0 1 (met.map ay_),.val (.int .i64 id)]:=iJ_ (f3_ (n:=3) (r:=⟨.ty 2,1,met.map ay_⟩) e (by simp) (f9_ _)) (fX_ rfl)
   have:=Go.AW.frozen (fun h=>ou_ met id (by omega) h) e2
   rwa [zi_]at this
  cases hx:aj_ b.Slots id with
  | none =>
   rw[hx]at hwk
   rw[pV_ hx]at hat
   simp(disch:=omega)only[wl_,c59,wB,lc_,ln_,go_sem,seval]
   refine aa_.call (hat _) ?_
   simp(disch:=first|omega|simp only[lzz0_];first|done|omega)only[go_sem,seval]
   rw[hwk]at hK
   exact hK _ (fun e=>absurd e Bool.false_ne_true)
  | some p =>
   rw[hx]at hwk
   obtain⟨i,hi,a1,a2,a3⟩:=ij_ hx
   rw[a1]at hat
   have hpp:bk_ p=true:=a2▸hpg _ (getElem_mem hi)
   have hkeys:dc_ p.Keys=true:=by unfold bk_ at hpp;rw[Bool.and_eq_true]at hpp;exact hpp.1
   have hoe:=tX_ hkeys low high
   have i0:decide ((i:Int)<0)=false:=by rw[decide_eq_false_iff_not];omega
   simp(disch:=omega)only[wl_,c59,wB,lc_,ln_,go_sem,seval]
   refine aa_.call (hat _) ?_
   simp(disch:=first|omega|simp only[lzz0_];first|done|omega)only[go_sem,seval,wB,i0]
   refine aa_.call (hhas _ wR) ?_
   cases hc:met.contains id with
   | true =>
    simp only[hc,if_true]at hwk
    simp(disch:=first|omega|simp only[lzz0_];first|done|omega)only[go_sem,seval]
    rw[hwk]at hK
    exact hK _ (fun e=>absurd e Bool.false_ne_true)
   | false =>
    have hm1:=jR_ hm hx hc
    have hml1:=hR_ hm1
    rw[la_,length_singleton]at hml1
    have i1:decide (d+1>64)=false:=by rw[decide_eq_false_iff_not];omega
    simp only[hc,Bool.false_eq_true,if_false]at hwk
    subst a2
    simp(disch:=first|omega|simp only[lzz0_];first|done|omega)only[ao_,aq_,ad_,at_,ls_,go_sem,seval,wB,wR,i1,ab_.cells]
    refine⟨by omega,by omega,?_⟩
    obtain⟨Hs,hHs⟩:∃Hs:List Row,Hs=List.set (List.set (H++([⟨.ty 2,1,[[.val (.int .i64 id)]]⟩]:List Row)) R ⟨.ty 2,1,met.map ay_++[[.val (.int .i64 id)]]⟩) W ⟨.ty 88,4,[[.val (.int .i64 b.Root),.list 0 5 (b.Slots.map ab_.cells),.own R (met.length+1),.val (.int .i64 (dep+1))]]⟩:=⟨_,rfl⟩
    rw[←hHs]
    generalize hpe:b.Slots[i].Page=p at *
    obtain⟨G,hG⟩:∃G:List Row,G=List.set (Hs++([⟨.ty 77,4,[[.val (.bool false),.val (.slice none 0 0),.val (.slice none 0 0),.val (.slice none 0 0)]]⟩]:List Row)) (H.length+1) ⟨.ty 77,4,[[.val (.bool p.Leaf),.list 0 1 (p.Keys.map ag_),.list 0 1 (p.Vals.map ag_),.list 0 1 (p.Kids.map ay_)]]⟩:=⟨_,rfl⟩
    rw[←hG]
    have lHs:Hs.length=H.length+1:=by rw[hHs];simp
    have lG:G.length=H.length+2:=by rw[hG,ls_,la_,lHs];rfl
    have hGe:∀l,l<H.length→G[l]?=Hs[l]?:=fun l hl=>by rw[hG,getElem?_set_ne (by omega),getElem?_append_left (by omega)]
    have gP:G[H.length+1]?=some ⟨.ty 77,4,[[.val (.bool p.Leaf),.list 0 1 (p.Keys.map ag_),.list 0 1 (p.Vals.map ag_),.list 0 1 (p.Kids.map ay_)]]⟩:=by rw[hG,getElem?_set_self (by rw[la_,lHs];simp)]
    have gW:G[W]?=some ⟨.ty 88,4,[[.val (.int .i64 b.Root),.list 0 5 (b.Slots.map ab_.cells),.own R (met.length+1),.val (.int .i64 (dep+1))]]⟩:=by rw[hGe W lW,hHs,getElem?_set_self (by simp;omega)]
    have gR:G[R]?=some ⟨.ty 2,1,met.map ay_++[[.val (.int .i64 id)]]⟩:=by rw[hGe R lR,hHs,getElem?_set_ne hWR,getElem?_set_self (by simp;omega)]
    have kept:∀l,l<H.length→l≠W→l≠R→G[l]?=H[l]?:=fun l h1 h2 h3=>by rw[hGe l h1,hHs,getElem?_set_ne (Ne.symm h2),getElem?_set_ne (Ne.symm h3),getElem?_append_left h1]
    clear hG hHs
    have wd1:Wd G W R b (met++[id]) dep:=⟨by rw[gW];simp,by rw[gR];simp⟩
    have hroot:decide (id=b.Root)=decide (d=0):=by
     by_cases h0:d=0
     ·simp[hr0 h0,h0]
     ·have h1:=hr1 (by omega)
      have hne:id≠b.Root:=fun e=>by rw[←e]at h1;simp[h1]at hc
      simp[hne,h0]
    have hkl:p.Keys.length≤6∧(p.Leaf=false→p.Kids.length=p.Keys.length+1∧p.Kids.length≤6∧2≤p.Kids.length):=by
     unfold bk_ at hpp
     cases hlf:p.Leaf
     ·simp only[hlf,Bool.false_eq_true,if_false,br_,Bool.and_eq_true,decide_eq_true_eq]at hpp
      obtain⟨_,⟨⟨⟨_,_⟩,_⟩,_⟩,_⟩:=hpp
      exact⟨by omega,fun _=>⟨by omega,by omega,by omega⟩⟩
     ·simp only[hlf,if_true,Bool.and_eq_true,decide_eq_true_eq]at hpp
      obtain⟨_,⟨⟨_,_⟩,_⟩,_⟩:=hpp
      exact⟨by omega,fun e=>by cases e⟩
    rw[hoe]at hwk
    have q1:decide (dep+1=0)=decide (dep<0):=by rw[decide_eq_decide];omega
    have q2:decide (dep+1=d+1)=decide (dep=d):=by rw[decide_eq_decide];omega
    have q3:decide (d+1=1)=decide (d=0):=by rw[decide_eq_decide];omega
    have q4:decide ((p.Keys.length:Int)≥3)=!decide ((p.Keys.length:Int)<3):=by rw[←decide_not,decide_eq_decide];omega
    have q5:decide (d+1>1)=!decide (d=0):=by rw[←decide_not,decide_eq_decide];omega
    by_cases hbad:(decide (0<p.Keys.length)&&(bP_ (p.Keys.getD 0 ⟨#[]⟩) low||(!decide (high=⟨#[]⟩)&&!bP_ (p.Keys.getD (p.Keys.length-1) ⟨#[]⟩) high)))=true
    ·rw[if_pos hbad]at hwk
     rw[Bool.and_eq_true,decide_eq_true_eq]at hbad
     obtain⟨n0,hbad⟩:=hbad
     have n1:p.Keys.length-1<p.Keys.length:=by omega
     have km:(p.Keys.length:Int)-1=((p.Keys.length-1:Nat):Int):=by omega
     have e0:p.Keys.getD 0 ⟨#[]⟩=p.Keys[0]:=by simp[n0]
     have e1:p.Keys.getD (p.Keys.length-1) ⟨#[]⟩=p.Keys[p.Keys.length-1]:=by rw[getD_eq_getElem?_getD,getElem?_eq_getElem n1];rfl
     rw[e0,e1]at hbad
     cases h1:bP_ p.Keys[0] low with
     | true =>
      simp(disch:=first|omega|simp only[lzz0_];first|done|omega)only[go_sem,seval,gP,n0,h1]
      rw[hwk]at hK
      exact hK _ (fun e=>absurd e Bool.false_ne_true)
     | false =>
      rw[h1,Bool.false_or,Bool.and_eq_true,Bool.not_eq_true',Bool.not_eq_true']at hbad
      obtain⟨h2,h3⟩:=hbad
      have h2':decide (high=txt [])=false:=h2
      simp(disch:=first|omega|simp only[lzz0_];first|done|omega)only[go_sem,seval,gP,n0,km,h1,h2',h3,au_,kG_]
      rw[hwk]at hK
      exact hK _ (fun e=>absurd e Bool.false_ne_true)
    ·rw[if_neg hbad]at hwk
     have hgood:(decide (0<p.Keys.length)=false)∨(∃n0:0<p.Keys.length,bP_ p.Keys[0] low=false∧decide (high=txt [])=true)∨(∃n0:0<p.Keys.length,bP_ p.Keys[0] low=false∧decide (high=txt [])=false∧bP_ (p.Keys[p.Keys.length-1]'(by omega)) high=true):=by
      by_cases n0:0<p.Keys.length
      ·right
       have e0:p.Keys.getD 0 ⟨#[]⟩=p.Keys[0]:=by simp[n0]
       have e1:p.Keys.getD (p.Keys.length-1) ⟨#[]⟩=p.Keys[p.Keys.length-1]:=by rw[getD_eq_getElem?_getD,getElem?_eq_getElem (by omega)];rfl
       rw[e0,e1,decide_eq_true n0,Bool.true_and,Bool.not_eq_true,Bool.or_eq_false_iff,Bool.and_eq_false_iff,Bool.not_eq_false',Bool.not_eq_false']at hbad
       obtain⟨h1,h2⟩:=hbad
       cases h3:decide (high=⟨#[]⟩)
       ·rw[h3]at h2
        rcases h2 with h2|h2
        ·cases h2
        ·exact .inr ⟨n0,h1,h3,h2⟩
       ·exact .inl ⟨n0,h1,h3⟩
      ·left;exact decide_eq_false n0
     have n1:0<p.Keys.length→p.Keys.length-1<p.Keys.length:=fun _=>by omega
     have km:0<p.Keys.length→(p.Keys.length:Int)-1=((p.Keys.length-1:Nat):Int):=fun _=>by omega
     rcases hgood with h0|⟨n0,h1,h2⟩|⟨n0,h1,h2,h3⟩
     all_goals first
      | (simp(disch:=first|omega|simp only[lzz0_];first|done|omega)only[go_sem,seval,gP,n0,km,h1,h2,h3,au_,kG_])
      | (simp(disch:=first|omega|simp only[lzz0_];first|done|omega)only[go_sem,seval,gP,n0,h1,h2])
      | (simp(disch:=first|omega|simp only[lzz0_];first|done|omega)only[go_sem,seval,gP,h0])
     all_goals(
      cases hlf:p.Leaf with
      | true =>
       have hfl:fo_ p=p.Keys.length:=by simp[fo_,hlf]
       rw[hfl,hlf,if_pos rfl,hroot]at hwk
       rw[hlf]at gP
       have hif:(if dep<0 then d else dep)=(bif decide (dep<0)then d else dep):=by by_cases e:dep<0<;>simp[e]
       have hv:decide ((bif decide (dep<0)then d else dep)=d)=(decide (dep<0)||decide (dep=d)):=by by_cases e:dep<0<;>simp[e]
       rw[hif,hv]at hwk
       cases hdp:decide (dep<0)<;>cases hde:decide (dep=d)<;>cases hd:decide (d=0)<;>cases hf:decide ((p.Keys.length:Int)<3)<;>(
        simp only[hdp,hde,hd,hf,if_true,if_false,cond_true,cond_false,Bool.not_true,Bool.not_false,Bool.true_or,Bool.false_or,Bool.or_false,Bool.and_false,Bool.and_true,Bool.false_eq_true]at hwk
        simp(disch:=first|omega|simp only[lzz0_];first|done|omega)only[ao_,aq_,go_sem,seval,gP,gW,q1,q2,q3,q4,hdp,hde,hd,hf]
        rw[hwk]at hK
        first
         | exact hK _ (fun e=>absurd e Bool.false_ne_true)
         | exact hK _ (fun _=>⟨fun l h1 h2 h3=>kept l h1 h2 h3,by omega,wd1⟩)
         | exact hK _ (fun _=>⟨fun l h1 h2 h3=>(getElem?_set_ne (Ne.symm h2)).trans (kept l h1 h2 h3),by rw[ls_];omega,⟨(getElem?_set_self (by omega)).trans (by rw[la_];rfl),(getElem?_set_ne hWR).trans (by rw[gR,map_append];rfl)⟩⟩)
         | trace_state)
      | false =>
       have hfl:fo_ p=p.Kids.length:=by simp[fo_,hlf]
       obtain⟨hkd,hkd2,hkd3⟩:=hkl.2 hlf
       rw[hfl,hlf,if_neg (by simp:¬ (false=true)),hroot]at hwk
       rw[hlf]at gP
       have hpass:(decide (d=0)=false∧decide ((p.Kids.length:Int)<3)=true)∨(decide (d=0)=true∧(id==id)=true)∨(decide (d=0)=false∧decide ((p.Kids.length:Int)<3)=false):=by
        cases decide (d=0)<;>cases decide ((p.Kids.length:Int)<3)<;>simp
       rcases hpass with ⟨hd,hf⟩|hpass
       ·rw[hd,hf,if_pos (by rfl:(!false&&true)=true)]at hwk
        simp(disch:=first|omega|simp only[lzz0_];first|done|omega)only[go_sem,seval,gP,q5,hd,hf]
        rw[hwk]at hK
        exact hK _ (fun e=>absurd e Bool.false_ne_true)
       ·have hgo:(!decide (d=0)&&decide ((p.Kids.length:Int)<3))=false:=by rcases hpass with ⟨hd,hf⟩|⟨hd,hf⟩<;>simp only[hd,hf,Bool.not_true,Bool.not_false,Bool.false_and,Bool.true_and]
        rw[hgo,if_neg (by simp:¬ (false=true))]at hwk
        rcases hpass with ⟨hd,hf⟩|⟨hd,hf⟩<;>(
         simp(disch:=first|omega|simp only[lzz0_];first|done|omega)only[go_sem,seval,gP,q5,hd,hf]
         refine aK_ (fun n' t H'=>∃(k:Nat) (met':List Int) (dep':Int),t 0=.ptr W 1 0 0∧t 2=.val (.int .i64 (d+1))∧t 3=.val (.string low)∧t 4=.val (.string high)∧t 12=.ptr (H.length+1) 1 0 0∧t 14=.val (.int .i64 k)∧n'=p.Kids.length-k∧k≤p.Kids.length ∧
          (∀l,l<G.length→l≠W→l≠R→H'[l]?=G[l]?)∧G.length≤H'.length∧Wd H' W R b met' dep'∧eQ_ (aj_ b.Slots) met'∧met.length+1≤met'.length∧b.Root∈met' ∧ -1≤dep' ∧
          dI_ (fun kid lo hi m e=>cx_ (aj_ b.Slots) b.Root n kid lo hi (d+1) m e) p low high 0 p.Kids (met++[id]) dep=dI_ (fun kid lo hi m e=>cx_ (aj_ b.Slots) b.Root n kid lo hi (d+1) m e) p low high k (p.Kids.drop k) met' dep') p.Kids.length ?_ ?_
         ·have hrm:b.Root∈met++[id]:=by
           by_cases h0:d=0
           ·rw[hr0 h0];simp
           ·exact mem_append_left _ (hr1 (by omega))
          exact⟨0,met++[id],dep,rfl,rfl,rfl,rfl,rfl,rfl,rfl,Nat.zero_le _,fun _ _ _ _=>rfl,Nat.le_refl _,wd1,hm1,by simp,hrm,hp0,rfl⟩
         ·rintro J hJ n' t H' ⟨k,met',dep',t0,t2,t3,t4,t12,t14,rfl,hk,hkp,hlen,wk',hm',hml2,hrm,hp0',hkk⟩
          have rP:=(hkp (H.length+1) (by omega) (by omega) (by omega)).trans gP
          by_cases hlt:k<p.Kids.length
          ·have gd:∀(j:Nat) (hj:j<p.Keys.length),p.Keys.getD j (txt [])=p.Keys[j]:=fun j hj=>by rw[getD_eq_getElem?_getD,getElem?_eq_getElem hj];rfl
           have kn:0<k→k-1<p.Keys.length:=fun _=>by omega
           have km1:0<k→(k:Int)-1=((k-1:Nat):Int):=fun _=>by omega
           have hdd:p.Kids.drop k=p.Kids[k]::p.Kids.drop (k+1):=drop_eq_getElem_cons hlt
           have hml3:=hR_ hm'
           by_cases hk0:0<k<;>by_cases hk1:k<p.Keys.length<;>first|(exfalso;omega)|(
            simp(disch:=first|omega|simp only[lzz0_];first|done|omega)only[go_sem,seval,t0,t2,t3,t4,t12,t14,hlt,rP,hk0,hk1,km1,ay_,ag_,au_]
            refine ka_ hWR hB hpg n p.Kids[k] _ _ (d+1) met' dep' H' _ (by omega) hm' (by omega) (by omega) (fun e=>by omega) (fun _=>hrm) hp0' wk' ?_
            intro H2 hres
            have hlo:loK p low k=(if 0<k then p.Keys.getD (k-1) (txt [])else low):=rfl
            have hhi:hiK p high k=(if k<p.Keys.length then p.Keys.getD k (txt [])else high):=rfl
            simp(disch:=omega)only[hk0,hk1,if_true,if_false,gd]at hlo hhi
            rw[hdd,dI_,hlo,hhi]at hkk
            obtain⟨hm3,hl3⟩:=lb_ (st:=aj_ b.Slots) (root:=b.Root) n p.Kids[k] (loK p low k) (hiK p high k) (d+1) met' dep' hm'
            rw[hlo,hhi]at hm3 hl3
            have hdp:=ug_ (st:=aj_ b.Slots) (root:=b.Root) n p.Kids[k] (loK p low k) (hiK p high k) (d+1) met' dep' (by omega) hp0'
            have hmm:=uL_ (st:=aj_ b.Slots) (root:=b.Root) n p.Kids[k] (loK p low k) (hiK p high k) (d+1) met' dep' hrm
            rw[hlo,hhi]at hdp hmm
            split at hkk
            ·rename_i hr
             obtain⟨kp2,len2,wk2⟩:=hres hr
             have kp3:∀l,l<G.length→l≠W→l≠R→H2[l]?=G[l]?:=fun l h1 h2 h3=>(kp2 l (by omega) h2 h3).trans (hkp l h1 h2 h3)
             simp(disch:=first|omega|simp only[lzz0_];first|done|omega)only[go_sem,seval,t14,hr,au_]
             exact⟨p.Kids.length-(k+1),by omega,hJ _ _ _ ⟨k+1,_,_,by simp[upd,t0],by simp[upd,t2],by simp[upd,t3],by simp[upd,t4],by simp[upd,t12],by simp[upd],rfl,by omega,kp3,by omega,wk2,hm3,by omega,hmm,hdp,hkk⟩⟩
            ·rename_i hr
             rw[Bool.not_eq_true]at hr
             simp(disch:=first|omega|simp only[lzz0_];first|done|omega)only[go_sem,↓reduceIte,hr]
             rw[hwk,hkk]at hK
             exact hK _ (fun e=>absurd e Bool.false_ne_true))
          ·simp(disch:=first|omega|simp only[lzz0_];first|done|omega)only[go_sem,seval,t12,t14,hlt,rP]
           rw[hwk,hkk,drop_eq_nil_of_le (by omega)]at hK
           exact hK _ (fun _=>⟨fun l h1 h2 h3=>(hkp l (by omega) h2 h3).trans (kept l h1 h2 h3),by omega,wk'⟩)))
end
theorem callSem.ghost{P:Program}{f:FuncId}{args:List AV}{h h':List Row}{K:AV→List Row→Prop}{t:Nat→AV}(hg:hP_ 0 t h t h')(c:callSem P f args h' K):callSem P f args h K:=by
 intro S w vals hm hgl hr
 obtain⟨S',st,hm',_⟩:=hg S w { tmps:=#[],defers:=[] } hm ⟨rfl,rfl,fun k hk=>absurd hk (Nat.not_lt_zero k)⟩
 refine(c S' w vals hm' (cE_.up st.le hgl) (ae_.up st.le _ _ hr)).mono ?_
 rintro e w' ⟨v,av,S2,h2,rfl,st2,hm2,rv,hk⟩
 exact⟨v,av,S2,h2,rfl,st.trans st2,hm2,rv,hk⟩
def c27:LC :=
 .q [.o [.bx 1 28 0,.f 2],.q [.o [.fa 6 1 1,.ln 7 6,.ll 8 7,.bk 9 .gtr false 8 64],.k 9 (.q [.o [.f 2],.ret]) .skip],.q [.o [.ki 3 0],.block 0 (.loop (.q [.q [.o [.m 10 3,.fa 11 1 1,.ln 12 11,.ll 13 12,.bb 14
 .lss false 10 13],.k 14 .skip (.exit 0)],.block 1 (.q [.o [.fa 17 1 1,.ln 18 17,.m 19 3,.ia 20 5 18 19,.ld 21 5 20,.s 4 (.alloc 79 z2z),.st 5 4 21],.pops [.fa 22 0 4,.ln 23 22] (.s 24 (.call 57 [.tmp 23,.const
 (.int .i64 1),.const (.int .i64 64)])) [.nt 25 24,.m 26 25,.gm 27 26 false 3,.g 28 26 false (.bin .gtr false (.tmp 27) (.const (.int .i64 0))),.gm 29 26 false 28,.gf 30 29 true 1 1,.gn 31 29 true 30,.gm 32 29
 true 3,.g 33 29 true (.bin .sub false (.tmp 32) (.const (.int .i64 1))),.g 34 29 true (.indexAddr 5 (.tmp 31) (.tmp 33)),.gf 35 29 true 0 34,.gn 36 29 true 35,.gf 37 29 true 0 4,.gn 38 29 true 37,.g 39 29 true
 (.bin .geq false (.tmp 36) (.tmp 38)),.g 40 26 false (.pick (.tmp 29) (.tmp 39) (.const (.bool false))),.pt 41 26 40,.m 42 41,.gf 43 42 false 1 4,.gl 44 42 false 4 43,.gc 45 42 false 58 44,.gu 46 42 false 45,.pt
 47 42 46],.k 47 (.q [.o [.f 2],.ret]) .skip]),.o [.m 15 3,.bk 16 .add false 15 1,.m 3 16]]))],.o [.ld 48 2 1,.s 49 (.build (.agg #[.int .i64 0,.slice none 0 0,.slice none 0 0,.int .i64 0]) [(0,2),(2,1),(3,
 1)] [(0,.tmp 48)]),.bx 50 88 49,.m 5 50],.pops [.m 51 5,.fa 52 0 1,.ln 53 52] (.s 54 (.call 59 [.tmp 51,.tmp 53,.const (.int .i64 1),.const (.string ⟨#[]⟩),.const (.string ⟨#[]⟩)])) [.m 55 54,.gm 56 55 true 5,
 .g 57 55 true (.nilCheck (.tmp 56)),.gf 58 55 true 2 57,.gn 59 55 true 58,.g 60 55 true (.lenSl (.tmp 59)),.gf 61 55 true 1 1,.gn 62 55 true 61,.g 63 55 true (.lenSl (.tmp 62)),.g 64 55 true (.bin .eql false (.tmp
 60) (.tmp 63)),.pf 65 55 64,.m 2 65],.ret]
def AP_:LF:=⟨1,66,c27,[.tmp 2]⟩
theorem CN_:aA_ Tryz.prog Tryz.f27 AP_:=fh_
theorem mI_(b:af_)(hlen:b.Slots.length≤1048576)(hsm:∀s∈b.Slots,smallP s.Page)(hsz:∀s∈b.Slots,gL_ s.Page.Keys)(h:List Row):aa_ Tryz.prog 27 [.agg (af_.cells b)] h (.val (.bool (dg_ b))):=by
 refine fun K hk=>g7_ (R:=fun r=>r=.val (.bool (dg_ b))) rfl ?_ h K (fun r hr=>hr▸hk)
 refine aF_ mixed Tryz.func27 CN_ (a9_ rfl ?_)
 have fin:∀(H:List Row) (v:Bool),v=dg_ b→∃n r,AW.resolve H n (.val (.bool v))=some r∧r=.val (.bool (dg_ b)):=fun H v e=>⟨1,_,rfl,by rw[e]⟩
 simp(disch:=omega)only[AP_,c27,af_.cells,go_sem,seval]
 by_cases hl:64<b.Slots.length
 ·have hl':((b.Slots.length:Int)>64)=True:=eq_true (by omega)
  simp(disch:=first|omega|simp only[lzz0_];first|done|omega)only[go_sem,↓reduceIte,hl']
  refine fin _ _ ?_
  have:dF_ b.Slots=false:=by
   cases e:dF_ b.Slots
   ·rfl
   ·have:=nD_ e;omega
  rw[dg_,this];rfl
 have hl':((b.Slots.length:Int)>64)=False:=eq_false (by omega)
 simp(disch:=first|omega|simp only[lzz0_];first|done|omega)only[go_sem,hl']
 refine aK_ (fun n t H=>∃k:Nat,t 1=.ptr 0 1 0 0∧t 3=.val (.int .i64 k)∧H[0]?=some ⟨.ty 28,2,[[.val (.int .i64 b.Root),.list 0 5 (b.Slots.map ab_.cells)]]⟩∧n=b.Slots.length-k∧k≤b.Slots.length∧∀j,j<k→gj_ b.Slots j=true) b.Slots.length ?_ ?_
 ·exact⟨0,rfl,rfl,rfl,rfl,Nat.zero_le _,fun j hj=>absurd hj (Nat.not_lt_zero j)⟩
 ·rintro J hJ n t H ⟨k,t1,t3,o0,rfl,hk,hS⟩
  have hH:=(List.getElem?_eq_some_iff.1 o0).1
  by_cases hlt:k<b.Slots.length
  ·have hkv:=iq_ hlt
   have hmem:=getElem_mem hlt
   obtain⟨s1,s2,s3⟩:=hsm _ hmem
   simp(disch:=first|omega|simp only[lzz0_];first|done|omega)only[at_,go_sem,seval,t1,t3,o0,hlt,ab_.cells]
   refine aa_.call (dN_ _ _ _ _) ?_
   cases hw:br_ b.Slots[k].Id 1 64 with
   | false =>
    simp(disch:=first|omega|simp only[lzz0_];first|done|omega)only[go_sem,seval]
    exact fin _ _ (by rw[dg_,eA_ hlt (by rw[hkv,hw];rfl)];rfl)
   | true =>
    by_cases h0:0<k
    ·have km:(k:Int)-1=((k-1:Nat):Int):=by omega
     have hk1:k-1<b.Slots.length:=by omega
     by_cases hr:b.Slots[k].Id≤b.Slots[k-1].Id
     ·simp(disch:=first|omega|simp only[lzz0_];first|done|omega)only[ad_,at_,go_sem,seval,t1,t3,o0,h0,km,hr,au_,ab_.cells]
      exact fin _ _ (by rw[dg_,eA_ hlt (by rw[hkv,hw,decide_eq_true h0,decide_eq_true (p:=b.Slots[k-1].Id≥b.Slots[k].Id) hr];simp),Bool.false_and])
     ·simp(disch:=first|omega|simp only[lzz0_];first|done|omega)only[ad_,at_,go_sem,seval,t1,t3,o0,h0,km,hr,au_,ab_.cells]
      refine aa_.q (jp_ b.Slots[k].Page s1 s2 s3 (hsz _ hmem) _) ?_
      cases hp:bk_ b.Slots[k].Page with
      | false =>
       simp(disch:=first|omega|simp only[lzz0_];first|done|omega)only[go_sem,↓reduceIte]
       exact fin _ _ (by rw[dg_,eA_ hlt (by rw[hkv,hw,hp];rfl)];rfl)
      | true =>
       simp(disch:=first|omega|simp only[lzz0_];first|done|omega)only[go_sem,seval,t3,au_]
       exact⟨b.Slots.length-(k+1),by omega,hJ _ _ _ ⟨k+1,by simp[upd,t1],by simp[upd],(getElem?_append_left hH).trans o0,rfl,by omega,hS_ hS (by rw[hkv,hw,hp,decide_eq_false (p:=b.Slots[k-1].Id≥b.Slots[k].Id) hr];simp)⟩⟩
    ·simp(disch:=first|omega|simp only[lzz0_];first|done|omega)only[at_,go_sem,seval,t3,h0]
     refine aa_.q (jp_ b.Slots[k].Page s1 s2 s3 (hsz _ hmem) _) ?_
     cases hp:bk_ b.Slots[k].Page with
     | false =>
      simp(disch:=first|omega|simp only[lzz0_];first|done|omega)only[go_sem,↓reduceIte]
      exact fin _ _ (by rw[dg_,eA_ hlt (by rw[hkv,hw,hp];rfl)];rfl)
     | true =>
      simp(disch:=first|omega|simp only[lzz0_];first|done|omega)only[go_sem,seval,t3,au_]
      exact⟨b.Slots.length-(k+1),by omega,hJ _ _ _ ⟨k+1,by simp[upd,t1],by simp[upd],(getElem?_append_left hH).trans o0,rfl,by omega,hS_ hS (by rw[hkv,hw,hp,decide_eq_false h0];rfl)⟩⟩
  ·have hsl:=lL_ fun j hj=>hS j (by omega)
   simp(disch:=first|omega|simp only[lzz0_];first|done|omega)only[ad_,go_sem,seval,t1,t3,o0,hlt,bR_,Option.map_some]
   have hbox:(H++[⟨.ty 88,4,[[.val (.int .i64 b.Root),.list 0 5 (b.Slots.map ab_.cells),.val (.slice none 0 0),.val (.int .i64 0)]]⟩]:List Row)[H.length]?=some ⟨.ty 88,4,[[.val (.int .i64 b.Root),.list 0 5 (b.Slots.map ab_.cells)]++.val (.slice none 0 0)::[.val (.int .i64 0)]]⟩:=by rw[getElem?_append_right (Nat.le_refl _),Nat.sub_self];rfl
   refine callSem.ghost (t:=fun _=>.undef) (mp_ _ _ 2 1 hbox) ?_
   obtain⟨G,hG⟩:∃G:List Row,G=List.set (H++([⟨.ty 88,4,[[.val (.int .i64 b.Root),.list 0 5 (b.Slots.map ab_.cells),.val (.slice none 0 0),.val (.int .i64 0)]]⟩]:List Row)) H.length ⟨.ty 88,4,[[.val (.int .i64 b.Root),.list 0 5 (b.Slots.map ab_.cells)]++.own (H++([⟨.ty 88,4,[[.val (.int .i64 b.Root),.list 0 5 (b.Slots.map ab_.cells),.val (.slice none 0 0),.val (.int .i64 0)]]⟩]:List Row)).length 0::[.val (.int .i64 0)]]⟩++([⟨.ty 2,1,[]⟩]:List Row):=⟨_,rfl⟩
   rw[←hG]
   have lG:G.length=H.length+2:=by rw[hG];simp
   have g0:G[0]?=some ⟨.ty 28,2,[[.val (.int .i64 b.Root),.list 0 5 (b.Slots.map ab_.cells)]]⟩:=by rw[hG,getElem?_append_left (by simp),getElem?_set_ne (by omega),getElem?_append_left hH];exact o0
   have wd:Wd G H.length (H.length+1) b [] (-1):=by
    refine⟨?_,?_⟩
    ·rw[hG,getElem?_append_left (by simp),getElem?_set_self (by simp)];simp
    ·rw[hG,getElem?_append_right (by simp)];simp
   clear hG
   refine ka_ (W:=H.length) (R:=H.length+1) (b:=b) (by omega) (by omega) (fun s hs=>(gb_ hsl hs).2.2) (b.Slots.length+1) b.Root _ _ 0 [] (-1) _ _ (by simp) ⟨nodup_nil,fun i hi=>by cases hi⟩ (Int.le_refl _) (by simp) (fun _=>rfl) (fun e=>by omega) (Int.le_refl _) wd ?_
   intro H2 hres
   have hwB:cx_ (aj_ b.Slots) b.Root (b.Slots.length+1) b.Root (txt []) (txt []) 0 [] (-1)=jJ_ b:=rfl
   rw[hwB]at hres⊢
   cases hw:(jJ_ b).1 with
   | false =>
    simp(disch:=first|omega|simp only[lzz0_];first|done|omega)only[go_sem,seval]
    exact fin _ _ (by rw[dg_,hw,Bool.false_and,Bool.and_false])
   | true =>
    obtain⟨kp,len,wk⟩:=hres hw
    have o3:=(kp 0 (by omega) (by omega) (by omega)).trans g0
    have wb:=wk.box
    have ws:=wk.row
    simp(disch:=first|omega|simp only[lzz0_];first|done|omega)only[go_sem,seval,t1,o3,wb,ws]
    exact fin _ _ (by rw[dg_,hw,hsl,Bool.true_and,Bool.true_and])
end Go.Proofs.YtlcmlgihlojdmaaGreatDoor
