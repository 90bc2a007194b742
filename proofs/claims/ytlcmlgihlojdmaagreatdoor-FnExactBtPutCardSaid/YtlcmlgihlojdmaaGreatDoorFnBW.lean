/-
 Contracts of functions. Conditions: as each theorem says.
-/
import Derived.Test.YtlcmlgihlojdmaaGreatDoorFnBS
namespace Go.Proofs.YtlcmlgihlojdmaaGreatDoor
open List
open Go.AW
set_option linter.unusedVariables false
set_option linter.unusedSimpArgs false
set_option maxRecDepth 4000
def c81:LC :=
 .q [.o [.bx 3 77 1,.ki 4 0],.q [.o [.ki 5 1],.block 0 (.loop (.q [.q [.o [.m 8 5,.bk 9 .leq false 8 64],.k 9 .skip (.exit 0)],.block 1 (.q [.o [.m 13 0,.nc 14 13,.fa 15 1 14,.ln 16 15,.m 17 5,.s 18 (.ext
 (.lookP true (.tmp 16) (.tmp 17))),.m 12 18,.ex 19 12 0,.ex 20 12 1,.m 6 19,.m 7 20],.o [.m 21 7,.nt 22 21],.k 22 (.q [.o [.m 23 0,.nc 24 23,.fa 25 1 24,.ln 26 25,.m 27 5,.z (.ext (.updP (.tmp 26) (.tmp 27)
 (.tmp 3)))],.o [.m 28 5,.m 4 28],.ret]) .skip]),.o [.m 10 5,.bk 11 .add false 10 1,.m 5 11]]))],.o [.ki 4 0],.ret]
def AC_:LF:=⟨2,29,c81,[.tmp 4]⟩
theorem Cy_:aA_ Tryz.prog Tryz.f81 AC_:=as_
theorem tr_{ents:List (Int×Nat×AV)}{n:Int}(h:(da_ ents n).isSome=false):da_ ents n=none:=by
 cases e:da_ ents n with
 | none=>rfl
 | some v=>rw[e]at h;cases h
theorem kQ_{H:List Row}{T M:Nat}{root:Int}{ents:List (Int×Nat×AV)}{ck:Nat}{st:c4_}(hT:H[T]?=some ⟨.ty 93,2,[[.val (.int .i64 root),.mp M]]⟩)(hM:H[M]?=some ⟨.pmap ents ck,0,[]⟩)(hTM:T≠M)(hst:∀id,(da_ ents id).isSome=(st id).isSome)(a0 a1 a2 a3:AV)(hcc:[a0,a1,a2,a3].all AV.cell=true)(K:AV→List Row→Prop)
 (h0:aO_ st 64=0→K (.val (.int .i64 0)) (H++[⟨.ty 77,4,[[a0,a1,a2,a3]]⟩])) (h1:aO_ st 64≠0→K (.val (.int .i64 (aO_ st 64))) ((H++[(⟨.ty 77,4,[[a0,a1,a2,a3]]⟩:Row)]).set M ⟨.pmap (ents++[(aO_ st 64,ck,AV.ptr H.length 1 0 0)]) (ck+1),0,[]⟩)) :
 callSem Tryz.prog 81 [.ptr T 1 0 0,.agg [a0,a1,a2,a3]] H K:=by
 refine aF_ mixed Tryz.func81 Cy_ (a9_ rfl ?_)
 have lT:=(List.getElem?_eq_some_iff.1 hT).1
 have lM:=(List.getElem?_eq_some_iff.1 hM).1
 simp(disch:=omega)only[AC_,c81,hcc,go_sem,seval]
 refine aK_ (fun n t H'=>∃k:Nat,t 0=.ptr T 1 0 0∧t 3=.ptr H.length 1 0 0∧t 5=.val (.int .i64 (64-(k:Int)+1))∧H'=H++[⟨.ty 77,4,[[a0,a1,a2,a3]]⟩]∧n=k∧k≤64∧aO_ st 64=aO_ st k) 64 ?_ ?_
 ·exact⟨64,rfl,rfl,rfl,rfl,rfl,Nat.le_refl _,rfl⟩
 ·rintro J hJ n t H' ⟨k,t0,t3,t5,rfl,rfl,hk,hS⟩
  cases n with
  | zero =>
   have q:(64-((0:Nat):Int)+1≤64)=False:=eq_false (by omega)
   simp(disch:=first|omega|simp only[lzz0_];first|done|omega)only[go_sem,seval,t5]
   exact h0 hS
  | succ k =>
   have q:(64-((k+1:Nat):Int)+1≤64)=True:=eq_true (by omega)
   have q2:64-((k+1:Nat):Int)+1=64-(k:Int):=by omega
   have hf:=hst (64-(k:Int))
   simp(disch:=first|omega|simp only[lzz0_];first|done|omega)only[ad_,go_sem,seval,t0,t5,q,hT,hM]
   rw[q2]
   cases hs:st (64-(k:Int))with
   | none =>
    rw[hs]at hf
    have hfn:=tr_ hf
    have hnew:aO_ st 64=64-(k:Int):=by rw[hS,aO_,if_pos hs]
    have hz:aO_ st 64≠0:=by rw[hnew];omega
    have e1:=oG_ (ck:=ck) (v:=.ptr H.length 1 0 0) hfn
    have e2:ia_ ents ck (64-(k:Int))=ck+1:=by simp[ia_,hfn]
    simp(disch:=first|omega|simp only[lzz0_];first|done|omega)only[ad_,go_sem,seval,t0,t3,t5,q2,hT,hM,hfn,e1,e2,Option.isSome_none]
    have:=h1 hz
    rw[hnew]at this
    exact this
   | some p =>
    rw[hs]at hf
    simp(disch:=first|omega|simp only[lzz0_];first|done|omega)only[go_sem,seval,t5,q2,hf,Option.isSome_some,au_]
    exact⟨k,by omega,hJ _ _ _ ⟨k,by simp[upd,t0],by simp[upd,t3],by simp[upd],rfl,rfl,by omega,by rw[hS,aO_,if_neg (by rw[hs];simp)]⟩⟩
theorem aP_.back{H:List Row}{E l:Nat}{α:Type}{f:α→List AV}{xs:List α}{pre post:List (List AV)}(n m:Nat)(hm:xs.length=m)(hn:n≤m)(h:H[l]?=some ⟨.ty E,1,pre++(xs.map f++post)⟩):aP_ H E 1 (.sub l (pre.length+(m+post.length)) (pre.length+n) (pre.length+m)) l ((xs.drop n).map f):=by
 subst hm
 refine⟨pre++(xs.take n).map f,post,?_,?_⟩
 ·simp only[la_,length_map,length_take,length_drop]
  congr 1<;>omega
 ·rw[append_assoc,←append_assoc ((xs.take n).map f),←map_append,take_append_drop];exact h
theorem BV_{S S':Sit}(hle:S.le S'){p a b c n:AV}(hn:Rep S' n (.slice none 0 0)){xs:List Value}(h:ae_ S [p,.agg [a,b,c,.val (.slice none 0 0)]] xs):ae_ S' [p,.agg [a,b,c,n]] xs:=by
 simp only[ae_]at h⊢
 obtain⟨v,r,e,h1,v2,r2,e2,h2,h3⟩:=h
 refine⟨v,r,e,Rep.up hle _ _ h1,v2,r2,e2,?_,h3⟩
 simp only[Rep,ae_]at h2⊢
 obtain⟨vs,e4,w1,q1,e5,g1,w2,q2,e6,g2,w3,q3,e7,g3,w4,q4,e8,g4,g5⟩:=h2
 subst g4
 exact⟨vs,e4,w1,q1,e5,Rep.up hle _ _ g1,w2,q2,e6,Rep.up hle _ _ g2,w3,q3,e7,Rep.up hle _ _ g3,_,q4,e8,hn,g5⟩
theorem w1_{S S':Sit}(hle:S.le S'){p a b c n:AV}(hn:Rep S' n (.slice none 0 0)){xs:List Value}(h:ae_ S [p,.agg [a,b,.val (.slice none 0 0),c]] xs):ae_ S' [p,.agg [a,b,n,c]] xs:=by
 simp only[ae_]at h⊢
 obtain⟨v,r,e,h1,v2,r2,e2,h2,h3⟩:=h
 refine⟨v,r,e,Rep.up hle _ _ h1,v2,r2,e2,?_,h3⟩
 simp only[Rep,ae_]at h2⊢
 obtain⟨vs,e4,w1,q1,e5,g1,w2,q2,e6,g2,w3,q3,e7,g3,w4,q4,e8,g4,g5⟩:=h2
 subst g3
 exact⟨vs,e4,w1,q1,e5,Rep.up hle _ _ g1,w2,q2,e6,Rep.up hle _ _ g2,_,q3,e7,hn,w4,q4,e8,Rep.up hle _ _ g4,g5⟩
theorem callSem.at{P:Program}{f:FuncId}{args:List AV}{h:List Row}{K:AV→List Row→Prop}(c:∀H,H=h→callSem P f args H K):callSem P f args h K:=c h rfl
theorem PgS.isSome{H:List Row}{T M:Nat}{root:Int}{B:List PB}{ents:List (Int×Nat×AV)}{ck lo:Nat}{sl:List ab_}(g:Pg H T M root B ents ck lo)(hs:∀id,aj_ (B.map PB.slot) id=aj_ sl id)(id:Int):(da_ ents id).isSome=(aj_ sl id).isSome:=by
 rw[g.find,←hs,et_]
 cases B.find? fun x=>x.id==id<;>rfl
theorem hv_{H Hy:List Row}{T M:Nat}{root:Int}{B1 B2:List PB}{x:PB}{lo mx:Nat}{sl:List ab_}(g:PgS H T M root (B1++x::B2) lo mx sl)(ok:c2_ sl){p' right:am_}(hmx:7≤mx){r1 r2 r3:Nat}{b1 b2 b3:AV}
 (hlen:H.length≤Hy.length) (kept:∀l,l<H.length→l≠x.b→Hy[l]?=H[l]?) (hp:gw_ Hy x.b p' x.k x.v x.d) (h1:aP_ Hy 9 1 b1 r1 (right.Keys.map ag_)) (h2:aP_ Hy 9 1 b2 r2 (right.Vals.map ag_)) (h3:aP_ Hy 2 1 b3 r3 (right.Kids.map ay_))
 (hr:H.length≤r1∧H.length≤r2∧H.length≤r3∧r1≠r2∧r1≠r3∧r2≠r3) (hlim:Lim Hy [r1,r2,r3] mx) (K:AV→List Row→Prop)
 (hK:∀H' B',cH_ T M H (B1++x::B2) H' B'→PgS H' T M root B' lo mx (if aO_ (aj_ sl) 64=0 then ax_ ⟨x.id,p'⟩ false sl else ax_ ⟨aO_ (aj_ sl) 64,right⟩ false (ax_ ⟨x.id,p'⟩ false sl))→K (.val (.int .i64 (aO_ (aj_ sl) 64))) H') :
 callSem Tryz.prog 81 [.ptr T 1 0 0,.agg [.val (.bool right.Leaf),b1,b2,b3]] Hy K:=by
 obtain⟨ents0,ck0,g0⟩:=g.pg
 have hxB:x∈B1++x::B2:=by simp
 have hone:(PB.all T M (B1++x::B2)).Nodup:=g0.one
 rw[(ca_ T M B1 B2 x).nodup_iff,nodup_append]at hone
 have hxn:=hone.1
 have hfoot:∀l∈x.foot,l<H.length∧lo≤l:=fun l hl=>by
  have:=g0.lows l (Pg.mem_foot hxB hl);omega
 have hnb:x.k≠x.b∧x.v≠x.b∧x.d≠x.b:=by
  simp only[PB.foot,nodup_cons,mem_cons,not_or]at hxn
  obtain⟨⟨e1,e2,e3,_⟩,_⟩:=hxn
  exact⟨Ne.symm e1,Ne.symm e2,Ne.symm e3⟩
 have hbox1:∀r,Hy[x.b]?=some r→r.es.length=1:=fun r hq=>by
  obtain⟨_,_,_,o1,_⟩:=hp
  rw[o1]at hq
  obtain rfl:=Option.some.inj hq
  rfl
 obtain⟨gu,hgo⟩:=g.upd (H':=Hy) (x':=⟨x.id,p',x.b,x.k,x.v,x.d⟩) (mx':=mx) ok.rise rfl rfl (fun l hl hn=>kept l hl (fun e=>hn (by rw[e];simp[PB.foot]))) hlen (fun l hl=>.inl hl) hxn hp (Nat.le_refl _) (by
  intro l hl r hq
  have hl':l∈x.foot:=hl
  by_cases e:l=x.b
  ·subst e;have:=hbox1 r hq;omega
  ·rw[kept l (hfoot l hl').1 e]at hq
   exact g.lim l (Pg.mem_foot hxB hl') r hq)
 have hxs:aj_ sl x.id=some x.pg:=g.box hxB
 have hnew:aO_ (aj_ (ax_ ⟨x.id,p'⟩ false sl)) 64=aO_ (aj_ sl) 64:=nN_ (fun id=>by
  rw[cr_ ok.rise]
  split
  ·rename_i e;rw[←e,hxs];rfl
  ·rfl) 64
 obtain⟨ents,ck,gx⟩:=gu.pg
 have hTM:T≠M:=by
  intro e
  have:=(nodup_cons.1 gx.one).1
  exact this (by simp[e])
 have hall:PB.all T M (B1++(⟨x.id,p',x.b,x.k,x.v,x.d⟩:PB)::B2)=PB.all T M (B1++x::B2):=by simp[PB.all,PB.foot]
 have hlow:∀l∈PB.all T M (B1++x::B2),l<H.length:=fun l hl=>(g0.lows l hl).2
 have hlo:lo≤H.length:=by have:=g0.lows T (by simp);omega
 obtain⟨e1,e2,e3,e4,e5,e6⟩:=hr
 have l1:=h1.lt
 have l2:=h2.lt
 have l3:=h3.lt
 refine kQ_ (st:=aj_ (ax_ ⟨x.id,p'⟩ false sl)) gx.box gx.map hTM (PgS.isSome gx gu.same) _ _ _ _ (by simp only[all_cons,all_nil,Bool.and_true,h1.cell,h2.cell,h3.cell];rfl) K (fun hz=>?_) (fun hz=>?_)
 ·rw[hnew]at hz
  have:=hK (Hy++[⟨.ty 77,4,[[.val (.bool right.Leaf),b1,b2,b3]]⟩]) _ (hgo.trans (cH_.more (bd_.app _ _))) (by rw[if_pos hz];exact gu.more (bd_.app _ _))
  rw[hz]at this
  exact this
 ·rw[hnew]at hz⊢
  rcases g6_ (st:=aj_ sl) 64 (Nat.le_refl _)with q|⟨q1,q2,q3⟩
  ·exact absurd q hz
  have hMl:M<Hy.length:=(gx.lows M (by simp)).2
  have hMn:M<H.length:=hlow M (by simp[PB.all])
  have hke:∀(r r':Row) (l:Nat),l<Hy.length→l≠M→((Hy++[r]).set M r')[l]?=Hy[l]?:=fun r r' l hl hne=>by
   rw[getElem?_set_ne (Ne.symm hne),getElem?_append_left hl]
  have hbn:∀(r r':Row),((Hy++[r]).set M r')[Hy.length]?=some r:=fun r r'=>by
   rw[getElem?_set_ne (by omega),getElem?_append_right (Nat.le_refl _),Nat.sub_self];rfl
  have hns:aj_ (ax_ ⟨x.id,p'⟩ false sl) (aO_ (aj_ sl) 64)=none:=by
   rw[cr_ ok.rise]
   split
   ·rename_i e
    have e':x.id=aO_ (aj_ sl) 64:=e
    rw[←e',hxs]at q3;cases q3
   ·exact q3
  have ga:=gu.add (H':=((Hy++([⟨.ty 77,4,[[.val (.bool right.Leaf),b1,b2,b3]]⟩]:List Row)).set M ⟨.pmap (ents++[(aO_ (aj_ sl) 64,ck,AV.ptr Hy.length 1 0 0)]) (ck+1),0,[]⟩)) (x:=⟨aO_ (aj_ sl) 64,right,Hy.length,r1,r2,r3⟩) (mx':=mx) (mj_ ok.rise) hns (fun l hl hne=>hke _ _ l hl hne) (by simp) (by
   intro l hl
   rw[hall]
   simp only[PB.foot,mem_cons,not_mem_nil,or_false]at hl
   have hb:H.length≤l∧l≤Hy.length:=by omega
   refine⟨by omega,by simp only[ls_,la_,lc_,ln_];omega,fun hm=>?_⟩
   have:=hlow l hm
   omega) (by simp only[PB.foot,nodup_cons,mem_cons,not_mem_nil,or_false,not_or,nodup_nil,and_true,not_false_eq_true];omega)
   ⟨b1,b2,b3,hbn _ _,h1.keep (hke _ _ _ l1 (by omega)),h2.keep (hke _ _ _ l2 (by omega)),h3.keep (hke _ _ _ l3 (by omega))⟩ (by
    intro ents' ck' hm
    rw[gx.map]at hm
    have hm:=Option.some.inj hm
    simp only[Row.mk.injEq,Tag.pmap.injEq,and_true]at hm
    obtain⟨rfl,rfl⟩:=hm
    exact getElem?_set_self (by simp;omega)) (Nat.le_refl _) (by
    intro l hl r hq
    simp only[PB.foot,mem_cons,not_mem_nil,or_false]at hl
    rcases hl with rfl|hl
    ·rw[hbn]at hq
     obtain rfl:=Option.some.inj hq
     show 1≤mx
     omega
    ·have hl2:l∈[r1,r2,r3]:=by simpa using hl
     rw[hke _ _ l (by omega) (by omega)]at hq
     exact hlim l hl2 r hq)
  refine hK _ _ (cH_.add (x:=⟨aO_ (aj_ sl) 64,right,Hy.length,r1,r2,r3⟩) hgo (fun l hl hne=>hke _ _ l hl hne) (by simp) (by
   intro l hl
   simp only[PB.foot,mem_cons,not_mem_nil,or_false]at hl
   omega)) ?_
  rw[if_neg hz]
  exact ga
def vl_:LC :=
 .q [.o [.s 4 (.mov (.const (.string ⟨#[]⟩))),.ki 5 0],.o [.m 8 1,.nc 9 8,.fa 10 0 9,.ln 11 10,.s 12 (.build z0z [(0,1),(1,1),(2,1),(3,1)] [(0,.tmp 11)]),.s 6 (.alloc 77 z0z),.st 4 6 12],.o [.s 7 (.mov
 (.const (.string ⟨#[]⟩)))],.q [.o [.m 13 1,.nc 14 13,.fa 15 0 14,.ln 16 15],.k 16 (.q [.o [.m 17 1,.nc 18 17,.fa 19 1 18,.ln 20 19,.s 21 (.indexAddr 1 (.tmp 20) (.const (.int .i64 3))),.ln 22 21,.m 7 22],
 .alts [([.m 23 1,.nc 24 23,.fa 25 1 24,.ln 26 25,.s 27 (.sliceSl 1 (.tmp 26) (some (.const (.int .i64 3))) none),.m 29 1,.nc 30 29,.fa 31 2 30,.ln 32 31,.s 33 (.sliceSl 1 (.tmp 32) (some (.const (.int .i64 3)))
 none)],[(.c1 28 130 27,[.m 29 1,.nc 30 29,.fa 31 2 30,.ln 32 31,.s 33 (.sliceSl 1 (.tmp 32) (some (.const (.int .i64 3))) none)]),(.c1 34 130 33,[]),(.fa 35 1 6,[]),(.st 1 35 28,[]),(.fa 36 2 6,[]),(.st 1
 36 34,[])]),([.m 23 1,.nc 24 23,.fa 25 1 24,.ln 26 25,.s 27 (.sliceSl 1 (.tmp 26) (some (.const (.int .i64 3))) none),.m 29 1,.nc 30 29,.fa 31 2 30,.ln 32 31,.s 33 (.sliceSl 1 (.tmp 32) (some (.const (.int
 .i64 3))) none)],[(.c1 28 130 27,[.m 29 1,.nc 30 29,.fa 31 2 30,.ln 32 31,.s 33 (.sliceSl 1 (.tmp 32) (some (.const (.int .i64 3))) none)]),(.fa 35 1 6,[.m 29 1,.nc 30 29,.fa 31 2 30,.ln 32 31,.s 33 (.sliceSl
 1 (.tmp 32) (some (.const (.int .i64 3))) none)]),(.c1 34 130 33,[]),(.st 1 35 28,[]),(.fa 36 2 6,[]),(.st 1 36 34,[])])],.gops [.m 37 1,.m 38 1,.m 39 1,.nc 40 39,.fa 41 1 40,.ln 42 41,.s 43 (.sliceSl 1
 (.tmp 42) none (some (.const (.int .i64 3)))),.m 44 1,.nc 45 44,.fa 46 2 45,.ln 47 46,.s 48 (.sliceSl 1 (.tmp 47) none (some (.const (.int .i64 3)))),.nc 49 37,.fa 50 1 49] [(.st 1 50 43,[.m 38 1,.s 48 (.sliceSl
 1 (.tmp 47) none (some (.const (.int .i64 3))))]),(.nc 51 38,[]),(.fa 52 2 51,[]),(.st 1 52 48,[])]]) (.q [.o [.m 53 1,.nc 54 53,.fa 55 1 54,.ln 56 55,.s 57 (.indexAddr 1 (.tmp 56) (.const (.int .i64 2))),.ln
 58 57,.m 7 58],.alts [([.m 59 1,.nc 60 59,.fa 61 1 60,.ln 62 61,.s 63 (.sliceSl 1 (.tmp 62) (some (.const (.int .i64 3))) none),.m 65 1,.nc 66 65,.fa 67 3 66,.ln 68 67,.s 69 (.sliceSl 1 (.tmp 68) (some (.const
 (.int .i64 3))) none)],[(.c1 64 130 63,[.m 65 1,.nc 66 65,.fa 67 3 66,.ln 68 67,.s 69 (.sliceSl 1 (.tmp 68) (some (.const (.int .i64 3))) none)]),(.c1 70 131 69,[]),(.fa 71 1 6,[]),(.st 1 71 64,[]),(.fa 72 3
 6,[]),(.st 1 72 70,[])]),([.m 59 1,.nc 60 59,.fa 61 1 60,.ln 62 61,.s 63 (.sliceSl 1 (.tmp 62) (some (.const (.int .i64 3))) none),.m 65 1,.nc 66 65,.fa 67 3 66,.ln 68 67,.s 69 (.sliceSl 1 (.tmp 68) (some
 (.const (.int .i64 3))) none)],[(.c1 64 130 63,[.m 65 1,.nc 66 65,.fa 67 3 66,.ln 68 67,.s 69 (.sliceSl 1 (.tmp 68) (some (.const (.int .i64 3))) none)]),(.fa 71 1 6,[.m 65 1,.nc 66 65,.fa 67 3 66,.ln 68 67,
 .s 69 (.sliceSl 1 (.tmp 68) (some (.const (.int .i64 3))) none)]),(.c1 70 131 69,[]),(.st 1 71 64,[]),(.fa 72 3 6,[]),(.st 1 72 70,[])])],.gops [.m 73 1,.m 74 1,.m 75 1,.nc 76 75,.fa 77 1 76,.ln 78 77,.s
 79 (.sliceSl 1 (.tmp 78) none (some (.const (.int .i64 2)))),.m 80 1,.nc 81 80,.fa 82 3 81,.ln 83 82,.s 84 (.sliceSl 1 (.tmp 83) none (some (.const (.int .i64 3)))),.nc 85 73,.fa 86 1 85] [(.st 1 86 79,[.m 74 1,
 .s 84 (.sliceSl 1 (.tmp 83) none (some (.const (.int .i64 3))))]),(.nc 87 74,[]),(.fa 88 3 87,[]),(.st 1 88 84,[])]])],.o [.m 89 7,.m 90 0,.ld 91 4 6,.c2 92 81 90 91,.m 4 89,.m 5 92],.ret]
def sN_:LF:=⟨2,93,vl_,[.tmp 4,.tmp 5]⟩
theorem uA_:aA_ Tryz.prog Tryz.f135 sN_:=as_
theorem go_{H:List Row}{T M:Nat}{root:Int}{B1 B2:List PB}{x:PB}{lo mx:Nat}{sl:List ab_}(g:PgS H T M root (B1++x::B2) lo mx sl)(ok:c2_ sl)(hmx:7≤mx)(hl:x.pg.Leaf=true)(h7:x.pg.Keys.length=7)(h7v:x.pg.Vals.length=7)(hkd:x.pg.Kids=[])(K:AV→List Row→Prop)
 (hK:∀H' B',cH_ T M H (B1++x::B2) H' B'→PgS H' T M root B' lo mx (if aO_ (aj_ sl) 64=0 then ax_ ⟨x.id,(a5_ x.pg).1⟩ false sl else ax_ ⟨aO_ (aj_ sl) 64,(a5_ x.pg).2.1⟩ false (ax_ ⟨x.id,(a5_ x.pg).1⟩ false sl))→K (.tup [.val (.string (a5_ x.pg).2.2),.val (.int .i64 (aO_ (aj_ sl) 64))]) H') :
 callSem Tryz.prog 135 [.ptr T 1 0 0,.ptr x.b 1 0 0] H K:=by
 have hxB:x∈B1++x::B2:=by simp
 obtain⟨ents0,ck0,g0⟩:=g.pg
 have hT:=(g0.lows T (by simp)).2
 have hlowx:∀l∈x.foot,l<H.length:=fun l hl=>(g0.lows l (Pg.mem_foot hxB hl)).2
 have hone:(PB.all T M (B1++x::B2)).Nodup:=g0.one
 rw[(ca_ T M B1 B2 x).nodup_iff,nodup_append]at hone
 have hxn:=hone.1
 simp only[PB.foot,nodup_cons,mem_cons,not_or,not_mem_nil,not_false_eq_true,and_true,nodup_nil]at hxn
 obtain⟨⟨nk,nv,nd⟩,⟨nkv,nkd⟩,nvd⟩:=hxn
 obtain⟨a1,a2,a3,o1,p1,p2,p3⟩:=g0.pgs x hxB
 have lk:=p1.lt
 have lv:=p2.lt
 have ld:=p3.lt
 obtain⟨pre1,post1,rfl,e1⟩:=p1
 obtain⟨pre2,post2,rfl,e2⟩:=p2
 have lb:=(List.getElem?_eq_some_iff.1 o1).1
 have z1:pre1.length+7-pre1.length=7:=by omega
 have z2:pre2.length+7-pre2.length=7:=by omega
 have c1:((pre1.length:Int)+3<((pre1.length+7:Nat):Int))=True:=eq_true (by omega)
 have e3:a5_ x.pg=(⟨true,x.pg.Keys.take 3,x.pg.Vals.take 3,[]⟩,⟨true,x.pg.Keys.drop 3,x.pg.Vals.drop 3,[]⟩,x.pg.Keys.getD 3 ⟨#[]⟩):=by rw[a5_,if_pos hl]
 rw[e3]at hK
 simp only at hK
 have hc3:a3.cell=true:=p3.cell
 have h4:(x.pg.Keys.drop 3).length=4:=by rw[length_drop,h7]
 have h4v:(x.pg.Vals.drop 3).length=4:=by rw[length_drop,h7v]
 refine aF_ mixed Tryz.func135 uA_ (a9_ rfl ?_)
 have g1:(pre1++(x.pg.Keys.map ag_++post1))[pre1.length+3]?=some (ag_ (x.pg.Keys.getD 3 ⟨#[]⟩)):=by rw[gM_ _ _ _ _ (by simp;omega)];simp[h7]
 simp(disch:=omega)only[sN_,vl_,o1,hl,bR_,go_sem,seval]
 simp(disch:=first|omega|simp only[lzz0_];first|done|omega)only[ad_,go_sem,seval,o1,e1,e2,hl,h7,h7v,z1,z2,c1,g1]
 refine⟨?_,?_⟩
 ·refine bS_ (x.pg.Keys.drop 3) (by rw[length_drop];omega) _ _ x.k (aP_.keep (aP_.back 3 7 h7 (by omega) e1) (ad_ lk)) _ ?_
  rw[h4]
  simp(disch:=first|omega|simp only[lzz0_];first|done|omega)only[ad_,go_sem,seval,o1,e2,hl,h7,h7v,z2]
  refine bS_ (x.pg.Vals.drop 3) (by rw[length_drop];omega) _ _ x.v (aP_.keep (aP_.back 3 7 h7v (by omega) e2) (by(simp(disch:=(first|omega|(simp only[ls_,la_,lc_,ln_];omega)))only[ad_]))) _ ?_
  rw[h4v]
  simp(disch:=first|omega|simp only[lzz0_];first|done|omega)only[ao_,aq_,ad_,at_,go_sem,seval,o1,e1,e2,hl,h7,h7v]
  refine callSem.at fun Hx hHx=>?_
  have len:Hx.length=H.length+3:=by rw[hHx];simp
  have kept:∀l,l<H.length→l≠x.b→Hx[l]?=H[l]?:=fun l q1 q2=>by rw[hHx];(simp(disch:=(first|omega|(simp only[ls_,la_,lc_,ln_];omega)))only[ao_,ad_])
  have bx:Hx[x.b]?=some ⟨.ty 77,4,[[.val (.bool true),.sub x.k (pre1.length+(7+post1.length)) pre1.length (pre1.length+3),.sub x.v (pre2.length+(7+post2.length)) pre2.length (pre2.length+3),a3]]⟩:=by rw[hHx];(simp(disch:=(first|omega|(simp only[ls_,la_,lc_,ln_];omega)))only[aq_])
  have rk:Hx[H.length+1]?=some ⟨.ty 9,1,(x.pg.Keys.drop 3).map ag_⟩:=by rw[hHx];(simp(disch:=(first|omega|(simp only[ls_,la_,lc_,ln_];omega)))only[ao_,a0_])
  have rv:Hx[H.length+2]?=some ⟨.ty 9,1,(x.pg.Vals.drop 3).map ag_⟩:=by rw[hHx];(simp(disch:=(first|omega|(simp only[ls_,la_,lc_,ln_];omega)))only[ao_,bJ_])
  clear hHx
  refine callSem.nilrow 2 1 (fun S S' xs le hn hr=>BV_ le hn hr) ?_
  have ol:∀(r:Row) l,l<Hx.length→(Hx++[r])[l]?=Hx[l]?:=fun r l q=>getElem?_append_left q
  refine hv_ g ok (p':=⟨true,x.pg.Keys.take 3,x.pg.Vals.take 3,[]⟩) (right:=⟨true,x.pg.Keys.drop 3,x.pg.Vals.drop 3,[]⟩) hmx (r1:=H.length+1) (r2:=H.length+2) (r3:=Hx.length) (by simp;omega) (fun l q1 q2=>(ol _ l (by omega)).trans (kept l q1 q2))
   ⟨_,_,_,(ol _ _ (by omega)).trans bx,aP_.keep (aP_.cut 3 7 h7 (by omega) e1) ((ol _ _ (by omega)).trans (kept _ lk (Ne.symm nk))),aP_.keep (aP_.cut 3 7 h7v (by omega) e2) ((ol _ _ (by omega)).trans (kept _ lv (Ne.symm nv))),aP_.keep (by rw[hkd]at p3;exact p3) ((ol _ _ (by omega)).trans (kept _ ld (Ne.symm nd)))⟩
   (aP_.all h4 ((ol _ _ (by omega)).trans rk)) (aP_.all h4v ((ol _ _ (by omega)).trans rv)) (aP_.all (f:=ay_) (xs:=[]) rfl (by rw[getElem?_append_right (Nat.le_refl _),Nat.sub_self];rfl)) (by omega) ?_ _ ?_
  ·intro l hl2 r hq
   simp only[mem_cons,not_mem_nil,or_false]at hl2
   rcases hl2 with rfl|rfl|rfl
   ·rw[(ol _ _ (by omega)).trans rk]at hq
    obtain rfl:=Option.some.inj hq
    rw[length_map,h4];omega
   ·rw[(ol _ _ (by omega)).trans rv]at hq
    obtain rfl:=Option.some.inj hq
    rw[length_map,h4v];omega
   ·rw[getElem?_append_right (Nat.le_refl _),Nat.sub_self]at hq
    obtain rfl:=Option.some.inj hq
    exact Nat.zero_le _
  ·intro H' B' hgo hpg
   simp(disch:=first|omega|simp only[lzz0_];first|done|omega)only[go_sem,seval]
   exact hK H' B' hgo hpg
 ·refine bS_ (x.pg.Keys.drop 3) (by rw[length_drop];omega) _ _ x.k (aP_.keep (aP_.back 3 7 h7 (by omega) e1) (ad_ lk)) _ ?_
  rw[h4]
  simp(disch:=first|omega|simp only[lzz0_];first|done|omega)only[ad_,at_,go_sem,seval,o1,e2,hl,h7,h7v,z2]
  refine bS_ (x.pg.Vals.drop 3) (by rw[length_drop];omega) _ _ x.v (aP_.keep (aP_.back 3 7 h7v (by omega) e2) (by(simp(disch:=(first|omega|(simp only[ls_,la_,lc_,ln_];omega)))only[ad_]))) _ ?_
  rw[h4v]
  simp(disch:=first|omega|simp only[lzz0_];first|done|omega)only[ao_,aq_,ad_,at_,go_sem,seval,o1,e1,e2,hl,h7,h7v]
  refine callSem.at fun Hx hHx=>?_
  have len:Hx.length=H.length+3:=by rw[hHx];simp
  have kept:∀l,l<H.length→l≠x.b→Hx[l]?=H[l]?:=fun l q1 q2=>by rw[hHx];(simp(disch:=(first|omega|(simp only[ls_,la_,lc_,ln_];omega)))only[ao_,ad_])
  have bx:Hx[x.b]?=some ⟨.ty 77,4,[[.val (.bool true),.sub x.k (pre1.length+(7+post1.length)) pre1.length (pre1.length+3),.sub x.v (pre2.length+(7+post2.length)) pre2.length (pre2.length+3),a3]]⟩:=by rw[hHx];(simp(disch:=(first|omega|(simp only[ls_,la_,lc_,ln_];omega)))only[aq_])
  have rk:Hx[H.length+1]?=some ⟨.ty 9,1,(x.pg.Keys.drop 3).map ag_⟩:=by rw[hHx];(simp(disch:=(first|omega|(simp only[ls_,la_,lc_,ln_];omega)))only[ao_,a0_])
  have rv:Hx[H.length+2]?=some ⟨.ty 9,1,(x.pg.Vals.drop 3).map ag_⟩:=by rw[hHx];(simp(disch:=(first|omega|(simp only[ls_,la_,lc_,ln_];omega)))only[ao_,bJ_])
  clear hHx
  refine callSem.nilrow 2 1 (fun S S' xs le hn hr=>BV_ le hn hr) ?_
  have ol:∀(r:Row) l,l<Hx.length→(Hx++[r])[l]?=Hx[l]?:=fun r l q=>getElem?_append_left q
  refine hv_ g ok (p':=⟨true,x.pg.Keys.take 3,x.pg.Vals.take 3,[]⟩) (right:=⟨true,x.pg.Keys.drop 3,x.pg.Vals.drop 3,[]⟩) hmx (r1:=H.length+1) (r2:=H.length+2) (r3:=Hx.length) (by simp;omega) (fun l q1 q2=>(ol _ l (by omega)).trans (kept l q1 q2))
   ⟨_,_,_,(ol _ _ (by omega)).trans bx,aP_.keep (aP_.cut 3 7 h7 (by omega) e1) ((ol _ _ (by omega)).trans (kept _ lk (Ne.symm nk))),aP_.keep (aP_.cut 3 7 h7v (by omega) e2) ((ol _ _ (by omega)).trans (kept _ lv (Ne.symm nv))),aP_.keep (by rw[hkd]at p3;exact p3) ((ol _ _ (by omega)).trans (kept _ ld (Ne.symm nd)))⟩
   (aP_.all h4 ((ol _ _ (by omega)).trans rk)) (aP_.all h4v ((ol _ _ (by omega)).trans rv)) (aP_.all (f:=ay_) (xs:=[]) rfl (by rw[getElem?_append_right (Nat.le_refl _),Nat.sub_self];rfl)) (by omega) ?_ _ ?_
  ·intro l hl2 r hq
   simp only[mem_cons,not_mem_nil,or_false]at hl2
   rcases hl2 with rfl|rfl|rfl
   ·rw[(ol _ _ (by omega)).trans rk]at hq
    obtain rfl:=Option.some.inj hq
    rw[length_map,h4];omega
   ·rw[(ol _ _ (by omega)).trans rv]at hq
    obtain rfl:=Option.some.inj hq
    rw[length_map,h4v];omega
   ·rw[getElem?_append_right (Nat.le_refl _),Nat.sub_self]at hq
    obtain rfl:=Option.some.inj hq
    exact Nat.zero_le _
  ·intro H' B' hgo hpg
   simp(disch:=first|omega|simp only[lzz0_];first|done|omega)only[go_sem,seval]
   exact hK H' B' hgo hpg
theorem f8_{H:List Row}{T M:Nat}{root:Int}{B1 B2:List PB}{x:PB}{lo mx:Nat}{sl:List ab_}(g:PgS H T M root (B1++x::B2) lo mx sl)(ok:c2_ sl)(hmx:7≤mx)(hl:x.pg.Leaf=false)(h7:x.pg.Keys.length=6)(h7v:x.pg.Kids.length=7)(hkd:x.pg.Vals=[])(K:AV→List Row→Prop)
 (hK:∀H' B',cH_ T M H (B1++x::B2) H' B'→PgS H' T M root B' lo mx (if aO_ (aj_ sl) 64=0 then ax_ ⟨x.id,(a5_ x.pg).1⟩ false sl else ax_ ⟨aO_ (aj_ sl) 64,(a5_ x.pg).2.1⟩ false (ax_ ⟨x.id,(a5_ x.pg).1⟩ false sl))→K (.tup [.val (.string (a5_ x.pg).2.2),.val (.int .i64 (aO_ (aj_ sl) 64))]) H') :
 callSem Tryz.prog 135 [.ptr T 1 0 0,.ptr x.b 1 0 0] H K:=by
 have hxB:x∈B1++x::B2:=by simp
 obtain⟨ents0,ck0,g0⟩:=g.pg
 have hT:=(g0.lows T (by simp)).2
 have hlowx:∀l∈x.foot,l<H.length:=fun l hl=>(g0.lows l (Pg.mem_foot hxB hl)).2
 have hone:(PB.all T M (B1++x::B2)).Nodup:=g0.one
 rw[(ca_ T M B1 B2 x).nodup_iff,nodup_append]at hone
 have hxn:=hone.1
 simp only[PB.foot,nodup_cons,mem_cons,not_or,not_mem_nil,not_false_eq_true,and_true,nodup_nil]at hxn
 obtain⟨⟨nk,nv,nd⟩,⟨nkv,nkd⟩,nvd⟩:=hxn
 obtain⟨a1,a2,a3,o1,p1,p2,p3⟩:=g0.pgs x hxB
 have lk:=p1.lt
 have lv:=p2.lt
 have ld:=p3.lt
 obtain⟨pre1,post1,rfl,e1⟩:=p1
 obtain⟨pre2,post2,rfl,e2⟩:=p3
 have lb:=(List.getElem?_eq_some_iff.1 o1).1
 have z1:pre1.length+6-pre1.length=6:=by omega
 have z2:pre2.length+7-pre2.length=7:=by omega
 have c1:((pre1.length:Int)+2<((pre1.length+6:Nat):Int))=True:=eq_true (by omega)
 have e3:a5_ x.pg=(⟨false,x.pg.Keys.take 2,[],x.pg.Kids.take 3⟩,⟨false,x.pg.Keys.drop 3,[],x.pg.Kids.drop 3⟩,x.pg.Keys.getD 2 ⟨#[]⟩):=by rw[a5_,if_neg (by rw[hl];simp)]
 rw[e3]at hK
 simp only at hK
 have hc3:a2.cell=true:=p2.cell
 have h4:(x.pg.Keys.drop 3).length=3:=by rw[length_drop,h7]
 have h4v:(x.pg.Kids.drop 3).length=4:=by rw[length_drop,h7v]
 refine aF_ mixed Tryz.func135 uA_ (a9_ rfl ?_)
 have g1:(pre1++(x.pg.Keys.map ag_++post1))[pre1.length+2]?=some (ag_ (x.pg.Keys.getD 2 ⟨#[]⟩)):=by rw[gM_ _ _ _ _ (by simp;omega)];simp[h7]
 simp(disch:=omega)only[sN_,vl_,o1,hl,bR_,go_sem,seval]
 simp(disch:=first|omega|simp only[lzz0_];first|done|omega)only[ad_,go_sem,seval,o1,e1,e2,hl,h7,h7v,z1,z2,c1,g1]
 refine⟨?_,?_⟩
 ·refine bS_ (x.pg.Keys.drop 3) (by rw[length_drop];omega) _ _ x.k (aP_.keep (aP_.back 3 6 h7 (by omega) e1) (ad_ lk)) _ ?_
  rw[h4]
  simp(disch:=first|omega|simp only[lzz0_];first|done|omega)only[ad_,go_sem,seval,o1,e2,hl,h7,h7v,z2]
  refine ey_ (x.pg.Kids.drop 3) (by rw[length_drop];omega) _ _ x.d (aP_.keep (aP_.back 3 7 h7v (by omega) e2) (by(simp(disch:=(first|omega|(simp only[ls_,la_,lc_,ln_];omega)))only[ad_]))) _ ?_
  rw[h4v]
  simp(disch:=first|omega|simp only[lzz0_];first|done|omega)only[ao_,aq_,ad_,at_,go_sem,seval,o1,e1,e2,hl,h7,h7v]
  refine callSem.at fun Hx hHx=>?_
  have len:Hx.length=H.length+3:=by rw[hHx];simp
  have kept:∀l,l<H.length→l≠x.b→Hx[l]?=H[l]?:=fun l q1 q2=>by rw[hHx];(simp(disch:=(first|omega|(simp only[ls_,la_,lc_,ln_];omega)))only[ao_,ad_])
  have bx:Hx[x.b]?=some ⟨.ty 77,4,[[.val (.bool false),.sub x.k (pre1.length+(6+post1.length)) pre1.length (pre1.length+2),a2,.sub x.d (pre2.length+(7+post2.length)) pre2.length (pre2.length+3)]]⟩:=by rw[hHx];(simp(disch:=(first|omega|(simp only[ls_,la_,lc_,ln_];omega)))only[aq_])
  have rk:Hx[H.length+1]?=some ⟨.ty 9,1,(x.pg.Keys.drop 3).map ag_⟩:=by rw[hHx];(simp(disch:=(first|omega|(simp only[ls_,la_,lc_,ln_];omega)))only[ao_,a0_])
  have rv:Hx[H.length+2]?=some ⟨.ty 2,1,(x.pg.Kids.drop 3).map ay_⟩:=by rw[hHx];(simp(disch:=(first|omega|(simp only[ls_,la_,lc_,ln_];omega)))only[ao_,bJ_])
  clear hHx
  refine callSem.nilrow 9 1 (fun S S' xs le hn hr=>w1_ le hn hr) ?_
  have ol:∀(r:Row) l,l<Hx.length→(Hx++[r])[l]?=Hx[l]?:=fun r l q=>getElem?_append_left q
  refine hv_ g ok (p':=⟨false,x.pg.Keys.take 2,[],x.pg.Kids.take 3⟩) (right:=⟨false,x.pg.Keys.drop 3,[],x.pg.Kids.drop 3⟩) hmx (r1:=H.length+1) (r2:=Hx.length) (r3:=H.length+2) (by simp;omega) (fun l q1 q2=>(ol _ l (by omega)).trans (kept l q1 q2))
   ⟨_,_,_,(ol _ _ (by omega)).trans bx,aP_.keep (aP_.cut 2 6 h7 (by omega) e1) ((ol _ _ (by omega)).trans (kept _ lk (Ne.symm nk))),aP_.keep (by rw[hkd]at p2;exact p2) ((ol _ _ (by omega)).trans (kept _ lv (Ne.symm nv))),aP_.keep (aP_.cut 3 7 h7v (by omega) e2) ((ol _ _ (by omega)).trans (kept _ ld (Ne.symm nd)))⟩
   (aP_.all h4 ((ol _ _ (by omega)).trans rk)) (aP_.all (f:=ag_) (xs:=[]) rfl (by rw[getElem?_append_right (Nat.le_refl _),Nat.sub_self];rfl)) (aP_.all h4v ((ol _ _ (by omega)).trans rv)) (by omega) ?_ _ ?_
  ·intro l hl2 r hq
   simp only[mem_cons,not_mem_nil,or_false]at hl2
   rcases hl2 with rfl|rfl|rfl
   ·rw[(ol _ _ (by omega)).trans rk]at hq
    obtain rfl:=Option.some.inj hq
    rw[length_map,h4];omega
   ·rw[getElem?_append_right (Nat.le_refl _),Nat.sub_self]at hq
    obtain rfl:=Option.some.inj hq
    exact Nat.zero_le _
   ·rw[(ol _ _ (by omega)).trans rv]at hq
    obtain rfl:=Option.some.inj hq
    rw[length_map,h4v];omega
  ·intro H' B' hgo hpg
   simp(disch:=first|omega|simp only[lzz0_];first|done|omega)only[go_sem,seval]
   exact hK H' B' hgo hpg
 ·refine bS_ (x.pg.Keys.drop 3) (by rw[length_drop];omega) _ _ x.k (aP_.keep (aP_.back 3 6 h7 (by omega) e1) (ad_ lk)) _ ?_
  rw[h4]
  simp(disch:=first|omega|simp only[lzz0_];first|done|omega)only[ad_,at_,go_sem,seval,o1,e2,hl,h7,h7v,z2]
  refine ey_ (x.pg.Kids.drop 3) (by rw[length_drop];omega) _ _ x.d (aP_.keep (aP_.back 3 7 h7v (by omega) e2) (by(simp(disch:=(first|omega|(simp only[ls_,la_,lc_,ln_];omega)))only[ad_]))) _ ?_
  rw[h4v]
  simp(disch:=first|omega|simp only[lzz0_];first|done|omega)only[ao_,aq_,ad_,at_,go_sem,seval,o1,e1,e2,hl,h7,h7v]
  refine callSem.at fun Hx hHx=>?_
  have len:Hx.length=H.length+3:=by rw[hHx];simp
  have kept:∀l,l<H.length→l≠x.b→Hx[l]?=H[l]?:=fun l q1 q2=>by rw[hHx];(simp(disch:=(first|omega|(simp only[ls_,la_,lc_,ln_];omega)))only[ao_,ad_])
  have bx:Hx[x.b]?=some ⟨.ty 77,4,[[.val (.bool false),.sub x.k (pre1.length+(6+post1.length)) pre1.length (pre1.length+2),a2,.sub x.d (pre2.length+(7+post2.length)) pre2.length (pre2.length+3)]]⟩:=by rw[hHx];(simp(disch:=(first|omega|(simp only[ls_,la_,lc_,ln_];omega)))only[aq_])
  have rk:Hx[H.length+1]?=some ⟨.ty 9,1,(x.pg.Keys.drop 3).map ag_⟩:=by rw[hHx];(simp(disch:=(first|omega|(simp only[ls_,la_,lc_,ln_];omega)))only[ao_,a0_])
  have rv:Hx[H.length+2]?=some ⟨.ty 2,1,(x.pg.Kids.drop 3).map ay_⟩:=by rw[hHx];(simp(disch:=(first|omega|(simp only[ls_,la_,lc_,ln_];omega)))only[ao_,bJ_])
  clear hHx
  refine callSem.nilrow 9 1 (fun S S' xs le hn hr=>w1_ le hn hr) ?_
  have ol:∀(r:Row) l,l<Hx.length→(Hx++[r])[l]?=Hx[l]?:=fun r l q=>getElem?_append_left q
  refine hv_ g ok (p':=⟨false,x.pg.Keys.take 2,[],x.pg.Kids.take 3⟩) (right:=⟨false,x.pg.Keys.drop 3,[],x.pg.Kids.drop 3⟩) hmx (r1:=H.length+1) (r2:=Hx.length) (r3:=H.length+2) (by simp;omega) (fun l q1 q2=>(ol _ l (by omega)).trans (kept l q1 q2))
   ⟨_,_,_,(ol _ _ (by omega)).trans bx,aP_.keep (aP_.cut 2 6 h7 (by omega) e1) ((ol _ _ (by omega)).trans (kept _ lk (Ne.symm nk))),aP_.keep (by rw[hkd]at p2;exact p2) ((ol _ _ (by omega)).trans (kept _ lv (Ne.symm nv))),aP_.keep (aP_.cut 3 7 h7v (by omega) e2) ((ol _ _ (by omega)).trans (kept _ ld (Ne.symm nd)))⟩
   (aP_.all h4 ((ol _ _ (by omega)).trans rk)) (aP_.all (f:=ag_) (xs:=[]) rfl (by rw[getElem?_append_right (Nat.le_refl _),Nat.sub_self];rfl)) (aP_.all h4v ((ol _ _ (by omega)).trans rv)) (by omega) ?_ _ ?_
  ·intro l hl2 r hq
   simp only[mem_cons,not_mem_nil,or_false]at hl2
   rcases hl2 with rfl|rfl|rfl
   ·rw[(ol _ _ (by omega)).trans rk]at hq
    obtain rfl:=Option.some.inj hq
    rw[length_map,h4];omega
   ·rw[getElem?_append_right (Nat.le_refl _),Nat.sub_self]at hq
    obtain rfl:=Option.some.inj hq
    exact Nat.zero_le _
   ·rw[(ol _ _ (by omega)).trans rv]at hq
    obtain rfl:=Option.some.inj hq
    rw[length_map,h4v];omega
  ·intro H' B' hgo hpg
   simp(disch:=first|omega|simp only[lzz0_];first|done|omega)only[go_sem,seval]
   exact hK H' B' hgo hpg
theorem dw_{sl:List ab_}(hr:ed_ sl){id:Int}{p:am_}:aj_ (ax_ ⟨id,p⟩ false sl) id=some p:=by rw[cr_ hr,if_pos rfl]
theorem gH_{H Hc:List Row}{T M:Nat}{root:Int}{B1 B2:List PB}{x:PB}{lo mx mx':Nat}{sl:List ab_}(g:PgS H T M root (B1++x::B2) lo mx sl)(hrise:ed_ sl){p':am_}{k v d:Nat}(hmx:mx≤mx')(h1:1≤mx)(hlen:H.length≤Hc.length)(kept:∀l,l<H.length→l∉x.foot→Hc[l]?=H[l]?)(hp:gw_ Hc x.b p' k v d)
 (hk:k=x.k∨(H.length≤k∧k<Hc.length)) (hv:v=x.v∨(H.length≤v∧v<Hc.length)) (hd:d=x.d∨(H.length≤d∧d<Hc.length)) (hne:k≠v∧k≠d∧v≠d) (hl1:∀r,Hc[k]?=some r→r.es.length≤mx') (hl2:∀r,Hc[v]?=some r→r.es.length≤mx') (hl3:∀r,Hc[d]?=some r→r.es.length≤mx') :
 PgS Hc T M root (B1++⟨x.id,p',x.b,k,v,d⟩::B2) lo mx' (ax_ ⟨x.id,p'⟩ false sl)∧cH_ T M H (B1++x::B2) Hc (B1++⟨x.id,p',x.b,k,v,d⟩::B2):=by
 obtain⟨ents0,ck0,g0⟩:=g.pg
 have hxB:x∈B1++x::B2:=by simp
 have hone:(PB.all T M (B1++x::B2)).Nodup:=g0.one
 rw[(ca_ T M B1 B2 x).nodup_iff,nodup_append]at hone
 have hxn:=hone.1
 have hfoot:∀l∈x.foot,l<H.length:=fun l hl=>(g0.lows l (Pg.mem_foot hxB hl)).2
 have f1:=hfoot x.b (by simp[PB.foot])
 simp only[PB.foot,nodup_cons,mem_cons,not_or,not_mem_nil,not_false_eq_true,and_true,nodup_nil]at hxn
 obtain⟨⟨nk,nv,nd⟩,⟨nkv,nkd⟩,nvd⟩:=hxn
 have q1:k∈x.foot∨(H.length≤k∧k<Hc.length):=by rcases hk with e|e;exact .inl (by rw[e];simp[PB.foot]);exact .inr e
 have q2:v∈x.foot∨(H.length≤v∧v<Hc.length):=by rcases hv with e|e;exact .inl (by rw[e];simp[PB.foot]);exact .inr e
 have q3:d∈x.foot∨(H.length≤d∧d<Hc.length):=by rcases hd with e|e;exact .inl (by rw[e];simp[PB.foot]);exact .inr e
 refine g.upd (x':=⟨x.id,p',x.b,k,v,d⟩) hrise rfl rfl kept hlen ?_ ?_ hp hmx ?_
 ·intro l hl
  simp only[PB.foot,mem_cons,not_mem_nil,or_false]at hl
  rcases hl with rfl|rfl|rfl|rfl
  ·exact .inl (by simp[PB.foot])
  ·exact q1
  ·exact q2
  ·exact q3
 ·simp only[PB.foot,nodup_cons,mem_cons,not_or,not_mem_nil,not_false_eq_true,and_true,nodup_nil]
  omega
 ·intro l hl r hq
  simp only[PB.foot,mem_cons,not_mem_nil,or_false]at hl
  rcases hl with rfl|rfl|rfl|rfl
  ·obtain⟨_,_,_,o1,_⟩:=hp
   rw[o1]at hq
   obtain rfl:=Option.some.inj hq
   show 1≤mx'
   omega
  ·exact hl1 r hq
  ·exact hl2 r hq
  ·exact hl3 r hq
theorem PgS.mono{H:List Row}{T M:Nat}{root:Int}{B:List PB}{lo mx mx':Nat}{sl:List ab_}(g:PgS H T M root B lo mx sl)(h:mx≤mx'):PgS H T M root B lo mx' sl:=⟨g.pg,g.same,fun l hl r hr=>Nat.le_trans (g.lim l hl r hr) h⟩
def c80:LC :=
 .q [.o [.s 8 (.mov (.const (.string ⟨#[]⟩))),.ki 9 0,.ki 10 0],.o [.m 20 1,.nc 21 20,.ld 22 4 21,.m 23 2,.c2 24 132 22 23,.m 19 24,.ex 25 19 0,.ex 26 19 1,.m 11 25,.m 12 26],.o [.f 13],.block 0 (.q [.o [.m
 82 1,.nc 83 82,.fa 84 0 83,.ln 85 84,.m 86 85,.gm 87 86 true 12,.pf 88 86 87,.m 81 88],.k 81 (.o [.m 89 1,.nc 90 89,.fa 91 2 90,.ln 92 91,.m 93 11,.m 94 3,.ia 95 1 92 93,.st 1 95 94]) (.q [.o [.m 97 1,.nc
 98 97,.fa 99 0 98,.ln 100 99,.m 96 100],.k 96 (.q [.alts [([.m 101 1,.m 102 1,.m 103 1,.nc 104 103,.fa 105 1 104,.ln 106 105,.m 107 11,.m 108 2,.m 111 1,.nc 112 111,.fa 113 2 112,.ln 114 113,.m 115 11,.m
 116 3],[(.s 109 (.buildSlice 9 1 (.string ⟨#[]⟩) 1 [(0,.tmp 108)]),[.m 101 1,.m 102 1,.m 103 1,.nc 104 103,.fa 105 1 104,.ln 106 105,.m 107 11,.m 111 1,.nc 112 111,.fa 113 2 112,.ln 114 113,.m 115 11,.m
 116 3]),(.c3 110 133 106 107 109,[.m 101 1,.m 102 1,.m 111 1,.nc 112 111,.fa 113 2 112,.ln 114 113,.m 115 11,.m 116 3]),(.s 117 (.buildSlice 9 1 (.string ⟨#[]⟩) 1 [(0,.tmp 116)]),[.m 101 1,.m 102 1,.m 111
 1,.nc 112 111,.fa 113 2 112,.ln 114 113,.m 115 11]),(.c3 118 133 114 115 117,[.m 101 1,.m 102 1]),(.nc 119 101,[.m 102 1]),(.fa 120 1 119,[.m 102 1]),(.st 1 120 110,[.m 102 1]),(.nc 121 102,[]),(.fa 122 2
 121,[]),(.st 1 122 118,[])]),([.m 101 1,.m 102 1,.m 103 1,.nc 104 103,.fa 105 1 104,.ln 106 105,.m 107 11,.m 108 2,.m 116 3,.m 111 1,.nc 112 111,.fa 113 2 112,.ln 114 113,.m 115 11],[(.s 109
 (.buildSlice 9 1 (.string ⟨#[]⟩) 1 [(0,.tmp 108)]),[.m 101 1,.m 102 1,.m 103 1,.nc 104 103,.fa 105 1 104,.ln 106 105,.m 107 11,.m 116 3,.m 111 1,.nc 112 111,.fa 113 2 112,.ln 114 113,.m 115 11]),(.s 117
 (.buildSlice 9 1 (.string ⟨#[]⟩) 1 [(0,.tmp 116)]),[.m 101 1,.m 102 1,.m 103 1,.nc 104 103,.fa 105 1 104,.ln 106 105,.m 107 11,.m 111 1,.nc 112 111,.fa 113 2 112,.ln 114 113,.m 115 11]),(.c3 110 133 106 107
 109,[.m 101 1,.m 102 1,.m 111 1,.nc 112 111,.fa 113 2 112,.ln 114 113,.m 115 11]),(.c3 118 133 114 115 117,[.m 101 1,.m 102 1]),(.nc 119 101,[.m 102 1]),(.fa 120 1 119,[.m 102 1]),(.st 1 120 110,[.m 102
 1]),(.nc 121 102,[]),(.fa 122 2 121,[]),(.st 1 122 118,[])]),([.m 101 1,.m 102 1,.m 103 1,.nc 104 103,.fa 105 1 104,.ln 106 105,.m 107 11,.m 108 2,.m 116 3,.m 111 1,.nc 112 111,.fa 113 2 112,.ln 114
 113,.m 115 11],[(.s 117 (.buildSlice 9 1 (.string ⟨#[]⟩) 1 [(0,.tmp 116)]),[.m 101 1,.m 102 1,.m 103 1,.nc 104 103,.fa 105 1 104,.ln 106 105,.m 107 11,.m 108 2,.m 111 1,.nc 112 111,.fa 113 2 112,.ln 114
 113,.m 115 11]),(.s 109 (.buildSlice 9 1 (.string ⟨#[]⟩) 1 [(0,.tmp 108)]),[.m 101 1,.m 102 1,.m 103 1,.nc 104 103,.fa 105 1 104,.ln 106 105,.m 107 11,.m 111 1,.nc 112 111,.fa 113 2 112,.ln 114 113,.m 115
 11]),(.c3 110 133 106 107 109,[.m 101 1,.m 102 1,.m 111 1,.nc 112 111,.fa 113 2 112,.ln 114 113,.m 115 11]),(.c3 118 133 114 115 117,[.m 101 1,.m 102 1]),(.nc 119 101,[.m 102 1]),(.fa 120 1 119,[.m 102
 1]),(.st 1 120 110,[.m 102 1]),(.nc 121 102,[]),(.fa 122 2 121,[]),(.st 1 122 118,[])])],.o [.m 123 1,.nc 124 123,.fa 125 1 124,.ln 126 125,.ll 127 126,.bk 128 .gtr false 127 6,.m 13 128]]) (.q [.gops [.m
 28 0,.m 29 0,.nc 30 29,.fa 31 1 30,.ln 32 31,.m 33 1,.nc 34 33,.fa 35 3 34,.ln 36 35,.m 37 11,.ia 38 1 36 37,.ln 39 38,.s 40 (.ext (.lookP false (.tmp 32) (.tmp 39))),.m 41 2,.m 42 3] [(.s 43 (.call 80
 [.tmp 28,.tmp 40,.tmp 41,.tmp 42]),[]),(.m 27 43,[]),(.ex 44 27 0,[]),(.ex 45 27 1,[]),(.ex 46 27 2,[]),(.m 14 44,[]),(.m 15 45,[]),(.m 16 46,[])],.q [.o [.m 47 16,.bk 48 .neq false 47 0],.k 48 (.q
 [.o [.m 49 16,.s 8 (.mov (.const (.string ⟨#[]⟩))),.ki 9 0,.m 10 49],.ret]) .skip],.o [.m 50 15,.bk 51 .neq false 50 0],.k 51 (.q [.alts [([.m 52 1,.m 53 1,.m 54 1,.nc 55 54,.fa 56 1 55,.ln 57 56,.m 58 11,
 .m 59 14,.m 62 1,.nc 63 62,.fa 64 3 63,.ln 65 64,.m 66 11,.bk 67 .add false 66 1,.m 68 15],[(.s 60 (.buildSlice 9 1 (.string ⟨#[]⟩) 1 [(0,.tmp 59)]),[.m 52 1,.m 53 1,.m 54 1,.nc 55 54,.fa 56 1 55,.ln 57
 56,.m 58 11,.m 62 1,.nc 63 62,.fa 64 3 63,.ln 65 64,.m 66 11,.bk 67 .add false 66 1,.m 68 15]),(.c3 61 133 57 58 60,[.m 52 1,.m 53 1,.m 62 1,.nc 63 62,.fa 64 3 63,.ln 65 64,.m 66 11,.bk 67 .add false 66
 1,.m 68 15]),(.s 69 (.buildSlice 2 1 (.int .i64 0) 1 [(0,.tmp 68)]),[.m 52 1,.m 53 1,.m 62 1,.nc 63 62,.fa 64 3 63,.ln 65 64,.m 66 11,.bk 67 .add false 66 1]),(.c3 70 134 65 67 69,[.m 52 1,.m 53 1]),(.nc
 71 52,[.m 53 1]),(.fa 72 1 71,[.m 53 1]),(.st 1 72 61,[.m 53 1]),(.nc 73 53,[]),(.fa 74 3 73,[]),(.st 1 74 70,[])]),([.m 52 1,.m 53 1,.m 54 1,.nc 55 54,.fa 56 1 55,.ln 57 56,.m 58 11,.m 59 14,.m 68
 15,.m 62 1,.nc 63 62,.fa 64 3 63,.ln 65 64,.m 66 11,.bk 67 .add false 66 1],[(.s 60 (.buildSlice 9 1 (.string ⟨#[]⟩) 1 [(0,.tmp 59)]),[.m 52 1,.m 53 1,.m 54 1,.nc 55 54,.fa 56 1 55,.ln 57 56,.m 58 11,.m
 68 15,.m 62 1,.nc 63 62,.fa 64 3 63,.ln 65 64,.m 66 11,.bk 67 .add false 66 1]),(.s 69 (.buildSlice 2 1 (.int .i64 0) 1 [(0,.tmp 68)]),[.m 52 1,.m 53 1,.m 54 1,.nc 55 54,.fa 56 1 55,.ln 57 56,.m 58 11,.m
 62 1,.nc 63 62,.fa 64 3 63,.ln 65 64,.m 66 11,.bk 67 .add false 66 1]),(.c3 61 133 57 58 60,[.m 52 1,.m 53 1,.m 62 1,.nc 63 62,.fa 64 3 63,.ln 65 64,.m 66 11,.bk 67 .add false 66 1]),(.c3 70 134 65 67 69,
 [.m 52 1,.m 53 1]),(.nc 71 52,[.m 53 1]),(.fa 72 1 71,[.m 53 1]),(.st 1 72 61,[.m 53 1]),(.nc 73 53,[]),(.fa 74 3 73,[]),(.st 1 74 70,[])]),([.m 52 1,.m 53 1,.m 54 1,.nc 55 54,.fa 56 1 55,.ln 57 56,.m
 58 11,.m 59 14,.m 68 15,.m 62 1,.nc 63 62,.fa 64 3 63,.ln 65 64,.m 66 11,.bk 67 .add false 66 1],[(.s 69 (.buildSlice 2 1 (.int .i64 0) 1 [(0,.tmp 68)]),[.m 52 1,.m 53 1,.m 54 1,.nc 55 54,.fa 56 1 55,.ln
 57 56,.m 58 11,.m 59 14,.m 62 1,.nc 63 62,.fa 64 3 63,.ln 65 64,.m 66 11,.bk 67 .add false 66 1]),(.s 60 (.buildSlice 9 1 (.string ⟨#[]⟩) 1 [(0,.tmp 59)]),[.m 52 1,.m 53 1,.m 54 1,.nc 55 54,.fa 56 1 55,
 .ln 57 56,.m 58 11,.m 62 1,.nc 63 62,.fa 64 3 63,.ln 65 64,.m 66 11,.bk 67 .add false 66 1]),(.c3 61 133 57 58 60,[.m 52 1,.m 53 1,.m 62 1,.nc 63 62,.fa 64 3 63,.ln 65 64,.m 66 11,.bk 67 .add false 66
 1]),(.c3 70 134 65 67 69,[.m 52 1,.m 53 1]),(.nc 71 52,[.m 53 1]),(.fa 72 1 71,[.m 53 1]),(.st 1 72 61,[.m 53 1]),(.nc 73 53,[]),(.fa 74 3 73,[]),(.st 1 74 70,[])])],.o [.m 75 1,.nc 76 75,.fa 77 3 76,
 .ln 78 77,.ll 79 78,.bk 80 .gtr false 79 6,.m 13 80]]) .skip])])]),.q [.o [.m 129 13,.nt 130 129],.k 130 (.q [.o [.s 8 (.mov (.const (.string ⟨#[]⟩))),.ki 9 0,.ki 10 0],.ret]) .skip],.o [.m 132 0,.m 133 1,.c2
 134 135 132 133,.m 131 134,.ex 135 131 0,.ex 136 131 1,.m 17 135,.m 18 136],.q [.o [.m 137 18,.bk 138 .eql false 137 0],.k 138 (.q [.o [.s 8 (.mov (.const (.string ⟨#[]⟩))),.ki 9 0,.ki 10 4],.ret]) .skip],.o
 [.m 139 17,.m 140 18,.m 8 139,.m 9 140,.ki 10 0],.ret]
def Be_:LF:=⟨4,141,c80,[.tmp 8,.tmp 9,.tmp 10]⟩
theorem CP_:aA_ Tryz.prog Tryz.f80 Be_:=fh_
set_option maxHeartbeats 8000000 in
theorem kJ_{key value:ByteArray}(hkey:ci_ key=true)(hv64:value.size≤64){T M:Nat}{root:Int}{lo:Nat}:∀(h n:Nat) (mx:Nat) (sl:List ab_) (top:Bool) (id:Int) (low high:ByteArray) (ids:List Int) (H:List Row) (B:List PB) (x:PB) (K:AV→List Row→Prop),h<n→7≤mx→mx+h≤1073741000→c2_ sl→cB_ (aj_ sl) h top id low high ids→ids.Nodup→PgS H T M root B lo mx sl→x∈B→x.id=id →
 (∀H' B',cH_ T M H B H' B'→PgS H' T M root B' lo (mx+h+1) (bO_ n sl id key value).1→K (.tup [.val (.string (bO_ n sl id key value).2.1),.val (.int .i64 (bO_ n sl id key value).2.2.1),.val (.int .i64 (bO_ n sl id key value).2.2.2)]) H') →
 callSem Tryz.prog 80 [.ptr T 1 0 0,.ptr x.b 1 0 0,.val (.string key),.val (.string value)] H K
 | h,0,_,_,_,_,_,_,_,_,_,_,_,hn,_,_,_,_,_,_,_,_,_=>absurd hn (Nat.not_lt_zero _)
 | h,n+1,mx,sl,top,id,low,high,ids,H,B,x,K,hn,hm7,hmx,ok,t,nd,g,hxB,hxid,hK=>by
  subst hxid
  obtain⟨p,hp,hpb,ho,hlf,hin⟩:=t.page
  have hxp:=g.box hxB
  rw[hp]at hxp
  have hxp:=Option.some.inj hxp
  subst hxp
  obtain⟨ents0,ck0,g0⟩:=g.pg
  have hT:=(g0.lows T (by simp)).2
  have hMl:=(g0.lows M (by simp)).2
  have gT:=g0.box
  have gM:=g0.map
  obtain⟨B1,B2,rfl⟩:=append_of_mem hxB
  have hone:(PB.all T M (B1++x::B2)).Nodup:=g0.one
  rw[(ca_ T M B1 B2 x).nodup_iff,nodup_append]at hone
  have hxn:=hone.1
  have hxT:∀l∈x.foot,l≠T∧l≠M:=fun l hl=>⟨fun e=>hone.2.2 l hl T (by simp[PB.all]) e,fun e=>hone.2.2 l hl M (by simp[PB.all]) e⟩
  simp only[PB.foot,nodup_cons,mem_cons,not_or,not_mem_nil,not_false_eq_true,and_true,nodup_nil]at hxn
  obtain⟨⟨nk,nv,nd'⟩,⟨nkv,nkd⟩,nvd⟩:=hxn
  obtain⟨a1,a2,a3,o1,p1,p2,p3⟩:=g0.pgs x hxB
  have lb:=(List.getElem?_eq_some_iff.1 o1).1
  have lk:=p1.lt
  have lv:=p2.lt
  have ld:=p3.lt
  have hsh:=eP_ hpb
  obtain⟨s1,s2,s3⟩:=hsh.small
  have hkb:dc_ x.pg.Keys=true:=by
   have:=hpb
   rw[bk_,Bool.and_eq_true]at this
   exact this.1
  have hfind:aa_ Tryz.prog 132 [.agg [.val (.bool x.pg.Leaf),a1,a2,a3],.val (.string key)] H (.tup [.val (.int .i64 (aI_ x.pg key).1),.val (.bool (aI_ x.pg key).2)]):=Go.AW.frozenR rfl (fun h=>lJ_ x.pg key (by omega) hkb h) (iJ_ (v8_ p1 p2 p3 1) (fX_ (n:=4) rfl))
  have c1:a1.cell=true:=p1.cell
  have c2:a2.cell=true:=p2.cell
  have c3:a3.cell=true:=p3.cell
  obtain⟨at',has,hf⟩:∃at' has,aI_ x.pg key=(at',has):=⟨_,_,rfl⟩
  rw[hf]at hfind
  refine aF_ mixed Tryz.func80 CP_ (a9_ rfl ?_)
  simp(disch:=omega)only[Be_,c80,o1,go_sem,seval]
  refine aa_.call hfind ?_
  cases hl:x.pg.Leaf with
  | true =>
   cases has with
   | true =>
    obtain⟨pre2,post2,rfl,e2⟩:=p2
    have hk:at'<x.pg.Vals.length:=by
     obtain⟨_,h1,h2,_⟩:=ex_ hpb hl
     have:=hH_ hl key
     rw[hf]at this
     have:=kB_ (xs:=x.pg.Keys) (key:=key) (Prod.mk.inj this).2.symm
     have e:=(Prod.mk.inj (hf.symm.trans (hH_ hl key))).1
     omega
    have q1:=ly_ pre2.length x.pg.Vals.length at' hk
    have q3:=vK_ pre2 (x.pg.Vals.map ag_) post2 at' [.val (.string value)] (by simpa using hk)
    have q4:(pre2++(x.pg.Vals.map ag_++post2))[pre2.length+at']?=some [.val (.string x.pg.Vals[at'])]:=by rw[gM_ _ _ _ _ (by simpa using hk),getElem?_map,getElem?_eq_getElem hk];rfl
    rw[hl]at o1
    simp(disch:=first|omega|simp only[lzz0_];first|done|omega)only[go_sem,seval,o1,e2,q1,q3,q4]
    have hf2:b2_ (aH_ x.pg true at' key value)=false:=by
     have:=nd_ hpb
     exact this
    have hput:bO_ (n+1) sl x.id key value=(ax_ ⟨x.id,aH_ x.pg true at' key value⟩ false sl,⟨#[]⟩,0,0):=by
     rw[dS_ hp hl,hf,cN_,dw_ ok.rise]
     simp only[hf2,if_true]
    rw[hput]at hK
    have hvl:((aH_ x.pg true at' key value).Vals.map ag_).length=(x.pg.Vals.map ag_).length:=by
     show((x.pg.Vals.set at' value).map ag_).length=_
     simp
    have hLf:(aH_ x.pg true at' key value).Leaf=true:=hl
    have e4:(x.pg.Vals.map ag_).set at' [.val (.string value)]=(x.pg.Vals.set at' value).map ag_:=by rw[map_set]
    rw[e4]
    obtain⟨gu,hgo⟩:=gH_ (Hc:=H.set x.v ⟨.ty 9,1,pre2++((x.pg.Vals.set at' value).map ag_++post2)⟩) (p':=aH_ x.pg true at' key value) (k:=x.k) (v:=x.v) (d:=x.d) (mx':=mx+h+1) g ok.rise (by omega) (by omega) (by simp) (fun l q1 q2=>ao_ (fun e=>q2 (by rw[←e];simp[PB.foot])))
     ⟨_,_,_,by rw[hLf];exact(ao_ (Ne.symm nv)).trans o1,p1.keep (ao_ (Ne.symm nkv)),⟨pre2,post2,by rw[hvl],aq_ lv⟩,p3.keep (ao_ nvd)⟩ (.inl rfl) (.inl rfl) (.inl rfl) ⟨nkv,nkd,nvd⟩
     (fun r hq=>by rw[ao_ (Ne.symm nkv)]at hq;have:=g.lim x.k (Pg.mem_foot hxB (by simp[PB.foot])) r hq;omega)
     (fun r hq=>by
       have h1:=g.lim x.v (Pg.mem_foot hxB (by simp[PB.foot])) _ e2
       rw[aq_ lv]at hq
       obtain rfl:=Option.some.inj hq
       simp only[la_,length_map,ls_]at h1⊢
       omega)
     (fun r hq=>by rw[ao_ nvd]at hq;have:=g.lim x.d (Pg.mem_foot hxB (by simp[PB.foot])) r hq;omega)
    exact hK _ _ hgo gu
   | false =>
    obtain⟨_,m1,m2,hkds,_⟩:=ex_ hpb hl
    have hat:at'≤x.pg.Keys.length:=by
     have:=gF_ x.pg key
     rw[hf]at this
     exact this
    have hatv:at'≤x.pg.Vals.length:=by omega
    have hinsl:(x.pg.Keys.take at'++key::x.pg.Keys.drop at').length=x.pg.Keys.length+1:=by simp only[la_,length_take,lc_,length_drop];omega
    have hinsv:(x.pg.Vals.take at'++value::x.pg.Vals.drop at').length=x.pg.Vals.length+1:=by simp only[la_,length_take,lc_,length_drop];omega
    have hlk':((aH_ x.pg false at' key value).Keys.map ag_).length=x.pg.Keys.length+1:=by rw[length_map];exact hinsl
    have hlv':((aH_ x.pg false at' key value).Vals.map ag_).length=x.pg.Vals.length+1:=by rw[length_map];exact hinsv
    obtain⟨i1,i2,_⟩:=ok.pgs _ _ hp
    have ok1:c2_ (ax_ ⟨x.id,aH_ x.pg false at' key value⟩ false sl):=ok.set ⟨i1,i2,by have:=i1_ hpb hl hkey hv64;rw[hf]at this;exact this⟩
    rw[hl]at o1
    simp(disch:=first|omega|simp only[lzz0_];first|done|omega)only[ad_,go_sem,seval,o1]
    refine⟨?_,?_,?_⟩
    ·refine bz_ (l:=x.k) (lv:=H.length) (i:=at') (mx:=mx) (xs:=x.pg.Keys) (v:=key) (p1.keep (by(simp(disch:=(first|omega|(simp only[ls_,la_,lc_,ln_];omega)))only[ad_]))) hat (fun r hq=>g.lim x.k (Pg.mem_foot hxB (by simp[PB.foot])) r (by rw[←hq];exact(ad_ lk).symm)) (by omega) (by first|((simp(disch:=(first|omega|(simp only[ls_,la_,lc_,ln_];omega)))only[at_]);done)|((simp(disch:=(first|omega|(simp only[ls_,la_,lc_,ln_];omega)))only[ao_,aq_,ad_,at_,a0_,bJ_,cu_]);rfl)) (by omega) ?_
     intro b1 H1 l1 hl1 hlt1 hlen1 kp1 w1 hlim1
     simp only[la_,lc_,ln_]at hl1 hlen1 kp1
     have keep1:∀l,l<H.length→l≠x.k→H1[l]?=H[l]?:=fun l q1 q2=>(kp1 l (by omega) q2).trans (ad_ q1)
     have o2:=(keep1 x.b lb nk).trans o1
     have cb1:b1.cell=true:=w1.cell
     simp(disch:=first|omega|simp only[lzz0_];first|done|omega)only[ad_,go_sem,seval,o2]
     refine bz_ (l:=x.v) (lv:=H1.length) (i:=at') (mx:=mx) (xs:=x.pg.Vals) (v:=value) (p2.keep (by first|exact keep1 _ lv (Ne.symm nkv)|exact(ad_ (by omega)).trans (keep1 _ lv (Ne.symm nkv)))) hatv (fun r hq=>g.lim x.v (Pg.mem_foot hxB (by simp[PB.foot])) r (by rw[←hq];first|exact(keep1 _ lv (Ne.symm nkv)).symm|exact((ad_ (by omega)).trans (keep1 _ lv (Ne.symm nkv))).symm)) (by omega) (by first|exact at_ rfl|(rw[kp1 _ (by omega) (by omega)];(simp(disch:=(first|omega|(simp only[ls_,la_,lc_,ln_];omega)))only[ao_,aq_,ad_,at_,a0_,bJ_,cu_]);done)|(rw[kp1 _ (by omega) (by omega)];(simp(disch:=(first|omega|(simp only[ls_,la_,lc_,ln_];omega)))only[ao_,aq_,ad_,at_,a0_,bJ_,cu_]);rfl)) (by omega) ?_
     intro b2 H2 l2 hl2 hlt2 hlen2 kp2 w2 hlim2
     try simp only[la_,lc_,ln_]at hl2 hlen2 kp2
     have keep2:∀l,l<H1.length→l≠x.v→H2[l]?=H1[l]?:=fun l q1 q2=>(kp2 l (by omega) q2).trans (by first|rfl|exact ad_ q1)
     obtain⟨pre2,post2,rfl,r2⟩:=w2
     have hlv:((x.pg.Vals.take at'++value::x.pg.Vals.drop at').map ag_).length=x.pg.Vals.length+1:=by rw[length_map];exact hinsv
     rw[hlv]at *
     have o3:=(keep2 x.b (by omega) nv).trans o2
     have v1:=w1.keep (keep2 l1 hlt1 (by omega))
     obtain⟨pre1,post1,rfl,r1⟩:=v1
     have hlk:((x.pg.Keys.take at'++key::x.pg.Keys.drop at').map ag_).length=x.pg.Keys.length+1:=by rw[length_map];exact hinsl
     have rl1:(pre1++((x.pg.Keys.take at'++key::x.pg.Keys.drop at').map ag_++post1)).length=pre1.length+(x.pg.Keys.length+1+post1.length):=by rw[gG_,hlk]
     rw[hlk]at cb1
     have zz:pre1.length+(x.pg.Keys.length+1)-pre1.length=x.pg.Keys.length+1:=by omega
     have gud:∀Hc:List Row,Hc=H2.set x.b ⟨.ty 77,4,[[.val (.bool true),.sub l1 (pre1.length+(x.pg.Keys.length+1+post1.length)) pre1.length (pre1.length+(x.pg.Keys.length+1)),.sub l2 (pre2.length+(x.pg.Vals.length+1+post2.length)) pre2.length (pre2.length+(x.pg.Vals.length+1)),a3]]⟩→PgS Hc T M root (B1++⟨x.id,aH_ x.pg false at' key value,x.b,l1,l2,x.d⟩::B2) lo (mx+h+1) (ax_ ⟨x.id,aH_ x.pg false at' key value⟩ false sl)∧cH_ T M H (B1++x::B2) Hc (B1++⟨x.id,aH_ x.pg false at' key value,x.b,l1,l2,x.d⟩::B2):=by
      intro Hc hHc
      have lb2:x.b<H2.length:=by omega
      have kc:∀l,l≠x.b→Hc[l]?=H2[l]?:=fun l q=>by rw[hHc];exact ao_ (Ne.symm q)
      have hHl:Hc.length=H2.length:=by rw[hHc];simp
      have nl1:l1≠x.b:=by omega
      have nl2:l2≠x.b:=by omega
      have r1':=(kc l1 nl1).trans r1
      refine gH_ (x:=x) (p':=aH_ x.pg false at' key value) (k:=l1) (v:=l2) (d:=x.d) (mx':=mx+h+1) g ok.rise (by omega) (by omega) (by omega) (fun l q1 q2=>?_) ⟨_,_,_,by rw[hHc,aq_ lb2];show _=some (⟨.ty 77,4,[[.val (.bool x.pg.Leaf),_,_,_]]⟩:Row);rw[hl],⟨pre1,post1,by rw[hlk'],r1'⟩,⟨pre2,post2,by rw[hlv'],(kc l2 nl2).trans r2⟩,p3.keep ((kc x.d (Ne.symm nd')).trans ((keep2 x.d (by omega) (Ne.symm nvd)).trans (keep1 x.d ld (Ne.symm nkd))))⟩ (by omega) (by omega) (.inl rfl) (by omega) ?_ ?_ ?_
      ·simp only[PB.foot,mem_cons,not_mem_nil,or_false,not_or]at q2
       obtain⟨u1,u2,u3,u4⟩:=q2
       exact(kc l u1).trans ((keep2 l (by omega) u3).trans (keep1 l q1 u2))
      ·intro r hq
       rw[kc l1 nl1,keep2 l1 hlt1 (by omega)]at hq
       have:=hlim1 r hq
       omega
      ·intro r hq
       rw[kc l2 nl2]at hq
       have:=hlim2 r hq
       omega
      ·intro r hq
       rw[kc x.d (Ne.symm nd'),keep2 x.d (by omega) (Ne.symm nvd),keep1 x.d ld (Ne.symm nkd)]at hq
       have:=g.lim x.d (Pg.mem_foot hxB (by simp[PB.foot])) r hq
       omega
     rw[hlk]at *
     by_cases hbig:6<x.pg.Keys.length+1
     ·have hb1:(((x.pg.Keys.length+1:Nat):Int)>6)=True:=eq_true (by omega)
      simp(disch:=first|omega|simp only[lzz0_];first|done|omega)only[ao_,aq_,go_sem,seval,o3,zz,hb1,r1,rl1]
      refine callSem.at fun Hc hHc=>?_
      rw[set_set]at hHc
      obtain⟨gu,hgo⟩:=gud Hc hHc
      refine go_ (x:=⟨x.id,aH_ x.pg false at' key value,x.b,l1,l2,x.d⟩) gu ok1 (by omega) hl (by show(x.pg.Keys.take at'++key::x.pg.Keys.drop at').length=7;omega) (by show(x.pg.Vals.take at'++value::x.pg.Vals.drop at').length=7;omega) hkds _ ?_
      intro H' B' hgo2 hpg2
      have hfl:b2_ (aH_ x.pg false at' key value)=true:=by
       show(decide (6<(x.pg.Keys.take at'++key::x.pg.Keys.drop at').length)||_)=true
       rw[hinsl,decide_eq_true hbig];rfl
      have hput:bO_ (n+1) sl x.id key value=if aO_ (aj_ (ax_ ⟨x.id,aH_ x.pg false at' key value⟩ false sl)) 64=0 then(ax_ ⟨x.id,(a5_ (aH_ x.pg false at' key value)).1⟩ false (ax_ ⟨x.id,aH_ x.pg false at' key value⟩ false sl),⟨#[]⟩,0,4)else(up2 (ax_ ⟨x.id,aH_ x.pg false at' key value⟩ false sl) x.id (aH_ x.pg false at' key value),(a5_ (aH_ x.pg false at' key value)).2.2,aO_ (aj_ (ax_ ⟨x.id,aH_ x.pg false at' key value⟩ false sl)) 64,0):=by
       rw[dS_ hp hl,hf,cN_,dw_ ok.rise]
       simp only[hfl,Bool.true_eq_false,if_false]
      rw[hput]at hK
      by_cases hz:aO_ (aj_ (ax_ ⟨x.id,aH_ x.pg false at' key value⟩ false sl)) 64=0
      ·rw[if_pos hz]at hK hpg2
       simp(disch:=first|omega|simp only[lzz0_];first|done|omega)only[go_sem,seval,hz]
       exact hK _ _ (hgo.trans hgo2) hpg2
      ·rw[if_neg hz]at hK hpg2
       simp(disch:=first|omega|simp only[lzz0_];first|done|omega)only[go_sem,seval,hz]
       exact hK _ _ (hgo.trans hgo2) hpg2
     ·have hb1:(((x.pg.Keys.length+1:Nat):Int)>6)=False:=eq_false (by omega)
      simp(disch:=first|omega|simp only[lzz0_];first|done|omega)only[ao_,aq_,go_sem,seval,o3,zz,hb1,r1,rl1]
      rw[set_set]
      obtain⟨gu,hgo⟩:=gud _ rfl
      have hfl:b2_ (aH_ x.pg false at' key value)=false:=by
       show(decide (6<(x.pg.Keys.take at'++key::x.pg.Keys.drop at').length)||decide (6<x.pg.Kids.length))=false
       rw[hinsl,decide_eq_false hbig,hkds];rfl
      have hput:bO_ (n+1) sl x.id key value=(ax_ ⟨x.id,aH_ x.pg false at' key value⟩ false sl,⟨#[]⟩,0,0):=by
       rw[dS_ hp hl,hf,cN_,dw_ ok.rise]
       simp only[hfl,if_true]
      rw[hput]at hK
      exact hK _ _ hgo gu
    ·refine bz_ (l:=x.k) (lv:=H.length) (i:=at') (mx:=mx) (xs:=x.pg.Keys) (v:=key) (p1.keep (by(simp(disch:=(first|omega|(simp only[ls_,la_,lc_,ln_];omega)))only[ad_]))) hat (fun r hq=>g.lim x.k (Pg.mem_foot hxB (by simp[PB.foot])) r (by rw[←hq];exact(ad_ lk).symm)) (by omega) (by first|((simp(disch:=(first|omega|(simp only[ls_,la_,lc_,ln_];omega)))only[at_]);done)|((simp(disch:=(first|omega|(simp only[ls_,la_,lc_,ln_];omega)))only[ao_,aq_,ad_,at_,a0_,bJ_,cu_]);rfl)) (by omega) ?_
     intro b1 H1 l1 hl1 hlt1 hlen1 kp1 w1 hlim1
     simp only[la_,lc_,ln_]at hl1 hlen1 kp1
     have keep1:∀l,l<H.length→l≠x.k→H1[l]?=H[l]?:=fun l q1 q2=>(kp1 l (by omega) q2).trans (ad_ q1)
     have o2:=(keep1 x.b lb nk).trans o1
     have cb1:b1.cell=true:=w1.cell
     simp(disch:=first|omega|simp only[lzz0_];first|done|omega)only[go_sem,seval,o2]
     refine bz_ (l:=x.v) (lv:=H.length+1) (i:=at') (mx:=mx) (xs:=x.pg.Vals) (v:=value) (p2.keep (by first|exact keep1 _ lv (Ne.symm nkv)|exact(ad_ (by omega)).trans (keep1 _ lv (Ne.symm nkv)))) hatv (fun r hq=>g.lim x.v (Pg.mem_foot hxB (by simp[PB.foot])) r (by rw[←hq];first|exact(keep1 _ lv (Ne.symm nkv)).symm|exact((ad_ (by omega)).trans (keep1 _ lv (Ne.symm nkv))).symm)) (by omega) (by first|exact at_ rfl|(rw[kp1 _ (by omega) (by omega)];(simp(disch:=(first|omega|(simp only[ls_,la_,lc_,ln_];omega)))only[a0_]);done)|(rw[kp1 _ (by omega) (by omega)];(simp(disch:=(first|omega|(simp only[ls_,la_,lc_,ln_];omega)))only[ao_,aq_,ad_,at_,a0_,bJ_,cu_]);rfl)) (by omega) ?_
     intro b2 H2 l2 hl2 hlt2 hlen2 kp2 w2 hlim2
     try simp only[la_,lc_,ln_]at hl2 hlen2 kp2
     have keep2:∀l,l<H1.length→l≠x.v→H2[l]?=H1[l]?:=fun l q1 q2=>(kp2 l (by omega) q2).trans (by first|rfl|exact ad_ q1)
     obtain⟨pre2,post2,rfl,r2⟩:=w2
     have hlv:((x.pg.Vals.take at'++value::x.pg.Vals.drop at').map ag_).length=x.pg.Vals.length+1:=by rw[length_map];exact hinsv
     rw[hlv]at *
     have o3:=(keep2 x.b (by omega) nv).trans o2
     have v1:=w1.keep (keep2 l1 hlt1 (by omega))
     obtain⟨pre1,post1,rfl,r1⟩:=v1
     have hlk:((x.pg.Keys.take at'++key::x.pg.Keys.drop at').map ag_).length=x.pg.Keys.length+1:=by rw[length_map];exact hinsl
     have rl1:(pre1++((x.pg.Keys.take at'++key::x.pg.Keys.drop at').map ag_++post1)).length=pre1.length+(x.pg.Keys.length+1+post1.length):=by rw[gG_,hlk]
     rw[hlk]at cb1
     have zz:pre1.length+(x.pg.Keys.length+1)-pre1.length=x.pg.Keys.length+1:=by omega
     have gud:∀Hc:List Row,Hc=H2.set x.b ⟨.ty 77,4,[[.val (.bool true),.sub l1 (pre1.length+(x.pg.Keys.length+1+post1.length)) pre1.length (pre1.length+(x.pg.Keys.length+1)),.sub l2 (pre2.length+(x.pg.Vals.length+1+post2.length)) pre2.length (pre2.length+(x.pg.Vals.length+1)),a3]]⟩→PgS Hc T M root (B1++⟨x.id,aH_ x.pg false at' key value,x.b,l1,l2,x.d⟩::B2) lo (mx+h+1) (ax_ ⟨x.id,aH_ x.pg false at' key value⟩ false sl)∧cH_ T M H (B1++x::B2) Hc (B1++⟨x.id,aH_ x.pg false at' key value,x.b,l1,l2,x.d⟩::B2):=by
      intro Hc hHc
      have lb2:x.b<H2.length:=by omega
      have kc:∀l,l≠x.b→Hc[l]?=H2[l]?:=fun l q=>by rw[hHc];exact ao_ (Ne.symm q)
      have hHl:Hc.length=H2.length:=by rw[hHc];simp
      have nl1:l1≠x.b:=by omega
      have nl2:l2≠x.b:=by omega
      have r1':=(kc l1 nl1).trans r1
      refine gH_ (x:=x) (p':=aH_ x.pg false at' key value) (k:=l1) (v:=l2) (d:=x.d) (mx':=mx+h+1) g ok.rise (by omega) (by omega) (by omega) (fun l q1 q2=>?_) ⟨_,_,_,by rw[hHc,aq_ lb2];show _=some (⟨.ty 77,4,[[.val (.bool x.pg.Leaf),_,_,_]]⟩:Row);rw[hl],⟨pre1,post1,by rw[hlk'],r1'⟩,⟨pre2,post2,by rw[hlv'],(kc l2 nl2).trans r2⟩,p3.keep ((kc x.d (Ne.symm nd')).trans ((keep2 x.d (by omega) (Ne.symm nvd)).trans (keep1 x.d ld (Ne.symm nkd))))⟩ (by omega) (by omega) (.inl rfl) (by omega) ?_ ?_ ?_
      ·simp only[PB.foot,mem_cons,not_mem_nil,or_false,not_or]at q2
       obtain⟨u1,u2,u3,u4⟩:=q2
       exact(kc l u1).trans ((keep2 l (by omega) u3).trans (keep1 l q1 u2))
      ·intro r hq
       rw[kc l1 nl1,keep2 l1 hlt1 (by omega)]at hq
       have:=hlim1 r hq
       omega
      ·intro r hq
       rw[kc l2 nl2]at hq
       have:=hlim2 r hq
       omega
      ·intro r hq
       rw[kc x.d (Ne.symm nd'),keep2 x.d (by omega) (Ne.symm nvd),keep1 x.d ld (Ne.symm nkd)]at hq
       have:=g.lim x.d (Pg.mem_foot hxB (by simp[PB.foot])) r hq
       omega
     rw[hlk]at *
     by_cases hbig:6<x.pg.Keys.length+1
     ·have hb1:(((x.pg.Keys.length+1:Nat):Int)>6)=True:=eq_true (by omega)
      simp(disch:=first|omega|simp only[lzz0_];first|done|omega)only[ao_,aq_,go_sem,seval,o3,zz,hb1,r1,rl1]
      refine callSem.at fun Hc hHc=>?_
      rw[set_set]at hHc
      obtain⟨gu,hgo⟩:=gud Hc hHc
      refine go_ (x:=⟨x.id,aH_ x.pg false at' key value,x.b,l1,l2,x.d⟩) gu ok1 (by omega) hl (by show(x.pg.Keys.take at'++key::x.pg.Keys.drop at').length=7;omega) (by show(x.pg.Vals.take at'++value::x.pg.Vals.drop at').length=7;omega) hkds _ ?_
      intro H' B' hgo2 hpg2
      have hfl:b2_ (aH_ x.pg false at' key value)=true:=by
       show(decide (6<(x.pg.Keys.take at'++key::x.pg.Keys.drop at').length)||_)=true
       rw[hinsl,decide_eq_true hbig];rfl
      have hput:bO_ (n+1) sl x.id key value=if aO_ (aj_ (ax_ ⟨x.id,aH_ x.pg false at' key value⟩ false sl)) 64=0 then(ax_ ⟨x.id,(a5_ (aH_ x.pg false at' key value)).1⟩ false (ax_ ⟨x.id,aH_ x.pg false at' key value⟩ false sl),⟨#[]⟩,0,4)else(up2 (ax_ ⟨x.id,aH_ x.pg false at' key value⟩ false sl) x.id (aH_ x.pg false at' key value),(a5_ (aH_ x.pg false at' key value)).2.2,aO_ (aj_ (ax_ ⟨x.id,aH_ x.pg false at' key value⟩ false sl)) 64,0):=by
       rw[dS_ hp hl,hf,cN_,dw_ ok.rise]
       simp only[hfl,Bool.true_eq_false,if_false]
      rw[hput]at hK
      by_cases hz:aO_ (aj_ (ax_ ⟨x.id,aH_ x.pg false at' key value⟩ false sl)) 64=0
      ·rw[if_pos hz]at hK hpg2
       simp(disch:=first|omega|simp only[lzz0_];first|done|omega)only[go_sem,seval,hz]
       exact hK _ _ (hgo.trans hgo2) hpg2
      ·rw[if_neg hz]at hK hpg2
       simp(disch:=first|omega|simp only[lzz0_];first|done|omega)only[go_sem,seval,hz]
       exact hK _ _ (hgo.trans hgo2) hpg2
     ·have hb1:(((x.pg.Keys.length+1:Nat):Int)>6)=False:=eq_false (by omega)
      simp(disch:=first|omega|simp only[lzz0_];first|done|omega)only[ao_,aq_,go_sem,seval,o3,zz,hb1,r1,rl1]
      rw[set_set]
      obtain⟨gu,hgo⟩:=gud _ rfl
      have hfl:b2_ (aH_ x.pg false at' key value)=false:=by
       show(decide (6<(x.pg.Keys.take at'++key::x.pg.Keys.drop at').length)||decide (6<x.pg.Kids.length))=false
       rw[hinsl,decide_eq_false hbig,hkds];rfl
      have hput:bO_ (n+1) sl x.id key value=(ax_ ⟨x.id,aH_ x.pg false at' key value⟩ false sl,⟨#[]⟩,0,0):=by
       rw[dS_ hp hl,hf,cN_,dw_ ok.rise]
       simp only[hfl,if_true]
      rw[hput]at hK
      exact hK _ _ hgo gu
    ·refine bz_ (l:=x.k) (lv:=H.length+1) (i:=at') (mx:=mx) (xs:=x.pg.Keys) (v:=key) (p1.keep (by(simp(disch:=(first|omega|(simp only[ls_,la_,lc_,ln_];omega)))only[ad_]))) hat (fun r hq=>g.lim x.k (Pg.mem_foot hxB (by simp[PB.foot])) r (by rw[←hq];exact(ad_ lk).symm)) (by omega) (by first|((simp(disch:=(first|omega|(simp only[ls_,la_,lc_,ln_];omega)))only[a0_]);done)|((simp(disch:=(first|omega|(simp only[ls_,la_,lc_,ln_];omega)))only[ao_,aq_,ad_,at_,a0_,bJ_,cu_]);rfl)) (by omega) ?_
     intro b1 H1 l1 hl1 hlt1 hlen1 kp1 w1 hlim1
     simp only[la_,lc_,ln_]at hl1 hlen1 kp1
     have keep1:∀l,l<H.length→l≠x.k→H1[l]?=H[l]?:=fun l q1 q2=>(kp1 l (by omega) q2).trans (ad_ q1)
     have o2:=(keep1 x.b lb nk).trans o1
     have cb1:b1.cell=true:=w1.cell
     simp(disch:=first|omega|simp only[lzz0_];first|done|omega)only[go_sem,seval,o2]
     refine bz_ (l:=x.v) (lv:=H.length) (i:=at') (mx:=mx) (xs:=x.pg.Vals) (v:=value) (p2.keep (by first|exact keep1 _ lv (Ne.symm nkv)|exact(ad_ (by omega)).trans (keep1 _ lv (Ne.symm nkv)))) hatv (fun r hq=>g.lim x.v (Pg.mem_foot hxB (by simp[PB.foot])) r (by rw[←hq];first|exact(keep1 _ lv (Ne.symm nkv)).symm|exact((ad_ (by omega)).trans (keep1 _ lv (Ne.symm nkv))).symm)) (by omega) (by first|exact at_ rfl|(rw[kp1 _ (by omega) (by omega)];(simp(disch:=(first|omega|(simp only[ls_,la_,lc_,ln_];omega)))only[at_]);done)|(rw[kp1 _ (by omega) (by omega)];(simp(disch:=(first|omega|(simp only[ls_,la_,lc_,ln_];omega)))only[ao_,aq_,ad_,at_,a0_,bJ_,cu_]);rfl)) (by omega) ?_
     intro b2 H2 l2 hl2 hlt2 hlen2 kp2 w2 hlim2
     try simp only[la_,lc_,ln_]at hl2 hlen2 kp2
     have keep2:∀l,l<H1.length→l≠x.v→H2[l]?=H1[l]?:=fun l q1 q2=>(kp2 l (by omega) q2).trans (by first|rfl|exact ad_ q1)
     obtain⟨pre2,post2,rfl,r2⟩:=w2
     have hlv:((x.pg.Vals.take at'++value::x.pg.Vals.drop at').map ag_).length=x.pg.Vals.length+1:=by rw[length_map];exact hinsv
     rw[hlv]at *
     have o3:=(keep2 x.b (by omega) nv).trans o2
     have v1:=w1.keep (keep2 l1 hlt1 (by omega))
     obtain⟨pre1,post1,rfl,r1⟩:=v1
     have hlk:((x.pg.Keys.take at'++key::x.pg.Keys.drop at').map ag_).length=x.pg.Keys.length+1:=by rw[length_map];exact hinsl
     have rl1:(pre1++((x.pg.Keys.take at'++key::x.pg.Keys.drop at').map ag_++post1)).length=pre1.length+(x.pg.Keys.length+1+post1.length):=by rw[gG_,hlk]
     rw[hlk]at cb1
     have zz:pre1.length+(x.pg.Keys.length+1)-pre1.length=x.pg.Keys.length+1:=by omega
     have gud:∀Hc:List Row,Hc=H2.set x.b ⟨.ty 77,4,[[.val (.bool true),.sub l1 (pre1.length+(x.pg.Keys.length+1+post1.length)) pre1.length (pre1.length+(x.pg.Keys.length+1)),.sub l2 (pre2.length+(x.pg.Vals.length+1+post2.length)) pre2.length (pre2.length+(x.pg.Vals.length+1)),a3]]⟩→PgS Hc T M root (B1++⟨x.id,aH_ x.pg false at' key value,x.b,l1,l2,x.d⟩::B2) lo (mx+h+1) (ax_ ⟨x.id,aH_ x.pg false at' key value⟩ false sl)∧cH_ T M H (B1++x::B2) Hc (B1++⟨x.id,aH_ x.pg false at' key value,x.b,l1,l2,x.d⟩::B2):=by
      intro Hc hHc
      have lb2:x.b<H2.length:=by omega
      have kc:∀l,l≠x.b→Hc[l]?=H2[l]?:=fun l q=>by rw[hHc];exact ao_ (Ne.symm q)
      have hHl:Hc.length=H2.length:=by rw[hHc];simp
      have nl1:l1≠x.b:=by omega
      have nl2:l2≠x.b:=by omega
      have r1':=(kc l1 nl1).trans r1
      refine gH_ (x:=x) (p':=aH_ x.pg false at' key value) (k:=l1) (v:=l2) (d:=x.d) (mx':=mx+h+1) g ok.rise (by omega) (by omega) (by omega) (fun l q1 q2=>?_) ⟨_,_,_,by rw[hHc,aq_ lb2];show _=some (⟨.ty 77,4,[[.val (.bool x.pg.Leaf),_,_,_]]⟩:Row);rw[hl],⟨pre1,post1,by rw[hlk'],r1'⟩,⟨pre2,post2,by rw[hlv'],(kc l2 nl2).trans r2⟩,p3.keep ((kc x.d (Ne.symm nd')).trans ((keep2 x.d (by omega) (Ne.symm nvd)).trans (keep1 x.d ld (Ne.symm nkd))))⟩ (by omega) (by omega) (.inl rfl) (by omega) ?_ ?_ ?_
      ·simp only[PB.foot,mem_cons,not_mem_nil,or_false,not_or]at q2
       obtain⟨u1,u2,u3,u4⟩:=q2
       exact(kc l u1).trans ((keep2 l (by omega) u3).trans (keep1 l q1 u2))
      ·intro r hq
       rw[kc l1 nl1,keep2 l1 hlt1 (by omega)]at hq
       have:=hlim1 r hq
       omega
      ·intro r hq
       rw[kc l2 nl2]at hq
       have:=hlim2 r hq
       omega
      ·intro r hq
       rw[kc x.d (Ne.symm nd'),keep2 x.d (by omega) (Ne.symm nvd),keep1 x.d ld (Ne.symm nkd)]at hq
       have:=g.lim x.d (Pg.mem_foot hxB (by simp[PB.foot])) r hq
       omega
     rw[hlk]at *
     by_cases hbig:6<x.pg.Keys.length+1
     ·have hb1:(((x.pg.Keys.length+1:Nat):Int)>6)=True:=eq_true (by omega)
      simp(disch:=first|omega|simp only[lzz0_];first|done|omega)only[ao_,aq_,go_sem,seval,o3,zz,hb1,r1,rl1]
      refine callSem.at fun Hc hHc=>?_
      rw[set_set]at hHc
      obtain⟨gu,hgo⟩:=gud Hc hHc
      refine go_ (x:=⟨x.id,aH_ x.pg false at' key value,x.b,l1,l2,x.d⟩) gu ok1 (by omega) hl (by show(x.pg.Keys.take at'++key::x.pg.Keys.drop at').length=7;omega) (by show(x.pg.Vals.take at'++value::x.pg.Vals.drop at').length=7;omega) hkds _ ?_
      intro H' B' hgo2 hpg2
      have hfl:b2_ (aH_ x.pg false at' key value)=true:=by
       show(decide (6<(x.pg.Keys.take at'++key::x.pg.Keys.drop at').length)||_)=true
       rw[hinsl,decide_eq_true hbig];rfl
      have hput:bO_ (n+1) sl x.id key value=if aO_ (aj_ (ax_ ⟨x.id,aH_ x.pg false at' key value⟩ false sl)) 64=0 then(ax_ ⟨x.id,(a5_ (aH_ x.pg false at' key value)).1⟩ false (ax_ ⟨x.id,aH_ x.pg false at' key value⟩ false sl),⟨#[]⟩,0,4)else(up2 (ax_ ⟨x.id,aH_ x.pg false at' key value⟩ false sl) x.id (aH_ x.pg false at' key value),(a5_ (aH_ x.pg false at' key value)).2.2,aO_ (aj_ (ax_ ⟨x.id,aH_ x.pg false at' key value⟩ false sl)) 64,0):=by
       rw[dS_ hp hl,hf,cN_,dw_ ok.rise]
       simp only[hfl,Bool.true_eq_false,if_false]
      rw[hput]at hK
      by_cases hz:aO_ (aj_ (ax_ ⟨x.id,aH_ x.pg false at' key value⟩ false sl)) 64=0
      ·rw[if_pos hz]at hK hpg2
       simp(disch:=first|omega|simp only[lzz0_];first|done|omega)only[go_sem,seval,hz]
       exact hK _ _ (hgo.trans hgo2) hpg2
      ·rw[if_neg hz]at hK hpg2
       simp(disch:=first|omega|simp only[lzz0_];first|done|omega)only[go_sem,seval,hz]
       exact hK _ _ (hgo.trans hgo2) hpg2
     ·have hb1:(((x.pg.Keys.length+1:Nat):Int)>6)=False:=eq_false (by omega)
      simp(disch:=first|omega|simp only[lzz0_];first|done|omega)only[ao_,aq_,go_sem,seval,o3,zz,hb1,r1,rl1]
      rw[set_set]
      obtain⟨gu,hgo⟩:=gud _ rfl
      have hfl:b2_ (aH_ x.pg false at' key value)=false:=by
       show(decide (6<(x.pg.Keys.take at'++key::x.pg.Keys.drop at').length)||decide (6<x.pg.Kids.length))=false
       rw[hinsl,decide_eq_false hbig,hkds];rfl
      have hput:bO_ (n+1) sl x.id key value=(ax_ ⟨x.id,aH_ x.pg false at' key value⟩ false sl,⟨#[]⟩,0,0):=by
       rw[dS_ hp hl,hf,cN_,dw_ ok.rise]
       simp only[hfl,if_true]
      rw[hput]at hK
      exact hK _ _ hgo gu
  | false =>
   cases h with
   | zero=>rw[hlf]at hl;cases hl
   | succ h =>
   obtain⟨_,_,hlt,m,klo,khi,tk,ndm,hnm,hsub⟩:=t.kid nd hp key
   rw[hf]at tk hlt
   have hgd:x.pg.Kids.getD at' 0=x.pg.Kids[at']:=by rw[getD_eq_getElem?_getD,getElem?_eq_getElem hlt];rfl
   simp only at tk hlt
   obtain⟨pk,hpk,_⟩:=tk.page
   obtain⟨pre3,post3,rfl,e3⟩:=p3
   have q1:=ly_ pre3.length x.pg.Kids.length at' hlt
   have q2:(pre3++(x.pg.Kids.map ay_++post3))[pre3.length+at']?=some [.val (.int .i64 x.pg.Kids[at'])]:=by rw[gM_ _ _ _ _ (by simpa using hlt),getElem?_map,getElem?_eq_getElem hlt];rfl
   rw[hgd]at tk hpk
   have hfd:=g0.find x.pg.Kids[at']
   have hsf:=g.same x.pg.Kids[at']
   rw[et_,hpk]at hsf
   cases hz:(B1++x::B2).find? (fun x_1=>x_1.id==x.pg.Kids[at'])with
   | none=>rw[hz]at hsf;cases hsf
   | some z =>
   rw[hz]at hfd
   have hzB:=mem_of_find?_eq_some hz
   have hzid:z.id=x.pg.Kids[at']:=by simpa using find?_some hz
   rw[hl]at o1
   simp only[Option.map_some]at hfd
   simp(disch:=first|omega|simp only[lzz0_];first|done|omega)only[go_sem,seval,o1,gT,gM,e3,q1,q2,hfd,Option.getD_some]
   refine kJ_ hkey hv64 h n mx sl false _ klo khi m H (B1++x::B2) z _ (by omega) hm7 (by omega) ok tk ndm g hzB hzid ?_
   intro G B' hgo hpg
   obtain⟨hgr,hsep⟩:=ha_ hkey hv64 h n sl false _ klo khi m (by omega) ok tk ndm
   obtain⟨sl',sep,new,code,hr⟩:∃sl' sep new code,bO_ n sl x.pg.Kids[at'] key value=(sl',sep,new,code):=⟨_,_,_,_,rfl⟩
   have hput:=lp_ (n:=n) (value:=value) (sl':=sl') (sep:=sep) (new:=new) (code:=code) hp hl (by rw[hf,hgd];exact hr)
   rw[hf]at hput
   rw[hput]at hK
   rw[hr]at hpg hgr hsep
   rw[hr]
   simp only at hpg hgr hsep hK
   clear hput hfd hsf hz q1 q2 e3
   by_cases hc:code=0
   ·by_cases hn0:new=0
    ·rw[if_neg (by simpa using hc),if_pos hn0]at hK
     simp(disch:=first|omega|simp only[lzz0_];first|done|omega)only[go_sem,seval,hc,hn0]
     exact hK _ _ hgo (hpg.mono (by omega))
    ·rw[if_neg (by simpa using hc),if_neg hn0]at hK
     obtain⟨y,hyB,hyid,hyb⟩:=hgo.keeps x hxB
     obtain⟨D1,D2,rfl⟩:=append_of_mem hyB
     have hpx:aj_ sl' x.id=some x.pg:=(hgr.kept x.id hnm (by rw[hp];rfl)).trans hp
     have hyp:=hpg.box hyB
     rw[hyid,hpx]at hyp
     have hyp:x.pg=y.pg:=Option.some.inj hyp
     rw[hyp]at hpb hl hlt hK hf s1 s2 s3
     rw[←hyid]at hK
     rw[←hyb]
     have g1:=hpg
     have ok1:=hgr.ok
     obtain⟨ents1,ck1,g2⟩:=g1.pg
     have hone1:(PB.all T M (D1++y::D2)).Nodup:=g2.one
     rw[(ca_ T M D1 D2 y).nodup_iff,nodup_append]at hone1
     have hyn:=hone1.1
     clear nk nv nd' nvd nkv nkd lb lk lv ld o1 p1 p2 c1 c2 c3
     simp only[PB.foot,nodup_cons,mem_cons,not_or,not_mem_nil,not_false_eq_true,and_true,nodup_nil]at hyn
     obtain⟨⟨nk,nv,nd'⟩,⟨nkv,nkd⟩,nvd⟩:=hyn
     obtain⟨a1,a2,a3,o1,p1,p2,p3⟩:=g2.pgs y hyB
     have lb:=(List.getElem?_eq_some_iff.1 o1).1
     have lk:=p1.lt
     have lv:=p2.lt
     have ld:=p3.lt
     have c1:a1.cell=true:=p1.cell
     have c2:a2.cell=true:=p2.cell
     have c3:a3.cell=true:=p3.cell
     obtain⟨_,m0,m1,m2,hvals,_⟩:=d1_ hpb hl
     have hly:=hl
     have haty:at'≤y.pg.Keys.length:=by omega
     have hatd:at'+1≤y.pg.Kids.length:=by omega
     have hcast:(at':Int)+1=((at'+1:Nat):Int):=by omega
     have hinsl:(y.pg.Keys.take at'++sep::y.pg.Keys.drop at').length=y.pg.Keys.length+1:=by simp only[la_,length_take,lc_,length_drop];omega
     have hinsd:(y.pg.Kids.take (at'+1)++new::y.pg.Kids.drop (at'+1)).length=y.pg.Kids.length+1:=by simp only[la_,length_take,lc_,length_drop];omega
     have hlk':((a6_ y.pg at' sep new).Keys.map ag_).length=y.pg.Keys.length+1:=by rw[length_map];exact hinsl
     have hlv':((a6_ y.pg at' sep new).Kids.map ay_).length=y.pg.Kids.length+1:=by rw[length_map];exact hinsd
     obtain⟨i1,i2,_⟩:=ok1.pgs _ _ (by rw[←hyid]at hpx;exact hpx)
     have ok2:c2_ (ax_ ⟨y.id,a6_ y.pg at' sep new⟩ false sl'):=ok1.set ⟨i1,i2,by have:=jF_ hpb hl key (hsep hn0) new;rw[hf]at this;exact this⟩
     rw[hly]at o1
     simp(disch:=first|omega|simp only[lzz0_];first|done|omega)only[ad_,go_sem,seval,hc,hn0,o1]
     refine⟨?_,?_,?_⟩
     ·refine bz_ (l:=y.k) (lv:=G.length) (i:=at') (mx:=mx+h+1) (xs:=y.pg.Keys) (v:=sep) (p1.keep (by(simp(disch:=(first|omega|(simp only[ls_,la_,lc_,ln_];omega)))only[ad_]))) haty (fun r hq=>g1.lim y.k (Pg.mem_foot hyB (by simp[PB.foot])) r (by rw[←hq];exact(ad_ lk).symm)) (by omega) (by first|((simp(disch:=(first|omega|(simp only[ls_,la_,lc_,ln_];omega)))only[at_]);done)|((simp(disch:=(first|omega|(simp only[ls_,la_,lc_,ln_];omega)))only[ao_,aq_,ad_,at_,a0_,bJ_,cu_]);rfl)) (by omega) ?_
      intro b1 H1 l1 hl1 hlt1 hlen1 kp1 w1 hlim1
      simp only[la_,lc_,ln_]at hl1 hlen1 kp1
      have keep1:∀l,l<G.length→l≠y.k→H1[l]?=G[l]?:=fun l q1 q2=>(kp1 l (by omega) q2).trans (ad_ q1)
      have o2:=(keep1 y.b lb nk).trans o1
      have cb1:b1.cell=true:=w1.cell
      simp(disch:=first|omega|simp only[lzz0_];first|done|omega)only[ad_,go_sem,seval,o2,hcast,au_]
      refine ep_ (l:=y.d) (lv:=H1.length) (i:=at'+1) (mx:=mx+h+1) (xs:=y.pg.Kids) (v:=new) (p3.keep (by first|exact keep1 _ ld (Ne.symm nkd)|exact(ad_ (by omega)).trans (keep1 _ ld (Ne.symm nkd)))) hatd (fun r hq=>g1.lim y.d (Pg.mem_foot hyB (by simp[PB.foot])) r (by rw[←hq];first|exact(keep1 _ ld (Ne.symm nkd)).symm|exact((ad_ (by omega)).trans (keep1 _ ld (Ne.symm nkd))).symm)) (by omega) (by first|exact at_ rfl|(rw[kp1 _ (by omega) (by omega)];(simp(disch:=(first|omega|(simp only[ls_,la_,lc_,ln_];omega)))only[ao_,aq_,ad_,at_,a0_,bJ_,cu_]);done)|(rw[kp1 _ (by omega) (by omega)];(simp(disch:=(first|omega|(simp only[ls_,la_,lc_,ln_];omega)))only[ao_,aq_,ad_,at_,a0_,bJ_,cu_]);rfl)) (by omega) ?_
      intro b2 H2 l2 hl2 hlt2 hlen2 kp2 w2 hlim2
      try simp only[la_,lc_,ln_]at hl2 hlen2 kp2
      have keep2:∀l,l<H1.length→l≠y.d→H2[l]?=H1[l]?:=fun l q1 q2=>(kp2 l (by omega) q2).trans (by first|rfl|exact ad_ q1)
      obtain⟨pre2,post2,rfl,r2⟩:=w2
      have hlv:((y.pg.Kids.take (at'+1)++new::y.pg.Kids.drop (at'+1)).map ay_).length=y.pg.Kids.length+1:=by rw[length_map];exact hinsd
      rw[hlv]at *
      have o3:=(keep2 y.b (by omega) nd').trans o2
      have v1:=w1.keep (keep2 l1 hlt1 (by omega))
      obtain⟨pre1,post1,rfl,r1⟩:=v1
      have hlk:((y.pg.Keys.take at'++sep::y.pg.Keys.drop at').map ag_).length=y.pg.Keys.length+1:=by rw[length_map];exact hinsl
      have rl2:(pre2++((y.pg.Kids.take (at'+1)++new::y.pg.Kids.drop (at'+1)).map ay_++post2)).length=pre2.length+(y.pg.Kids.length+1+post2.length):=by rw[gG_];simp only[length_map];rw[hinsd]
      rw[hlk]at cb1
      have zz:pre2.length+(y.pg.Kids.length+1)-pre2.length=y.pg.Kids.length+1:=by omega
      have gud:∀Hc:List Row,Hc=H2.set y.b ⟨.ty 77,4,[[.val (.bool false),.sub l1 (pre1.length+(y.pg.Keys.length+1+post1.length)) pre1.length (pre1.length+(y.pg.Keys.length+1)),a2,.sub l2 (pre2.length+(y.pg.Kids.length+1+post2.length)) pre2.length (pre2.length+(y.pg.Kids.length+1))]]⟩→PgS Hc T M root (D1++⟨y.id,a6_ y.pg at' sep new,y.b,l1,y.v,l2⟩::D2) lo (mx+(h+1)+1) (ax_ ⟨y.id,a6_ y.pg at' sep new⟩ false sl')∧cH_ T M G (D1++y::D2) Hc (D1++⟨y.id,a6_ y.pg at' sep new,y.b,l1,y.v,l2⟩::D2):=by
       intro Hc hHc
       have lb2:y.b<H2.length:=by omega
       have kc:∀l,l≠y.b→Hc[l]?=H2[l]?:=fun l q=>by rw[hHc];exact ao_ (Ne.symm q)
       have hHl:Hc.length=H2.length:=by rw[hHc];simp
       have nl1:l1≠y.b:=by omega
       have nl2:l2≠y.b:=by omega
       have r1':=(kc l1 nl1).trans r1
       refine gH_ (x:=y) (p':=a6_ y.pg at' sep new) (k:=l1) (v:=y.v) (d:=l2) (mx':=mx+(h+1)+1) g1 ok1.rise (by omega) (by omega) (by omega) (fun l q1 q2=>?_) ⟨_,_,_,by rw[hHc,aq_ lb2];show _=some (⟨.ty 77,4,[[.val (.bool y.pg.Leaf),_,_,_]]⟩:Row);rw[hly],⟨pre1,post1,by rw[hlk'],r1'⟩,p2.keep ((kc y.v (Ne.symm nv)).trans ((keep2 y.v (by omega) nvd).trans (keep1 y.v lv (Ne.symm nkv)))),⟨pre2,post2,by rw[hlv'],(kc l2 nl2).trans r2⟩⟩ (by omega) (.inl rfl) (by omega) (by omega) ?_ ?_ ?_
       ·simp only[PB.foot,mem_cons,not_mem_nil,or_false,not_or]at q2
        obtain⟨u1,u2,u3,u4⟩:=q2
        exact(kc l u1).trans ((keep2 l (by omega) u4).trans (keep1 l q1 u2))
       ·intro r hq
        rw[kc l1 nl1,keep2 l1 hlt1 (by omega)]at hq
        have:=hlim1 r hq
        omega
       ·intro r hq
        rw[kc y.v (Ne.symm nv),keep2 y.v (by omega) nvd,keep1 y.v lv (Ne.symm nkv)]at hq
        have:=g1.lim y.v (Pg.mem_foot hyB (by simp[PB.foot])) r hq
        omega
       ·intro r hq
        rw[kc l2 nl2]at hq
        have:=hlim2 r hq
        omega
      rw[hlk]at *
      by_cases hbig:6<y.pg.Kids.length+1
      ·have hb1:(((y.pg.Kids.length+1:Nat):Int)>6)=True:=eq_true (by omega)
       simp(disch:=first|omega|simp only[lzz0_];first|done|omega)only[ao_,aq_,go_sem,seval,o3,zz,hb1,r2,rl2]
       refine callSem.at fun Hc hHc=>?_
       rw[set_set]at hHc
       obtain⟨gu,hgo2⟩:=gud Hc hHc
       refine f8_ (x:=⟨y.id,a6_ y.pg at' sep new,y.b,l1,y.v,l2⟩) gu ok2 (by omega) hly (by show(y.pg.Keys.take at'++sep::y.pg.Keys.drop at').length=6;omega) (by show(y.pg.Kids.take (at'+1)++new::y.pg.Kids.drop (at'+1)).length=7;omega) hvals _ ?_
       intro H' B' hgo3 hpg3
       have hfl:b2_ (a6_ y.pg at' sep new)=true:=by
        show(_||decide (6<(y.pg.Kids.take (at'+1)++new::y.pg.Kids.drop (at'+1)).length))=true
        rw[hinsd,decide_eq_true hbig,Bool.or_true]
       have hput2:cN_ (ax_ ⟨y.id,a6_ y.pg at' sep new⟩ false sl') y.id=if aO_ (aj_ (ax_ ⟨y.id,a6_ y.pg at' sep new⟩ false sl')) 64=0 then(ax_ ⟨y.id,(a5_ (a6_ y.pg at' sep new)).1⟩ false (ax_ ⟨y.id,a6_ y.pg at' sep new⟩ false sl'),⟨#[]⟩,0,4)else(up2 (ax_ ⟨y.id,a6_ y.pg at' sep new⟩ false sl') y.id (a6_ y.pg at' sep new),(a5_ (a6_ y.pg at' sep new)).2.2,aO_ (aj_ (ax_ ⟨y.id,a6_ y.pg at' sep new⟩ false sl')) 64,0):=by
        rw[cN_,dw_ ok1.rise]
        simp only[hfl,Bool.true_eq_false,if_false]
       rw[hput2]at hK
       by_cases hz:aO_ (aj_ (ax_ ⟨y.id,a6_ y.pg at' sep new⟩ false sl')) 64=0
       ·rw[if_pos hz]at hK hpg3
        simp(disch:=first|omega|simp only[lzz0_];first|done|omega)only[go_sem,seval,hz]
        exact hK _ _ (hgo.trans (hgo2.trans hgo3)) hpg3
       ·rw[if_neg hz]at hK hpg3
        simp(disch:=first|omega|simp only[lzz0_];first|done|omega)only[go_sem,seval,hz]
        exact hK _ _ (hgo.trans (hgo2.trans hgo3)) hpg3
      ·have hb1:(((y.pg.Kids.length+1:Nat):Int)>6)=False:=eq_false (by omega)
       simp(disch:=first|omega|simp only[lzz0_];first|done|omega)only[ao_,aq_,go_sem,seval,o3,zz,hb1,r2,rl2]
       rw[set_set]
       obtain⟨gu,hgo2⟩:=gud _ rfl
       have hfl:b2_ (a6_ y.pg at' sep new)=false:=by
        show(decide (6<(y.pg.Keys.take at'++sep::y.pg.Keys.drop at').length)||decide (6<(y.pg.Kids.take (at'+1)++new::y.pg.Kids.drop (at'+1)).length))=false
        rw[hinsd,hinsl,decide_eq_false hbig,decide_eq_false (by omega)];rfl
       have hput2:cN_ (ax_ ⟨y.id,a6_ y.pg at' sep new⟩ false sl') y.id=(ax_ ⟨y.id,a6_ y.pg at' sep new⟩ false sl',⟨#[]⟩,0,0):=by
        rw[cN_,dw_ ok1.rise]
        simp only[hfl,if_true]
       rw[hput2]at hK
       exact hK _ _ (hgo.trans hgo2) gu
     ·refine bz_ (l:=y.k) (lv:=G.length) (i:=at') (mx:=mx+h+1) (xs:=y.pg.Keys) (v:=sep) (p1.keep (by(simp(disch:=(first|omega|(simp only[ls_,la_,lc_,ln_];omega)))only[ad_]))) haty (fun r hq=>g1.lim y.k (Pg.mem_foot hyB (by simp[PB.foot])) r (by rw[←hq];exact(ad_ lk).symm)) (by omega) (by first|((simp(disch:=(first|omega|(simp only[ls_,la_,lc_,ln_];omega)))only[at_]);done)|((simp(disch:=(first|omega|(simp only[ls_,la_,lc_,ln_];omega)))only[ao_,aq_,ad_,at_,a0_,bJ_,cu_]);rfl)) (by omega) ?_
      intro b1 H1 l1 hl1 hlt1 hlen1 kp1 w1 hlim1
      simp only[la_,lc_,ln_]at hl1 hlen1 kp1
      have keep1:∀l,l<G.length→l≠y.k→H1[l]?=G[l]?:=fun l q1 q2=>(kp1 l (by omega) q2).trans (ad_ q1)
      have o2:=(keep1 y.b lb nk).trans o1
      have cb1:b1.cell=true:=w1.cell
      simp(disch:=first|omega|simp only[lzz0_];first|done|omega)only[go_sem,seval,o2,hcast,au_]
      refine ep_ (l:=y.d) (lv:=G.length+1) (i:=at'+1) (mx:=mx+h+1) (xs:=y.pg.Kids) (v:=new) (p3.keep (by first|exact keep1 _ ld (Ne.symm nkd)|exact(ad_ (by omega)).trans (keep1 _ ld (Ne.symm nkd)))) hatd (fun r hq=>g1.lim y.d (Pg.mem_foot hyB (by simp[PB.foot])) r (by rw[←hq];first|exact(keep1 _ ld (Ne.symm nkd)).symm|exact((ad_ (by omega)).trans (keep1 _ ld (Ne.symm nkd))).symm)) (by omega) (by first|exact at_ rfl|(rw[kp1 _ (by omega) (by omega)];(simp(disch:=(first|omega|(simp only[ls_,la_,lc_,ln_];omega)))only[a0_]);done)|(rw[kp1 _ (by omega) (by omega)];(simp(disch:=(first|omega|(simp only[ls_,la_,lc_,ln_];omega)))only[ao_,aq_,ad_,at_,a0_,bJ_,cu_]);rfl)) (by omega) ?_
      intro b2 H2 l2 hl2 hlt2 hlen2 kp2 w2 hlim2
      try simp only[la_,lc_,ln_]at hl2 hlen2 kp2
      have keep2:∀l,l<H1.length→l≠y.d→H2[l]?=H1[l]?:=fun l q1 q2=>(kp2 l (by omega) q2).trans (by first|rfl|exact ad_ q1)
      obtain⟨pre2,post2,rfl,r2⟩:=w2
      have hlv:((y.pg.Kids.take (at'+1)++new::y.pg.Kids.drop (at'+1)).map ay_).length=y.pg.Kids.length+1:=by rw[length_map];exact hinsd
      rw[hlv]at *
      have o3:=(keep2 y.b (by omega) nd').trans o2
      have v1:=w1.keep (keep2 l1 hlt1 (by omega))
      obtain⟨pre1,post1,rfl,r1⟩:=v1
      have hlk:((y.pg.Keys.take at'++sep::y.pg.Keys.drop at').map ag_).length=y.pg.Keys.length+1:=by rw[length_map];exact hinsl
      have rl2:(pre2++((y.pg.Kids.take (at'+1)++new::y.pg.Kids.drop (at'+1)).map ay_++post2)).length=pre2.length+(y.pg.Kids.length+1+post2.length):=by rw[gG_];simp only[length_map];rw[hinsd]
      rw[hlk]at cb1
      have zz:pre2.length+(y.pg.Kids.length+1)-pre2.length=y.pg.Kids.length+1:=by omega
      have gud:∀Hc:List Row,Hc=H2.set y.b ⟨.ty 77,4,[[.val (.bool false),.sub l1 (pre1.length+(y.pg.Keys.length+1+post1.length)) pre1.length (pre1.length+(y.pg.Keys.length+1)),a2,.sub l2 (pre2.length+(y.pg.Kids.length+1+post2.length)) pre2.length (pre2.length+(y.pg.Kids.length+1))]]⟩→PgS Hc T M root (D1++⟨y.id,a6_ y.pg at' sep new,y.b,l1,y.v,l2⟩::D2) lo (mx+(h+1)+1) (ax_ ⟨y.id,a6_ y.pg at' sep new⟩ false sl')∧cH_ T M G (D1++y::D2) Hc (D1++⟨y.id,a6_ y.pg at' sep new,y.b,l1,y.v,l2⟩::D2):=by
       intro Hc hHc
       have lb2:y.b<H2.length:=by omega
       have kc:∀l,l≠y.b→Hc[l]?=H2[l]?:=fun l q=>by rw[hHc];exact ao_ (Ne.symm q)
       have hHl:Hc.length=H2.length:=by rw[hHc];simp
       have nl1:l1≠y.b:=by omega
       have nl2:l2≠y.b:=by omega
       have r1':=(kc l1 nl1).trans r1
       refine gH_ (x:=y) (p':=a6_ y.pg at' sep new) (k:=l1) (v:=y.v) (d:=l2) (mx':=mx+(h+1)+1) g1 ok1.rise (by omega) (by omega) (by omega) (fun l q1 q2=>?_) ⟨_,_,_,by rw[hHc,aq_ lb2];show _=some (⟨.ty 77,4,[[.val (.bool y.pg.Leaf),_,_,_]]⟩:Row);rw[hly],⟨pre1,post1,by rw[hlk'],r1'⟩,p2.keep ((kc y.v (Ne.symm nv)).trans ((keep2 y.v (by omega) nvd).trans (keep1 y.v lv (Ne.symm nkv)))),⟨pre2,post2,by rw[hlv'],(kc l2 nl2).trans r2⟩⟩ (by omega) (.inl rfl) (by omega) (by omega) ?_ ?_ ?_
       ·simp only[PB.foot,mem_cons,not_mem_nil,or_false,not_or]at q2
        obtain⟨u1,u2,u3,u4⟩:=q2
        exact(kc l u1).trans ((keep2 l (by omega) u4).trans (keep1 l q1 u2))
       ·intro r hq
        rw[kc l1 nl1,keep2 l1 hlt1 (by omega)]at hq
        have:=hlim1 r hq
        omega
       ·intro r hq
        rw[kc y.v (Ne.symm nv),keep2 y.v (by omega) nvd,keep1 y.v lv (Ne.symm nkv)]at hq
        have:=g1.lim y.v (Pg.mem_foot hyB (by simp[PB.foot])) r hq
        omega
       ·intro r hq
        rw[kc l2 nl2]at hq
        have:=hlim2 r hq
        omega
      rw[hlk]at *
      by_cases hbig:6<y.pg.Kids.length+1
      ·have hb1:(((y.pg.Kids.length+1:Nat):Int)>6)=True:=eq_true (by omega)
       simp(disch:=first|omega|simp only[lzz0_];first|done|omega)only[ao_,aq_,go_sem,seval,o3,zz,hb1,r2,rl2]
       refine callSem.at fun Hc hHc=>?_
       rw[set_set]at hHc
       obtain⟨gu,hgo2⟩:=gud Hc hHc
       refine f8_ (x:=⟨y.id,a6_ y.pg at' sep new,y.b,l1,y.v,l2⟩) gu ok2 (by omega) hly (by show(y.pg.Keys.take at'++sep::y.pg.Keys.drop at').length=6;omega) (by show(y.pg.Kids.take (at'+1)++new::y.pg.Kids.drop (at'+1)).length=7;omega) hvals _ ?_
       intro H' B' hgo3 hpg3
       have hfl:b2_ (a6_ y.pg at' sep new)=true:=by
        show(_||decide (6<(y.pg.Kids.take (at'+1)++new::y.pg.Kids.drop (at'+1)).length))=true
        rw[hinsd,decide_eq_true hbig,Bool.or_true]
       have hput2:cN_ (ax_ ⟨y.id,a6_ y.pg at' sep new⟩ false sl') y.id=if aO_ (aj_ (ax_ ⟨y.id,a6_ y.pg at' sep new⟩ false sl')) 64=0 then(ax_ ⟨y.id,(a5_ (a6_ y.pg at' sep new)).1⟩ false (ax_ ⟨y.id,a6_ y.pg at' sep new⟩ false sl'),⟨#[]⟩,0,4)else(up2 (ax_ ⟨y.id,a6_ y.pg at' sep new⟩ false sl') y.id (a6_ y.pg at' sep new),(a5_ (a6_ y.pg at' sep new)).2.2,aO_ (aj_ (ax_ ⟨y.id,a6_ y.pg at' sep new⟩ false sl')) 64,0):=by
        rw[cN_,dw_ ok1.rise]
        simp only[hfl,Bool.true_eq_false,if_false]
       rw[hput2]at hK
       by_cases hz:aO_ (aj_ (ax_ ⟨y.id,a6_ y.pg at' sep new⟩ false sl')) 64=0
       ·rw[if_pos hz]at hK hpg3
        simp(disch:=first|omega|simp only[lzz0_];first|done|omega)only[go_sem,seval,hz]
        exact hK _ _ (hgo.trans (hgo2.trans hgo3)) hpg3
       ·rw[if_neg hz]at hK hpg3
        simp(disch:=first|omega|simp only[lzz0_];first|done|omega)only[go_sem,seval,hz]
        exact hK _ _ (hgo.trans (hgo2.trans hgo3)) hpg3
      ·have hb1:(((y.pg.Kids.length+1:Nat):Int)>6)=False:=eq_false (by omega)
       simp(disch:=first|omega|simp only[lzz0_];first|done|omega)only[ao_,aq_,go_sem,seval,o3,zz,hb1,r2,rl2]
       rw[set_set]
       obtain⟨gu,hgo2⟩:=gud _ rfl
       have hfl:b2_ (a6_ y.pg at' sep new)=false:=by
        show(decide (6<(y.pg.Keys.take at'++sep::y.pg.Keys.drop at').length)||decide (6<(y.pg.Kids.take (at'+1)++new::y.pg.Kids.drop (at'+1)).length))=false
        rw[hinsd,hinsl,decide_eq_false hbig,decide_eq_false (by omega)];rfl
       have hput2:cN_ (ax_ ⟨y.id,a6_ y.pg at' sep new⟩ false sl') y.id=(ax_ ⟨y.id,a6_ y.pg at' sep new⟩ false sl',⟨#[]⟩,0,0):=by
        rw[cN_,dw_ ok1.rise]
        simp only[hfl,if_true]
       rw[hput2]at hK
       exact hK _ _ (hgo.trans hgo2) gu
     ·refine bz_ (l:=y.k) (lv:=G.length+1) (i:=at') (mx:=mx+h+1) (xs:=y.pg.Keys) (v:=sep) (p1.keep (by(simp(disch:=(first|omega|(simp only[ls_,la_,lc_,ln_];omega)))only[ad_]))) haty (fun r hq=>g1.lim y.k (Pg.mem_foot hyB (by simp[PB.foot])) r (by rw[←hq];exact(ad_ lk).symm)) (by omega) (by first|((simp(disch:=(first|omega|(simp only[ls_,la_,lc_,ln_];omega)))only[a0_]);done)|((simp(disch:=(first|omega|(simp only[ls_,la_,lc_,ln_];omega)))only[ao_,aq_,ad_,at_,a0_,bJ_,cu_]);rfl)) (by omega) ?_
      intro b1 H1 l1 hl1 hlt1 hlen1 kp1 w1 hlim1
      simp only[la_,lc_,ln_]at hl1 hlen1 kp1
      have keep1:∀l,l<G.length→l≠y.k→H1[l]?=G[l]?:=fun l q1 q2=>(kp1 l (by omega) q2).trans (ad_ q1)
      have o2:=(keep1 y.b lb nk).trans o1
      have cb1:b1.cell=true:=w1.cell
      simp(disch:=first|omega|simp only[lzz0_];first|done|omega)only[go_sem,seval,o2,hcast,au_]
      refine ep_ (l:=y.d) (lv:=G.length) (i:=at'+1) (mx:=mx+h+1) (xs:=y.pg.Kids) (v:=new) (p3.keep (by first|exact keep1 _ ld (Ne.symm nkd)|exact(ad_ (by omega)).trans (keep1 _ ld (Ne.symm nkd)))) hatd (fun r hq=>g1.lim y.d (Pg.mem_foot hyB (by simp[PB.foot])) r (by rw[←hq];first|exact(keep1 _ ld (Ne.symm nkd)).symm|exact((ad_ (by omega)).trans (keep1 _ ld (Ne.symm nkd))).symm)) (by omega) (by first|exact at_ rfl|(rw[kp1 _ (by omega) (by omega)];(simp(disch:=(first|omega|(simp only[ls_,la_,lc_,ln_];omega)))only[at_]);done)|(rw[kp1 _ (by omega) (by omega)];(simp(disch:=(first|omega|(simp only[ls_,la_,lc_,ln_];omega)))only[ao_,aq_,ad_,at_,a0_,bJ_,cu_]);rfl)) (by omega) ?_
      intro b2 H2 l2 hl2 hlt2 hlen2 kp2 w2 hlim2
      try simp only[la_,lc_,ln_]at hl2 hlen2 kp2
      have keep2:∀l,l<H1.length→l≠y.d→H2[l]?=H1[l]?:=fun l q1 q2=>(kp2 l (by omega) q2).trans (by first|rfl|exact ad_ q1)
      obtain⟨pre2,post2,rfl,r2⟩:=w2
      have hlv:((y.pg.Kids.take (at'+1)++new::y.pg.Kids.drop (at'+1)).map ay_).length=y.pg.Kids.length+1:=by rw[length_map];exact hinsd
      rw[hlv]at *
      have o3:=(keep2 y.b (by omega) nd').trans o2
      have v1:=w1.keep (keep2 l1 hlt1 (by omega))
      obtain⟨pre1,post1,rfl,r1⟩:=v1
      have hlk:((y.pg.Keys.take at'++sep::y.pg.Keys.drop at').map ag_).length=y.pg.Keys.length+1:=by rw[length_map];exact hinsl
      have rl2:(pre2++((y.pg.Kids.take (at'+1)++new::y.pg.Kids.drop (at'+1)).map ay_++post2)).length=pre2.length+(y.pg.Kids.length+1+post2.length):=by rw[gG_];simp only[length_map];rw[hinsd]
      rw[hlk]at cb1
      have zz:pre2.length+(y.pg.Kids.length+1)-pre2.length=y.pg.Kids.length+1:=by omega
      have gud:∀Hc:List Row,Hc=H2.set y.b ⟨.ty 77,4,[[.val (.bool false),.sub l1 (pre1.length+(y.pg.Keys.length+1+post1.length)) pre1.length (pre1.length+(y.pg.Keys.length+1)),a2,.sub l2 (pre2.length+(y.pg.Kids.length+1+post2.length)) pre2.length (pre2.length+(y.pg.Kids.length+1))]]⟩→PgS Hc T M root (D1++⟨y.id,a6_ y.pg at' sep new,y.b,l1,y.v,l2⟩::D2) lo (mx+(h+1)+1) (ax_ ⟨y.id,a6_ y.pg at' sep new⟩ false sl')∧cH_ T M G (D1++y::D2) Hc (D1++⟨y.id,a6_ y.pg at' sep new,y.b,l1,y.v,l2⟩::D2):=by
       intro Hc hHc
       have lb2:y.b<H2.length:=by omega
       have kc:∀l,l≠y.b→Hc[l]?=H2[l]?:=fun l q=>by rw[hHc];exact ao_ (Ne.symm q)
       have hHl:Hc.length=H2.length:=by rw[hHc];simp
       have nl1:l1≠y.b:=by omega
       have nl2:l2≠y.b:=by omega
       have r1':=(kc l1 nl1).trans r1
       refine gH_ (x:=y) (p':=a6_ y.pg at' sep new) (k:=l1) (v:=y.v) (d:=l2) (mx':=mx+(h+1)+1) g1 ok1.rise (by omega) (by omega) (by omega) (fun l q1 q2=>?_) ⟨_,_,_,by rw[hHc,aq_ lb2];show _=some (⟨.ty 77,4,[[.val (.bool y.pg.Leaf),_,_,_]]⟩:Row);rw[hly],⟨pre1,post1,by rw[hlk'],r1'⟩,p2.keep ((kc y.v (Ne.symm nv)).trans ((keep2 y.v (by omega) nvd).trans (keep1 y.v lv (Ne.symm nkv)))),⟨pre2,post2,by rw[hlv'],(kc l2 nl2).trans r2⟩⟩ (by omega) (.inl rfl) (by omega) (by omega) ?_ ?_ ?_
       ·simp only[PB.foot,mem_cons,not_mem_nil,or_false,not_or]at q2
        obtain⟨u1,u2,u3,u4⟩:=q2
        exact(kc l u1).trans ((keep2 l (by omega) u4).trans (keep1 l q1 u2))
       ·intro r hq
        rw[kc l1 nl1,keep2 l1 hlt1 (by omega)]at hq
        have:=hlim1 r hq
        omega
       ·intro r hq
        rw[kc y.v (Ne.symm nv),keep2 y.v (by omega) nvd,keep1 y.v lv (Ne.symm nkv)]at hq
        have:=g1.lim y.v (Pg.mem_foot hyB (by simp[PB.foot])) r hq
        omega
       ·intro r hq
        rw[kc l2 nl2]at hq
        have:=hlim2 r hq
        omega
      rw[hlk]at *
      by_cases hbig:6<y.pg.Kids.length+1
      ·have hb1:(((y.pg.Kids.length+1:Nat):Int)>6)=True:=eq_true (by omega)
       simp(disch:=first|omega|simp only[lzz0_];first|done|omega)only[ao_,aq_,go_sem,seval,o3,zz,hb1,r2,rl2]
       refine callSem.at fun Hc hHc=>?_
       rw[set_set]at hHc
       obtain⟨gu,hgo2⟩:=gud Hc hHc
       refine f8_ (x:=⟨y.id,a6_ y.pg at' sep new,y.b,l1,y.v,l2⟩) gu ok2 (by omega) hly (by show(y.pg.Keys.take at'++sep::y.pg.Keys.drop at').length=6;omega) (by show(y.pg.Kids.take (at'+1)++new::y.pg.Kids.drop (at'+1)).length=7;omega) hvals _ ?_
       intro H' B' hgo3 hpg3
       have hfl:b2_ (a6_ y.pg at' sep new)=true:=by
        show(_||decide (6<(y.pg.Kids.take (at'+1)++new::y.pg.Kids.drop (at'+1)).length))=true
        rw[hinsd,decide_eq_true hbig,Bool.or_true]
       have hput2:cN_ (ax_ ⟨y.id,a6_ y.pg at' sep new⟩ false sl') y.id=if aO_ (aj_ (ax_ ⟨y.id,a6_ y.pg at' sep new⟩ false sl')) 64=0 then(ax_ ⟨y.id,(a5_ (a6_ y.pg at' sep new)).1⟩ false (ax_ ⟨y.id,a6_ y.pg at' sep new⟩ false sl'),⟨#[]⟩,0,4)else(up2 (ax_ ⟨y.id,a6_ y.pg at' sep new⟩ false sl') y.id (a6_ y.pg at' sep new),(a5_ (a6_ y.pg at' sep new)).2.2,aO_ (aj_ (ax_ ⟨y.id,a6_ y.pg at' sep new⟩ false sl')) 64,0):=by
        rw[cN_,dw_ ok1.rise]
        simp only[hfl,Bool.true_eq_false,if_false]
       rw[hput2]at hK
       by_cases hz:aO_ (aj_ (ax_ ⟨y.id,a6_ y.pg at' sep new⟩ false sl')) 64=0
       ·rw[if_pos hz]at hK hpg3
        simp(disch:=first|omega|simp only[lzz0_];first|done|omega)only[go_sem,seval,hz]
        exact hK _ _ (hgo.trans (hgo2.trans hgo3)) hpg3
       ·rw[if_neg hz]at hK hpg3
        simp(disch:=first|omega|simp only[lzz0_];first|done|omega)only[go_sem,seval,hz]
        exact hK _ _ (hgo.trans (hgo2.trans hgo3)) hpg3
      ·have hb1:(((y.pg.Kids.length+1:Nat):Int)>6)=False:=eq_false (by omega)
       simp(disch:=first|omega|simp only[lzz0_];first|done|omega)only[ao_,aq_,go_sem,seval,o3,zz,hb1,r2,rl2]
       rw[set_set]
       obtain⟨gu,hgo2⟩:=gud _ rfl
       have hfl:b2_ (a6_ y.pg at' sep new)=false:=by
        show(decide (6<(y.pg.Keys.take at'++sep::y.pg.Keys.drop at').length)||decide (6<(y.pg.Kids.take (at'+1)++new::y.pg.Kids.drop (at'+1)).length))=false
        rw[hinsd,hinsl,decide_eq_false hbig,decide_eq_false (by omega)];rfl
       have hput2:cN_ (ax_ ⟨y.id,a6_ y.pg at' sep new⟩ false sl') y.id=(ax_ ⟨y.id,a6_ y.pg at' sep new⟩ false sl',⟨#[]⟩,0,0):=by
        rw[cN_,dw_ ok1.rise]
        simp only[hfl,if_true]
       rw[hput2]at hK
       exact hK _ _ (hgo.trans hgo2) gu
   ·rw[if_pos hc]at hK
    simp(disch:=first|omega|simp only[lzz0_];first|done|omega)only[go_sem,seval,hc]
    exact hK _ _ hgo (hpg.mono (by omega))
theorem PgS.reroot{H:List Row}{T M:Nat}{root:Int}{B:List PB}{lo mx:Nat}{sl:List ab_}(g:PgS H T M root B lo mx sl)(h1:1≤mx)(root':Int):PgS (H.set T ⟨.ty 93,2,[[.val (.int .i64 root'),.mp M]]⟩) T M root' B lo mx sl∧cH_ T M H B (H.set T ⟨.ty 93,2,[[.val (.int .i64 root'),.mp M]]⟩) B:=by
 obtain⟨ents,ck,g0⟩:=g.pg
 have hT:=(g0.lows T (by simp)).2
 refine⟨⟨⟨ents,ck,g0.reroot⟩,g.same,fun l hl r hr=>?_⟩,by simp,fun l hl hn=>?_,fun l hl=>.inl hl,fun y hy=>⟨y,hy,rfl,rfl⟩⟩
 ·by_cases e:T=l
  ·subst e
   rw[getElem?_set_self hT]at hr
   obtain rfl:=Option.some.inj hr
   exact h1
  ·rw[getElem?_set_ne e]at hr
   exact g.lim l hl r hr
 ·exact getElem?_set_ne (fun e:T=l=>hn (by rw[←e];simp[PB.all]))
theorem w5_{H Hy:List Row}{T M:Nat}{root:Int}{B:List PB}{lo mx:Nat}{sl:List ab_}(g:PgS H T M root B lo mx sl)(hrise:ed_ sl)(hmo:bd_ H Hy){right:am_}(hmx:1≤mx){r1 r2 r3:Nat}{b1 b2 b3:AV}
 (h1:aP_ Hy 9 1 b1 r1 (right.Keys.map ag_)) (h2:aP_ Hy 9 1 b2 r2 (right.Vals.map ag_)) (h3:aP_ Hy 2 1 b3 r3 (right.Kids.map ay_))
 (hr:H.length≤r1∧H.length≤r2∧H.length≤r3∧r1≠r2∧r1≠r3∧r2≠r3) (hlim:Lim Hy [r1,r2,r3] mx) (K:AV→List Row→Prop)
 (hK:∀H' B',cH_ T M H B H' B'→PgS H' T M root B' lo mx (if aO_ (aj_ sl) 64=0 then sl else ax_ ⟨aO_ (aj_ sl) 64,right⟩ false sl)→K (.val (.int .i64 (aO_ (aj_ sl) 64))) H') :
 callSem Tryz.prog 81 [.ptr T 1 0 0,.agg [.val (.bool right.Leaf),b1,b2,b3]] Hy K:=by
 have gu:=g.more hmo
 have hgo:cH_ T M H B Hy B:=cH_.more hmo
 have hlen:=hmo.len
 obtain⟨ents0,ck0,g0⟩:=g.pg
 obtain⟨ents,ck,gx⟩:=gu.pg
 have hTM:T≠M:=by
  intro e
  have:=(nodup_cons.1 gx.one).1
  exact this (by simp[e])
 have hlow:∀l∈PB.all T M B,l<H.length∧lo≤l:=fun l hl=>⟨(g0.lows l hl).2,(g0.lows l hl).1⟩
 have hlo:lo≤H.length:=by have:=g0.lows T (by simp);omega
 obtain⟨e1,e2,e3,e4,e5,e6⟩:=hr
 have l1:=h1.lt
 have l2:=h2.lt
 have l3:=h3.lt
 refine kQ_ (st:=aj_ sl) gx.box gx.map hTM (PgS.isSome gx gu.same) _ _ _ _ (by simp only[all_cons,all_nil,Bool.and_true,h1.cell,h2.cell,h3.cell];rfl) K (fun hz=>?_) (fun hz=>?_)
 ·have:=hK (Hy++[⟨.ty 77,4,[[.val (.bool right.Leaf),b1,b2,b3]]⟩]) _ (hgo.trans (cH_.more (bd_.app _ _))) (by rw[if_pos hz];exact gu.more (bd_.app _ _))
  rw[hz]at this
  exact this
 ·rcases g6_ (st:=aj_ sl) 64 (Nat.le_refl _)with q|⟨q1,q2,q3⟩
  ·exact absurd q hz
  have hMl:M<Hy.length:=(gx.lows M (by simp)).2
  have hMn:M<H.length:=(hlow M (by simp[PB.all])).1
  have hke:∀(r r':Row) (l:Nat),l<Hy.length→l≠M→((Hy++[r]).set M r')[l]?=Hy[l]?:=fun r r' l hl hne=>by
   rw[getElem?_set_ne (Ne.symm hne),getElem?_append_left hl]
  have hbn:∀(r r':Row),((Hy++[r]).set M r')[Hy.length]?=some r:=fun r r'=>by
   rw[getElem?_set_ne (by omega),getElem?_append_right (Nat.le_refl _),Nat.sub_self];rfl
  have ga:=gu.add (H':=((Hy++([⟨.ty 77,4,[[.val (.bool right.Leaf),b1,b2,b3]]⟩]:List Row)).set M ⟨.pmap (ents++[(aO_ (aj_ sl) 64,ck,AV.ptr Hy.length 1 0 0)]) (ck+1),0,[]⟩)) (x:=⟨aO_ (aj_ sl) 64,right,Hy.length,r1,r2,r3⟩) (mx':=mx) hrise q3 (fun l hl hne=>hke _ _ l hl hne) (by simp) (by
   intro l hl
   simp only[PB.foot,mem_cons,not_mem_nil,or_false]at hl
   have hb:H.length≤l∧l≤Hy.length:=by omega
   refine⟨by omega,by simp only[ls_,la_,lc_,ln_];omega,fun hm=>?_⟩
   have:=(hlow l hm).1
   omega) (by simp only[PB.foot,nodup_cons,mem_cons,not_mem_nil,or_false,not_or,nodup_nil,and_true,not_false_eq_true];omega)
   ⟨b1,b2,b3,hbn _ _,h1.keep (hke _ _ _ l1 (by omega)),h2.keep (hke _ _ _ l2 (by omega)),h3.keep (hke _ _ _ l3 (by omega))⟩ (by
    intro ents' ck' hm
    rw[gx.map]at hm
    have hm:=Option.some.inj hm
    simp only[Row.mk.injEq,Tag.pmap.injEq,and_true]at hm
    obtain⟨rfl,rfl⟩:=hm
    exact getElem?_set_self (by simp;omega)) (Nat.le_refl _) (by
    intro l hl r hq
    simp only[PB.foot,mem_cons,not_mem_nil,or_false]at hl
    rcases hl with rfl|hl
    ·rw[hbn]at hq
     obtain rfl:=Option.some.inj hq
     show 1≤mx
     omega
    ·have hl2:l∈[r1,r2,r3]:=by simpa using hl
     rw[hke _ _ l (by omega) (by omega)]at hq
     exact hlim l hl2 r hq)
  refine hK _ _ (cH_.add (x:=⟨aO_ (aj_ sl) 64,right,Hy.length,r1,r2,r3⟩) hgo (fun l hl hne=>hke _ _ l hl hne) (by simp) (by
   intro l hl
   simp only[PB.foot,mem_cons,not_mem_nil,or_false]at hl
   omega)) ?_
  rw[if_neg hz]
  exact ga
def c39:LC :=
 .q [.o [.ki 6 0],.gops [.m 12 0,.m 13 0,.nc 14 13,.fa 15 1 14,.ln 16 15,.m 17 0,.nc 18 17,.fa 19 0 18,.ln 20 19,.s 21 (.ext (.lookP false (.tmp 16) (.tmp 20))),.m 22 1,.m 23 2] [(.s 24 (.call 80 [.tmp 12,
 .tmp 21,.tmp 22,.tmp 23]),[]),(.m 11 24,[]),(.ex 25 11 0,[]),(.ex 26 11 1,[]),(.ex 27 11 2,[]),(.m 7 25,[]),(.m 8 26,[]),(.m 9 27,[])],.q [.o [.m 28 9,.bk 29 .neq false 28 0,.m 30 29,.gm 31 30 false
 8,.g 32 30 false (.bin .eql false (.tmp 31) (.const (.int .i64 0))),.pt 33 30 32],.k 33 (.q [.o [.m 34 9,.m 6 34],.ret]) .skip],.o [.m 35 0,.m 36 7,.s 37 (.buildSlice 9 1 (.string ⟨#[]⟩) 1 [(0,.tmp 36)]),.m 38
 0,.nc 39 38,.fa 40 0 39,.ln 41 40,.m 42 8,.s 43 (.buildSlice 2 1 (.int .i64 0) 2 [(0,.tmp 41),(1,.tmp 42)]),.s 44 (.build z0z [(0,1),(1,1),(2,1),(3,1)] [(1,.tmp 37),(3,.tmp 43)]),.c2 45 81 35 44,.m
 10 45],.q [.o [.m 46 10,.bk 47 .eql false 46 0],.k 47 (.q [.o [.ki 6 4],.ret]) .skip],.o [.m 48 0,.m 49 10,.nc 50 48,.fa 51 0 50,.st 1 51 49],.o [.ki 6 0],.ret]
def Au_:LF:=⟨3,52,c39,[.tmp 6]⟩
theorem CV_:aA_ Tryz.prog Tryz.f39 Au_:=fh_
theorem mZ_{key value:ByteArray}(hkey:ci_ key=true)(hv64:value.size≤64){T M:Nat}{root:Int}{lo hh mx:Nat}{sl:List ab_}{ids:List Int}{H:List Row}{B:List PB}(hhn:hh<65)(hm7:7≤mx)(hmx:mx+hh≤1073741000)(ok:c2_ sl)(t:cB_ (aj_ sl) hh true root ⟨#[]⟩ ⟨#[]⟩ ids)(nd:ids.Nodup)(g:PgS H T M root B lo mx sl)(K:AV→List Row→Prop)
 (hK:∀H' B',cH_ T M H B H' B'→PgS H' T M (eF_ 65 ⟨root,sl⟩ key value).1.Root B' lo (mx+hh+1) (eF_ 65 ⟨root,sl⟩ key value).1.Slots→K (.val (.int .i64 (eF_ 65 ⟨root,sl⟩ key value).2)) H') :
 callSem Tryz.prog 39 [.ptr T 1 0 0,.val (.string key),.val (.string value)] H K:=by
 obtain⟨ents0,ck0,g0⟩:=g.pg
 have gT:=g0.box
 have gM:=g0.map
 obtain⟨p0,hp0,_⟩:=t.page
 have hfd:=g0.find root
 have hsf:=g.same root
 rw[et_,hp0]at hsf
 cases hz:B.find? (fun x_1=>x_1.id==root)with
 | none=>rw[hz]at hsf;cases hsf
 | some z =>
 rw[hz]at hfd
 have hzB:=mem_of_find?_eq_some hz
 have hzid:z.id=root:=by simpa using find?_some hz
 simp only[Option.map_some]at hfd
 refine aF_ mixed Tryz.func39 CV_ (a9_ rfl ?_)
 simp(disch:=omega)only[Au_,c39,gT,gM,hfd,Option.getD_some,go_sem,seval]
 refine kJ_ hkey hv64 hh 65 mx sl true root _ _ ids H B z _ hhn hm7 hmx ok t nd g hzB hzid ?_
 intro G B' hgo hpg
 obtain⟨hgr,hsep⟩:=ha_ hkey hv64 hh 65 sl true root _ _ ids hhn ok t nd
 obtain⟨sl',sep,new,code,hr⟩:∃sl' sep new code,bO_ 65 sl root key value=(sl',sep,new,code):=⟨_,_,_,_,rfl⟩
 have hI:eF_ 65 ⟨root,sl⟩ key value=if code≠0 then(⟨root,sl'⟩,code)else if new=0 then(⟨root,sl'⟩,0)else if aO_ (aj_ sl') 64=0 then(⟨root,sl'⟩,4)else(⟨aO_ (aj_ sl') 64,ax_ ⟨aO_ (aj_ sl') 64,fQ_ sep root new⟩ false sl'⟩,0):=by
  unfold eF_;simp only[hr]
 rw[hI]at hK
 rw[hr]at hpg hgr hsep
 rw[hr]
 simp only at hpg hgr hsep hK
 clear hI hfd hsf hz
 by_cases hc:code=0
 ·by_cases hn0:new=0
  ·rw[if_neg (by simpa using hc),if_pos hn0]at hK
   simp(disch:=first|omega|simp only[lzz0_];first|done|omega)only[go_sem,seval,hc,hn0]
   exact hK _ _ hgo hpg
  ·rw[if_neg (by simpa using hc),if_neg hn0]at hK
   obtain⟨ents1,ck1,g1⟩:=hpg.pg
   have gT1:=g1.box
   have gM1:=g1.map
   have hTl:=(g1.lows T (by simp)).2
   simp(disch:=first|omega|simp only[lzz0_];first|done|omega)only[ad_,go_sem,seval,hc,hn0,gT1,bR_]
   refine callSem.at fun Hx hHx=>?_
   refine callSem.args (aT_ (bA_ _) (aT_ (hf_ (aT_ (bA_ _) (aT_ (dY_ _ _) (aT_ (bA_ _) (aT_ (dY_ _ _) (fun _ _ h=>h)))))) (fun _ _ h=>h))) ?_
   have len:Hx.length=G.length+2:=by rw[hHx];simp
   have kept:∀l,l<G.length→Hx[l]?=G[l]?:=fun l q1=>by rw[hHx];exact ad_ q1
   have rk:Hx[G.length]?=some ⟨.ty 9,1,[sep].map ag_⟩:=by rw[hHx];(simp(disch:=(first|omega|(simp only[ls_,la_,lc_,ln_];omega)))only[at_]);rfl
   have rd:Hx[G.length+1]?=some ⟨.ty 2,1,[root,new].map ay_⟩:=by rw[hHx];(simp(disch:=(first|omega|(simp only[ls_,la_,lc_,ln_];omega)))only[a0_]);rfl
   clear hHx
   refine callSem.nilrow 9 1 (fun S S' xs le hn hr=>w1_ le hn hr) ?_
   have ol:∀(r:Row) l,l<Hx.length→(Hx++[r])[l]?=Hx[l]?:=fun r l q=>getElem?_append_left q
   refine w5_ hpg hgr.ok.rise (right:=fQ_ sep root new) ⟨by rw[la_,len];omega,fun l hl=>(ol _ l (by omega)).trans (kept l hl)⟩ (by omega) (r1:=G.length) (r2:=Hx.length) (r3:=G.length+1)
    (aP_.all (xs:=[sep]) rfl ((ol _ _ (by omega)).trans rk)) (aP_.all (f:=ag_) (xs:=[]) rfl (by rw[getElem?_append_right (Nat.le_refl _),Nat.sub_self];rfl)) (aP_.all (xs:=[root,new]) rfl ((ol _ _ (by omega)).trans rd)) (by omega) ?_ _ ?_
   ·intro l hl2 r hq
    simp only[mem_cons,not_mem_nil,or_false]at hl2
    rcases hl2 with rfl|rfl|rfl
    ·rw[(ol _ _ (by omega)).trans rk]at hq
     obtain rfl:=Option.some.inj hq
     simp only[length_map,lc_,ln_];omega
    ·rw[getElem?_append_right (Nat.le_refl _),Nat.sub_self]at hq
     obtain rfl:=Option.some.inj hq
     exact Nat.zero_le _
    ·rw[(ol _ _ (by omega)).trans rd]at hq
     obtain rfl:=Option.some.inj hq
     simp only[length_map,lc_,ln_];omega
   ·intro H3 B3 hgo3 hpg3
    by_cases hw:aO_ (aj_ sl') 64=0
    ·rw[if_pos hw]at hK hpg3
     simp(disch:=first|omega|simp only[lzz0_];first|done|omega)only[go_sem,↓reduceIte,hw]
     exact hK _ _ (hgo.trans hgo3) hpg3
    ·rw[if_neg hw]at hK hpg3
     obtain⟨ents3,ck3,g3⟩:=hpg3.pg
     have gT3:=g3.box
     have hTl3:=(g3.lows T (by simp)).2
     obtain⟨ge,hgo4⟩:=hpg3.reroot (by omega) (aO_ (aj_ sl') 64)
     simp(disch:=first|omega|simp only[lzz0_];first|done|omega)only[go_sem,seval,hw,gT3]
     exact hK _ _ ((hgo.trans hgo3).trans hgo4) ge
 ·rw[if_pos hc]at hK
  simp(disch:=first|omega|simp only[lzz0_];first|done|omega)only[go_sem,seval,hc]
  exact hK _ _ hgo hpg
end Go.Proofs.YtlcmlgihlojdmaaGreatDoor
