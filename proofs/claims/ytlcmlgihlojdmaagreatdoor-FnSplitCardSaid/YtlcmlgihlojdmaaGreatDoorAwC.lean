/-
 A small program logic over abstract values, proved sound over the model: what a function's code gives for data, without worlds and cells. Nothing of any one program. No conditions.
-/
import Derived.Test.YtlcmlgihlojdmaaGreatDoorAwB
import Derived.Lib.LaidTab
import Derived.Below
import Derived.Sort.Grow
set_option linter.unusedVariables false
set_option linter.unusedSimpArgs false
set_option linter.unusedSectionVars false
namespace Go.AW
open List
open Go.RowKit
open Go.RowKit (Below)
open Go.Sort (Holds putRow grow mapBlock onCells putCells)
section
variable {P : Program} {N : Nat} {Q : dc_} {k : List Fr} {t : Nat → AV} {h : List Row}
structure ExC(P:Program)(N:Nat)(Q:dc_)(v:AV)(a b:LC)(k:List Fr)(t:Nat→AV)(h:List Row):Prop where
 out:match v with|.val (.bool q)=>(q=true→Ex P N Q a k t h)∧(q=false→Ex P N Q b k t h)|_=>False
theorem vd_(c:Operand)(a b:LC):Ex P N Q (.cond c a b) k t h=ExC P N Q (ah_ t c) a b k t h:=by
 rw[bj_]
 exact propext ⟨fun q=>⟨q⟩,fun q=>q.out⟩
theorem lx_(a b:LC):ExC P N Q (.val (.bool true)) a b k t h=Ex P N Q a k t h :=
 propext ⟨fun q=>q.out.1 rfl,fun q=>⟨⟨fun _=>q,fun e=>(by cases e)⟩⟩⟩
theorem kd_(a b:LC):ExC P N Q (.val (.bool false)) a b k t h=Ex P N Q b k t h :=
 propext ⟨fun q=>q.out.2 rfl,fun q=>⟨⟨fun e=>(by cases e),fun _=>q⟩⟩⟩
theorem as_{q:Bool}{a b:LC}(h1:q=true→Ex P N Q a k t h)(h2:q=false→Ex P N Q b k t h):ExC P N Q (.val (.bool q)) a b k t h:=⟨⟨h1,h2⟩⟩
theorem at_{q:Bool}{a b:LC}(h1:q=true→Ex P N Q b k t h)(h2:q=false→Ex P N Q a k t h):ExC P N Q (.val (.bool (!q))) a b k t h :=
 ⟨⟨fun e=>h2 (by simpa using e),fun e=>h1 (by simpa using e)⟩⟩
theorem aZ_{q:Bool}{d:Option Nat}{op:LOp}{l:List LI}(h1:q=true→ExG P N Q (some true) d op l k t h)(h2:q=false→ExG P N Q (some false) d op l k t h):ExG P N Q (some q) d op l k t h:=by
 cases q
 ·exact h2 rfl
 ·exact h1 rfl
theorem aQ_{q:Bool}{d:Option Nat}{op:LOp}{l:List LI}(h1:q=true→ExG P N Q (some false) d op l k t h)(h2:q=false→ExG P N Q (some true) d op l k t h):ExG P N Q (some (!q)) d op l k t h:=by
 cases q
 ·exact h2 rfl
 ·exact h1 rfl
theorem h4_{q:Bool}{d:Option Nat}{op:LOp}{l:List LI}(h1:q=true→ExH P N Q (some true) d op l k t h)(h2:q=false→ExH P N Q (some false) d op l k t h):ExH P N Q (some q) d op l k t h:=by
 cases q
 ·exact h2 rfl
 ·exact h1 rfl
theorem hl_{q:Bool}{d:Option Nat}{op:LOp}{l:List LI}(h1:q=true→ExH P N Q (some false) d op l k t h)(h2:q=false→ExH P N Q (some true) d op l k t h):ExH P N Q (some (!q)) d op l k t h:=by
 cases q
 ·exact h2 rfl
 ·exact h1 rfl
theorem bS_{q:Bool}{d:Option Nat}{op:LOp}{l:List LI}(e:q=true)(h1:q=true→ExG P N Q (some true) d op l k t h):ExG P N Q (some q) d op l k t h:=by subst e;exact h1 rfl
theorem bT_{q:Bool}{d:Option Nat}{op:LOp}{l:List LI}(e:q=false)(h1:q=false→ExG P N Q (some false) d op l k t h):ExG P N Q (some q) d op l k t h:=by subst e;exact h1 rfl
theorem bz_{q:Bool}{d:Option Nat}{op:LOp}{l:List LI}(e:q=true)(h1:q=true→ExG P N Q (some false) d op l k t h):ExG P N Q (some (!q)) d op l k t h:=by subst e;exact h1 rfl
theorem by_{q:Bool}{d:Option Nat}{op:LOp}{l:List LI}(e:q=false)(h1:q=false→ExG P N Q (some true) d op l k t h):ExG P N Q (some (!q)) d op l k t h:=by subst e;exact h1 rfl
theorem oR_{q:Bool}{d:Option Nat}{op:LOp}{l:List LI}(e:q=true)(h1:q=true→ExH P N Q (some true) d op l k t h):ExH P N Q (some q) d op l k t h:=by subst e;exact h1 rfl
theorem oX_{q:Bool}{d:Option Nat}{op:LOp}{l:List LI}(e:q=false)(h1:q=false→ExH P N Q (some false) d op l k t h):ExH P N Q (some q) d op l k t h:=by subst e;exact h1 rfl
theorem mj_{q:Bool}{d:Option Nat}{op:LOp}{l:List LI}(e:q=true)(h1:q=true→ExH P N Q (some false) d op l k t h):ExH P N Q (some (!q)) d op l k t h:=by subst e;exact h1 rfl
theorem lZ_{q:Bool}{d:Option Nat}{op:LOp}{l:List LI}(e:q=false)(h1:q=false→ExH P N Q (some true) d op l k t h):ExH P N Q (some (!q)) d op l k t h:=by subst e;exact h1 rfl
theorem a6_{q:Bool}{a b:LC}(e:q=true)(h1:q=true→Ex P N Q a k t h):ExC P N Q (.val (.bool (q))) a b k t h:=by subst e;exact(lx_ a b).symm▸h1 rfl
theorem a7_{q:Bool}{a b:LC}(e:q=false)(h1:q=false→Ex P N Q b k t h):ExC P N Q (.val (.bool (q))) a b k t h:=by subst e;exact(kd_ a b).symm▸h1 rfl
theorem aT_{q:Bool}{a b:LC}(e:q=true)(h1:q=true→Ex P N Q b k t h):ExC P N Q (.val (.bool (!q))) a b k t h:=by subst e;exact(kd_ a b).symm▸h1 rfl
theorem aR_{q:Bool}{a b:LC}(e:q=false)(h1:q=false→Ex P N Q a k t h):ExC P N Q (.val (.bool (!q))) a b k t h:=by subst e;exact(lx_ a b).symm▸h1 rfl
end
def dC_(s:ByteArray):List Int:=s.data.toList.map fun b=>(b.toNat:Int)
theorem cX_(s:ByteArray):(dC_ s).length=s.size:=by
 unfold dC_;rw[length_map,Array.length_toList];rfl
theorem xD_{s:ByteArray}{i:Nat}(h:i<s.size):s[i]?=some s[i]:=getElem?_pos s i h
theorem zg_{s:ByteArray}{i:Nat}(h:i<s.size):((s[i]).toNat:Int)=(dC_ s)[i]'(by rw[cX_];exact h):=by
 simp only[dC_,getElem_map,Array.getElem_toList];rfl
def bR_{α:Type}(p:α→Bool):List α→Nat→Int
 | [],_ => -1
 | x::xs,k=>if p x then(k:Int)else bR_ p xs (k+1)
theorem ga_{α:Type}(p:α→Bool)(xs:List α)(k:Nat)(h:k<xs.length):bR_ p (xs.drop k) k=if p xs[k]then(k:Int)else bR_ p (xs.drop (k+1)) (k+1):=by
 rw[drop_eq_getElem_cons h];rfl
theorem dl_{α:Type}(p:α→Bool)(xs:List α)(k:Nat)(h:xs.length≤k):bR_ p (xs.drop k) k = -1:=by
 rw[drop_eq_nil_of_le h];rfl
theorem kx_{α:Type}(p:α→Bool):∀(xs:List α) (k:Nat),decide (0≤bR_ p xs k)=xs.any p
 | [],k=>rfl
 | x::xs,k=>by
  simp only[bR_,any_cons]
  by_cases e:p x=true
  ·simp[e]
  ·simp only[e,Bool.false_eq_true,if_false,Bool.false_or];exact kx_ p xs (k+1)
theorem ir_{α:Type}(p:α→Bool)(xs:List α):decide (0≤bR_ p xs 0)=xs.any p:=kx_ p xs 0
theorem uV_{α:Type}(p:α→Bool)(xs:List α)(k:Nat)(h:k<xs.length):(xs.drop k).all p=(p xs[k]&&(xs.drop (k+1)).all p):=by
 rw[drop_eq_getElem_cons h];rfl
theorem rh_{α:Type}(p:α→Bool)(xs:List α)(k:Nat)(h:xs.length≤k):(xs.drop k).all p=true:=by
 rw[drop_eq_nil_of_le h];rfl
theorem Bd_(k:Nat):((k:Int)=0)=(k=0):=by simp
theorem zi_(k:Nat):((0:Int)<(k:Int))=(0<k):=by simp
theorem sb_(k:Nat):((k:Int)-1).toNat=k-1:=by omega
theorem nv_{h l:List Row}{i:Nat}{r:Row}(e:h[i]?=some r):(h++l)[i]?=some r:=by
 have:=(List.getElem?_eq_some_iff.1 e).1
 rw[getElem?_append_left this,e]
theorem qS_{k:Nat}(h:0<k):(0≤(k:Int)-1)=True:=by
 apply eq_true;omega
theorem A9_(p:Prop)[Decidable p]:(!decide p)=decide (¬ p):=by by_cases h:p<;>simp[h]
attribute [go_sem] vd_ lx_ kd_ Go.undef b0_ lM_ Nat.zero_le xD_ zg_ Bd_ zi_ sb_ aA_ qS_
structure ExP(P:Program)(N:Nat)(Q:dc_)(pre todo:List LI)(chain:List (LI×List LI))(k:List Fr)(t:Nat→AV)(h:List Row):Prop where
 out:hn_ h todo t fun T=>holds T h pre∧gV_ P chain T h (exK P N Q k .normal)
structure rV_(P:Program)(N:Nat)(Q:dc_)(chain:List (LI×List LI))(k:List Fr)(t:Nat→AV)(h:List Row):Prop where
 out:gV_ P chain t h (exK P N Q k .normal)
structure AfC(P:Program)(N:Nat)(Q:dc_)(d:Option Nat)(loose:List LI)(chain:List (LI×List LI))(k:List Fr)(t:Nat→AV)(v:AV)(h:List Row):Prop where
 out:holds (put t d v) h loose∧gV_ P chain (put t d v) h (exK P N Q k .normal)
structure Hol(T:Nat→AV)(h:List Row)(l:List LI):Prop where
 out:holds T h l
def nc_(t:Nat→AV)(h:List Row)(K:AV→Prop)(op:LOp):Prop:=match ai_ t h op with|some v=>K v|none=>False
structure AfP(P:Program)(N:Nat)(Q:dc_)(pre:List LI)(d:Option Nat)(todo:List LI)(chain:List (LI×List LI))(k:List Fr)(t:Nat→AV)(h:List Row)(v:AV):Prop where
 out:hn_ h todo (put t d v) fun T=>holds T h pre∧gV_ P chain T h (exK P N Q k .normal)
section
variable {P : Program} {N : Nat} {Q : dc_} {k : List Fr} {t : Nat → AV} {h : List Row}
theorem wP_(pre:List LI)(chain:List (LI×List LI)):Ex P N Q (.gops pre chain) k t h=ExP P N Q pre pre chain k t h:=propext ⟨fun q=>⟨q.out⟩,fun q=>⟨q.out⟩⟩
theorem wR_(pre:List LI)(chain:List (LI×List LI)):ExP P N Q pre [] chain k t h=(Hol t h pre∧rV_ P N Q chain k t h) :=
 propext ⟨fun q=>⟨⟨q.out.1⟩,⟨q.out.2⟩⟩,fun q=>⟨⟨q.1.out,q.2.out⟩⟩⟩
theorem vg_(pre:List LI)(d:Option Nat)(op:LOp)(r:List LI)(chain:List (LI×List LI)):ExP P N Q pre (⟨d,none,op⟩::r) chain k t h=nc_ t h (AfP P N Q pre d r chain k t h) op:=by
 unfold nc_
 cases hv:ai_ t h op with
 | none =>
  refine propext ⟨fun q=>?_,fun q=>q.elim⟩
  have:=q.out
  unfold hn_ at this
  simp only[hv]at this
 | some v =>
  refine propext ⟨fun q=>⟨?_⟩,fun q=>⟨?_⟩⟩
  ·have:=q.out
   unfold hn_ at this
   simp only[hv]at this
   exact this
  ·unfold hn_
   simp only[hv]
   exact q.out
theorem zq_(pre:List LI)(d:Option Nat)(r:List LI)(chain:List (LI×List LI))(v:AV):AfP P N Q pre d r chain k t h v=ExP P N Q pre r chain k (put t d v) h:=propext ⟨fun q=>⟨q.out⟩,fun q=>⟨q.out⟩⟩
theorem w6_:Hol t h []=True:=propext ⟨fun _=>trivial,fun _=>⟨trivial⟩⟩
theorem vl_(d:Nat)(op:LOp)(r:List LI):Hol t h (⟨some d,none,op⟩::r)=(nc_ t h (fun v=>v=t d) op∧Hol t h r):=by
 refine propext ⟨fun q=>?_,fun q=>⟨?_⟩⟩
 ·have:=q.out
  unfold holds at this
  refine⟨?_,⟨this.2⟩⟩
  unfold nc_
  rw[this.1]
 ·unfold holds
  refine⟨?_,q.2.out⟩
  have:=q.1
  unfold nc_ at this
  simp only
  split at this
  ·rename_i v hv;rw[hv,this]
  ·exact this.elim
theorem uQ_:rV_ P N Q [] k t h=ExK P N Q k .normal t h:=propext ⟨fun q=>⟨q.out⟩,fun q=>⟨q.out⟩⟩
theorem wM_(d:Option Nat)(loose:List LI)(chain:List (LI×List LI)):AfC P N Q d loose chain k t=fun v h=>holds (put t d v) h loose∧gV_ P chain (put t d v) h (exK P N Q k .normal) :=
 funext fun _=>funext fun _=>propext ⟨fun q=>q.out,fun q=>⟨q⟩⟩
theorem sV_(d:Option Nat)(op:LOp)(loose:List LI)(r:List (LI×List LI)):rV_ P N Q ((⟨d,none,op⟩,loose)::r) k t h=aX_ P t h (AfC P N Q d loose r k t) op:=by
 rw[wM_];exact propext ⟨fun q=>q.out,fun q=>⟨q⟩⟩
theorem za_(d:Option Nat)(loose:List LI)(r:List (LI×List LI))(v:AV):AfC P N Q d loose r k t v h=(Hol (put t d v) h loose∧rV_ P N Q r k (put t d v) h) :=
 propext ⟨fun q=>⟨⟨q.out.1⟩,⟨q.out.2⟩⟩,fun q=>⟨⟨q.1.out,q.2.out⟩⟩⟩
end
structure rz_(P:Program)(N:Nat)(Q:dc_)(a:List LI)(c:LI)(b:List LI)(k:List Fr)(t:Nat→AV)(h:List Row):Prop where
 out:d3_ P h a t fun t1=>aX_ P t1 h (fun v h'=>ExD P N Q b k (put t1 c.dst v) h') c.op
structure uJ_(P:Program)(N:Nat)(Q:dc_)(d:Option Nat)(a:List LI)(c:LI)(b:List LI)(k:List Fr)(t:Nat→AV)(h:List Row)(v:AV):Prop where
 out:d3_ P h a (put t d v) fun t1=>aX_ P t1 h (fun v h'=>ExD P N Q b k (put t1 c.dst v) h') c.op
structure uj_(P:Program)(N:Nat)(Q:dc_)(d:Option Nat)(b:List LI)(k:List Fr)(t:Nat→AV)(v:AV)(h:List Row):Prop where
 out:ExD P N Q b k (put t d v) h
section
variable {P : Program} {N : Nat} {Q : dc_} {k : List Fr} {t : Nat → AV} {h : List Row}
theorem vu_(a:List LI)(c:LI)(b:List LI):Ex P N Q (.pops a c b) k t h=rz_ P N Q a c b k t h:=by
 rw[xf_];exact propext ⟨fun q=>⟨q⟩,fun q=>q.out⟩
theorem sO_(d:Option Nat)(op:LOp)(a:List LI)(c:LI)(b:List LI):rz_ P N Q (⟨d,none,op⟩::a) c b k t h=qWp P t h (uJ_ P N Q d a c b k t h) op:=by
 have e:uJ_ P N Q d a c b k t h=fun v=>d3_ P h a (put t d v) fun t1=>aX_ P t1 h (fun v h'=>ExD P N Q b k (put t1 c.dst v) h') c.op :=
  funext fun v=>propext ⟨fun q=>q.out,fun q=>⟨q⟩⟩
 rw[e]
 exact propext ⟨fun q=>q.out,fun q=>⟨q⟩⟩
theorem wU_(d:Option Nat)(a:List LI)(c:LI)(b:List LI)(v:AV):uJ_ P N Q d a c b k t h v=rz_ P N Q a c b k (put t d v) h:=propext ⟨fun q=>⟨q.out⟩,fun q=>⟨q.out⟩⟩
theorem uU_(d:Option Nat)(op:LOp)(b:List LI):rz_ P N Q [] ⟨d,none,op⟩ b k t h=aX_ P t h (uj_ P N Q d b k t) op:=by
 have e:uj_ P N Q d b k t=fun v h'=>ExD P N Q b k (put t d v) h':=funext fun v=>funext fun h'=>propext ⟨fun q=>q.out,fun q=>⟨q⟩⟩
 rw[e]
 exact propext ⟨fun q=>q.out,fun q=>⟨q⟩⟩
theorem xn_(d:Option Nat)(b:List LI)(v:AV):uj_ P N Q d b k t v h=ExD P N Q b k (put t d v) h:=propext ⟨fun q=>q.out,fun q=>⟨q⟩⟩
end
attribute [go_sem] vu_ sO_ wU_ uU_ xn_
attribute [go_sem] qF_ qi_
attribute [go_sem] wP_ wR_ vg_ zq_ w6_ vl_ uQ_ sV_ za_ nc_
theorem ab_.below{S:Sit}{h:List Row}{w w':World}(m:ab_ S h w)(b:Below w.heap.size w w'):ab_ S h w':=by
 refine⟨fun k c e=>?_,m.len,fun l i r q1 q2=>?_,m.one⟩
 ·rw[b.block k (m.immLt e)];exact m.imm k c e
 ·obtain⟨k1,k2,k3,k4⟩:=m.rows l i r q1 q2
  refine⟨k1,k2,k3,?_⟩
  cases hb:i.blk with
  | none=>rw[hb]at k4;exact k4
  | some k =>
   rw[hb]at k4
   exact⟨k4.1,k4.2.le (.refl S) (b.block k (m.ownLt ⟨l,i,q1,hb⟩))⟩
theorem a0_.below{S:Sit}{w w':World}(b:Below w.heap.size w w'):a0_ S w S w' :=
 ⟨.refl S,b.os,b.tape,b.output,b.size,fun k hk _=>b.block k hk,fun _ q=>.inl q,fun _ _ q=>.inl q⟩
theorem fN_{S:Sit}:∀{vs xs:List Value},ae_ S (vs.map AV.val) xs→xs=vs
 | [],xs,r=>by simpa[ae_]using r
 | v::vs,xs,r=>by
  simp only[map_cons,ae_]at r
  obtain⟨x,r',e,r1,r2⟩:=r
  simp only[Rep]at r1
  rw[e,r1,fN_ r2]
theorem f4_{P:Program}{f:FuncId}{vals:List Value}{v:Value}
 (hc:∀w,(∀p∈pt_,(P.globalNamed p.1).isSome=true→w.var? P p.1=some p.2)→Calls P f vals.toArray w fun e w'=>e=.returned v∧Below w.heap.size w w') (h:List Row):PureCall P f (vals.map AV.val) h (.val v):=by
 intro K hk S w xs hm hgl hr
 have e:=fN_ hr
 have e':xs=vals.toArray:=by cases xs;simp at e;rw[e]
 subst e'
 refine(hc w ?_).mono ?_
 ·intro p hp hs
  obtain⟨g,hg⟩:=Option.isSome_iff_exists.1 hs
  obtain⟨E,fr,hw⟩:=hm.imm g p.2 (hgl.1 p hp g hg)
  simp only[World.var?,hg,Option.bind_some,hw]
 ·rintro e w' ⟨rfl,b⟩
  exact⟨v,.val v,S,h,rfl,a0_.below b,hm.below b,by simp[Rep],hk⟩
theorem qE_{P:Program}{f:FuncId}{vals:List Value}{v:Value}
 (hc:∀w,(∀g,P.globalNamed "internal/bytealg.MaxLen"=some g→∃m,w.cell? ⟨g,0,none⟩=some (.int .i64 m))→Calls P f vals.toArray w fun e w'=>e=.returned v∧Below w.heap.size w w') (h:List Row):PureCall P f (vals.map AV.val) h (.val v):=by
 intro K hk S w xs hm hgl hr
 have e:=fN_ hr
 have e':xs=vals.toArray:=by cases xs;simp at e;rw[e]
 subst e'
 refine(hc w ?_).mono ?_
 ·intro g hg
  obtain⟨c,m,h1,h2⟩:=hgl.2 g hg
  obtain⟨E,fr,hw⟩:=hm.imm g c h1
  exact⟨m,by simp[World.cell?,hw,h2]⟩
 ·rintro e w' ⟨rfl,b⟩
  exact⟨v,.val v,S,h,rfl,a0_.below b,hm.below b,by simp[Rep],hk⟩
def aL_(R:AV→AV→List Nat→Prop):List AV→List AV→List Nat→Prop
 | [],ds,fs=>ds=[]∧fs=[]
 | c::cs,ds,fs=>∃d ds' f f',ds=d::ds'∧fs=f++f'∧R c d f∧aL_ R cs ds' f'
def aV_(R:AV→AV→List Nat→Prop):List (List AV)→List (List AV)→List Nat→Prop
 | [],ds,fs=>ds=[]∧fs=[]
 | e::es,ds,fs=>∃d ds' f f',ds=d::ds'∧fs=f++f'∧aL_ R e d f∧aV_ R es ds' f'
def Own(H:List Row):Nat→AV→AV→List Nat→Prop
 | 0,_,_,_=>False
 | n+1,a,r,fs =>
  match a with
  | .val v=>fs=[]∧(r=.val v∨(v=.slice none 0 0∧∃sz,r=.list 0 sz []))
  | .own l k=>∃row es f,H[l]?=some row∧row.es.length=k∧aV_ (Own H n) row.es es f∧r=.list 0 row.sz es∧fs=l::f
  | .sub l k lo hi=>∃row es f,H[l]?=some row∧row.es.length=k∧aV_ (Own H n) row.es es f∧r=.list 0 row.sz ((es.take hi).drop lo)∧fs=l::f
  | .agg cs=>∃ds,aL_ (Own H n) cs ds fs∧r=.agg ds
  | .tup cs=>∃ds,aL_ (Own H n) cs ds fs∧r=.tup ds
  | _=>False
theorem aL_.mono{R R':AV→AV→List Nat→Prop}:∀{cs ds:List AV} {fs:List Nat},(∀a r f,(∀l∈f,l∈fs)→R a r f→R' a r f)→aL_ R cs ds fs→aL_ R' cs ds fs
 | [],_,_,_,h=>h
 | c::cs,ds,fs,hm,h=>by
  obtain⟨d,ds',f,f',e1,e2,h1,h2⟩:=h
  subst e2
  exact⟨d,ds',f,f',e1,rfl,hm _ _ _ (fun l hl=>mem_append_left _ hl) h1,aL_.mono (fun a r g hg=>hm a r g fun l hl=>mem_append_right _ (hg l hl)) h2⟩
theorem aV_.mono{R R':AV→AV→List Nat→Prop}:∀{cs ds:List (List AV)} {fs:List Nat},(∀a r f,(∀l∈f,l∈fs)→R a r f→R' a r f)→aV_ R cs ds fs→aV_ R' cs ds fs
 | [],_,_,_,h=>h
 | c::cs,ds,fs,hm,h=>by
  obtain⟨d,ds',f,f',e1,e2,h1,h2⟩:=h
  subst e2
  exact⟨d,ds',f,f',e1,rfl,aL_.mono (fun a r g hg=>hm a r g fun l hl=>mem_append_left _ (hg l hl)) h1,aV_.mono (fun a r g hg=>hm a r g fun l hl=>mem_append_right _ (hg l hl)) h2⟩
theorem Own.keep{H H':List Row}:∀{n:Nat} {a r:AV} {fs:List Nat},(∀l∈fs,H'[l]?=H[l]?)→Own H n a r fs→Own H' n a r fs
 | 0,_,_,_,_,h=>h
 | n+1,a,r,fs,hk,h=>by
  cases a with
  | val v=>exact h
  | own l k =>
   obtain⟨row,es,f,h1,h2,h3,h4,h5⟩:=h
   subst h5
   exact⟨row,es,f,by rw[hk l (by simp)];exact h1,h2,aV_.mono (fun a r g hg ho=>Own.keep (fun l hl=>hk l (mem_cons_of_mem _ (hg l hl))) ho) h3,h4,rfl⟩
  | sub l k lo hi =>
   obtain⟨row,es,f,h1,h2,h3,h4,h5⟩:=h
   subst h5
   exact⟨row,es,f,by rw[hk l (by simp)];exact h1,h2,aV_.mono (fun a r g hg ho=>Own.keep (fun l hl=>hk l (mem_cons_of_mem _ (hg l hl))) ho) h3,h4,rfl⟩
  | agg cs =>
   obtain⟨ds,h1,h2⟩:=h
   exact⟨ds,aL_.mono (fun a r g hg ho=>Own.keep (fun l hl=>hk l (hg l hl)) ho) h1,h2⟩
  | tup cs =>
   obtain⟨ds,h1,h2⟩:=h
   exact⟨ds,aL_.mono (fun a r g hg ho=>Own.keep (fun l hl=>hk l (hg l hl)) ho) h1,h2⟩
  | _=>exact h.elim
theorem Own.more{H:List Row}:∀{n:Nat} {a r:AV} {fs:List Nat},Own H n a r fs→Own H (n+1) a r fs
 | 0,_,_,_,h=>h.elim
 | n+1,a,r,fs,h=>by
  cases a with
  | val v=>exact h
  | own l k =>
   obtain⟨row,es,f,h1,h2,h3,h4,h5⟩:=h
   exact⟨row,es,f,h1,h2,aV_.mono (fun a r g _ ho=>Own.more ho) h3,h4,h5⟩
  | sub l k lo hi =>
   obtain⟨row,es,f,h1,h2,h3,h4,h5⟩:=h
   exact⟨row,es,f,h1,h2,aV_.mono (fun a r g _ ho=>Own.more ho) h3,h4,h5⟩
  | agg cs =>
   obtain⟨ds,h1,h2⟩:=h
   exact⟨ds,aL_.mono (fun a r g _ ho=>Own.more ho) h1,h2⟩
  | tup cs =>
   obtain⟨ds,h1,h2⟩:=h
   exact⟨ds,aL_.mono (fun a r g _ ho=>Own.more ho) h1,h2⟩
  | _=>exact h.elim
theorem Own.up{H:List Row}{n m:Nat}{a r:AV}{fs:List Nat}(hm:n≤m)(h:Own H n a r fs):Own H m a r fs:=by
 induction hm with
 | refl=>exact h
 | step _ ih=>exact ih.more
theorem aL_.rep{S S':Sit}{R:AV→AV→List Nat→Prop}(hone:∀a x r f,Rep S a x→R a r f→Rep S' r x):∀{as:List AV} {xs:List Value} {rs:List AV} {fs:List Nat},ae_ S as xs→aL_ R as rs fs→ae_ S' rs xs
 | [],xs,rs,fs,r,h=>by
  obtain⟨h1,_⟩:=h;subst h1
  simpa[ae_]using r
 | a::as,xs,rs,fs,r,h=>by
  obtain⟨d,ds',f,f',e1,e2,h1,h2⟩:=h
  subst e1
  simp only[ae_]at r⊢
  obtain⟨v,q,e,r2,r3⟩:=r
  exact⟨v,q,e,hone a v d f r2 h1,aL_.rep hone r3 h2⟩
theorem aL_.repPre{S S':Sit}{R:AV→AV→List Nat→Prop}(hone:∀a x r f,Rep S a x→R a r f→Rep S' r x):∀{as:List AV} {xs:List Value} {rs:List AV} {fs:List Nat},an_ S as xs→aL_ R as rs fs→an_ S' rs xs∧rs.length=as.length
 | [],xs,rs,fs,r,h=>by
  obtain⟨h1,_⟩:=h;subst h1
  simp[an_]
 | a::as,xs,rs,fs,r,h=>by
  obtain⟨d,ds',f,f',e1,e2,h1,h2⟩:=h
  subst e1
  simp only[an_]at r⊢
  obtain⟨v,q,e,r2,r3⟩:=r
  have:=aL_.repPre hone r3 h2
  exact⟨⟨v,q,e,hone a v d f r2 h1,this.1⟩,by simp[this.2]⟩
theorem aV_.rep{S S':Sit}{R:AV→AV→List Nat→Prop}(hone:∀a x r f,Rep S a x→R a r f→Rep S' r x):∀{es:List (List AV)} {xs:List Value} {rs:List (List AV)} {fs:List Nat},aj_ S es xs→aV_ R es rs fs →
 aj_ S' rs xs∧rs.length=es.length∧∀sz,(∀e∈es,e.length=sz)→∀e∈rs,e.length=sz
 | [],xs,rs,fs,r,h=>by
  obtain⟨h1,_⟩:=h;subst h1
  simp[aj_]
 | d::es,xs,rs,fs,r,h=>by
  obtain⟨d',ds',f,f',e1,e2,h1,h2⟩:=h
  subst e1
  simp only[aj_]at r⊢
  have p1:=aL_.repPre hone r.1 h1
  have p2:=aV_.rep hone r.2 h2
  refine⟨⟨p1.1,by rw[p1.2];exact p2.1⟩,by simp[p2.2.1],fun sz hsz e he=>?_⟩
  rcases mem_cons.1 he with q|q
  ·subst q;rw[p1.2];exact hsz d (by simp)
  ·exact p2.2.2 sz (fun e he=>hsz e (by simp[he])) e q
theorem aV_.len{R:AV→AV→List Nat→Prop}:∀{es rs:List (List AV)} {fs:List Nat},aV_ R es rs fs→rs.length=es.length
 | [],rs,fs,h=>by obtain⟨h,_⟩:=h;subst h;rfl
 | e::es,rs,fs,h=>by
  obtain⟨d,ds',f,f',e1,e2,h1,h2⟩:=h
  subst e1
  simp[aV_.len h2]
theorem Own.rep{S:Sit}{h:List Row}{w:World}(m:ab_ S h w):∀(n:Nat) (a:AV) (x:Value) (r:AV) (fs:List Nat),Rep S a x→Own h n a r fs→Rep (S.shut w) r x:=by
 intro n
 induction n with
 | zero=>intro a x r fs _ e;exact e.elim
 | succ n ih =>
  intro a x r fs hr e
  cases a with
  | val v =>
   obtain⟨_,e|⟨e1,sz,e2⟩⟩:=e
   ·subst e;simpa[Rep]using hr
   ·subst e1 e2
    simp only[Rep]at hr⊢
    exact .inl ⟨trivial,trivial,_,_,hr⟩
  | agg cs =>
   obtain⟨ds,e1,e2⟩:=e
   subst e2
   simp only[Rep]at hr⊢
   obtain⟨vs,e3,hr⟩:=hr
   exact⟨vs,e3,aL_.rep ih hr e1⟩
  | tup cs =>
   obtain⟨ds,e1,e2⟩:=e
   subst e2
   simp only[Rep]at hr⊢
   obtain⟨vs,e3,hr⟩:=hr
   exact⟨vs,e3,aL_.rep ih hr e1⟩
  | own l k =>
   obtain⟨row,es,f,hl,hlen,e1,e2,_⟩:=e
   subst e2
   simp only[Rep]at hr
   obtain⟨_,i,q1,q2,q3⟩:=hr
   obtain⟨k1,k2,k3,k4⟩:=m.rows l i row q1 hl
   have hx:=q3 (by omega)
   cases hb:i.blk with
   | none =>
    rw[hb]at k4
    simp only[sliceAt,hb]at hx
    rw[k4.1]at e1
    obtain⟨e1,_⟩:=e1;subst e1
    simp only[Rep]
    rcases hx with hx|⟨_,p,hx⟩
    ·exact .inl ⟨trivial,trivial,_,_,hx⟩
    ·exact .inl ⟨trivial,trivial,_,_,hx⟩
   | some b =>
    rw[hb]at k4
    simp only[sliceAt,hb,reduceCtorEq,false_and,or_false]at hx
    by_cases hne:row.es=[]
    ·rw[hne]at e1 k1
     obtain⟨e1,_⟩:=e1;subst e1
     simp only[Rep]
     rw[k1]at hx
     exact .inl ⟨trivial,trivial,_,_,hx⟩
    obtain⟨_,c,_,⟨_,j2,_⟩,j3,j4,j5,j6⟩:=k4.2.cells (.inl hne)
    have p:=aV_.rep ih j3 e1
    simp only[Rep]
    right
    have hown:S.ownsB b=true:=dL_.2 ⟨l,i,q1,hb⟩
    refine⟨b,0,i.cap,c,by rw[hx,p.2.1,k1],by rw[p.2.1,←k1];exact j5,?_,p.2.2 _ k3,.inl trivial,?_,by simpa[Sit.shut,Sit.still]using p.1⟩
    ·simp[Sit.shut,hown,j2]
    ·rw[p.2.1,j4,←k1,←k2]
     simpa using Nat.mul_le_mul_right _ j5
  | sub l k lo hi =>
   obtain⟨row,es,f,hl,hlen,e1,e2,_⟩:=e
   subst e2
   simp only[Rep]at hr
   obtain⟨_,i,q1,q2,q3⟩:=hr
   obtain⟨k1,k2,k3,k4⟩:=m.rows l i row q1 hl
   obtain⟨g1,g2,g3⟩:=q3 (by omega)
   have hesl:es.length=row.es.length:=aV_.len e1
   have hlen2:((es.take hi).drop lo).length=hi-lo:=by simp;omega
   by_cases hz:hi-lo=0
   ·have hnil:(es.take hi).drop lo=[]:=eq_nil_of_length_eq_zero (by omega)
    rw[hnil]
    simp only[Rep]
    rcases g3 with ⟨_,p,q⟩|⟨b,off,_,q,_⟩
    ·exact .inl ⟨trivial,trivial,_,_,q⟩
    ·rw[hz]at q;exact .inl ⟨trivial,trivial,_,_,q⟩
   ·have hne:row.es≠[]:=by intro q;rw[q]at hlen;simp at hlen;omega
    rcases g3 with ⟨hb,p,q⟩|⟨b,off,hb,q,hoff⟩
    ·rw[hb]at k4;exact absurd k4.1 hne
    ·rw[hb]at k4
     obtain⟨_,c,_,⟨_,j2,_⟩,j3,j4,j5,j6⟩:=k4.2.cells (.inl hne)
     rw[hoff (by omega)]at q
     have p:=aV_.rep ih j3 e1
     have p3:=p.2.2 _ k3
     have hd:=aj_.drop (aj_.take (k:=hi) p.1) (sz:=row.sz) (k:=lo) (fun x hx=>p3 x (mem_of_mem_take hx))
     simp only[Rep]
     right
     have hown:S.ownsB b=true:=dL_.2 ⟨l,i,q1,hb⟩
     refine⟨b,lo * i.sz,i.cap-lo,c,by rw[q,hlen2],by rw[hlen2];omega,?_,fun x hx=>p3 x (mem_of_mem_take (mem_of_mem_drop hx)),.inl trivial,?_,?_⟩
     ·simp[Sit.shut,hown,j2]
     ·rw[hlen2,j4,←k2,←Nat.add_mul]
      exact Nat.mul_le_mul_right _ (by omega)
     ·rw[k2];simpa[Sit.shut,Sit.still]using hd
  | _=>exact e.elim
def fi_(H:List Row)(a r:AV):Prop:=(a=r∧a.plain=true)∨∃n fs,Own H n a r fs
def cT_(H:List Row):List AV→List AV→Prop
 | [],rs=>rs=[]
 | a::as,rs=>∃r rs',rs=r::rs'∧fi_ H a r∧cT_ H as rs'
theorem cT_.rep{S:Sit}{H:List Row}{w:World}(m:ab_ S H w):∀{as rs:List AV} {xs:List Value},cT_ H as rs→ae_ S as xs→ae_ (S.shut w) rs xs
 | [],rs,xs,h,r=>by subst h;simpa[ae_]using r
 | a::as,rs,xs,h,r=>by
  obtain⟨d,ds,e,h1,h2⟩:=h
  subst e
  simp only[ae_]at r⊢
  obtain⟨v,q,e,r1,r2⟩:=r
  refine⟨v,q,e,?_,cT_.rep m h2 r2⟩
  rcases h1 with ⟨h1,hp⟩|⟨n,fs,h1⟩
  ·subst h1;exact Rep.up (hv_ m) _ _ (iv_ hp r1)
  ·exact Own.rep m n a v d fs r1 h1
theorem ab_.shut{S:Sit}{H:List Row}{w:World}(m:ab_ S H w):∀b c,(S.shut w).imm b=some c→∃E fr,w.heap[b]?=some (.cells c E fr):=by
 intro b c q
 simp only[Sit.shut]at q
 split at q
 ·split at q
  ·rename_i c' E fr hb
   simp at q;subst q
   exact⟨E,fr,hb⟩
  ·simp at q
 ·exact m.imm b c q
theorem cn_.shut{P:Program}{S:Sit}{H:List Row}{w:World}(m:ab_ S H w)(g:cn_ P S):cn_ P (S.shut w):=cn_.up (hv_ m) (show cn_ P S.still from g)
theorem u3_{P:Program}{f:FuncId}{as rs:List AV}{H:List Row}{v:Value}(hc:∀h,PureCall P f rs h (.val v))(ha:cT_ H as rs){K:AV→List Row→Prop}(hk:K (.val v) H):callSem P f as H K:=by
 intro S w vals hm hgl hr
 have hm0:ab_ (S.shut w) [] w:=⟨hm.shut,rfl,by simp[Sit.shut],by simp[Sit.shut]⟩
 refine(hc [] (fun r _=>r=.val v) rfl (S.shut w) w vals hm0 (hgl.shut hm) (ha.rep hm hr)).mono ?_
 rintro e w' ⟨v',av,S1,h1,rfl,st,hm1,rv,rfl⟩
 simp only[Rep]at rv
 subst rv
 have b:Below w.heap.size w w':=⟨st.os,st.tape,st.output,st.size,fun k hk=>st.block k hk (by rintro⟨l,i,q,_⟩;simp[Sit.shut]at q)⟩
 exact⟨v',.val v',S,H,rfl,a0_.below b,hm.below b,by simp[Rep],hk⟩
theorem pO_{S:Sit}{H:List Row}{w:World}(m:ab_ S H w){n:Nat}:∀{as rs:List AV} {xs:List Value},as.mapM (resolve H n)=some rs→ae_ S as xs→ae_ (S.shut w) rs xs :=
 fun h r=>d9_ (fun a x r' h1 h2=>ip_ m n a x r' h1 h2) r h
theorem frozen{P:Program}{f:FuncId}{as rs:List AV}{H:List Row}{v:Value}{n:Nat}(hc:∀h,PureCall P f rs h (.val v))(ha:as.mapM (resolve H n)=some rs):PureCall P f as H (.val v):=by
 intro K hk S w vals hm hgl hr
 have hm0:ab_ (S.shut w) [] w:=⟨hm.shut,rfl,by simp[Sit.shut],by simp[Sit.shut]⟩
 refine(hc [] (fun r _=>r=.val v) rfl (S.shut w) w vals hm0 (hgl.shut hm) (pO_ hm ha hr)).mono ?_
 rintro e w' ⟨v',av,S1,h1,rfl,st,hm1,rv,rfl⟩
 simp only[Rep]at rv
 subst rv
 have b:Below w.heap.size w w':=⟨st.os,st.tape,st.output,st.size,fun k hk=>st.block k hk (by rintro⟨l,i,q,_⟩;simp[Sit.shut]at q)⟩
 exact⟨v',.val v',S,H,rfl,a0_.below b,hm.below b,by simp[Rep],hk⟩
theorem rr_{H:List Row}{l:Nat}{E:Tag}{sz n:Nat}{cs:List AV}(hl:H[l]?=some ⟨E,sz,[cs]⟩)(hf:cs.all AV.flat=true)(hn:0<cs.length):resolve H (n+2) (.ptr l 1 0 0)=some (.iptr cs):=by
 have e:resolve H (n+2) (.ptr l 1 0 0)=match H[l]? with
  | some r=>if r.es.length=1 then(match r.es[0]? with|some e=>if 0<e.length then((e.drop 0).mapM (resolve H (n+1))).map .iptr else none|none=>none)else none
  | none=>none:=rfl
 rw[e,hl]
 simp only[List.length_cons,List.length_nil,Nat.zero_add,if_true,getElem?_cons_zero,hn,drop_zero]
 rw[ie_ hf];rfl
theorem yC_{H:List Row}{n:Nat}{f:FuncId}{p p' q q':List AV}(h1:p.mapM (resolve H n)=some p')(h2:q.mapM (resolve H n)=some q'):resolve H (n+1) (.fn f p q)=some (.fn f p' q'):=by
 have e:resolve H (n+1) (.fn f p q)=match p.mapM (resolve H n),q.mapM (resolve H n)with
  | some p',some q'=>some (.fn f p' q')
  | _,_=>none:=rfl
 rw[e,h1,h2]
theorem fC_{H:List Row}{n:Nat}{a r:AV}(h:resolve H n a=some r):[a].mapM (resolve H n)=some [r]:=by
 rw[mapM_cons,h];rfl
theorem gJ_{H:List Row}{n:Nat}{a r:AV}{as rs:List AV}(h:resolve H n a=some r)(h2:as.mapM (resolve H n)=some rs):(a::as).mapM (resolve H n)=some (r::rs):=by
 rw[mapM_cons,h,h2];rfl
structure h1_(base:Nat)(H:List Row)(a r:AV):Prop where
 out:∃n fs,Own H n a r fs∧fs.Nodup∧∀l∈fs,base≤l
def eV_(P:Program)(f:FuncId)(args:List AV)(r:AV)(Q:AV→Prop):Prop :=
 ∀(h:List Row) (K:AV→List Row→Prop),(∀av hn,h1_ h.length (h++hn) av r→Q av→K av (h++hn))→callSem P f args h K
theorem aL_.inner{H:List Row}{R:AV→AV→List Nat→Prop}(hone:∀a r f,R a r f→∀l∈f,∃row m es g,H[l]?=some row∧aV_ (Own H m) row.es es g∧∀x∈g,x∈f):∀{as rs:List AV} {fs:List Nat},aL_ R as rs fs→∀l∈fs,∃row m es g,H[l]?=some row∧aV_ (Own H m) row.es es g∧∀x∈g,x∈fs
 | [],rs,fs,h,l,hl=>by obtain⟨_,h⟩:=h;subst h;simp at hl
 | a::as,rs,fs,h,l,hl=>by
  obtain⟨d,ds',f,f',e1,e2,h1,h2⟩:=h
  subst e2
  rcases mem_append.1 hl with q|q
  ·obtain⟨row,m,es,g,q1,q2,q3⟩:=hone a d f h1 l q
   exact⟨row,m,es,g,q1,q2,fun x hx=>mem_append_left _ (q3 x hx)⟩
  ·obtain⟨row,m,es,g,q1,q2,q3⟩:=aL_.inner hone h2 l q
   exact⟨row,m,es,g,q1,q2,fun x hx=>mem_append_right _ (q3 x hx)⟩
theorem aV_.inner{H:List Row}{R:AV→AV→List Nat→Prop}(hone:∀a r f,R a r f→∀l∈f,∃row m es g,H[l]?=some row∧aV_ (Own H m) row.es es g∧∀x∈g,x∈f):∀{as rs:List (List AV)} {fs:List Nat},aV_ R as rs fs→∀l∈fs,∃row m es g,H[l]?=some row∧aV_ (Own H m) row.es es g∧∀x∈g,x∈fs
 | [],rs,fs,h,l,hl=>by obtain⟨_,h⟩:=h;subst h;simp at hl
 | a::as,rs,fs,h,l,hl=>by
  obtain⟨d,ds',f,f',e1,e2,h1,h2⟩:=h
  subst e2
  rcases mem_append.1 hl with q|q
  ·obtain⟨row,m,es,g,q1,q2,q3⟩:=aL_.inner hone h1 l q
   exact⟨row,m,es,g,q1,q2,fun x hx=>mem_append_left _ (q3 x hx)⟩
  ·obtain⟨row,m,es,g,q1,q2,q3⟩:=aV_.inner hone h2 l q
   exact⟨row,m,es,g,q1,q2,fun x hx=>mem_append_right _ (q3 x hx)⟩
theorem Own.inner{H:List Row}:∀{n:Nat} {a r:AV} {fs:List Nat},Own H n a r fs→∀l∈fs,∃row m es g,H[l]?=some row∧aV_ (Own H m) row.es es g∧∀x∈g,x∈fs
 | 0,_,_,_,h=>h.elim
 | n+1,a,r,fs,h=>by
  intro l hl
  cases a with
  | val v=>obtain⟨h,_⟩:=h;subst h;simp at hl
  | own l' k =>
   obtain⟨row,es,f,h1,h2,h3,h4,h5⟩:=h
   subst h5
   rcases mem_cons.1 hl with q|q
   ·subst q;exact⟨row,n,es,f,h1,h3,fun x hx=>mem_cons_of_mem _ hx⟩
   ·obtain⟨row',m,es',g,q1,q2,q3⟩:=aV_.inner (fun a r f ho=>Own.inner ho) h3 l q
    exact⟨row',m,es',g,q1,q2,fun x hx=>mem_cons_of_mem _ (q3 x hx)⟩
  | sub l' k lo hi =>
   obtain⟨row,es,f,h1,h2,h3,h4,h5⟩:=h
   subst h5
   rcases mem_cons.1 hl with q|q
   ·subst q;exact⟨row,n,es,f,h1,h3,fun x hx=>mem_cons_of_mem _ hx⟩
   ·obtain⟨row',m,es',g,q1,q2,q3⟩:=aV_.inner (fun a r f ho=>Own.inner ho) h3 l q
    exact⟨row',m,es',g,q1,q2,fun x hx=>mem_cons_of_mem _ (q3 x hx)⟩
  | agg cs =>
   obtain⟨ds,h1,h2⟩:=h
   exact aL_.inner (fun a r f ho=>Own.inner ho) h1 l hl
  | tup cs =>
   obtain⟨ds,h1,h2⟩:=h
   exact aL_.inner (fun a r f ho=>Own.inner ho) h1 l hl
  | _=>exact h.elim
theorem aL_.trans{S S':Sit}{R:AV→AV→List Nat→Prop}:∀{as rs:List AV} {fs:List Nat} {xs:List Value},(∀a x r f,(∀l∈f,l∈fs)→R a r f→Rep S a x→Rep S' a x)→aL_ R as rs fs→ae_ S as xs→ae_ S' as xs
 | [],rs,fs,xs,_,h,r=>by simpa[ae_]using r
 | a::as,rs,fs,xs,hone,h,r=>by
  obtain⟨d,ds',f,f',e1,e2,h1,h2⟩:=h
  subst e2
  simp only[ae_]at r⊢
  obtain⟨v,q,e,r2,r3⟩:=r
  exact⟨v,q,e,hone a v d f (fun l hl=>mem_append_left _ hl) h1 r2,aL_.trans (fun a x r g hg=>hone a x r g fun l hl=>mem_append_right _ (hg l hl)) h2 r3⟩
theorem aL_.transPre{S S':Sit}{R:AV→AV→List Nat→Prop}:∀{as rs:List AV} {fs:List Nat} {xs:List Value},(∀a x r f,(∀l∈f,l∈fs)→R a r f→Rep S a x→Rep S' a x)→aL_ R as rs fs→an_ S as xs→an_ S' as xs
 | [],rs,fs,xs,_,h,r=>by simp[an_]
 | a::as,rs,fs,xs,hone,h,r=>by
  obtain⟨d,ds',f,f',e1,e2,h1,h2⟩:=h
  subst e2
  simp only[an_]at r⊢
  obtain⟨v,q,e,r2,r3⟩:=r
  exact⟨v,q,e,hone a v d f (fun l hl=>mem_append_left _ hl) h1 r2,aL_.transPre (fun a x r g hg=>hone a x r g fun l hl=>mem_append_right _ (hg l hl)) h2 r3⟩
theorem aV_.trans{S S':Sit}{R:AV→AV→List Nat→Prop}:∀{as rs:List (List AV)} {fs:List Nat} {xs:List Value},(∀a x r f,(∀l∈f,l∈fs)→R a r f→Rep S a x→Rep S' a x)→aV_ R as rs fs→aj_ S as xs→aj_ S' as xs
 | [],rs,fs,xs,_,h,r=>by simp[aj_]
 | a::as,rs,fs,xs,hone,h,r=>by
  obtain⟨d,ds',f,f',e1,e2,h1,h2⟩:=h
  subst e2
  simp only[aj_]at r⊢
  exact⟨aL_.transPre (fun a x r g hg=>hone a x r g fun l hl=>mem_append_left _ (hg l hl)) h1 r.1,aV_.trans (fun a x r g hg=>hone a x r g fun l hl=>mem_append_right _ (hg l hl)) h2 r.2⟩
theorem Own.trans{S S':Sit}{H:List Row}:∀{n:Nat} {a r:AV} {fs:List Nat} {x:Value},(∀l∈fs,S'.rows[l]?=S.rows[l]?)→Own H n a r fs→Rep S a x→Rep S' a x
 | 0,_,_,_,_,_,h,_=>h.elim
 | n+1,a,r,fs,x,hk,h,hr=>by
  cases a with
  | val v=>simpa[Rep]using hr
  | own l k =>
   obtain⟨row,es,f,h1,h2,h3,h4,h5⟩:=h
   subst h5
   simp only[Rep]at hr⊢
   rw[hk l (by simp)]
   exact hr
  | sub l k lo hi =>
   obtain⟨row,es,f,h1,h2,h3,h4,h5⟩:=h
   subst h5
   simp only[Rep]at hr⊢
   rw[hk l (by simp)]
   exact hr
  | agg cs =>
   obtain⟨ds,h1,h2⟩:=h
   simp only[Rep]at hr⊢
   obtain⟨vs,e,hr⟩:=hr
   exact⟨vs,e,aL_.trans (fun a x r g hg ho hx=>Own.trans (fun l hl=>hk l (hg l hl)) ho hx) h1 hr⟩
  | tup cs =>
   obtain⟨ds,h1,h2⟩:=h
   simp only[Rep]at hr⊢
   obtain⟨vs,e,hr⟩:=hr
   exact⟨vs,e,aL_.trans (fun a x r g hg ho hx=>Own.trans (fun l hl=>hk l (hg l hl)) ho hx) h1 hr⟩
  | _=>exact h.elim
def Row.junk(r:Row):Row:=match r.E with|.pmap _ _|.iter _ _ _ _=>⟨.junk,r.sz,r.es⟩|_=>r
theorem Row.junk_es(r:Row):r.junk.es=r.es:=by unfold Row.junk;split<;>rfl
theorem Row.junk_sz(r:Row):r.junk.sz=r.sz:=by unfold Row.junk;split<;>rfl
theorem Own.junk{H:List Row}:∀{n:Nat} {a r:AV} {fs:List Nat},Own H n a r fs→Own (H.map Row.junk) n a r fs
 | 0,_,_,_,h=>h.elim
 | n+1,a,r,fs,h=>by
  cases a with
  | val v=>exact h
  | own l k =>
   obtain⟨row,es,f,h1,h2,h3,h4,h5⟩:=h
   exact⟨row.junk,es,f,by rw[getElem?_map,h1];rfl,by rw[Row.junk_es];exact h2,by rw[Row.junk_es];exact aV_.mono (fun a r g _ ho=>Own.junk ho) h3,by rw[Row.junk_sz];exact h4,h5⟩
  | sub l k lo hi =>
   obtain⟨row,es,f,h1,h2,h3,h4,h5⟩:=h
   exact⟨row.junk,es,f,by rw[getElem?_map,h1];rfl,by rw[Row.junk_es];exact h2,by rw[Row.junk_es];exact aV_.mono (fun a r g _ ho=>Own.junk ho) h3,by rw[Row.junk_sz];exact h4,h5⟩
  | agg cs =>
   obtain⟨ds,h1,h2⟩:=h
   exact⟨ds,aL_.mono (fun a r g _ ho=>Own.junk ho) h1,h2⟩
  | tup cs =>
   obtain⟨ds,h1,h2⟩:=h
   exact⟨ds,aL_.mono (fun a r g _ ho=>Own.junk ho) h1,h2⟩
  | _=>exact h.elim
theorem ab_.junk{S:Sit}{H:List Row}{w:World}(m:ab_ S H w):ab_ S (H.map Row.junk) w:=by
 refine⟨m.imm,by simp[m.len],fun l i r h1 h2=>?_,m.one⟩
 rw[getElem?_map,Option.map_eq_some_iff]at h2
 obtain⟨r0,h2,rfl⟩:=h2
 obtain⟨k1,k2,k3,k4⟩:=m.rows l i r0 h1 h2
 refine⟨by rw[Row.junk_es];exact k1,by rw[Row.junk_sz];exact k2,by rw[Row.junk_es,Row.junk_sz];exact k3,?_⟩
 cases hb:i.blk with
 | none=>rw[hb]at k4;rw[Row.junk_es];exact k4
 | some b =>
  rw[hb]at k4
  refine⟨k4.1,?_⟩
  have hlt:=k4.2.lt
  have k5:=k4.2
  unfold Row.junk
  split
  ·rename_i hE
   obtain⟨q1,q2,_⟩:r0.es=[]∧r0.sz=0∧True:=by
    unfold ax_ at k5;rw[hE]at k5;exact⟨k5.1,k5.2.1,trivial⟩
   exact⟨q1,q2,hlt⟩
  ·rename_i hE
   obtain⟨q1,q2,_⟩:r0.es=[]∧r0.sz=0∧True:=by
    unfold ax_ at k5;rw[hE]at k5;exact⟨k5.1,k5.2.1,trivial⟩
   exact⟨q1,q2,hlt⟩
  ·exact k5
theorem p6_{P:Program}{f:FuncId}{fn:Func}{lf:LF}{args:List AV}{r:AV}{Q:AV→Prop}(hmx:P.follows .mixedOrders=true)(hf:P.funcs[f]?=some fn)(hl:aC_ P fn lf)(hn:args.length=lf.np)
 (hw:∀h:List Row,Ex P lf.N (cD_ lf.res fun av h'=>∃hn,h'=h++hn∧h1_ h.length (h++hn) av r∧Q av) lf.body [] (gD_ args) h):eV_ P f args r Q:=by
 intro h K hk
 refine(aO_ hmx hf hl (bA_ hn (hw h))).mono ?_
 rintro a h' ⟨hn,rfl,h1,h2⟩
 exact hk a hn h1 h2
def txt(l:List UInt8):ByteArray:=⟨l.toArray⟩
theorem kk_(s:ByteArray):s=txt s.data.toList:=by cases s;rfl
theorem rx_(l:List UInt8):(⟨l.toArray⟩:ByteArray)=txt l:=rfl
theorem bb_(l:List UInt8):(txt l).size=l.length:=by simp[txt,ByteArray.size]
theorem bg_(l:List UInt8):(txt l).data.toList=l:=by simp[txt]
theorem rN_(l:List UInt8):(txt l).toList=l:=by rw[dU_,bg_]
theorem rb_(a b:List UInt8):(txt a=txt b)=(a=b):=by
 apply propext;constructor
 ·intro h;have:=congrArg (fun x=>x.data.toList) h;simpa[bg_]using this
 ·intro h;rw[h]
theorem xk_(l:List UInt8)(i:Nat):(txt l)[i]?=l[i]?:=by
 by_cases h:i<l.length
 ·rw[getElem?_pos (txt l) i (by rw[bb_];exact h),getElem?_eq_getElem h]
  congr 1
 ·rw[getElem?_neg (txt l) i (by rw[bb_];exact h),getElem?_eq_none (by omega)]
theorem qD_(l:List UInt8)(i j:Nat):(txt l).extract i j=txt ((l.take j).drop i):=by
 rw[kk_ ((txt l).extract i j)]
 congr 1
 rw[ByteArray.data_extract]
 simp[txt,extract_eq_drop_take',]
theorem xv_(a b:List UInt8):txt a++txt b=txt (a++b):=by
 rw[kk_ (txt a++txt b)]
 congr 1
theorem lk_(q:Bool)(a b:List UInt8)(h:a.length+b.length≤9223372036854775807):bd_ .add q (.val (.string (txt a))) (.val (.string (txt b)))=some (.val (.string (txt (a++b)))):=by
 simp only[bd_,binOp,Op.stringOp,bb_]
 have h':¬ (((a.length+b.length:Nat):Int)>IntKind.i64.max):=by
  have:IntKind.i64.max=9223372036854775807:=by decide
  rw[this];omega
 rw[if_neg h',xv_]
 rfl
theorem w7_(q:Bool)(a b:Int)(hb:b≠0):bd_ .quo q (.val (.int .i64 a)) (.val (.int .i64 b))=some (.val (.int .i64 (IntKind.i64.wrap (a.tdiv b)))):=by
 have:bd_ .quo q (.val (.int .i64 a)) (.val (.int .i64 b))=ey_ (Op.intDiv .quo .i64 a b):=rfl
 rw[this,Op.intDiv,if_neg hb];rfl
theorem xG_(q:Bool)(a b:Int)(hb:b≠0):bd_ .rem q (.val (.int .i64 a)) (.val (.int .i64 b))=some (.val (.int .i64 (a.tmod b))):=by
 have:bd_ .rem q (.val (.int .i64 a)) (.val (.int .i64 b))=ey_ (Op.intDiv .rem .i64 a b):=rfl
 rw[this,Op.intDiv,if_neg hb];rfl
theorem tZ_(q:Bool)(a b:Int):bd_ .sub q (.val (.int .u8 a)) (.val (.int .u8 b))=some (.val (.int .u8 (IntKind.u8.wrap (a-b)))):=rfl
theorem sm_{n:Int}(h1:0≤n)(h2:n≤255):IntKind.u8.wrap n=n:=by
 rw[IntKind.wrap_u8];omega
theorem t7_{a b:Int}(h:0≤a):a.tdiv b=a / b:=Int.tdiv_eq_ediv_of_nonneg h
theorem vm_{a b:Int}(h:0≤a):a.tmod b=a % b:=Int.tmod_eq_emod_of_nonneg h
theorem mm_(b:UInt8):b.toNat<256:=b.toNat_lt
theorem oQ_(b c:UInt8):(((b.toNat:Nat):Int)=((c.toNat:Nat):Int))=(b=c):=by
 apply propext;constructor
 ·intro h;exact UInt8.toNat_inj.1 (by omega)
 ·intro h;rw[h]
theorem nV_(b:UInt8):fj_ [.val (.int .u8 b.toNat)]=some b:=by
 simp[fj_]
theorem sw_{n:Int}(h1:0≤n)(h2:n≤255):fj_ [.val (.int .u8 n)]=some (UInt8.ofNat n.toNat):=by
 simp only[fj_]
 have:((UInt8.ofNat n.toNat).toNat:Int)=n:=by
  rw[UInt8.toNat_ofNat'];omega
 rw[if_pos this]
theorem or_(l:List UInt8)(i:Nat):(aY_ l)[i]?=(l[i]?).map fun b=>[.val (.int .u8 b.toNat)]:=by simp[aY_]
theorem fA_(l:List UInt8):(aY_ l).length=l.length:=by simp[aY_]
theorem hf_:∀(l:List UInt8),(aY_ l).mapM fj_=some l
 | []=>rfl
 | b::l=>by
  have:=hf_ l
  simp only[aY_,map_cons,mapM_cons]at this⊢
  rw[nV_]
  simp[this]
theorem dr_{α:Type}(l:List α)(k:Nat)(h:k<l.length):l.drop k=l[k]::l.drop (k+1):=drop_eq_getElem_cons h
theorem xc_{α:Type}{a b:Nat}{x y:α}(h:a≤b):(if a≤b then x else y)=x:=if_pos h
theorem xw_{α:Type}{a b:Int}{x y:α}(h:a≤b):(if a≤b then x else y)=x:=if_pos h
theorem t4_{α:Type}{a b c d:Nat}{x y:α}(h:a≤b)(h2:c≤d):(if a≤b∧c≤d then x else y)=x:=if_pos ⟨h,h2⟩
attribute [go_sem] getElem_cons_zero getElem_cons_succ
theorem xH_{p:List AV→Prop}(x:List AV):(∀e∈[x],p e)=p x:=by simp
theorem yB_:List.range 1=[0]:=rfl
theorem yp_:List.range 2=[0,1]:=rfl
theorem y5_:List.range 3=[0,1,2]:=rfl
section
variable {P : Program} {N : Nat} {Q : dc_} {t : Nat → AV} {h : List Row}
theorem iC_{b:LC}{id:Nat}{k:List Fr}(I:Nat→(Nat→AV)→List Row→Prop)(n:Nat)(E:(Nat→AV)→List Row→Prop)(h0:I n t h)
 (hr:∀(J:Nat→(Nat→AV)→List Row→Prop),(∀m t h,I m t h→J m t h)→∀(k':List Fr),(∀t h,E t h→ExK P N Q k' .normal t h)→∀n t h,I n t h→Ex P N Q b (.loop J n::.blk id::k') t h)
 (hx:∀t h,E t h→ExK P N Q k .normal t h):Ex P N Q (.loop b) (.blk id::k) t h :=
 a4_ I n h0 fun J hJ n t h hi=>hr J hJ k hx n t h hi
end
theorem xT_:List.range 0=[]:=rfl
attribute [go_sem] xT_ dy_ xH_ yB_ yp_ y5_ AV.flat mapM_cons
attribute [go_sem] xc_ xw_ t4_ rx_ bb_ bg_ rN_ rb_ xk_ qD_ lk_ w7_ xG_ ng_ tZ_ sm_ t7_ vm_ nV_ sw_ or_ fA_ yL_
theorem lO_(S:Sit):∀vs:List Value,ae_ S (vs.map AV.val) vs
 | []=>by simp[ae_]
 | v::vs=>by simp only[map_cons,ae_];exact⟨v,vs,rfl,by simp[Rep],lO_ S vs⟩
theorem tD_{P:Program}{f:FuncId}{vals us:List Value}
 (hc:∀w,(∀p∈pt_,(P.globalNamed p.1).isSome=true→w.var? P p.1=some p.2)→Calls P f vals.toArray w fun e w'=>e=.returned (.tuple us.toArray)∧RowKit.Below w.heap.size w w') (h:List Row):PureCall P f (vals.map AV.val) h (.tup (us.map AV.val)):=by
 intro K hk S w xs hm hgl hr
 have e:=fN_ hr
 have e':xs=vals.toArray:=by cases xs;simp at e;rw[e]
 subst e'
 refine(hc w ?_).mono ?_
 ·intro p hp hs
  obtain⟨g,hg⟩:=Option.isSome_iff_exists.1 hs
  obtain⟨E,fr,hw⟩:=hm.imm g p.2 (hgl.1 p hp g hg)
  simp only[World.var?,hg,Option.bind_some,hw]
 ·rintro e w' ⟨rfl,b⟩
  exact⟨_,.tup (us.map AV.val),S,h,rfl,a0_.below b,hm.below b,by simp only[Rep];exact⟨_,rfl,by simpa using lO_ S us⟩,hk⟩
def AV.solid:AV→Bool
 | .val _=>true
 | .tup cs=>cs.all fun|.val _=>true|_=>false
 | _=>false
theorem mq_{S S':Sit}:∀{cs:List AV} {xs:List Value},(cs.all fun|.val _=>true|_=>false)=true→ae_ S cs xs→ae_ S' cs xs
 | [],xs,_,r=>by simpa[ae_]using r
 | c::cs,xs,h,r=>by
  simp only[all_cons,Bool.and_eq_true]at h
  simp only[ae_]at r⊢
  obtain⟨v,q,e,r1,r2⟩:=r
  refine⟨v,q,e,?_,mq_ h.2 r2⟩
  cases c with
  | val u=>simpa[Rep]using r1
  | _=>simp at h
theorem jP_{S S':Sit}{a:AV}{x:Value}(h:a.solid=true)(r:Rep S a x):Rep S' a x:=by
 cases a with
 | val v=>simpa[Rep]using r
 | tup cs =>
  simp only[Rep]at r⊢
  obtain⟨vs,e,r⟩:=r
  exact⟨vs,e,mq_ h r⟩
 | _=>simp[AV.solid]at h
theorem frozenR{P:Program}{f:FuncId}{as rs:List AV}{H:List Row}{r:AV}{n:Nat}(hs:r.solid=true)(hc:∀h,PureCall P f rs h r)(ha:as.mapM (resolve H n)=some rs):PureCall P f as H r:=by
 intro K hk S w vals hm hgl hr
 have hm0:ab_ (S.shut w) [] w:=⟨hm.shut,rfl,by simp[Sit.shut],by simp[Sit.shut]⟩
 refine(hc [] (fun q _=>q=r) rfl (S.shut w) w vals hm0 (hgl.shut hm) (pO_ hm ha hr)).mono ?_
 rintro e w' ⟨v',av,S1,h1,rfl,st,hm1,rv,rfl⟩
 have b:Below w.heap.size w w':=⟨st.os,st.tape,st.output,st.size,fun k hk=>st.block k hk (by rintro⟨l,i,q,_⟩;simp[Sit.shut]at q)⟩
 exact⟨v',_,S,H,rfl,a0_.below b,hm.below b,jP_ hs rv,hk⟩
theorem gk_{H:List Row}{l k n:Nat}{r:Row}(hl:H[l]?=some r)(hk:r.es.length=k)(hf:∀e∈r.es,e.all AV.flat=true):resolve H (n+2) (.own l k)=some (.list 0 r.sz r.es):=by
 have e:resolve H (n+2) (.own l k)=match H[l]? with
  | some r=>if r.es.length=k then(r.es.mapM fun(e:List AV)=>e.mapM (resolve H (n+1))).map (.list 0 r.sz)else none
  | none=>none:=rfl
 rw[e,hl]
 simp only[hk,if_true]
 rw[ho_ hf]
 rfl
theorem px_(g:FuncId)(caps:List AV)(h:caps.all AV.flat=true):(AV.fn g [] caps).plain=true:=by simp only[AV.plain,h];rfl
theorem mU_(tk sz:Nat)(es:List (List AV)):(AV.list tk sz es).plain=true:=rfl
theorem xt_{p:List AV→Prop}(x y:List AV):(∀e∈[x,y],p e)=(p x∧p y):=by simp
attribute [go_sem] xt_
def gM_(zs:List Int):List (List AV):=zs.map fun z=>[.val (.int .i64 z)]
theorem so_(zs:List Int):(gM_ zs).length=zs.length:=by simp[gM_]
theorem sc_(a b:List Int):gM_ a++gM_ b=gM_ (a++b):=by simp[gM_]
theorem Own.val{H:List Row}{n:Nat}{a:AV}{v:Value}{fs:List Nat}(h:Own H n a (.val v) fs):a=.val v∧fs=[]:=by
 cases n with
 | zero=>exact h.elim
 | succ n =>
  cases a with
  | val u =>
   obtain⟨h1,h2|⟨_,_,h2⟩⟩:=h
   ·injection h2 with q;subst q;exact⟨rfl,h1⟩
   ·cases h2
  | own l k=>obtain⟨_,_,_,_,_,_,q,_⟩:=h;cases q
  | sub l k lo hi=>obtain⟨_,_,_,_,_,_,q,_⟩:=h;cases q
  | agg cs=>obtain⟨_,_,q⟩:=h;cases q
  | tup cs=>obtain⟨_,_,q⟩:=h;cases q
  | _=>exact h.elim
theorem uB_(out:List Int)(x:Int):gM_ out++[[AV.val (Value.int .i64 x)]]=gM_ (out++[x]):=sc_ out [x]
theorem uN_{p:List AV→Prop}:(∀e∈([]:List (List AV)),p e)=True:=by simp
attribute [go_sem] so_ uB_ uN_
inductive Sch where
 | int
 | str
 | bool
 | list (fs:List Sch)
def cm_(g:List AV→Int→List AV×Int):List (List AV)→Int→List (List AV)×Int
 | [],k=>([],k)
 | e::es,k=>((g e k).1::(cm_ g es (g e k).2).1,(cm_ g es (g e k).2).2)
def fu_(g:List AV→Int→Int):List (List AV)→Int→Int
 | [],k=>k
 | e::es,k=>if g e k<0 then -1 else fu_ g es (g e k)
def ed_(g:List AV→Nat):List (List AV)→Nat
 | []=>0
 | e::es=>g e+ed_ g es
section
variable (mt : Int → ByteArray)
mutual
def bB_:Sch→AV→Int→AV×Int
 | .int,_,k=>(.val (.int .i64 k),k+1)
 | .str,_,k=>(.val (.string (mt k)),k+1)
 | .bool,_,k=>(.val (.bool (decide (k % 3=0))),k+1)
 | .list fs,.list tk sz es,k=>(.list tk sz (cm_ (ds_ fs) es k).1,(cm_ (ds_ fs) es k).2)
 | .list _,a,k=>(a,k)
def ds_:List Sch→List AV→Int→List AV×Int
 | s::ss,c::cs,k=>((bB_ s c k).1::(ds_ ss cs (bB_ s c k).2).1,(ds_ ss cs (bB_ s c k).2).2)
 | _,cs,k=>(cs,k)
end
mutual
def eb_:Sch→AV→Int→Int
 | .int,.val (.int .i64 n),k=>if n=k then k+1 else -1
 | .str,.val (.string s),k=>if s=mt k then k+1 else -1
 | .bool,.val (.bool b),k=>if b=decide (k % 3=0)then k+1 else -1
 | .list fs,.list _ _ es,k=>fu_ (iU_ fs) es k
 | _,_,_ => -1
def iU_:List Sch→List AV→Int→Int
 | s::ss,c::cs,k=>if eb_ s c k<0 then -1 else iU_ ss cs (eb_ s c k)
 | _,_,k=>k
end
end
mutual
def bw_:Sch→AV→Nat
 | .list fs,.list _ _ es=>ed_ (eo_ fs) es
 | .list _,_=>0
 | _,_=>1
def eo_:List Sch→List AV→Nat
 | s::ss,c::cs=>bw_ s c+eo_ ss cs
 | _,_=>0
end
mutual
def cZ_:Sch→AV→Prop
 | .int,a=>∃n,a=.val (.int .i64 n)
 | .str,a=>∃s,a=.val (.string s)
 | .bool,a=>∃b,a=.val (.bool b)
 | .list fs,a=>∃es,a=.list 0 fs.length es∧∀e∈es,fh_ fs e
def fh_:List Sch→List AV→Prop
 | [],cs=>cs=[]
 | s::ss,cs=>∃c r,cs=c::r∧cZ_ s c∧fh_ ss r
end
variable {mt : Int → ByteArray}
theorem r1_{g:List AV→Int→List AV×Int}{c:List AV→Nat}{xs:List (List AV)}(hg:∀x∈xs,∀k,(g x k).2=k+c x)(k:Int):(cm_ g xs k).2=k+ed_ c xs:=by
 induction xs generalizing k with
 | nil=>simp[cm_,ed_]
 | cons y xs ih =>
  rw[cm_,ed_]
  simp only
  rw[ih (fun x hx=>hg x (by simp[hx])),hg y (by simp)]
  omega
theorem uG_{g:List AV→Int→List AV×Int}{d:List AV→Int→Int}{c:List AV→Nat}{xs:List (List AV)}(hg:∀x∈xs,∀k,(g x k).2=k+c x)(hd:∀x∈xs,∀k,0≤k→d (g x k).1 k=(g x k).2)(k:Int)(hk:0≤k):fu_ d (cm_ g xs k).1 k=(cm_ g xs k).2:=by
 induction xs generalizing k with
 | nil=>rfl
 | cons y xs ih =>
  rw[cm_]
  simp only[fu_]
  rw[hd y (by simp) k hk,hg y (by simp),if_neg (by omega)]
  exact ih (fun x hx=>hg x (by simp[hx])) (fun x hx=>hd x (by simp[hx])) _ (by omega)
mutual
theorem mh_:∀(s:Sch) (a:AV) (k:Int),(bB_ mt s a k).2=k+bw_ s a
 | .int,a,k=>by simp[bB_,bw_]
 | .str,a,k=>by simp[bB_,bw_]
 | .bool,a,k=>by simp[bB_,bw_]
 | .list fs,.list tk sz es,k=>by
  simp only[bB_,bw_]
  exact r1_ (fun x _ k=>lE_ fs x k) k
 | .list fs,.val v,k=>by simp[bB_,bw_]
 | .list fs,.iptr cs,k=>by simp[bB_,bw_]
 | .list fs,.ptr _ _ _ _,k=>by simp[bB_,bw_]
 | .list fs,.own _ _,k=>by simp[bB_,bw_]
 | .list fs,.sub _ _ _ _,k=>by simp[bB_,bw_]
 | .list fs,.mp _,k=>by simp[bB_,bw_]
 | .list fs,.agg _,k=>by simp[bB_,bw_]
 | .list fs,.tup _,k=>by simp[bB_,bw_]
 | .list fs,.fn _ _ _,k=>by simp[bB_,bw_]
 | .list fs,.undef,k=>by simp[bB_,bw_]
theorem lE_:∀(fs:List Sch) (cs:List AV) (k:Int),(ds_ mt fs cs k).2=k+eo_ fs cs
 | [],cs,k=>by simp[ds_,eo_]
 | s::ss,[],k=>by simp[ds_,eo_]
 | s::ss,c::cs,k=>by
  simp only[ds_,eo_]
  rw[lE_ ss cs,mh_ s c];omega
end
mutual
theorem tm_:∀(s:Sch) (a:AV) (k:Int),cZ_ s a→0≤k→eb_ mt s (bB_ mt s a k).1 k=(bB_ mt s a k).2
 | .int,a,k,_,hk=>by simp[bB_,eb_]
 | .str,a,k,_,hk=>by simp[bB_,eb_]
 | .bool,a,k,_,hk=>by simp[bB_,eb_]
 | .list fs,a,k,h,hk=>by
  unfold cZ_ at h
  obtain⟨es,rfl,h⟩:=h
  simp only[bB_,eb_]
  exact uG_ (fun x _ k=>lE_ fs x k) (fun x hx k hk=>q4_ fs x k (h x hx) hk) k hk
theorem q4_:∀(fs:List Sch) (cs:List AV) (k:Int),fh_ fs cs→0≤k→iU_ mt fs (ds_ mt fs cs k).1 k=(ds_ mt fs cs k).2
 | [],cs,k,_,hk=>by simp[ds_,iU_]
 | s::ss,cs,k,h,hk=>by
  unfold fh_ at h
  obtain⟨c,r,rfl,h1,h2⟩:=h
  simp only[ds_,iU_]
  rw[tm_ s c k h1 hk,mh_,if_neg (by omega)]
  exact q4_ ss r _ h2 (by omega)
end
mutual
theorem s7_:∀(s:Sch) (a:AV) (k:Int),cZ_ s a→cZ_ s (bB_ mt s a k).1
 | .int,a,k,_=>by simp[bB_,cZ_]
 | .str,a,k,_=>by simp[bB_,cZ_]
 | .bool,a,k,_=>by simp[bB_,cZ_]
 | .list fs,a,k,h=>by
  unfold cZ_ at h
  obtain⟨es,rfl,h⟩:=h
  simp only[bB_,cZ_]
  exact⟨_,rfl,mK_ (fun x hx k=>rf_ fs x k (h x hx)) k⟩
theorem rf_:∀(fs:List Sch) (cs:List AV) (k:Int),fh_ fs cs→fh_ fs (ds_ mt fs cs k).1
 | [],cs,k,h=>by unfold fh_ at h;simp[ds_,fh_,h]
 | s::ss,cs,k,h=>by
  unfold fh_ at h
  obtain⟨c,r,rfl,h1,h2⟩:=h
  simp only[ds_]
  unfold fh_
  exact⟨_,_,rfl,s7_ s c k h1,rf_ ss r _ h2⟩
theorem mK_{g:List AV→Int→List AV×Int}{p:List AV→Prop}:∀{xs:List (List AV)},(∀x∈xs,∀k,p (g x k).1)→∀k:Int,∀e∈(cm_ g xs k).1,p e
 | [],_,k,e,he=>by simp[cm_]at he
 | x::xs,h,k,e,he=>by
  simp only[cm_,mem_cons]at he
  rcases he with q|q
  ·subst q;exact h x (by simp) k
  ·exact mK_ (fun y hy=>h y (by simp[hy])) _ e q
end
mutual
theorem r8_:∀(s:Sch) (a:AV) (k:Int),cZ_ s a→bw_ s (bB_ mt s a k).1=bw_ s a
 | .int,a,k,_=>by simp[bw_]
 | .str,a,k,_=>by simp[bw_]
 | .bool,a,k,_=>by simp[bw_]
 | .list fs,a,k,h=>by
  unfold cZ_ at h
  obtain⟨es,rfl,h⟩:=h
  simp only[bB_,bw_]
  exact l3_ (fun x hx k=>pT_ fs x k (h x hx)) k
theorem pT_:∀(fs:List Sch) (cs:List AV) (k:Int),fh_ fs cs→eo_ fs (ds_ mt fs cs k).1=eo_ fs cs
 | [],cs,k,h=>by simp[eo_]
 | s::ss,cs,k,h=>by
  unfold fh_ at h
  obtain⟨c,r,rfl,h1,h2⟩:=h
  simp only[ds_,eo_]
  rw[r8_ s c k h1,pT_ ss r _ h2]
theorem l3_{g:List AV→Int→List AV×Int}{c:List AV→Nat}:∀{xs:List (List AV)},(∀x∈xs,∀k,c (g x k).1=c x)→∀k:Int,ed_ c (cm_ g xs k).1=ed_ c xs
 | [],_,k=>rfl
 | x::xs,h,k=>by
  simp only[cm_,ed_]
  rw[h x (by simp),l3_ (fun y hy=>h y (by simp[hy]))]
end
theorem Own.lt{H:List Row}{n:Nat}{a r:AV}{fs:List Nat}(h:Own H n a r fs):∀l∈fs,l<H.length:=fun l hl=>by
 obtain⟨row,m,es,g,h1,_⟩:=h.inner l hl
 exact(List.getElem?_eq_some_iff.1 h1).1
theorem aL_.len{R:AV→AV→List Nat→Prop}:∀{cs ds:List AV} {fs:List Nat},aL_ R cs ds fs→ds.length=cs.length
 | [],ds,fs,h=>by obtain⟨h,_⟩:=h;subst h;rfl
 | c::cs,ds,fs,h=>by
  obtain⟨d,ds',f,f',e1,e2,h1,h2⟩:=h
  subst e1
  simp[aL_.len h2]
theorem aL_.split{R:AV→AV→List Nat→Prop}:∀{cs ds:List AV} {fs:List Nat} (j:Nat) {r:AV},aL_ R cs ds fs→ds[j]?=some r→∃c f1 f2 f3,cs[j]?=some c∧fs=f1++(f2++f3)∧R c r f2 ∧
 ∀(R':AV→AV→List Nat→Prop) (c' r':AV),(∀a r g,(∀l∈g,l∈f1∨l∈f3)→R a r g→R' a r g)→R' c' r' f2→aL_ R' (cs.set j c') (ds.set j r') fs
 | [],ds,fs,j,r,h,hj=>by obtain⟨h,_⟩:=h;subst h;simp at hj
 | c::cs,ds,fs,0,r,h,hj=>by
  obtain⟨d,ds',f,f',rfl,rfl,h1,h2⟩:=h
  simp only[getElem?_cons_zero,Option.some.injEq]at hj
  subst hj
  refine⟨c,[],f,f',rfl,rfl,h1,fun R' c' r' hm hr=>?_⟩
  exact⟨r',ds',f,f',rfl,rfl,hr,aL_.mono (fun a r g hg=>hm a r g fun l hl=>.inr (hg l hl)) h2⟩
 | c::cs,ds,fs,j+1,r,h,hj=>by
  obtain⟨d,ds',f,f',rfl,rfl,h1,h2⟩:=h
  simp only[getElem?_cons_succ]at hj
  obtain⟨c0,f1,f2,f3,q1,rfl,q3,q4⟩:=aL_.split j h2 hj
  refine⟨c0,f++f1,f2,f3,by simpa using q1,by simp,q3,fun R' c' r' hm hr=>?_⟩
  refine⟨d,ds'.set j r',f,f1++(f2++f3),rfl,rfl,hm _ _ _ (fun l hl=>.inl (by simp[hl])) h1,q4 R' c' r' (fun a r g hg=>hm a r g fun l hl=>?_) hr⟩
  rcases hg l hl with q|q
  ·exact .inl (by simp[q])
  ·exact .inr q
theorem aV_.split{R:AV→AV→List Nat→Prop}:∀{es rs:List (List AV)} {fs:List Nat} (j:Nat) {d:List AV},aV_ R es rs fs→rs[j]?=some d→∃e f1 f2 f3,es[j]?=some e∧fs=f1++(f2++f3)∧aL_ R e d f2 ∧
 ∀(R':AV→AV→List Nat→Prop) (e' d':List AV),(∀a r g,(∀l∈g,l∈f1∨l∈f3)→R a r g→R' a r g)→aL_ R' e' d' f2→aV_ R' (es.set j e') (rs.set j d') fs
 | [],rs,fs,j,d,h,hj=>by obtain⟨h,_⟩:=h;subst h;simp at hj
 | e::es,rs,fs,0,d,h,hj=>by
  obtain⟨d0,ds',f,f',rfl,rfl,h1,h2⟩:=h
  simp only[getElem?_cons_zero,Option.some.injEq]at hj
  subst hj
  refine⟨e,[],f,f',rfl,rfl,h1,fun R' c' r' hm hr=>?_⟩
  exact⟨r',ds',f,f',rfl,rfl,hr,aV_.mono (fun a r g hg=>hm a r g fun l hl=>.inr (hg l hl)) h2⟩
 | e::es,rs,fs,j+1,d,h,hj=>by
  obtain⟨d0,ds',f,f',rfl,rfl,h1,h2⟩:=h
  simp only[getElem?_cons_succ]at hj
  obtain⟨c0,f1,f2,f3,q1,rfl,q3,q4⟩:=aV_.split j h2 hj
  refine⟨c0,f++f1,f2,f3,by simpa using q1,by simp,q3,fun R' c' r' hm hr=>?_⟩
  refine⟨d0,ds'.set j r',f,f1++(f2++f3),rfl,rfl,aL_.mono (fun a r g hg=>hm a r g fun l hl=>.inl (by simp[hg l hl])) h1,q4 R' c' r' (fun a r g hg=>hm a r g fun l hl=>?_) hr⟩
  rcases hg l hl with q|q
  ·exact .inl (by simp[q])
  ·exact .inr q
theorem Own.of_val{H:List Row}{m:Nat}{c:AV}{v:Value}{f:List Nat}(h:Own H m c (.val v) f):f=[]∧c=.val v:=by
 cases m with
 | zero=>exact h.elim
 | succ m =>
  cases c with
  | val u =>
   obtain⟨h1,h2|⟨_,sz,h2⟩⟩:=h
   ·simp only[AV.val.injEq]at h2;subst h2;exact⟨h1,rfl⟩
   ·cases h2
  | own l k=>obtain⟨row,es,g,_,_,_,h4,_⟩:=h;cases h4
  | sub l k lo hi=>obtain⟨row,es,g,_,_,_,h4,_⟩:=h;cases h4
  | agg cs=>obtain⟨ds,_,h4⟩:=h;cases h4
  | tup cs=>obtain⟨ds,_,h4⟩:=h;cases h4
  | _=>exact h.elim
theorem Own.mk_val(H:List Row)(m:Nat)(v:Value):Own H (m+1) (.val v) (.val v) []:=⟨rfl,.inl rfl⟩
theorem aV_.up{H:List Row}{n m:Nat}(hm:n≤m){es rs:List (List AV)}{fs:List Nat}(h:aV_ (Own H n) es rs fs):aV_ (Own H m) es rs fs:=aV_.mono (fun _ _ _ _ ho=>Own.up hm ho) h
theorem aL_.up{H:List Row}{n m:Nat}(hm:n≤m){es rs:List AV}{fs:List Nat}(h:aL_ (Own H n) es rs fs):aL_ (Own H m) es rs fs:=aL_.mono (fun _ _ _ _ ho=>Own.up hm ho) h
structure MT(H0:List Row)(l:Nat)(E:Tag)(sz cnt:Nat)(f:List Nat)(rs:List (List AV))(H:List Row):Prop where
 out:∃m es,H[l]?=some ⟨E,sz,es⟩∧es.length=cnt∧aV_ (Own H (m+1)) es rs f
 len:H.length=H0.length
 kept:∀x,x∉l::f→H[x]?=H0[x]?
theorem xa_{α:Type}(e:List α)(off:Nat)(a:α)(h:off<e.length):e.take off++[a]++e.drop (off+1)=e.set off a:=by
 rw[set_eq_take_append_cons_drop,if_pos h];simp
theorem MT.put{H0:List Row}{l:Nat}{E:Tag}{sz cnt:Nat}{f:List Nat}{rs:List (List AV)}{H:List Row}{j off:Nat}{d:List AV}{v:Value}(h:MT H0 l E sz cnt f (rs.set j d) H)(hl:l∉f)(hj:j<rs.length)(ho:d[off]?=some (.val v)) :
 ∃es e,H[l]?=some ⟨E,sz,es⟩∧es.length=cnt∧es[j]?=some e∧off+1≤e.length ∧
  ∀w,MT H0 l E sz cnt f (rs.set j (d.set off (.val w))) (H.set l ⟨E,sz,es.set j (e.take off++[.val w]++e.drop (off+1))⟩):=by
 obtain⟨⟨m,es,h1,h2,h3⟩,h4,h5⟩:=h
 have hd:(rs.set j d)[j]?=some d:=by rw[getElem?_set_self hj]
 obtain⟨e,f1,f2,f3,q1,q2,q3,q4⟩:=h3.split j hd
 obtain⟨c,g1,g2,g3,p1,p2,p3,p4⟩:=q3.split off ho
 obtain⟨rfl,rfl⟩:=p3.of_val
 have hlen:off<e.length:=(List.getElem?_eq_some_iff.1 p1).1
 have hlt:l<H.length:=(List.getElem?_eq_some_iff.1 h1).1
 refine⟨es,e,h1,h2,q1,hlen,fun w=>⟨⟨m,_,getElem?_set_self hlt,by simpa using h2,?_⟩,by simpa using h4,fun x hx=>?_⟩⟩
 ·rw[xa_ e off _ hlen]
  have hk:∀a r g,(∀x∈g,x∈f)→Own H (m+1) a r g→Own (H.set l ⟨E,sz,es.set j (e.set off (.val w))⟩) (m+1) a r g:=fun a r g hg ho=>ho.keep fun x hx=>by
   rw[getElem?_set_ne];rintro rfl;exact hl (hg _ hx)
  have:=q4 (Own (H.set l ⟨E,sz,es.set j (e.set off (.val w))⟩) (m+1)) (e.set off (.val w)) (d.set off (.val w)) (fun a r g hg=>hk a r g fun x hx=>by
   rw[q2];rcases hg x hx with q|q<;>simp[q]) (p4 _ _ _ (fun a r g hg=>hk a r g fun x hx=>by
   rw[q2,p2];rcases hg x hx with q|q<;>simp[q]) (Own.mk_val _ _ _))
  rw[set_set]at this
  exact this
 ·rw[getElem?_set_ne (by rintro rfl;simp at hx)]
  exact h5 x hx
theorem MT.sub{H0:List Row}{l:Nat}{E:Tag}{sz cnt:Nat}{f:List Nat}{rs:List (List AV)}{H:List Row}{j off s2:Nat}{d:List AV}{es2:List (List AV)}(h:MT H0 l E sz cnt f (rs.set j d) H)(hl:l∉f)(nd:f.Nodup)(hj:j<rs.length)(ho:d[off]?=some (.list 0 s2 es2)) :
 ∃m es e c g,H[l]?=some ⟨E,sz,es⟩∧es.length=cnt∧es[j]?=some e∧cs_ none (e.drop off)=some c∧Own H m c (.list 0 s2 es2) g∧g.Nodup ∧
  ∀H' m' es3,H'.length=H.length→(∀x,x∉g→H'[x]?=H[x]?)→Own H' m' c (.list 0 s2 es3) g→MT H0 l E sz cnt f (rs.set j (d.set off (.list 0 s2 es3))) H':=by
 obtain⟨⟨m,es,h1,h2,h3⟩,h4,h5⟩:=h
 have hd:(rs.set j d)[j]?=some d:=by rw[getElem?_set_self hj]
 obtain⟨e,f1,f2,f3,q1,q2,q3,q4⟩:=h3.split j hd
 obtain⟨c,g1,g2,g3,p1,p2,p3,p4⟩:=q3.split off ho
 obtain⟨hlen,hc⟩:=List.getElem?_eq_some_iff.1 p1
 obtain⟨hle,he⟩:=List.getElem?_eq_some_iff.1 q1
 subst p2 q2
 simp only[nodup_append,mem_append]at nd
 obtain⟨n1,⟨⟨m1,⟨m2,m3,m4⟩,m5⟩,n3,n4⟩,n5⟩:=nd
 refine⟨m+1,es,e,c,g2,h1,h2,q1,by rw[drop_eq_getElem_cons hlen,hc];rfl,p3,m2,fun H' m' es3 e1 e2 e3=>?_⟩
 have hlg:l∉g2:=fun q=>hl (by simp[q])
 have hkeep:∀M,m+1≤M→∀a r g,(∀x∈g,x∉g2)→Own H (m+1) a r g→Own H' M a r g:=fun M hM a r g hg ho=>Own.up hM (ho.keep fun x hx=>e2 x (hg x hx))
 refine⟨⟨m+m',es,by rw[e2 l hlg];exact h1,h2,?_⟩,by rw[e1];exact h4,fun x hx=>?_⟩
 ·have:=q4 (Own H' (m+m'+1)) (e.set off c) (d.set off (.list 0 s2 es3)) (fun a r g hg=>hkeep _ (by omega) a r g fun x hx hx2=>by
   rcases hg x hx with q|q
   ·exact n5 x q x (.inl (.inr (.inl hx2))) rfl
   ·exact n4 x (.inr (.inl hx2)) x q rfl) (p4 _ _ _ (fun a r g hg=>hkeep _ (by omega) a r g fun x hx hx2=>by
   rcases hg x hx with q|q
   ·exact m5 x q x (.inl hx2) rfl
   ·exact m4 x hx2 x q rfl) (Own.up (by omega) e3))
  rw[set_set]at this
  have e4:e.set off c=e:=by rw[←hc];exact set_getElem_self hlen
  have e5:es.set j e=es:=by rw[←he];exact set_getElem_self hle
  rw[e4,e5]at this
  exact this
 ·rw[e2 x (fun q=>hx (by simp[q]))]
  exact h5 x hx
theorem q3_{P:Program}{F l n lo hi:Nat}{as:List AV}{H:List Row}{K:AV→List Row→Prop}{row:Row}(hl:H[l]?=some row)(hn:row.es.length=n)(hc:lo≤hi→hi≤n→callSem P F (.sub l n lo hi::as) H K):callSem P F (.sub l n lo hi::as) H K:=by
 intro S w vals hm hgl hr
 have hr':=hr
 simp only[ae_]at hr'
 obtain⟨v,r,e,h1,h2⟩:=hr'
 simp only[Rep]at h1
 obtain⟨_,i,q1,q2,q3⟩:=h1
 have q4:=(hm.rows l i row q1 hl).1
 obtain⟨q5,q6,_⟩:=q3 (by omega)
 exact hc q5 q6 S w vals hm hgl hr
theorem qQ_{P:Program}{F l n:Nat}{as:List AV}{H:List Row}{K:AV→List Row→Prop}(hc:callSem P F (.sub l n 0 n::as) H K):callSem P F (.own l n::as) H K:=by
 intro S w vals hm hgl hr
 refine hc S w vals hm hgl ?_
 simp only[ae_]at hr⊢
 obtain⟨v,r,e,h1,h2⟩:=hr
 refine⟨v,r,e,?_,h2⟩
 simp only[Rep]at h1⊢
 obtain⟨q0,i,q1,q2,q3⟩:=h1
 refine⟨q0,i,q1,q2,fun q=>⟨Nat.zero_le _,Nat.le_refl _,?_⟩⟩
 rcases q3 q with q4|q4
 ·unfold sliceAt at q4
  split at q4
  ·rename_i b hb
   right
   exact⟨b,0,hb,by rw[q4,Nat.sub_zero,Nat.sub_zero,q],fun _=>by simp⟩
  ·rename_i hb
   left
   exact⟨hb,none,q4⟩
 ·exact .inl q4
def wi_(P:Program)(F:FuncId)(mt:Int→ByteArray)(fs:List Sch):Prop :=
 ∀(m:Nat) (a:AV) (es:List (List AV)) (f:List Nat) (H:List Row) (k:Int) (K:AV→List Row→Prop),Own H m a (.list 0 fs.length es) f→f.Nodup→(∀e∈es,fh_ fs e)→0≤k→k+ed_ (eo_ fs) es≤4611686018427387904 →
  (∀H' m',H'.length=H.length→(∀x,x∉f→H'[x]?=H[x]?)→Own H' m' a (.list 0 fs.length (cm_ (ds_ mt fs) es k).1) f→K (.val (.int .i64 (cm_ (ds_ mt fs) es k).2)) H') →
  callSem P F [a,.val (.int .i64 k)] H K
theorem wi_.of{P:Program}{F:FuncId}{mt:Int→ByteArray}{fs:List Sch}
 (hnil:∀(H:List Row) (k:Int) (K:AV→List Row→Prop),K (.val (.int .i64 k)) H→callSem P F [.val (.slice none 0 0),.val (.int .i64 k)] H K)
 (hsub:∀(l cnt lo hi:Nat) (E:Tag) (rs:List (List AV)) (f:List Nat) (H:List Row) (k:Int) (K:AV→List Row→Prop),MT H l E fs.length cnt f rs H→l∉f→f.Nodup→rs.length=cnt→lo≤hi→hi≤cnt→(∀e∈(rs.take hi).drop lo,fh_ fs e)→0≤k→k+ed_ (eo_ fs) ((rs.take hi).drop lo)≤4611686018427387904 →
   (∀H' rs',MT H l E fs.length cnt f rs' H'→(rs'.take hi).drop lo=(cm_ (ds_ mt fs) ((rs.take hi).drop lo) k).1→K (.val (.int .i64 (cm_ (ds_ mt fs) ((rs.take hi).drop lo) k).2)) H')→callSem P F [.sub l cnt lo hi,.val (.int .i64 k)] H K):wi_ P F mt fs:=by
 intro m a es f H k K ho nd hsh hk hb hK
 cases m with
 | zero=>exact ho.elim
 | succ m =>
  have part:∀(l cnt lo hi:Nat) (row:Row) (es0:List (List AV)) (f0:List Nat),H[l]?=some row→row.es.length=cnt→aV_ (Own H m) row.es es0 f0→row.sz=fs.length→es=(es0.take hi).drop lo→f=l::f0 →
   (∀H' m' row' es',H'.length=H.length→(∀x,x∉f→H'[x]?=H[x]?)→H'[l]?=some row'→row'.es.length=cnt→row'.sz=fs.length→aV_ (Own H' m') row'.es es' f0→(es'.take hi).drop lo=(cm_ (ds_ mt fs) es k).1→K (.val (.int .i64 (cm_ (ds_ mt fs) es k).2)) H') →
   callSem P F [.sub l cnt lo hi,.val (.int .i64 k)] H K:=by
   rintro l cnt lo hi ⟨E,sz,res⟩ es0 f0 h1 h2 h3 h4 rfl rfl hfin
   simp only at h2 h3 h4
   subst h4
   rw[nodup_cons]at nd
   refine q3_ h1 h2 fun hlo hhi=>?_
   refine hsub l cnt lo hi E es0 f0 H k K ⟨⟨m,res,h1,h2,h3.up (by omega)⟩,rfl,fun _ _=>rfl⟩ nd.1 nd.2 (by rw[h3.len,h2]) hlo hhi hsh hk hb ?_
   rintro H' rs' ⟨⟨m',res',g1,g2,g3⟩,g4,g5⟩ e
   exact hfin H' _ ⟨E,fs.length,res'⟩ rs' g4 g5 g1 g2 rfl g3 e
  cases a with
  | val v =>
   obtain⟨rfl,e|⟨rfl,sz,e⟩⟩:=ho
   ·cases e
   ·simp only[AV.list.injEq]at e
    obtain⟨_,rfl,rfl⟩:=e
    refine hnil H k K (hK H 1 rfl (fun _ _=>rfl) ⟨rfl,.inr ⟨rfl,_,rfl⟩⟩)
  | own l cnt =>
   obtain⟨row,es0,f0,h1,h2,h3,h4,h5⟩:=ho
   simp only[AV.list.injEq,true_and]at h4
   obtain⟨h4,rfl⟩:=h4
   have hlen:es.length=cnt:=by rw[h3.len,h2]
   refine qQ_ (part l cnt 0 cnt row es f0 h1 h2 h3 h4.symm (by rw[drop_zero,take_of_length_le (by omega)]) h5 ?_)
   rintro H' m' row' es' e1 e2 e3 e4 e5 e6 e7
   have hlen':es'.length=cnt:=by rw[e6.len,e4]
   rw[drop_zero,take_of_length_le (by omega)]at e7
   subst e7
   exact hK H' (m'+1) e1 e2 ⟨row',_,f0,e3,e4,e6,by rw[e5],h5⟩
  | sub l cnt lo hi =>
   obtain⟨row,es0,f0,h1,h2,h3,h4,h5⟩:=ho
   simp only[AV.list.injEq,true_and]at h4
   obtain⟨h4,rfl⟩:=h4
   refine part l cnt lo hi row es0 f0 h1 h2 h3 h4.symm rfl h5 ?_
   rintro H' m' row' es' e1 e2 e3 e4 e5 e6 e7
   exact hK H' (m'+1) e1 e2 ⟨row',es',f0,e3,e4,e6,by rw[e5,e7],h5⟩
  | agg cs=>obtain⟨ds,_,e⟩:=ho;cases e
  | tup cs=>obtain⟨ds,_,e⟩:=ho;cases e
  | _=>exact ho.elim
theorem aL_.mk_val{H:List Row}{m:Nat}{cs ds:List AV}{f:List Nat}(v:Value)(h:aL_ (Own H (m+1)) cs ds f):aL_ (Own H (m+1)) (.val v::cs) (.val v::ds) f:=⟨_,_,[],f,rfl,rfl,Own.mk_val _ _ _,h⟩
theorem MT.elem{H0:List Row}{l:Nat}{E:Tag}{sz cnt:Nat}{f:List Nat}{rs:List (List AV)}{H:List Row}{j:Nat}{d:List AV}(h:MT H0 l E sz cnt f rs H)(hl:l∉f)(nd:f.Nodup)(hd:rs[j]?=some d) :
 ∃m es e f2,H[l]?=some ⟨E,sz,es⟩∧es.length=cnt∧es[j]?=some e∧aL_ (Own H (m+1)) e d f2∧f2.Nodup∧l∉f2 ∧
  ∀H' e' d',H'.length=H.length→H'[l]?=some ⟨E,sz,es.set j e'⟩→(∀x,x∉l::f2→H'[x]?=H[x]?)→(∃m',aL_ (Own H' m') e' d' f2)→MT H0 l E sz cnt f (rs.set j d') H':=by
 obtain⟨⟨m,es,h1,h2,h3⟩,h4,h5⟩:=h
 obtain⟨e,f1,f2,f3,q1,q2,q3,q4⟩:=h3.split j hd
 subst q2
 simp only[nodup_append,mem_append]at nd
 obtain⟨n1,⟨n2,n3,n4⟩,n5⟩:=nd
 refine⟨m,es,e,f2,h1,h2,q1,q3,n2,fun q=>hl (by simp[q]),fun H' e' d' e1 e2 e3 ⟨m',e4⟩=>⟨⟨m+m',_,e2,by simpa using h2,?_⟩,by rw[e1,h4],fun x hx=>?_⟩⟩
 ·refine q4 (Own H' (m+m'+1)) e' d' (fun a r g hg ho=>Own.up (by omega) (ho.keep fun x hx=>e3 x ?_)) (aL_.up (by omega) e4)
  rw[mem_cons]
  rintro(rfl|q)
  ·exact hl (by rcases hg _ hx with q|q<;>simp[q])
  ·rcases hg x hx with q'|q'
   ·exact n5 x q' x (.inl q) rfl
   ·exact n4 x q x q' rfl
 ·rw[e3 x (fun q=>hx (by rcases mem_cons.1 q with q|q<;>simp[q]))]
  exact h5 x hx
section
variable (mt : Int → ByteArray)
end
variable {mt : Int → ByteArray}
theorem tN_{g:List AV→Int→Int}{e:List AV}{es:List (List AV)}{k:Int}(h:g e k = -1):fu_ g (e::es) k = -1:=by
 simp only[fu_];rw[if_pos (by omega)]
theorem ts_{g:List AV→Int→Int}{e:List AV}{es:List (List AV)}{k z:Int}(h:g e k=z)(hz:0≤z):fu_ g (e::es) k=fu_ g es z:=by
 simp only[fu_];rw[h,if_neg (by omega)]
theorem vy_{g:List AV→Int→Int}{c:List AV→Nat}{es:List (List AV)}(hg:∀e∈es,∀k,0≤k→g e k = -1∨g e k=k+c e)(k:Int)(hk:0≤k):fu_ g es k = -1∨fu_ g es k=k+ed_ c es:=by
 induction es generalizing k with
 | nil=>right;simp[fu_,ed_]
 | cons e es ih =>
  rcases hg e (by simp) k hk with q|q
  ·left;exact tN_ q
  ·rw[ts_ q (by omega)]
   rcases ih (fun x hx=>hg x (by simp[hx])) (k+c e) (by omega)with p|p
   ·exact .inl p
   ·right;rw[p,ed_];omega
mutual
theorem tf_:∀(s:Sch) (a:AV) (k:Int),cZ_ s a→0≤k→eb_ mt s a k = -1∨eb_ mt s a k=k+bw_ s a
 | .int,a,k,h,hk=>by
  unfold cZ_ at h;obtain⟨n,rfl⟩:=h
  simp only[eb_,bw_];split<;>simp
 | .str,a,k,h,hk=>by
  unfold cZ_ at h;obtain⟨n,rfl⟩:=h
  simp only[eb_,bw_];split<;>simp
 | .bool,a,k,h,hk=>by
  unfold cZ_ at h;obtain⟨n,rfl⟩:=h
  simp only[eb_,bw_];split<;>simp
 | .list fs,a,k,h,hk=>by
  unfold cZ_ at h
  obtain⟨es,rfl,h⟩:=h
  simp only[eb_,bw_]
  exact vy_ (fun e he k hk=>q7_ fs e k (h e he) hk) k hk
theorem q7_:∀(fs:List Sch) (cs:List AV) (k:Int),fh_ fs cs→0≤k→iU_ mt fs cs k = -1∨iU_ mt fs cs k=k+eo_ fs cs
 | [],cs,k,_,hk=>by simp[iU_,eo_]
 | s::ss,cs,k,h,hk=>by
  unfold fh_ at h
  obtain⟨c,r,rfl,h1,h2⟩:=h
  simp only[iU_,eo_]
  rcases tf_ s c k h1 hk with q|q
  ·left;rw[q,if_pos (by omega)]
  ·rw[q,if_neg (by omega)]
   rcases q7_ ss r (k+bw_ s c) h2 (by omega)with p|p
   ·exact .inl p
   ·right;rw[p];omega
end
structure aP_(lo hi:Nat)(H:List Row)(a r:AV):Prop where
 out:∃n fs,Own H n a r fs∧fs.Nodup∧∀l∈fs,lo≤l∧l<hi
structure aU_(lo hi:Nat)(H:List Row)(as rs:List AV):Prop where
 out:∃n fs,aL_ (Own H n) as rs fs∧fs.Nodup∧∀l∈fs,lo≤l∧l<hi
structure b4_(lo hi:Nat)(H:List Row)(es rs:List (List AV)):Prop where
 out:∃n fs,aV_ (Own H n) es rs fs∧fs.Nodup∧∀l∈fs,lo≤l∧l<hi
section
variable {lo hi mid : Nat} {H H' : List Row} {a r : AV} {as rs as' rs' : List AV} {es ds : List (List AV)}
theorem h1_.b(h:h1_ lo H a r):aP_ lo H.length H a r:=by
 obtain⟨n,fs,h1,h2,h3⟩:=h
 exact⟨n,fs,h1,h2,fun l hl=>⟨h3 l hl,h1.lt l hl⟩⟩
theorem aP_.fresh(h:aP_ lo hi H a r):h1_ lo H a r:=by
 obtain⟨n,fs,h1,h2,h3⟩:=h
 exact⟨n,fs,h1,h2,fun l hl=>(h3 l hl).1⟩
theorem aP_.keep(hk:∀l,lo≤l→l<hi→H'[l]?=H[l]?)(h:aP_ lo hi H a r):aP_ lo hi H' a r:=by
 obtain⟨n,fs,h1,h2,h3⟩:=h
 exact⟨n,fs,h1.keep fun l hl=>hk l (h3 l hl).1 (h3 l hl).2,h2,h3⟩
theorem aU_.keep(hk:∀l,lo≤l→l<hi→H'[l]?=H[l]?)(h:aU_ lo hi H as rs):aU_ lo hi H' as rs:=by
 obtain⟨n,fs,h1,h2,h3⟩:=h
 exact⟨n,fs,aL_.mono (fun a r g hg ho=>ho.keep fun l hl=>hk l (h3 l (hg l hl)).1 (h3 l (hg l hl)).2) h1,h2,h3⟩
theorem b4_.keep(hk:∀l,lo≤l→l<hi→H'[l]?=H[l]?)(h:b4_ lo hi H es ds):b4_ lo hi H' es ds:=by
 obtain⟨n,fs,h1,h2,h3⟩:=h
 exact⟨n,fs,aV_.mono (fun a r g hg ho=>ho.keep fun l hl=>hk l (h3 l (hg l hl)).1 (h3 l (hg l hl)).2) h1,h2,h3⟩
theorem aP_.widen{lo' hi':Nat}(h1:lo'≤lo)(h2:hi≤hi')(h:aP_ lo hi H a r):aP_ lo' hi' H a r:=by
 obtain⟨n,fs,q1,q2,q3⟩:=h
 exact⟨n,fs,q1,q2,fun l hl=>by have:=q3 l hl;omega⟩
theorem aU_.widen{lo' hi':Nat}(h1:lo'≤lo)(h2:hi≤hi')(h:aU_ lo hi H as rs):aU_ lo' hi' H as rs:=by
 obtain⟨n,fs,q1,q2,q3⟩:=h
 exact⟨n,fs,q1,q2,fun l hl=>by have:=q3 l hl;omega⟩
theorem b4_.widen{lo' hi':Nat}(h1:lo'≤lo)(h2:hi≤hi')(h:b4_ lo hi H es ds):b4_ lo' hi' H es ds:=by
 obtain⟨n,fs,q1,q2,q3⟩:=h
 exact⟨n,fs,q1,q2,fun l hl=>by have:=q3 l hl;omega⟩
theorem aP_.mknil(lo hi:Nat)(H:List Row)(sz:Nat):aP_ lo hi H (.val (.slice none 0 0)) (.list 0 sz []):=⟨1,[],⟨rfl,.inr ⟨rfl,_,rfl⟩⟩,nodup_nil,by simp⟩
theorem aU_.nil(lo hi:Nat)(H:List Row):aU_ lo hi H [] []:=⟨0,[],⟨rfl,rfl⟩,nodup_nil,by simp⟩
theorem b4_.nil(lo hi:Nat)(H:List Row):b4_ lo hi H [] []:=⟨0,[],⟨rfl,rfl⟩,nodup_nil,by simp⟩
theorem aU_.cons(h1:aP_ lo mid H a r)(h2:aU_ mid hi H as rs)(hm:lo≤mid∧mid≤hi):aU_ lo hi H (a::as) (r::rs):=by
 obtain⟨n,fs,p1,p2,p3⟩:=h1
 obtain⟨m,gs,q1,q2,q3⟩:=h2
 refine⟨n+m,fs++gs,⟨r,rs,fs,gs,rfl,rfl,Own.up (by omega) p1,aL_.up (by omega) q1⟩,?_,fun l hl=>?_⟩
 ·rw[nodup_append]
  exact⟨p2,q2,fun x hx y hy=>by have:=p3 x hx;have:=q3 y hy;omega⟩
 ·rcases mem_append.1 hl with q|q
  ·have:=p3 l q;omega
  ·have:=q3 l q;omega
theorem aU_.val(v:Value)(h2:aU_ lo hi H as rs):aU_ lo hi H (.val v::as) (.val v::rs):=by
 obtain⟨m,gs,q1,q2,q3⟩:=h2
 exact⟨m+1,gs,⟨.val v,rs,[],gs,rfl,rfl,Own.mk_val _ _ _,aL_.up (by omega) q1⟩,q2,q3⟩
theorem b4_.snoc(h1:b4_ lo mid H es ds)(h2:aU_ mid hi H as rs)(hm:lo≤mid∧mid≤hi):b4_ lo hi H (es++[as]) (ds++[rs]):=by
 obtain⟨n,fs,p1,p2,p3⟩:=h1
 obtain⟨m,gs,q1,q2,q3⟩:=h2
 refine⟨n+m,fs++gs,?_,?_,fun l hl=>?_⟩
 ·have p1':=aV_.up (Nat.le_add_right n m) p1
  have q1':=aL_.up (Nat.le_add_left m n) q1
  clear p1 q1 p2 p3 q2 q3
  induction es generalizing ds fs with
  | nil =>
   obtain⟨rfl,rfl⟩:=p1'
   exact⟨rs,[],gs,[],rfl,by simp,q1',rfl,rfl⟩
  | cons e es ih =>
   obtain⟨d,ds',f,f',rfl,rfl,g1,g2⟩:=p1'
   exact⟨d,ds'++[rs],f,f'++gs,rfl,by simp,g1,ih _ g2⟩
 ·rw[nodup_append]
  exact⟨p2,q2,fun x hx y hy=>by have:=p3 x hx;have:=q3 y hy;omega⟩
 ·rcases mem_append.1 hl with q|q
  ·have:=p3 l q;omega
  ·have:=q3 l q;omega
theorem aP_.agg(h:aU_ lo hi H as rs):aP_ lo hi H (.agg as) (.agg rs):=by
 obtain⟨n,fs,p1,p2,p3⟩:=h
 exact⟨n+1,fs,⟨rs,p1,rfl⟩,p2,p3⟩
theorem aP_.tup(h:aU_ lo hi H as rs):aP_ lo hi H (.tup as) (.tup rs):=by
 obtain⟨n,fs,p1,p2,p3⟩:=h
 exact⟨n+1,fs,⟨rs,p1,rfl⟩,p2,p3⟩
theorem aP_.untup(h:aP_ lo hi H (.tup as) (.tup rs)):aU_ lo hi H as rs:=by
 obtain⟨n,fs,p1,p2,p3⟩:=h
 cases n with
 | zero=>exact p1.elim
 | succ n =>
  obtain⟨ds,q1,q2⟩:=p1
  cases q2
  exact⟨n,fs,q1,p2,p3⟩
theorem aP_.mkown{lo' l k:Nat}{E:Tag}{sz:Nat}(h:b4_ lo hi H es ds)(hl:H[l]?=some ⟨E,sz,es⟩)(hk:es.length=k)(h1:lo'≤l)(h2:l<lo)(h3:lo≤hi):aP_ lo' hi H (.own l k) (.list 0 sz ds):=by
 obtain⟨n,fs,p1,p2,p3⟩:=h
 refine⟨n+1,l::fs,⟨⟨E,sz,es⟩,ds,fs,hl,hk,p1,rfl,rfl⟩,?_,fun x hx=>?_⟩
 ·rw[nodup_cons]
  exact⟨fun q=>by have:=p3 l q;omega,p2⟩
 ·rcases mem_cons.1 hx with q|q
  ·subst q;omega
  ·have:=p3 x q;omega
theorem b4_.ofVals(lo hi:Nat)(H:List Row):∀(es:List (List AV)),(∀e∈es,∀c∈e,∃v,c=.val v)→b4_ lo hi H es es
 | [],_=>.nil lo hi H
 | e::es,h=>by
  obtain⟨n,fs,p1,p2,p3⟩:=b4_.ofVals lo hi H es (fun x hx=>h x (by simp[hx]))
  have he:∀(cs:List AV),(∀c∈cs,∃v,c=.val v)→aL_ (Own H (n+1)) cs cs []:=by
   intro cs
   induction cs with
   | nil=>intro _;exact⟨rfl,rfl⟩
   | cons c cs ih =>
    intro hc
    obtain⟨v,rfl⟩:=hc c (by simp)
    exact⟨_,_,[],[],rfl,rfl,Own.mk_val _ _ _,ih fun x hx=>hc x (by simp[hx])⟩
  exact⟨n+1,fs,⟨e,es,[],fs,rfl,rfl,he e (h e (by simp)),aV_.up (by omega) p1⟩,p2,p3⟩
theorem cT_.two{b q:AV}(h1:fi_ H a r)(h2:fi_ H b q):cT_ H [a,b] [r,q]:=⟨_,_,rfl,h1,_,_,rfl,h2,rfl⟩
theorem cT_.one(h1:fi_ H a r):cT_ H [a] [r]:=⟨_,_,rfl,h1,rfl⟩
theorem fi_.same(hp:a.plain=true):fi_ H a a:=.inl ⟨rfl,hp⟩
theorem cT_.cons(h1:fi_ H a r)(h2:cT_ H as rs):cT_ H (a::as) (r::rs):=⟨_,_,rfl,h1,h2⟩
theorem cT_.nil:cT_ H [] []:=rfl
end
theorem sq_{P:Program}{f:FuncId}{args:List AV}{R:AV→Prop}(D:AV→List Row→AV→Prop)(hD:∀(S:Sit) (h:List Row) (w:World) (a r:AV) (x:Value),ab_ S h w→Rep S a x→D a h r→Rep (S.shut w) r x)(hp:args.all AV.plain=true)(hw:callSem P f args [] fun av h'=>∃r,D av h' r∧R r)(h:List Row)(K:AV→List Row→Prop)(hk:∀r,R r→K r h):callSem P f args h K:=by
 intro S w vals hm hgl hr
 have hm0:ab_ S.still [] w:=⟨hm.imm,rfl,by simp[Sit.still],by simp[Sit.still]⟩
 refine(hw S.still w vals hm0 hgl (fY_ hp hr)).mono ?_
 rintro e w' ⟨v,av,S1,h1,rfl,st,hm1,rv,r,hres,hR⟩
 have rr:=hD S1 h1 w' av r v hm1 rv hres
 have hnone:∀b,¬ S.still.owns b:=by
  rintro b ⟨l,i,q,_⟩
  simp[Sit.still]at q
 have hblk:∀b,b<w.heap.size→w'.heap[b]?=w.heap[b]?:=fun b hb=>st.block b hb (hnone b)
 have hown1:∀b,S1.owns b→w.heap.size≤b:=fun b hb=>by
  rcases st.ownNew b hb with q|q
  ·exact absurd q (hnone b)
  ·exact q
 have himm1:∀b c,S1.imm b=some c→S.imm b=some c∨w.heap.size≤b:=fun b c hb=>by
  rcases st.immNew b c hb with q|q|q
  ·exact .inl q
  ·exact absurd q (hnone b)
  ·exact .inr q
 have hshut:∀b c,(S1.shut w').imm b=some c→S.imm b=some c∨w.heap.size≤b:=by
  intro b c hb
  simp only[Sit.shut]at hb
  split at hb
  ·rename_i hq
   exact .inr (hown1 b (dL_.1 hq))
  ·exact himm1 b c hb
 have hle:S.le { imm:=(S1.shut w').imm,rows:=S.rows }:=by
  refine⟨fun b c e=>?_,fun l i e=>⟨i,e,Nat.le_refl _,fun _=>rfl⟩⟩
  exact(hv_ hm1).imm b c (st.le.imm b c e)
 refine⟨v,r,{ imm:=(S1.shut w').imm,rows:=S.rows },h,rfl,⟨hle,st.os,st.tape,st.output,st.size,fun b hb _=>hblk b hb,fun b q=>.inl q,fun b c q=>?_⟩,⟨fun b c q=>?_,hm.len,fun l i rw q1 q2=>?_,hm.one⟩,?_,hk r hR⟩
 ·rcases hshut b c q with q|q
  ·exact .inl q
  ·exact .inr (.inr q)
 ·simp only[Sit.shut]at q
  split at q
  ·split at q
   ·rename_i c' E fr hb
    simp at q;subst q
    exact⟨E,fr,hb⟩
   ·simp at q
  ·exact hm1.imm b c q
 ·obtain⟨k1,k2,k3,k4⟩:=hm.rows l i rw q1 q2
  refine⟨k1,k2,k3,?_⟩
  cases hb:i.blk with
  | none=>rw[hb]at k4;exact k4
  | some b =>
   rw[hb]at k4
   have j1:=k4.1
   have hlt:=hm.ownLt ⟨l,i,q1,hb⟩
   refine⟨?_,k4.2.le hle (hblk b hlt)⟩
   cases q:(S1.shut w').imm b with
   | none=>rfl
   | some d =>
    rcases hshut b d q with q'|q'
    ·rw[j1]at q';cases q'
    ·omega
 ·have hl2:(S1.shut w').le { imm:=(S1.shut w').imm,rows:=S.rows }:=⟨fun _ _ e=>e,by simp[Sit.shut]⟩
  exact Rep.up hl2 _ _ rr
theorem eV_.pure{P:Program}{f:FuncId}{args:List AV}{r:AV}{Q:AV→Prop}(hc:eV_ P f args r Q)(hp:args.all AV.plain=true)(h:List Row):PureCall P f args h r:=by
 intro K hk
 refine sq_ (R:=fun x=>x=r) (fun a h r=>∃n fs,Own h n a r fs) (fun S h w a r x hm rx ⟨n,fs,ho⟩=>Own.rep hm n a x r fs rx ho) hp ?_ h K (by rintro _ rfl;exact hk)
 refine hc [] _ (fun av hn hf hq=>?_)
 obtain⟨n,fs,h1,_⟩:=hf
 exact⟨r,⟨n,fs,h1⟩,rfl⟩
theorem PureCall.own{P:Program}{f:FuncId}{as rs:List AV}{H:List Row}{v:Value}(hc:∀h,PureCall P f rs h (.val v))(ha:cT_ H as rs):PureCall P f as H (.val v):=fun _ hk=>u3_ hc ha hk
theorem aU_.app{lo mid hi:Nat}{H:List Row}{as rs as' rs':List AV}(h1:aU_ lo mid H as rs)(h2:aU_ mid hi H as' rs')(hm:lo≤mid∧mid≤hi):aU_ lo hi H (as++as') (rs++rs'):=by
 obtain⟨n,fs,p1,p2,p3⟩:=h1
 obtain⟨m,gs,q1,q2,q3⟩:=h2
 refine⟨n+m,fs++gs,?_,?_,fun l hl=>?_⟩
 ·have p1':=aL_.up (Nat.le_add_right n m) p1
  have q1':=aL_.up (Nat.le_add_left m n) q1
  clear p1 q1 p2 p3 q2 q3
  induction as generalizing rs fs with
  | nil =>
   obtain⟨rfl,rfl⟩:=p1'
   exact q1'
  | cons e es ih =>
   obtain⟨d,ds',f,f',rfl,rfl,g1,g2⟩:=p1'
   exact⟨d,ds'++rs',f,f'++gs,rfl,by simp,g1,ih _ g2⟩
 ·rw[nodup_append]
  exact⟨p2,q2,fun x hx y hy=>by have:=p3 x hx;have:=q3 y hy;omega⟩
 ·rcases mem_append.1 hl with q|q
  ·have:=p3 l q;omega
  ·have:=q3 l q;omega
theorem uR_{h a b m t:List Row}{l:Nat}(hab:a.length=b.length)(h1:h.length+b.length≤l)(h2:l<(h++(b++m)).length):(h++(a++(m++t)))[l]?=(h++(b++m))[l]?:=by
 simp only[List.length_append]at h2
 have e1:(h++(a++(m++t)))[l]?=m[l-h.length-a.length]?:=by
  rw[getElem?_append_right (by omega),getElem?_append_right (by omega),getElem?_append_left (by omega)]
 have e2:(h++(b++m))[l]?=m[l-h.length-b.length]?:=by
  rw[getElem?_append_right (by omega),getElem?_append_right (by omega)]
 rw[e1,e2,hab]
theorem pre3{h0 m hn t M:List Row}{x1 x2 x3 y1 y2 y3:Row}{l:Nat}(hM:M=m++(hn++t))(h1:(h0++y1::y2::y3::m).length≤l)(h2:l<((h0++y1::y2::y3::m)++hn).length):(h0++x1::x2::x3::M)[l]?=((h0++y1::y2::y3::m)++hn)[l]?:=by
 subst hM
 have e:(h0++y1::y2::y3::m)++hn=h0++([y1,y2,y3]++(m++hn)):=by simp
 rw[e]at h2⊢
 have:=uR_ (h:=h0) (a:=[x1,x2,x3]) (b:=[y1,y2,y3]) (m:=m++hn) (t:=t) rfl (l:=l) (by simp at h1⊢;omega) h2
 rw[append_assoc]at this
 exact this
structure FB(lo hi:Nat)(H:List Row)(a r:AV):Prop where
 tree:aP_ lo hi H a r
 le:hi≤H.length
structure bu_(H H':List Row):Prop where
 len:H.length≤H'.length
 kept:∀l,l<H.length→H'[l]?=H[l]?
structure But(fs:List Nat)(H H':List Row):Prop where
 len:H.length≤H'.length
 kept:∀l,l<H.length→l∉fs→H'[l]?=H[l]?
section
variable {lo hi : Nat} {H H' : List Row} {a r : AV} {fs : List Nat}
theorem bu_.at{i:Nat}{row:Row}(m:bu_ H H')(o:H[i]?=some row):H'[i]?=some row:=(m.kept i (List.getElem?_eq_some_iff.1 o).1).trans o
theorem bu_.fb(m:bu_ H H')(f:FB lo hi H a r):FB lo hi H' a r:=⟨f.tree.keep fun l _ h2=>m.kept l (by have:=f.le;omega),Nat.le_trans f.le m.len⟩
theorem bu_.row(H:List Row)(row:Row):bu_ H (H++[row]):=⟨by simp,fun l hl=>getElem?_append_left hl⟩
theorem bu_.trans{H'':List Row}(h:bu_ H H')(k:bu_ H' H''):bu_ H H'':=⟨Nat.le_trans h.len k.len,fun l hl=>(k.kept l (Nat.lt_of_lt_of_le hl h.len)).trans (h.kept l hl)⟩
theorem But.at{i:Nat}{row:Row}(m:But fs H H')(o:H[i]?=some row)(h:i∉fs):H'[i]?=some row:=(m.kept i (List.getElem?_eq_some_iff.1 o).1 h).trans o
theorem But.fb(m:But fs H H')(f:FB lo hi H a r)(h:∀l,lo≤l→l<hi→l∉fs):FB lo hi H' a r:=⟨f.tree.keep fun l h1 h2=>m.kept l (by have:=f.le;omega) (h l h1 h2),Nat.le_trans f.le m.len⟩
end
theorem FB.two{lo hi:Nat}{H:List Row}{a r:AV}{v u:Value}(h:FB lo hi H (.tup [a,.val v]) (.tup [r,.val u])):FB lo hi H a r∧(.val v=AV.val u):=by
 have h4:=h.le
 obtain⟨n,fs,h1,h2,h3⟩:=h.tree.untup
 obtain⟨d,ds,f,f',e1,rfl,q1,q2⟩:=h1
 simp only[List.cons.injEq]at e1
 obtain⟨rfl,rfl⟩:=e1
 obtain⟨d,ds,f2,f3,e1,rfl,q3,q4⟩:=q2
 simp only[List.cons.injEq]at e1
 obtain⟨rfl,rfl⟩:=e1
 obtain⟨_,rfl⟩:=q4
 obtain⟨rfl,e⟩:=q3.of_val
 refine⟨⟨⟨n,f,q1,(nodup_append.1 h2).1,fun l hl=>h3 l (mem_append_left _ hl)⟩,h4⟩,e⟩
variable {mt : Int → ByteArray}
theorem fO_{t:Nat→AV}{h:List Row}(a s:Nat)(n:Option Nat)(K:AV→List Row→Prop):cD_ [.cell a n,.tmp s] K .ret t h=match ai_ t h (.load n (.tmp a))with|some av=>K (.tup [av,t s]) h|none=>False:=by
 simp only[cD_,dA_,mapM_cons,mapM_nil]
 cases ai_ t h (.load n (.tmp a))<;>simp[cO_]
theorem kY_{α:Type}{es:List α}{i:Nat}{x:α}(h:es[i]?=some x):es.set i x=es:=by
 obtain⟨hi,e⟩:=List.getElem?_eq_some_iff.1 h
 subst e
 exact set_getElem_self hi
def Cv(L:Nat)(a b:AV):Prop:=b=a∨(a=.val (.slice none 0 0)∧b=.own L 0)
def CvL(L:Nat):List AV→List AV→Prop
 | [],bs=>bs=[]
 | a::as,bs=>∃b r,bs=b::r∧Cv L a b∧CvL L as r
def dW_(L:Nat):List (List AV)→List (List AV)→Prop
 | [],bs=>bs=[]
 | a::as,bs=>∃b r,bs=b::r∧CvL L a b∧dW_ L as r
theorem CvL.len{L:Nat}:∀{as bs:List AV},CvL L as bs→bs.length=as.length
 | [],bs,h=>by unfold CvL at h;subst h;rfl
 | a::as,bs,h=>by
  unfold CvL at h
  obtain⟨b,r,rfl,_,h2⟩:=h
  simp[h2.len]
theorem CvL.refl(L:Nat):∀as:List AV,CvL L as as
 | []=>rfl
 | a::as=>⟨a,as,rfl,.inl rfl,CvL.refl L as⟩
theorem dW_.refl(L:Nat):∀as:List (List AV),dW_ L as as
 | []=>rfl
 | a::as=>⟨a,as,rfl,CvL.refl L a,dW_.refl L as⟩
theorem dW_.len{L:Nat}:∀{as bs:List (List AV)},dW_ L as bs→bs.length=as.length
 | [],bs,h=>by unfold dW_ at h;subst h;rfl
 | a::as,bs,h=>by
  unfold dW_ at h
  obtain⟨b,r,rfl,_,h2⟩:=h
  simp[h2.len]
theorem dW_.all{L sz:Nat}:∀{as bs:List (List AV)},dW_ L as bs→(∀e∈as,e.length=sz)→∀e∈bs,e.length=sz
 | [],bs,h,_=>by unfold dW_ at h;subst h;simp
 | a::as,bs,h,hs=>by
  unfold dW_ at h
  obtain⟨b,r,rfl,h1,h2⟩:=h
  intro e he
  rcases mem_cons.1 he with q|q
  ·subst q;rw[h1.len];exact hs a (by simp)
  ·exact h2.all (fun x hx=>hs x (by simp[hx])) e q
section
variable {S S' : Sit} {L sz : Nat} (hle : S.le S') (hL : S'.rows[L]? = some ⟨0, none, 0, sz⟩)
include hle hL
theorem Cv.rep{a b:AV}{x:Value}(h:Cv L a b)(r:Rep S a x):Rep S' b x:=by
 rcases h with rfl|⟨rfl,rfl⟩
 ·exact Rep.up hle _ _ r
 ·simp only[Rep]at r⊢
  subst r
  exact⟨⟨_,_,_,rfl⟩,_,hL,Nat.le_refl _,fun _=>.inl rfl⟩
theorem CvL.repPre:∀{as bs:List AV} {vs:List Value},CvL L as bs→an_ S as vs→an_ S' bs vs
 | [],bs,vs,h,r=>by unfold CvL at h;subst h;simp[an_]
 | a::as,bs,vs,h,r=>by
  unfold CvL at h
  obtain⟨b,q,rfl,h1,h2⟩:=h
  simp only[an_]at r⊢
  obtain⟨v,w,e,r1,r2⟩:=r
  exact⟨v,w,e,h1.rep hle hL r1,CvL.repPre h2 r2⟩
theorem dW_.rep:∀{as bs:List (List AV)} {vs:List Value},dW_ L as bs→aj_ S as vs→aj_ S' bs vs
 | [],bs,vs,h,r=>by unfold dW_ at h;subst h;simp[aj_]
 | a::as,bs,vs,h,r=>by
  unfold dW_ at h
  obtain⟨b,q,rfl,h1,h2⟩:=h
  simp only[aj_]at r⊢
  exact⟨h1.repPre hle hL r.1,by rw[h1.len];exact dW_.rep h2 r.2⟩
end
theorem kl_{N:Nat}{t t':Nat→AV}{h h':List Row}(E:Tag)(hE:∃T,E=.ty T)(sz:Nat)(ht:∀k,Cv h.length (t k) (t' k))(hlen:h'.length=h.length+1)(hnew:h'[h.length]?=some ⟨E,sz,[]⟩)
 (hrow:∀l r',l<h.length→h'[l]?=some r'→∃r,h[l]?=some r∧r'.E=r.E∧r'.sz=r.sz∧dW_ h.length r.es r'.es):g8_ N t h t' h':=by
 intro S w a hm hr
 have hl:=hm.len
 have hle:S.le { imm:=S.imm,rows:=S.rows++[⟨0,none,0,sz⟩] }:=⟨fun _ _ e=>e,fun l i e=>⟨i,by
  show(S.rows++_)[l]?=_
  rw[getElem?_append_left (List.getElem?_eq_some_iff.1 e).1];exact e,Nat.le_refl _,fun _=>rfl⟩⟩
 have hL:({ imm:=S.imm,rows:=S.rows++[⟨0,none,0,sz⟩] }:Sit).rows[h.length]?=some ⟨0,none,0,sz⟩:=by
  show(S.rows++_)[h.length]?=_
  rw[←hl,getElem?_append_right (Nat.le_refl _),Nat.sub_self];rfl
 have hcase:∀(l:Nat) (i:bV_),(S.rows++[⟨0,none,0,sz⟩])[l]?=some i→(l<h.length∧S.rows[l]?=some i)∨(l=h.length∧i=⟨0,none,0,sz⟩):=by
  intro l i q
  by_cases hlt:l<h.length
  ·left;rw[getElem?_append_left (by omega)]at q;exact⟨hlt,q⟩
  ·right
   have h2:=(List.getElem?_eq_some_iff.1 q).1
   simp only[List.length_append,List.length_cons,List.length_nil]at h2
   have e:l=h.length:=by omega
   subst e
   refine⟨rfl,?_⟩
   rw[←hl,getElem?_append_right (Nat.le_refl _),Nat.sub_self]at q
   simpa using q.symm
 refine⟨{ imm:=S.imm,rows:=S.rows++[⟨0,none,0,sz⟩] },⟨hle,rfl,rfl,rfl,Nat.le_refl _,fun _ _ _=>rfl,?_,fun b c q=>.inl q⟩,⟨hm.imm,by simp[hl,hlen],?_,?_⟩,⟨hr.1,hr.2.1,fun k hk=>(ht k).rep hle hL (hr.2.2 k hk)⟩⟩
 ·rintro b ⟨l,i,q1,q2⟩
  rcases hcase l i q1 with ⟨_,q⟩|⟨_,q⟩
  ·exact .inl ⟨l,i,q,q2⟩
  ·subst q;simp at q2
 ·intro l i r' q1 q2
  rcases hcase l i q1 with ⟨hlt,q⟩|⟨rfl,rfl⟩
  ·obtain⟨r,e1,e2,e3,e4⟩:=hrow l r' hlt q2
   obtain⟨k1,k2,k3,k4⟩:=hm.rows l i r q e1
   refine⟨by rw[e4.len];exact k1,by rw[e3];exact k2,by rw[e3];exact e4.all k3,?_⟩
   cases hb:i.blk with
   | none =>
    rw[hb]at k4
    obtain⟨k4,k5⟩:=k4
    rw[k4]at e4
    exact⟨e4,k5⟩
   | some b =>
    rw[hb]at k4
    refine⟨k4.1,?_⟩
    have k5:=k4.2
    unfold ax_ at k5⊢
    rw[e2]
    split at k5
    ·rename_i T hT
     obtain⟨c,j1,j2,j3⟩:=k5
     exact⟨c,j1,e4.rep hle hL j2,j3⟩
    ·rename_i ents hT
     obtain⟨j1,j2,j3⟩:=k5
     rw[j1]at e4
     exact⟨e4,by rw[e3];exact j2,j3⟩
    ·rename_i T hT
     obtain⟨⟨c,j1,j2,j3⟩,j4⟩:=k5
     exact⟨⟨c,j1,e4.rep hle hL j2,j3⟩,j4⟩
    ·rename_i T hT
     obtain⟨c,fr,j1,j2,j3⟩:=k5
     exact⟨c,fr,j1,e4.rep hle hL j2,j3⟩
    ·rename_i ents ck hT
     obtain⟨j1,j2,arr,j3,j4⟩:=k5
     rw[j1]at e4
     exact⟨e4,by rw[e3];exact j2,arr,j3,j4.up hle⟩
    ·rename_i ents hT
     obtain⟨j1,j2,j3⟩:=k5
     rw[j1]at e4
     exact⟨e4,by rw[e3];exact j2,j3⟩
    ·rename_i m0 sc sn ck hT
     obtain⟨j1,j2,bm,j3,j4⟩:=k5
     rw[j1]at e4
     exact⟨e4,by rw[e3];exact j2,bm,j3,Rep.up hle _ _ j4⟩
    ·rename_i hT
     obtain⟨j1,j2,j3⟩:=k5
     rw[j1]at e4
     exact⟨e4,by rw[e3];exact j2,j3⟩
  ·rw[hnew]at q2
   obtain rfl:=Option.some.inj q2
   exact⟨rfl,rfl,by simp,rfl,rfl⟩
 ·intro l l' i i' b q1 q1' q2 q2'
  rcases hcase l i q1 with ⟨_,q⟩|⟨_,rfl⟩
  ·rcases hcase l' i' q1' with ⟨_,q'⟩|⟨_,rfl⟩
   ·exact hm.one l l' i i' b q q' q2 q2'
   ·simp at q2'
  ·simp at q2
theorem bN_{N:Nat}{t:Nat→AV}{h:List Row}:g8_ N t h t h:=fun S w a hm hr=>⟨S,.refl S w,hm,hr⟩
theorem ic_{N:Nat}{t:Nat→AV}{h:List Row}(d:Nat)(T:TypeId)(sz:Nat)(hd:t d=.val (.slice none 0 0)):g8_ N t h (upd t d (.own h.length 0)) (h++[⟨.ty T,sz,[]⟩]):=by
 refine kl_ (.ty T) ⟨T,rfl⟩ sz (fun k=>?_) (by simp) (by rw[iP_];rfl) (fun l r' hl hr=>⟨r',by rwa [getElem?_append_left hl]at hr,rfl,rfl,dW_.refl _ _⟩)
 by_cases e:k=d
 ·subst e;right;exact⟨hd,uS_ _ _ _⟩
 ·left;exact yW_ _ _ _ _ e
structure dF_(l:Nat)(H:List Row)(E:Tag)(sz:Nat)(done ds:List (List AV)):Prop where
 row:H[l]?=some ⟨E,sz,done⟩
 tree:b4_ (l+1) H.length H done ds
theorem dF_.lt{l:Nat}{H:List Row}{E:Tag}{sz:Nat}{done ds:List (List AV)}(g:dF_ l H E sz done ds):l<H.length:=(List.getElem?_eq_some_iff.1 g.row).1
theorem dF_.step{l:Nat}{H H1 H2:List Row}{E:Tag}{sz:Nat}{done ds:List (List AV)}{cs rs:List AV}(g:dF_ l H E sz done ds)(hf:aU_ H.length H1.length H1 cs rs)(h1:H.length≤H1.length)(hk:∀x,l<x→x<H.length→H1[x]?=H[x]?)
 (h2:H1.length≤H2.length) (hk2:∀x,l<x→x<H1.length→H2[x]?=H1[x]?) (hr:H2[l]?=some ⟨E,sz,done++[cs]⟩):dF_ l H2 E sz (done++[cs]) (ds++[rs]):=by
 refine⟨hr,b4_.snoc (mid:=H.length) (g.tree.keep fun x q1 q2=>?_) ((hf.keep fun x q1 q2=>?_).widen (Nat.le_refl _) h2) ⟨g.lt,by omega⟩⟩
 ·rw[hk2 x (by omega) (by omega),hk x (by omega) q2]
 ·exact hk2 x (by have:=g.lt;omega) q2
theorem dF_.more{l:Nat}{H H':List Row}{E:Tag}{sz:Nat}{done ds:List (List AV)}(g:dF_ l H E sz done ds)(h1:H.length≤H'.length)(hk:∀x,l≤x→x<H.length→H'[x]?=H[x]?):dF_ l H' E sz done ds :=
 ⟨by rw[hk l (Nat.le_refl _) g.lt];exact g.row,(g.tree.keep fun x q1 q2=>hk x (by omega) q2).widen (Nat.le_refl _) h1⟩
theorem dF_.done{l n:Nat}{H:List Row}{E:Tag}{sz:Nat}{done ds:List (List AV)}(g:dF_ l H E sz done ds)(hn:done.length=n):aP_ l H.length H (.own l n) (.list 0 sz ds) :=
 aP_.mkown g.tree g.row hn (Nat.le_refl _) (Nat.lt_succ_self _) g.lt
theorem dF_.agg{l n lo:Nat}{H:List Row}{E:Tag}{sz:Nat}{done ds:List (List AV)}(g:dF_ l H E sz done ds)(hn:done.length=n)(hlo:lo≤l)(v u:Value):aP_ lo H.length H (.agg [.val v,.val u,.own l n]) (.agg [.val v,.val u,.list 0 sz ds]) :=
 (aP_.agg (aU_.val _ (aU_.val _ (aU_.cons (g.done hn) (aU_.nil _ _ _) ⟨Nat.le_of_lt g.lt,Nat.le_refl _⟩)))).widen hlo (Nat.le_refl _)
theorem dF_.zero{l:Nat}{H:List Row}{E:Tag}{sz:Nat}(h:H[l]?=some ⟨E,sz,[]⟩):dF_ l H E sz [] []:=⟨h,.nil _ _ _⟩
theorem aU_.rest{lo hi:Nat}{H:List Row}{a r:AV}{as rs:List AV}(h:aU_ lo hi H (a::as) (r::rs)):aU_ lo hi H as rs:=by
 obtain⟨n,fs,⟨d,ds,f,f',e1,rfl,h1,h2⟩,p2,p3⟩:=h
 cases e1
 exact⟨n,f',h2,(nodup_append.1 p2).2.1,fun l hl=>p3 l (mem_append_right _ hl)⟩
theorem lW_{α:Type}:∀xs:List α,hs_ (fun _=>0) xs=0
 | []=>rfl
 | x::xs=>by simp only[hs_];rw[lW_ xs]
theorem qR_{α:Type}(xs:List α):c5_ (fun _=>0) xs=xs.length:=by simp only[c5_];rw[lW_];rfl
section
variable {H0 H H' : List Row} {i : Nat} {r : Row}
theorem bu_.refl(H:List Row):bu_ H H:=⟨Nat.le_refl _,fun _ _=>rfl⟩
theorem bu_.set(m:bu_ H0 H)(h:H0.length≤i):bu_ H0 (H.set i r):=⟨by rw[List.length_set];exact m.len,fun l hl=>by rw[getElem?_set_ne (by omega)];exact m.kept l hl⟩
theorem bu_.add(m:bu_ H0 H)(l:List Row):bu_ H0 (H++l):=⟨by rw[List.length_append];have:=m.len;omega,fun x hx=>by rw[getElem?_append_left (by have:=m.len;omega)];exact m.kept x hx⟩
theorem bu_.app(H l:List Row):bu_ H (H++l):=(bu_.refl H).add l
theorem bu_.tail(m:bu_ H0 H):∃hn,H=H0++hn:=by
 refine⟨H.drop H0.length,?_⟩
 have e:H.take H0.length=H0:=by
  apply ext_getElem?
  intro l
  rw[getElem?_take]
  by_cases q:l<H0.length
  ·rw[if_pos q];exact m.kept l q
  ·rw[if_neg q,getElem?_eq_none (by omega)]
 rw[←take_append_drop H0.length H,e]
 simp
end
theorem pc_{P:Program}{N:Nat}{Q:dc_}{k:List Fr}{t:Nat→AV}{h:List Row}{b:LC}(h':List Row)(hg:∀t,g8_ N t h t h')(hb:Ex P N Q b k t h'):Ex P N Q (.ghost b) k t h:=bv_ t h' (hg t) hb
theorem aP_.pair{lo hi:Nat}{H:List Row}{a r:AV}(h:aP_ lo hi H a r)(hl:lo≤hi)(v:Value):aP_ lo hi H (.tup [a,.val v]) (.tup [r,.val v]) :=
 aP_.tup (aU_.cons h (aU_.val v (aU_.nil hi hi H)) ⟨hl,Nat.le_refl _⟩)
structure Res(h h':List Row)(av r:AV):Prop where
 more:bu_ h h'
 tree:aP_ h.length h'.length h' av r
theorem tK_{P:Program}{f:FuncId}{fn:Func}{lf:LF}{args:List AV}{r:AV}{Q:AV→Prop}(hmx:P.follows .mixedOrders=true)(hf:P.funcs[f]?=some fn)(hl:aC_ P fn lf)(hn:args.length=lf.np)
 (hw:∀h:List Row,Ex P lf.N (cD_ lf.res fun av h'=>Res h h' av r∧Q av) lf.body [] (gD_ args) h):eV_ P f args r Q:=by
 intro h K hk
 refine(aO_ hmx hf hl (bA_ hn (hw h))).mono ?_
 rintro a h' ⟨⟨m,h1⟩,h2⟩
 obtain⟨hn,rfl⟩:=m.tail
 exact hk a hn h1.fresh h2
mutual
def AV.shift(k:Nat):AV→AV
 | .val v=>.val v
 | .list tk sz es=>.list tk sz es
 | .iptr cs=>.iptr cs
 | .ptr l n i off=>.ptr (l+k) n i off
 | .own l n=>.own (l+k) n
 | .sub l n lo hi=>.sub (l+k) n lo hi
 | .mp l=>.mp (l+k)
 | .agg cs=>.agg (dv_ k cs)
 | .tup cs=>.tup (dv_ k cs)
 | .fn f a b=>.fn f (dv_ k a) (dv_ k b)
 | .undef=>.undef
def dv_(k:Nat):List AV→List AV
 | []=>[]
 | c::cs=>c.shift k::dv_ k cs
end
theorem lP_(k:Nat):∀cs:List AV,(dv_ k cs).length=cs.length
 | []=>rfl
 | c::cs=>by simp only[dv_,List.length_cons];rw[lP_ k cs]
def gg_(k:Nat)(es:List (List AV)):List (List AV):=es.map (dv_ k)
def vk_(k:Nat):Tag→Tag
 | .pmap ents c=>.pmap (ents.map fun e=>(e.1,e.2.1,e.2.2.shift k)) c
 | .iter m s seen c=>.iter (m+k) s seen c
 | T=>T
def eY_(k:Nat)(r:Row):Row:=⟨vk_ k r.E,r.sz,gg_ k r.es⟩
section
variable {S S2 : Sit} {R : List bV_} {k : Nat} (himm : S2.imm = S.imm) (hrows : S2.rows = R ++ S.rows) (hk : R.length = k)
include himm hrows hk
theorem h9_{l:Nat}:S2.rows[l+k]?=S.rows[l]?:=by
 rw[hrows,getElem?_append_right (by omega)];congr 1;omega
theorem k0_:S2.still=S.still:=by simp[Sit.still,himm]
mutual
theorem Rep.shift:∀(a:AV) (x:Value),Rep S a x→Rep S2 (a.shift k) x
 | .val v,x,r=>by simpa[Rep,AV.shift]using r
 | .list tk sz es,x,r=>by
  simp only[Rep,AV.shift]at r⊢
  rw[himm,k0_ himm hrows hk];exact r
 | .iptr cs,x,r=>by
  simp only[Rep,AV.shift]at r⊢
  rw[himm,k0_ himm hrows hk];exact r
 | .ptr l n i off,x,r=>by
  simp only[Rep,AV.shift]at r⊢
  rw[h9_ himm hrows hk];exact r
 | .own l n,x,r=>by
  simp only[Rep,AV.shift]at r⊢
  rw[h9_ himm hrows hk];exact r
 | .sub l n lo hi,x,r=>by
  simp only[Rep,AV.shift]at r⊢
  rw[h9_ himm hrows hk];exact r
 | .mp l,x,r=>by
  simp only[Rep,AV.shift]at r⊢
  rw[h9_ himm hrows hk];exact r
 | .agg cs,x,r=>by
  simp only[Rep,AV.shift]at r⊢
  obtain⟨vs,e,r⟩:=r
  exact⟨vs,e,ae_.shift cs _ r⟩
 | .tup cs,x,r=>by
  simp only[Rep,AV.shift]at r⊢
  obtain⟨vs,e,r⟩:=r
  exact⟨vs,e,ae_.shift cs _ r⟩
 | .fn f a b,x,r=>by
  simp only[Rep,AV.shift]at r⊢
  obtain⟨vs,us,e,r1,r2⟩:=r
  exact⟨vs,us,e,ae_.shift a _ r1,ae_.shift b _ r2⟩
 | .undef,x,r=>by simp[Rep,AV.shift]
theorem ae_.shift:∀(a:List AV) (x:List Value),ae_ S a x→ae_ S2 (dv_ k a) x
 | [],x,r=>by simpa[ae_,dv_]using r
 | c::cs,x,r=>by
  simp only[ae_,dv_]at r⊢
  obtain⟨v,w,e,r1,r2⟩:=r
  exact⟨v,w,e,Rep.shift c v r1,ae_.shift cs w r2⟩
end
theorem an_.shift:∀(a:List AV) (x:List Value),an_ S a x→an_ S2 (dv_ k a) x
 | [],x,r=>by simp[an_,dv_]
 | c::cs,x,r=>by
  simp only[an_,dv_]at r⊢
  obtain⟨v,w,e,r1,r2⟩:=r
  exact⟨v,w,e,Rep.shift himm hrows hk c v r1,an_.shift cs w r2⟩
theorem aj_.shift:∀(es:List (List AV)) (x:List Value),aj_ S es x→aj_ S2 (gg_ k es) x
 | [],x,r=>by simp[aj_,gg_]
 | c::cs,x,r=>by
  simp only[gg_,map_cons,aj_]at r⊢
  exact⟨an_.shift himm hrows hk c _ r.1,by rw[lP_];exact aj_.shift cs _ r.2⟩
theorem a8_.shift:∀(es:List MapEntry) (ps:List (Int×Nat×AV)),a8_ S es ps→a8_ S2 es (ps.map fun e=>(e.1,e.2.1,e.2.2.shift k))
 | [],[],_=>trivial
 | [],_::_,q=>q.elim
 | _::_,[],q=>q.elim
 | e::es,p::ps,q=>⟨⟨q.1.1,q.1.2.1,Rep.shift himm hrows hk _ _ q.1.2.2⟩,a8_.shift es ps q.2⟩
end
section
variable {H h : List Row} {k : Nat} (hk : h.length = k)
include hk
theorem od_{l:Nat}:(h++H.map (eY_ k))[l+k]?=(H[l]?).map (eY_ k):=by
 rw[getElem?_append_right (by omega),getElem?_map];congr 2;omega
theorem aL_.shift{R R':AV→AV→List Nat→Prop}(hR:∀a r f,R a r f→R' (a.shift k) r (f.map (·+k))):∀{as rs:List AV} {fs:List Nat},aL_ R as rs fs→aL_ R' (dv_ k as) rs (fs.map (·+k))
 | [],rs,fs,ho=>by
  obtain⟨rfl,rfl⟩:=ho
  exact⟨rfl,rfl⟩
 | a::as,rs,fs,ho=>by
  obtain⟨d,ds,f,f',rfl,rfl,h1,h2⟩:=ho
  exact⟨d,ds,_,_,rfl,by rw[map_append],hR _ _ _ h1,aL_.shift hR h2⟩
theorem aV_.shift{R R':AV→AV→List Nat→Prop}(hR:∀a r f,R a r f→R' (a.shift k) r (f.map (·+k))):∀{as rs:List (List AV)} {fs:List Nat},aV_ R as rs fs→aV_ R' (gg_ k as) rs (fs.map (·+k))
 | [],rs,fs,ho=>by
  obtain⟨rfl,rfl⟩:=ho
  exact⟨rfl,rfl⟩
 | a::as,rs,fs,ho=>by
  obtain⟨d,ds,f,f',rfl,rfl,h1,h2⟩:=ho
  exact⟨d,ds,_,_,rfl,by rw[map_append],aL_.shift hk hR h1,aV_.shift hR h2⟩
theorem Own.shift:∀{n:Nat} {a r:AV} {fs:List Nat},Own H n a r fs→Own (h++H.map (eY_ k)) n (a.shift k) r (fs.map (·+k))
 | 0,a,r,fs,ho=>ho.elim
 | n+1,.val v,r,fs,ho=>by
  obtain⟨rfl,h2⟩:=ho
  exact⟨rfl,h2⟩
 | n+1,.own l m,r,fs,ho=>by
  obtain⟨row,es,f,h1,h2,h3,rfl,rfl⟩:=ho
  refine⟨eY_ k row,es,_,by rw[od_ hk,h1];rfl,by simpa[eY_,gg_]using h2,aV_.shift hk (fun a r f ho=>Own.shift ho) h3,rfl,by simp⟩
 | n+1,.sub l m lo hi,r,fs,ho=>by
  obtain⟨row,es,f,h1,h2,h3,rfl,rfl⟩:=ho
  refine⟨eY_ k row,es,_,by rw[od_ hk,h1];rfl,by simpa[eY_,gg_]using h2,aV_.shift hk (fun a r f ho=>Own.shift ho) h3,rfl,by simp⟩
 | n+1,.agg cs,r,fs,ho=>by
  obtain⟨ds,h1,rfl⟩:=ho
  exact⟨ds,aL_.shift hk (fun a r f ho=>Own.shift ho) h1,rfl⟩
 | n+1,.tup cs,r,fs,ho=>by
  obtain⟨ds,h1,rfl⟩:=ho
  exact⟨ds,aL_.shift hk (fun a r f ho=>Own.shift ho) h1,rfl⟩
 | n+1,.list _ _ _,r,fs,ho=>ho.elim
 | n+1,.iptr _,r,fs,ho=>ho.elim
 | n+1,.ptr _ _ _ _,r,fs,ho=>ho.elim
 | n+1,.mp _,r,fs,ho=>ho.elim
 | n+1,.fn _ _ _,r,fs,ho=>ho.elim
 | n+1,.undef,r,fs,ho=>ho.elim
theorem aP_.shift{lo hi:Nat}{a r:AV}(hf:aP_ lo hi H a r):aP_ (lo+k) (hi+k) (h++H.map (eY_ k)) (a.shift k) r:=by
 obtain⟨n,fs,h1,h2,h3⟩:=hf
 refine⟨n,_,Own.shift hk h1,List.Pairwise.map _ (fun a b hab q=>hab (by omega)) h2,fun l hl=>?_⟩
 obtain⟨m,hm,rfl⟩:=mem_map.1 hl
 have:=h3 m hm
 omega
end
section
variable {H l t : List Row} {i j : Nat} {r : Row}
theorem al_(h:i≠j):(H.set i r)[j]?=H[j]?:=getElem?_set_ne h
theorem ao_(h:i<H.length):(H.set i r)[i]?=some r:=by rw[getElem?_set_self h]
theorem ac_(h:i<H.length):(H++l)[i]?=H[i]?:=getElem?_append_left h
theorem ar_(h:i=H.length):(H++r::t)[i]?=some r:=by subst h;rw[getElem?_append_right (Nat.le_refl _),Nat.sub_self];rfl
theorem a1_{s:Row}(h:i=H.length+1):(H++r::s::t)[i]?=some s:=by subst h;rw[getElem?_append_right (by omega)];simp
theorem bD_{s u:Row}(h:i=H.length+2):(H++r::s::u::t)[i]?=some u:=by subst h;rw[getElem?_append_right (by omega)];simp
theorem cg_{s u v:Row}(h:i=H.length+3):(H++r::s::u::v::t)[i]?=some v:=by subst h;rw[getElem?_append_right (by omega)];simp
end
abbrev vL_(s:ByteArray):List AV:=[.val (.string s)]
theorem lm_{h0:List Row}{E:Tag}(xs:List ByteArray):h1_ h0.length (h0++[⟨E,1,xs.map vL_⟩]) (.own h0.length xs.length) (.list 0 1 (xs.map vL_)) :=
 (aP_.mkown (E:=E) (lo:=h0.length+1) (hi:=h0.length+1) (b4_.ofVals _ _ _ _ (by
   intro e he c hc
   obtain⟨x,_,q⟩:=mem_map.1 he;subst q
   simp only[vL_,mem_singleton]at hc
   exact⟨_,hc⟩)) (by simp) (by simp) (Nat.le_refl _) (Nat.lt_succ_self _) (Nat.le_refl _)).fresh
theorem ab_.unfull{S:Sit}{h:List Row}{w:World}(m:ab_ S h w){l:Nat}{E:TypeId}{sz:Nat}{es:List (List AV)}(hl:h[l]?=some ⟨.full E,sz,es⟩):ab_ S (h.set l ⟨.ty E,sz,es⟩) w:=by
 refine⟨m.imm,by simp[m.len],fun l' i r q1 q2=>?_,m.one⟩
 rw[getElem?_set]at q2
 by_cases e:l=l'
 ·subst e
  have hlt:=(List.getElem?_eq_some_iff.1 hl).1
  simp[hlt]at q2
  subst q2
  obtain⟨k1,k2,k3,k4⟩:=m.rows l i _ q1 hl
  refine⟨k1,k2,k3,?_⟩
  cases hb:i.blk with
  | none=>rw[hb]at k4;exact k4
  | some b =>
   rw[hb]at k4
   refine⟨k4.1,?_⟩
   have k5:=k4.2
   rw[ax_.full (E:=E) rfl]at k5
   rw[ax_.ty (E:=E) rfl]
   exact k5.1
 ·simp[e]at q2
  exact m.rows l' i r q1 q2
theorem ab_.mkfull{S:Sit}{h:List Row}{w:World}(m:ab_ S h w){l:Nat}{i:bV_}{E:TypeId}{sz:Nat}{es:List (List AV)}(hl:h[l]?=some ⟨.ty E,sz,es⟩)(hi:S.rows[l]?=some i)(hc:i.cap=i.len):ab_ S (h.set l ⟨.full E,sz,es⟩) w:=by
 refine⟨m.imm,by simp[m.len],fun l' i' r q1 q2=>?_,m.one⟩
 rw[getElem?_set]at q2
 by_cases e:l=l'
 ·subst e
  have hlt:=(List.getElem?_eq_some_iff.1 hl).1
  simp[hlt]at q2
  subst q2
  rw[hi]at q1
  obtain rfl:=Option.some.inj q1
  obtain⟨k1,k2,k3,k4⟩:=m.rows l i _ hi hl
  refine⟨k1,k2,k3,?_⟩
  cases hb:i.blk with
  | none=>rw[hb]at k4;exact k4
  | some b =>
   rw[hb]at k4
   refine⟨k4.1,?_⟩
   have k5:=k4.2
   rw[ax_.ty (E:=E) rfl]at k5
   rw[ax_.full (E:=E) rfl]
   exact⟨k5,hc⟩
 ·simp[e]at q2
  exact m.rows l' i' r q1 q2
theorem k7_{P:Program}{f:FuncId}{l N lo sz:Nat}{E:TypeId}{es:List (List AV)}{rest:List AV}{h:List Row}{K:AV→List Row→Prop}(hl:h[l]?=some ⟨.ty E,sz,es⟩)(hN:es.length=N)(hsz:0<sz)
 (h1:callSem P f (.sub l (N+1) lo N::rest) (h.set l ⟨.ty E,sz,es++[List.replicate sz .undef]⟩) K)
 (h2:callSem P f (.sub l N lo N::rest) (h.set l ⟨.full E,sz,es⟩) fun av h'=>h'[l]?=some ⟨.full E,sz,es⟩∧K av (h'.set l ⟨.ty E,sz,es⟩)):callSem P f (.sub l N lo N::rest) h K:=by
 intro S w vals hm hgl hr
 have hr0:=hr
 simp only[ae_]at hr
 obtain⟨v,r,hv,hr1,hr2⟩:=hr
 simp only[Rep]at hr1
 obtain⟨_,i,p1,p2,p3⟩:=hr1
 obtain⟨k1,k2,k3,k4⟩:=hm.rows l i _ p1 hl
 have hil:i.len=N:=by rw[k1,hN]
 obtain⟨g1,_,g3⟩:=p3 hil.symm
 by_cases hc:i.len<i.cap
 ·cases hb:i.blk with
  | none=>rw[hb]at k4;have:=k4.2;omega
  | some b =>
   rw[hb]at k4
   have k5:=k4.2
   rw[ax_.ty (E:=E) rfl]at k5
   obtain⟨c,j2,j3,j4,j5,j6⟩:=k5
   have hlen:∀e∈es++[List.replicate sz AV.undef],e.length=sz:=by
    intro e he
    rcases mem_append.1 he with q|q
    ·exact k3 e q
    ·simp only[mem_singleton]at q;subst q;simp
   have hsz2:i.sz=sz:=k2
   have hg:=ab_.grow (w':=w) hm (E:=E) (.inl rfl) p1 hl (es':=es++[List.replicate sz .undef]) (b:=b) (cap:=i.cap) (c':=c) hlen (by simp)
    (by
      refine(bi_ hlen).2 fun q e he j cc hj=>?_
      by_cases hq:q<es.length
      ·rw[getElem?_append_left hq]at he
       exact(bi_ k3).1 j3 q e he j cc hj
      ·rw[getElem?_append_right (by omega)]at he
       have hq0:q-es.length=0:=by
        by_cases z:q-es.length=0
        ·exact z
        ·obtain⟨k,hk⟩:=Nat.exists_eq_succ_of_ne_zero z
         rw[hk]at he;simp at he
       rw[hq0]at he
       simp only[getElem?_cons_zero,Option.some.injEq]at he
       subst he
       have hjl:j<sz:=by
        have:=(List.getElem?_eq_some_iff.1 hj).1
        simpa using this
       have hcu:cc=.undef:=by
        have:=mem_of_getElem? hj
        exact eq_of_mem_replicate this
       subst hcu
       have hqe:q=es.length:=by omega
       have hlt:q * sz+j<c.size:=by
        rw[j4,hsz2,hqe,hN]
        have:(N+1) * sz≤i.cap * sz:=Nat.mul_le_mul_right _ (by omega)
        rw[Nat.add_mul]at this
        omega
       exact⟨c[q * sz+j],by simp[hlt],by simp[Rep]⟩)
    (by show c.size=i.cap * sz;rw[j4,hsz2]) (by simp;omega) j6 (.inl hb) ⟨(0,0),j2,.zero _ _⟩ (fun _ _ _=>rfl) (Nat.le_refl _) rfl rfl rfl
   have hS:=hg.2
   refine(h1 _ w vals hg.1 (hgl.up hS.le) ?_).mono ?_
   ·rw[hv]
    simp only[ae_]
    refine⟨v,r,rfl,?_,ae_.up hS.le _ _ hr2⟩
    have hll:l<S.rows.length:=(List.getElem?_eq_some_iff.1 p1).1
    simp only[Rep]
    refine⟨?_,⟨(es++[List.replicate sz AV.undef]).length,some b,i.cap,sz⟩,by simp[hll],by simp;omega,fun _=>⟨g1,by omega,.inr ?_⟩⟩
    ·rcases g3 with ⟨_,p,q⟩|⟨b',off,_,q,_⟩
     ·exact⟨_,_,_,q⟩
     ·exact⟨_,_,_,q⟩
    ·rcases g3 with ⟨q,_⟩|⟨b',off,hb',q,hoff⟩
     ·rw[hb]at q;cases q
     ·rw[hb]at hb';cases hb'
      exact⟨b,off,rfl,q,fun hp=>by have:=hoff hp;rw[this,hsz2]⟩
   ·rintro e w' ⟨v',av,S2,h2',e1,st,m2,rv,k⟩
    exact⟨v',av,S2,h2',e1,hS.trans st,m2,rv,k⟩
 ·have hcap:i.cap=i.len:=by
   cases hb:i.blk with
   | none=>rw[hb]at k4;rw[k4.2,k1,k4.1];rfl
   | some b =>
    rw[hb]at k4
    have k5:=k4.2
    rw[ax_.ty (E:=E) rfl]at k5
    obtain⟨c,j2,j3,j4,j5,j6⟩:=k5
    omega
  refine(h2 S w vals (hm.mkfull hl p1 hcap) hgl hr0).mono ?_
  rintro e w' ⟨v',av,S2,h2',e1,st,m2,rv,q1,q2⟩
  exact⟨v',av,S2,h2'.set l ⟨.ty E,sz,es⟩,e1,st,m2.unfull q1,rv,q2⟩
theorem Rep.own_sub{S:Sit}{l n:Nat}{x:Value}(r:Rep S (.own l n) x):Rep S (.sub l n 0 n) x:=by
 simp only[Rep]at r⊢
 obtain⟨r0,i,r1,r2,r3⟩:=r
 refine⟨r0,i,r1,r2,fun q=>⟨Nat.zero_le _,Nat.le_refl _,?_⟩⟩
 rcases r3 q with h|⟨h1,h2⟩
 ·cases hb:i.blk with
  | none=>left;exact⟨rfl,none,by simpa[sliceAt,hb]using h⟩
  | some b =>
   right
   refine⟨b,0,rfl,?_,fun _=>by simp⟩
   rw[h];simp only[sliceAt,hb]
   rw[q];rfl
 ·left
  obtain⟨p,h2⟩:=h2
  exact⟨h1,p,by simpa using h2⟩
theorem callSem.own_sub{P:Program}{f:FuncId}{l n:Nat}{rest:List AV}{h:List Row}{K:AV→List Row→Prop}(hc:callSem P f (.sub l n 0 n::rest) h K):callSem P f (.own l n::rest) h K:=by
 intro S w vals hm hgl hr
 refine hc S w vals hm hgl ?_
 simp only[ae_]at hr⊢
 obtain⟨v,r,hv,hr1,hr2⟩:=hr
 exact⟨v,r,hv,hr1.own_sub,hr2⟩
theorem qI_{α:Type}:∀{a b:List (List α)},a.Sublist b→a.flatten.Sublist b.flatten:=by
 intro a b h
 induction h with
 | slnil=>exact List.Sublist.refl _
 | cons x _ ih=>rw[flatten_cons];exact ih.trans (sublist_append_right _ _)
 | cons_cons x _ ih=>rw[flatten_cons,flatten_cons];exact List.Sublist.append (List.Sublist.refl _) ih
structure Tr where
 c:List AV
 d:List AV
 f:List Nat
theorem aV_.of_trs{R:AV→AV→List Nat→Prop}:∀ts:List Tr,(∀t∈ts,aL_ R t.c t.d t.f)→aV_ R (ts.map Tr.c) (ts.map Tr.d) (ts.map Tr.f).flatten
 | [],_=>⟨rfl,rfl⟩
 | t::ts,h=>⟨t.d,ts.map Tr.d,t.f,(ts.map Tr.f).flatten,rfl,by simp,h t (by simp),aV_.of_trs ts fun x hx=>h x (by simp[hx])⟩
theorem gW_{α:Type}(p:α→Bool):∀(xs:List α) (k:Nat),(bR_ p xs k = -1∧∀c∈xs,p c=false)∨∃i,∃hi:i<xs.length,bR_ p xs k=((k+i:Nat):Int)∧p xs[i]=true∧∀(j:Nat) (hj:j<i),p xs[j]=false
 | [],k=>.inl ⟨rfl,fun _ h=>by simp at h⟩
 | x::r,k=>by
  by_cases q:p x=true
  ·exact .inr ⟨0,by simp,by simp[bR_,q],by simpa using q,fun j hj=>absurd hj (Nat.not_lt_zero j)⟩
  ·have q':p x=false:=by simpa using q
   rcases gW_ p r (k+1)with ⟨h1,h2⟩|⟨i,hi,h1,h2,h3⟩
   ·refine .inl ⟨?_,fun c hc=>?_⟩
    ·unfold bR_;rw[q'];simpa using h1
    ·rcases mem_cons.1 hc with e|e
     ·subst e;exact q'
     ·exact h2 c e
   ·refine .inr ⟨i+1,by simpa using hi,?_,by simpa using h2,fun j hj=>?_⟩
    ·unfold bR_;rw[q']
     simp only[Bool.false_eq_true,if_false]
     rw[h1];congr 1;omega
    ·cases j with
     | zero=>exact q'
     | succ j=>exact h3 j (by omega)
def foot(l:Nat)(ts:List Tr):List Nat:=l::(ts.map Tr.f).flatten
structure ck_(lo:Nat)(H:List Row)(E sz l m:Nat)(ts:List Tr):Prop where
 row:H[l]?=some ⟨.ty E,sz,ts.map Tr.c⟩
 le:m≤ts.length
 wide:∀t∈ts,t.c.length=sz∧t.c.all AV.cell=true
 tree:∃k,∀t∈ts,aL_ (Own H k) t.c t.d t.f
 one:(foot l ts).Nodup
 lows:∀x∈foot l ts,lo≤x∧x<H.length
def Sl(a:AV)(l m:Nat)(ts:List Tr):Prop:=a=.sub l ts.length 0 m∨(a=.own l ts.length∧m=ts.length)
section
variable {lo E sz l m : Nat} {H H' : List Row} {ts : List Tr} {a : AV}
theorem ck_.lt(s:ck_ lo H E sz l m ts):l<H.length:=(List.getElem?_eq_some_iff.1 s.row).1
theorem ck_.fresh(s:ck_ lo H E sz l m ts):aP_ lo H.length H (.sub l ts.length 0 m) (.list 0 sz ((ts.take m).map Tr.d)):=by
 obtain⟨k,hk⟩:=s.tree
 exact⟨k+1,foot l ts,⟨⟨.ty E,sz,ts.map Tr.c⟩,ts.map Tr.d,(ts.map Tr.f).flatten,s.row,by simp,aV_.of_trs ts hk,by simp[map_take],rfl⟩,s.one,s.lows⟩
theorem ck_.freshOwn(s:ck_ lo H E sz l m ts):aP_ lo H.length H (.own l ts.length) (.list 0 sz (ts.map Tr.d)):=by
 obtain⟨k,hk⟩:=s.tree
 exact⟨k+1,foot l ts,⟨⟨.ty E,sz,ts.map Tr.c⟩,ts.map Tr.d,(ts.map Tr.f).flatten,s.row,by simp,aV_.of_trs ts hk,rfl,rfl⟩,s.one,s.lows⟩
theorem ck_.freshS(s:ck_ lo H E sz l m ts)(h:Sl a l m ts):aP_ lo H.length H a (.list 0 sz ((ts.take m).map Tr.d)):=by
 rcases h with rfl|⟨rfl,rfl⟩
 ·exact s.fresh
 ·rw[take_length];exact s.freshOwn
theorem Sl.cell(h:Sl a l m ts):a.cell=true:=by
 rcases h with rfl|⟨rfl,_⟩<;>rfl
theorem ck_.keep(s:ck_ lo H E sz l m ts)(hk:∀x∈foot l ts,H'[x]?=H[x]?)(hl:H.length≤H'.length):ck_ lo H' E sz l m ts:=by
 obtain⟨k,ht⟩:=s.tree
 refine⟨by rw[hk l (by simp[foot])];exact s.row,s.le,s.wide,⟨k,fun t q=>?_⟩,s.one,fun x hx=>?_⟩
 ·refine aL_.mono (fun a r g hg ho=>ho.keep fun x hx=>hk x ?_) (ht t q)
  exact mem_cons_of_mem _ (mem_flatten.2 ⟨t.f,mem_map.2 ⟨t,q,rfl⟩,hg x hx⟩)
 ·have:=s.lows x hx;omega
theorem ck_.more(s:ck_ lo H E sz l m ts)(h:bu_ H H'):ck_ lo H' E sz l m ts:=s.keep (fun x hx=>h.kept x (s.lows x hx).2) h.len
theorem mem_foot{t:Tr}{x:Nat}(ht:t∈ts)(hx:x∈t.f):x∈foot l ts:=mem_cons_of_mem _ (mem_flatten.2 ⟨t.f,mem_map.2 ⟨t,ht,rfl⟩,hx⟩)
theorem ck_.apart(s:ck_ lo H E sz l m ts){t:Tr}(ht:t∈ts):l∉t.f:=by
 intro h
 have:=(nodup_cons.1 s.one).1
 exact this (mem_flatten.2 ⟨t.f,mem_map.2 ⟨t,ht,rfl⟩,h⟩)
theorem ck_.renew(s:ck_ lo H E sz l m ts){l' m':Nat}{ts' new old:List Tr}(hrow:H'[l']?=some ⟨.ty E,sz,ts'.map Tr.c⟩)(hle:m'≤ts'.length)(hp:ts'.Perm (new++old))(ho:old.Sublist ts)
 (hw:∀t∈new,t.c.length=sz∧t.c.all AV.cell=true) (hn:∃k,∀t∈new,aL_ (Own H' k) t.c t.d t.f) (hnd:(new.map Tr.f).flatten.Nodup) (hnf:∀x∈(new.map Tr.f).flatten,x∉foot l ts∧x≠l'∧lo≤x∧x<H'.length)
 (hk:∀x∈(ts.map Tr.f).flatten,H'[x]?=H[x]?) (hl:l'=l∨H.length≤l') (hlen:H.length≤H'.length):ck_ lo H' E sz l' m' ts':=by
 obtain⟨k,ht⟩:=s.tree
 obtain⟨k2,hn⟩:=hn
 have hmem:∀t∈ts',t∈new∨t∈ts:=fun t q=>by
  rcases mem_append.1 (hp.mem_iff.1 q)with q|q
  ·exact .inl q
  ·exact .inr (ho.subset q)
 have hfl:(ts'.map Tr.f).flatten.Perm ((new.map Tr.f).flatten++(old.map Tr.f).flatten):=by
  have:=(hp.map Tr.f).flatten
  rwa [map_append,flatten_append]at this
 have hsub:(old.map Tr.f).flatten.Sublist (ts.map Tr.f).flatten:=qI_ (ho.map Tr.f)
 have hone:=nodup_cons.1 s.one
 have hl0:lo≤l'∧l'<H'.length:=by
  have h2:=(List.getElem?_eq_some_iff.1 hrow).1
  have h3:=s.lows l (by simp[foot])
  rcases hl with e|e
  ·subst e;omega
  ·omega
 have hlout:l'∉(ts.map Tr.f).flatten:=by
  intro q
  rcases hl with e|e
  ·subst e;exact hone.1 q
  ·have:=(s.lows l' (mem_cons_of_mem _ q)).2;omega
 refine⟨hrow,hle,fun t q=>?_,⟨k+k2,fun t q=>?_⟩,?_,fun x hx=>?_⟩
 ·rcases hmem t q with q|q
  ·exact hw t q
  ·exact s.wide t q
 ·rcases hmem t q with q|q
  ·exact aL_.up (by omega) (hn t q)
  ·refine aL_.up (n:=k) (by omega) (aL_.mono (fun a r g hg ho=>ho.keep fun x hx=>hk x ?_) (ht t q))
   exact mem_flatten.2 ⟨t.f,mem_map.2 ⟨t,q,rfl⟩,hg x hx⟩
 ·refine nodup_cons.2 ⟨fun q=>?_,hfl.nodup_iff.2 (nodup_append.2 ⟨hnd,hone.2.sublist hsub,?_⟩)⟩
  ·rcases mem_append.1 (hfl.mem_iff.1 q)with q|q
   ·exact(hnf l' q).2.1 rfl
   ·exact hlout (hsub.subset q)
  ·intro x hx y hy e
   subst e
   exact(hnf x hx).1 (mem_cons_of_mem _ (hsub.subset hy))
 ·rcases mem_cons.1 hx with e|q
  ·subst e;exact hl0
  ·rcases mem_append.1 (hfl.mem_iff.1 q)with q|q
   ·have:=hnf x q;omega
   ·have:=s.lows x (mem_cons_of_mem _ (hsub.subset q));omega
theorem ck_.put(s:ck_ lo H E sz l m ts){k:Nat}{t':Tr}(hk:k<ts.length)(hf:t'.f=ts[k].f)(hw:t'.c.length=sz∧t'.c.all AV.cell=true)(ht:∀n,aL_ (Own H n) ts[k].c ts[k].d ts[k].f→aL_ (Own H n) t'.c t'.d t'.f):ck_ lo (H.set l ⟨.ty E,sz,(ts.set k t').map Tr.c⟩) E sz l m (ts.set k t'):=by
 obtain⟨q,h⟩:=s.tree
 have hmap:(ts.set k t').map Tr.f=ts.map Tr.f:=by
  rw[map_set,hf]
  apply ext_getElem?
  intro i
  rw[getElem?_set]
  split
  ·rename_i e
   subst e
   rw[if_pos (by simpa using hk),getElem?_map,getElem?_eq_getElem hk];rfl
  ·rfl
 have hkeep:∀t∈ts,∀x∈t.f,(H.set l ⟨.ty E,sz,(ts.set k t').map Tr.c⟩)[x]?=H[x]?:=fun t ht x hx=>getElem?_set_ne (fun e:l=x=>s.apart ht (by rw[e];exact hx))
 refine⟨by rw[getElem?_set_self s.lt],by rw[List.length_set];exact s.le,fun t ht'=>?_,⟨q,fun t ht'=>?_⟩,?_,fun x hx=>?_⟩
 ·rcases mem_or_eq_of_mem_set ht' with e|e
  ·exact s.wide t e
  ·subst e;exact hw
 ·rcases mem_or_eq_of_mem_set ht' with e|e
  ·exact aL_.mono (fun a r g hg ho=>ho.keep fun x hx=>hkeep t e x (hg x hx)) (h t e)
  ·subst e
   have:=ht q (h _ (getElem_mem hk))
   exact aL_.mono (fun a r g hg ho=>ho.keep fun x hx=>hkeep _ (getElem_mem hk) x (by rw[←hf];exact hg x hx)) this
 ·unfold foot;rw[hmap];exact s.one
 ·unfold foot at hx;rw[hmap]at hx
  rw[List.length_set];exact s.lows x hx
end
structure fp_(H:List Row)(a r:AV):Prop where
 out:∀(S:Sit) (w:World) (x:Value),ab_ S H w→Rep S a x→Rep (S.shut w) r x
def e6_(H:List Row):List AV→List AV→Prop
 | [],rs=>rs=[]
 | a::as,rs=>∃r rs',rs=r::rs'∧fp_ H a r∧e6_ H as rs'
theorem e6_.nil{H:List Row}:e6_ H [] []:=rfl
theorem e6_.cons{H:List Row}{a r:AV}{as rs:List AV}(h1:fp_ H a r)(h2:e6_ H as rs):e6_ H (a::as) (r::rs):=⟨_,_,rfl,h1,h2⟩
theorem fi_.any{H:List Row}{a r:AV}(h:fi_ H a r):fp_ H a r:=⟨fun S w x m hr=>by
 rcases h with ⟨rfl,hp⟩|⟨n,fs,h1⟩
 ·exact Rep.up (hv_ m) _ _ (iv_ hp hr)
 ·exact Own.rep m n a x r fs hr h1⟩
theorem fp_.same{H:List Row}{a:AV}(hp:a.plain=true):fp_ H a a:=(fi_.same hp).any
theorem fp_.res{H:List Row}{a r:AV}{n:Nat}(h:resolve H n a=some r):fp_ H a r:=⟨fun S w x m hr=>ip_ m n a x r hr h⟩
theorem fp_.box{H:List Row}{l:Nat}{E:Tag}{sz:Nat}{c r:AV}(hl:H[l]?=some ⟨E,sz,[[c]]⟩)(hc:fp_ H c r):fp_ H (.ptr l 1 0 0) (.iptr [r]):=⟨fun S w x m hr=>by
 simp only[Rep]at hr
 obtain⟨_,i,q1,q2,q3⟩:=hr
 obtain⟨k1,k2,k3,k4⟩:=m.rows l i _ q1 hl
 obtain⟨b,hb,hx⟩:=q3 (by rw[k1];rfl)
 rw[hb]at k4
 obtain⟨_,cs,_,⟨_,j2,_⟩,j3,j4,j5,j6⟩:=k4.2.cells (.inl (by simp))
 simp only[aj_,an_]at j3
 obtain⟨⟨v,q,e,r1,_⟩,_⟩:=j3
 have hown:S.ownsB b=true:=dL_.2 ⟨l,i,q1,hb⟩
 have hlen:cs.size=q.length+1:=by
  have:=congrArg List.length e
  simpa using this
 simp only[Rep]
 refine⟨b,0,cs,by simpa using hx,by simp[Sit.shut,hown,j2],by simp[hlen],?_⟩
 rw[drop_zero,e]
 simp only[an_]
 exact⟨v,q,rfl,hc.out S w v m r1,trivial⟩⟩
theorem e6_.rep{S:Sit}{H:List Row}{w:World}(m:ab_ S H w):∀{as rs:List AV} {xs:List Value},e6_ H as rs→ae_ S as xs→ae_ (S.shut w) rs xs
 | [],rs,xs,h,r=>by subst h;simpa[ae_]using r
 | a::as,rs,xs,h,r=>by
  obtain⟨d,ds,e,h1,h2⟩:=h
  subst e
  simp only[ae_]at r⊢
  obtain⟨v,q,e,r1,r2⟩:=r
  exact⟨v,q,e,h1.out S w v m r1,e6_.rep m h2 r2⟩
theorem FB.three{lo hi:Nat}{H:List Row}{a r:AV}{v u v2 u2:Value}(h:FB lo hi H (.tup [a,.val v,.val v2]) (.tup [r,.val u,.val u2])):FB lo hi H a r∧(.val v=AV.val u)∧(.val v2=AV.val u2):=by
 have h4:=h.le
 obtain⟨n,fs,h1,h2,h3⟩:=h.tree.untup
 obtain⟨d,ds,f,f',e1,rfl,q1,q2⟩:=h1
 simp only[List.cons.injEq]at e1
 obtain⟨rfl,rfl⟩:=e1
 obtain⟨d,ds,f2,f3,e1,rfl,q3,q4⟩:=q2
 simp only[List.cons.injEq]at e1
 obtain⟨rfl,rfl⟩:=e1
 obtain⟨d,ds,f4,f5,e1,rfl,q5,q6⟩:=q4
 simp only[List.cons.injEq]at e1
 obtain⟨rfl,rfl⟩:=e1
 obtain⟨_,rfl⟩:=q6
 obtain⟨rfl,e⟩:=q3.of_val
 obtain⟨rfl,e2⟩:=q5.of_val
 refine⟨⟨⟨n,f,q1,(nodup_append.1 h2).1,fun l hl=>h3 l (mem_append_left _ hl)⟩,h4⟩,e,e2⟩
structure TB(E0 E sz L lo:Nat)(H:List Row)(l m:Nat)(ts:List Tr):Prop where
 box:∃a,H[L]?=some ⟨.ty E0,1,[[a]]⟩∧Sl a l m ts
 lt:L<lo
 at':ck_ lo H E sz l m ts
theorem TB.tree{E0 E sz L lo l m:Nat}{H:List Row}{ts:List Tr}(b:TB E0 E sz L lo H l m ts):∃a,H[L]?=some ⟨.ty E0,1,[[a]]⟩∧Sl a l m ts∧aP_ lo H.length H a (.list 0 sz ((ts.take m).map Tr.d)):=by
 obtain⟨a,h1,h2⟩:=b.box
 exact⟨a,h1,h2,b.at'.freshS h2⟩
theorem TB.keep{E0 E sz L lo l m:Nat}{H H':List Row}{ts:List Tr}(b:TB E0 E sz L lo H l m ts)(hb:H'[L]?=H[L]?)(hk:∀x∈foot l ts,H'[x]?=H[x]?)(hl:H.length≤H'.length):TB E0 E sz L lo H' l m ts:=by
 obtain⟨a,h1,h2⟩:=b.box
 exact⟨⟨a,hb.trans h1,h2⟩,b.lt,b.at'.keep hk hl⟩
theorem TB.more{E0 E sz L lo l m:Nat}{H H':List Row}{ts:List Tr}(b:TB E0 E sz L lo H l m ts)(h:bu_ H H'):TB E0 E sz L lo H' l m ts:=by
 obtain⟨a,h1,h2⟩:=b.box
 exact b.keep (h.kept L (List.getElem?_eq_some_iff.1 h1).1) (fun x hx=>h.kept x (b.at'.lows x hx).2) h.len
end Go.AW
