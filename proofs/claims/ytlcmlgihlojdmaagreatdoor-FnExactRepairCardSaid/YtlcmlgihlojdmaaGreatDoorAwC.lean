/-
 A small program logic over abstract values, proved sound over the model: what a function's code gives for data, without worlds and cells. Nothing of any one program. No conditions.
-/
import Derived.Test.YtlcmlgihlojdmaaGreatDoorAwB
import Derived.Lib.LaidTab
import Derived.Below
import Derived.Sort.Grow
set_option linter.unusedVariables false
set_option linter.unusedSimpArgs false
set_option linter.unusedSectionVars false
namespace Go.AW
open List
open Go.RowKit
open Go.RowKit (Below)
open Go.Sort (Holds putRow grow mapBlock onCells putCells)
section
variable {P : Program} {N : Nat} {Q : dK_} {k : List Fr} {t : Nat → AV} {h : List Row}
structure ExC(P:Program)(N:Nat)(Q:dK_)(v:AV)(a b:LC)(k:List Fr)(t:Nat→AV)(h:List Row):Prop where
 out:match v with|.val (.bool q)=>(q=true→Ex P N Q a k t h)∧(q=false→Ex P N Q b k t h)|_=>False
theorem wx_(c:Operand)(a b:LC):Ex P N Q (.cond c a b) k t h=ExC P N Q (aj_ t c) a b k t h:=by
 rw[ax_]
 exact propext ⟨fun q=>⟨q⟩,fun q=>q.out⟩
theorem mg_(a b:LC):ExC P N Q (.val (.bool true)) a b k t h=Ex P N Q a k t h :=
 propext ⟨fun q=>q.out.1 rfl,fun q=>⟨⟨fun _=>q,fun e=>(by cases e)⟩⟩⟩
theorem kH_(a b:LC):ExC P N Q (.val (.bool false)) a b k t h=Ex P N Q b k t h :=
 propext ⟨fun q=>q.out.2 rfl,fun q=>⟨⟨fun e=>(by cases e),fun _=>q⟩⟩⟩
theorem aF_{q:Bool}{a b:LC}(h1:q=true→Ex P N Q a k t h)(h2:q=false→Ex P N Q b k t h):ExC P N Q (.val (.bool q)) a b k t h:=⟨⟨h1,h2⟩⟩
theorem aG_{q:Bool}{a b:LC}(h1:q=true→Ex P N Q b k t h)(h2:q=false→Ex P N Q a k t h):ExC P N Q (.val (.bool (!q))) a b k t h :=
 ⟨⟨fun e=>h2 (by simpa using e),fun e=>h1 (by simpa using e)⟩⟩
theorem bd_{q:Bool}{d:Option Nat}{op:LOp}{l:List LI}(h1:q=true→ExG P N Q (some true) d op l k t h)(h2:q=false→ExG P N Q (some false) d op l k t h):ExG P N Q (some q) d op l k t h:=by
 cases q
 ·exact h2 rfl
 ·exact h1 rfl
theorem a6_{q:Bool}{d:Option Nat}{op:LOp}{l:List LI}(h1:q=true→ExG P N Q (some false) d op l k t h)(h2:q=false→ExG P N Q (some true) d op l k t h):ExG P N Q (some (!q)) d op l k t h:=by
 cases q
 ·exact h2 rfl
 ·exact h1 rfl
theorem o7_{q:Bool}{d:Option Nat}{op:LOp}{l:List LI}(h1:q=true→ExH P N Q (some true) d op l k t h)(h2:q=false→ExH P N Q (some false) d op l k t h):ExH P N Q (some q) d op l k t h:=by
 cases q
 ·exact h2 rfl
 ·exact h1 rfl
theorem nC_{q:Bool}{d:Option Nat}{op:LOp}{l:List LI}(h1:q=true→ExH P N Q (some false) d op l k t h)(h2:q=false→ExH P N Q (some true) d op l k t h):ExH P N Q (some (!q)) d op l k t h:=by
 cases q
 ·exact h2 rfl
 ·exact h1 rfl
theorem ck_{q:Bool}{d:Option Nat}{op:LOp}{l:List LI}(e:q=true)(h1:q=true→ExG P N Q (some true) d op l k t h):ExG P N Q (some q) d op l k t h:=by subst e;exact h1 rfl
theorem cj_{q:Bool}{d:Option Nat}{op:LOp}{l:List LI}(e:q=false)(h1:q=false→ExG P N Q (some false) d op l k t h):ExG P N Q (some q) d op l k t h:=by subst e;exact h1 rfl
theorem b0_{q:Bool}{d:Option Nat}{op:LOp}{l:List LI}(e:q=true)(h1:q=true→ExG P N Q (some false) d op l k t h):ExG P N Q (some (!q)) d op l k t h:=by subst e;exact h1 rfl
theorem bY_{q:Bool}{d:Option Nat}{op:LOp}{l:List LI}(e:q=false)(h1:q=false→ExG P N Q (some true) d op l k t h):ExG P N Q (some (!q)) d op l k t h:=by subst e;exact h1 rfl
theorem yr_{q:Bool}{d:Option Nat}{op:LOp}{l:List LI}(e:q=true)(h1:q=true→ExH P N Q (some true) d op l k t h):ExH P N Q (some q) d op l k t h:=by subst e;exact h1 rfl
theorem ym_{q:Bool}{d:Option Nat}{op:LOp}{l:List LI}(e:q=false)(h1:q=false→ExH P N Q (some false) d op l k t h):ExH P N Q (some q) d op l k t h:=by subst e;exact h1 rfl
theorem vn_{q:Bool}{d:Option Nat}{op:LOp}{l:List LI}(e:q=true)(h1:q=true→ExH P N Q (some false) d op l k t h):ExH P N Q (some (!q)) d op l k t h:=by subst e;exact h1 rfl
theorem us_{q:Bool}{d:Option Nat}{op:LOp}{l:List LI}(e:q=false)(h1:q=false→ExH P N Q (some true) d op l k t h):ExH P N Q (some (!q)) d op l k t h:=by subst e;exact h1 rfl
theorem bm_{q:Bool}{a b:LC}(e:q=true)(h1:q=true→Ex P N Q a k t h):ExC P N Q (.val (.bool (q))) a b k t h:=by subst e;exact(mg_ a b).symm▸h1 rfl
theorem bl_{q:Bool}{a b:LC}(e:q=false)(h1:q=false→Ex P N Q b k t h):ExC P N Q (.val (.bool (q))) a b k t h:=by subst e;exact(kH_ a b).symm▸h1 rfl
theorem a3_{q:Bool}{a b:LC}(e:q=true)(h1:q=true→Ex P N Q b k t h):ExC P N Q (.val (.bool (!q))) a b k t h:=by subst e;exact(kH_ a b).symm▸h1 rfl
theorem a4_{q:Bool}{a b:LC}(e:q=false)(h1:q=false→Ex P N Q a k t h):ExC P N Q (.val (.bool (!q))) a b k t h:=by subst e;exact(mg_ a b).symm▸h1 rfl
end
def dJ_(s:ByteArray):List Int:=s.data.toList.map fun b=>(b.toNat:Int)
theorem c4_(s:ByteArray):(dJ_ s).length=s.size:=by
 unfold dJ_;rw[length_map,Array.length_toList];rfl
theorem yP_{s:ByteArray}{i:Nat}(h:i<s.size):s[i]?=some s[i]:=getElem?_pos s i h
theorem BE_{s:ByteArray}{i:Nat}(h:i<s.size):((s[i]).toNat:Int)=(dJ_ s)[i]'(by rw[c4_];exact h):=by
 simp only[dJ_,getElem_map,Array.getElem_toList];rfl
def co_{α:Type}(p:α→Bool):List α→Nat→Int
 | [],_ => -1
 | x::xs,k=>if p x then(k:Int)else co_ p xs (k+1)
theorem h3_{α:Type}(p:α→Bool)(xs:List α)(k:Nat)(h:k<xs.length):co_ p (xs.drop k) k=if p xs[k]then(k:Int)else co_ p (xs.drop (k+1)) (k+1):=by
 rw[drop_eq_getElem_cons h];rfl
theorem eK_{α:Type}(p:α→Bool)(xs:List α)(k:Nat)(h:xs.length≤k):co_ p (xs.drop k) k = -1:=by
 rw[drop_eq_nil_of_le h];rfl
theorem kj_{α:Type}(p:α→Bool):∀(xs:List α) (k:Nat),decide (0≤co_ p xs k)=xs.any p
 | [],k=>rfl
 | x::xs,k=>by
  simp only[co_,any_cons]
  by_cases e:p x=true
  ·simp[e]
  ·simp only[e,Bool.false_eq_true,if_false,Bool.false_or];exact kj_ p xs (k+1)
theorem lA_{α:Type}(p:α→Bool)(xs:List α):decide (0≤co_ p xs 0)=xs.any p:=kj_ p xs 0
theorem wq_{α:Type}(p:α→Bool)(xs:List α)(k:Nat)(h:k<xs.length):(xs.drop k).all p=(p xs[k]&&(xs.drop (k+1)).all p):=by
 rw[drop_eq_getElem_cons h];rfl
theorem su_{α:Type}(p:α→Bool)(xs:List α)(k:Nat)(h:xs.length≤k):(xs.drop k).all p=true:=by
 rw[drop_eq_nil_of_le h];rfl
theorem DN_(k:Nat):((k:Int)=0)=(k=0):=by simp
theorem Al_(k:Nat):((0:Int)<(k:Int))=(0<k):=by simp
theorem tA_(k:Nat):((k:Int)-1).toNat=k-1:=by omega
theorem bV_{h l:List Row}{i:Nat}{r:Row}(e:h[i]?=some r):(h++l)[i]?=some r:=by
 have:=(List.getElem?_eq_some_iff.1 e).1
 rw[getElem?_append_left this,e]
theorem sg_{k:Nat}(h:0<k):(0≤(k:Int)-1)=True:=by
 apply eq_true;omega
theorem DQ_(p:Prop)[Decidable p]:(!decide p)=decide (¬ p):=by by_cases h:p<;>simp[h]
attribute [go_sem] wx_ mg_ kH_ Go.undef ca_ no_ Nat.zero_le yP_ BE_ DN_ Al_ tA_ aw_ sg_
structure ExP(P:Program)(N:Nat)(Q:dK_)(pre todo:List LI)(chain:List (LI×List LI))(k:List Fr)(t:Nat→AV)(h:List Row):Prop where
 out:hz_ h todo t fun T=>holds T h pre∧hg_ P chain T h (exK P N Q k .normal)
structure sW_(P:Program)(N:Nat)(Q:dK_)(chain:List (LI×List LI))(k:List Fr)(t:Nat→AV)(h:List Row):Prop where
 out:hg_ P chain t h (exK P N Q k .normal)
structure AfC(P:Program)(N:Nat)(Q:dK_)(d:Option Nat)(loose:List LI)(chain:List (LI×List LI))(k:List Fr)(t:Nat→AV)(v:AV)(h:List Row):Prop where
 out:holds (put t d v) h loose∧hg_ P chain (put t d v) h (exK P N Q k .normal)
structure Hol(T:Nat→AV)(h:List Row)(l:List LI):Prop where
 out:holds T h l
def ok_(t:Nat→AV)(h:List Row)(K:AV→Prop)(op:LOp):Prop:=match an_ t h op with|some v=>K v|none=>False
structure AfP(P:Program)(N:Nat)(Q:dK_)(pre:List LI)(d:Option Nat)(todo:List LI)(chain:List (LI×List LI))(k:List Fr)(t:Nat→AV)(h:List Row)(v:AV):Prop where
 out:hz_ h todo (put t d v) fun T=>holds T h pre∧hg_ P chain T h (exK P N Q k .normal)
section
variable {P : Program} {N : Nat} {Q : dK_} {k : List Fr} {t : Nat → AV} {h : List Row}
theorem yY_(pre:List LI)(chain:List (LI×List LI)):Ex P N Q (.gops pre chain) k t h=ExP P N Q pre pre chain k t h:=propext ⟨fun q=>⟨q.out⟩,fun q=>⟨q.out⟩⟩
theorem yS_(pre:List LI)(chain:List (LI×List LI)):ExP P N Q pre [] chain k t h=(Hol t h pre∧sW_ P N Q chain k t h) :=
 propext ⟨fun q=>⟨⟨q.out.1⟩,⟨q.out.2⟩⟩,fun q=>⟨⟨q.1.out,q.2.out⟩⟩⟩
theorem vE_(pre:List LI)(d:Option Nat)(op:LOp)(r:List LI)(chain:List (LI×List LI)):ExP P N Q pre (⟨d,none,op⟩::r) chain k t h=ok_ t h (AfP P N Q pre d r chain k t h) op:=by
 unfold ok_
 cases hv:an_ t h op with
 | none =>
  refine propext ⟨fun q=>?_,fun q=>q.elim⟩
  have:=q.out
  unfold hz_ at this
  simp only[hv]at this
 | some v =>
  refine propext ⟨fun q=>⟨?_⟩,fun q=>⟨?_⟩⟩
  ·have:=q.out
   unfold hz_ at this
   simp only[hv]at this
   exact this
  ·unfold hz_
   simp only[hv]
   exact q.out
theorem zR_(pre:List LI)(d:Option Nat)(r:List LI)(chain:List (LI×List LI))(v:AV):AfP P N Q pre d r chain k t h v=ExP P N Q pre r chain k (put t d v) h:=propext ⟨fun q=>⟨q.out⟩,fun q=>⟨q.out⟩⟩
theorem yT_:Hol t h []=True:=propext ⟨fun _=>trivial,fun _=>⟨trivial⟩⟩
theorem wL_(d:Nat)(op:LOp)(r:List LI):Hol t h (⟨some d,none,op⟩::r)=(ok_ t h (fun v=>v=t d) op∧Hol t h r):=by
 refine propext ⟨fun q=>?_,fun q=>⟨?_⟩⟩
 ·have:=q.out
  unfold holds at this
  refine⟨?_,⟨this.2⟩⟩
  unfold ok_
  rw[this.1]
 ·unfold holds
  refine⟨?_,q.2.out⟩
  have:=q.1
  unfold ok_ at this
  simp only
  split at this
  ·rename_i v hv;rw[hv,this]
  ·exact this.elim
theorem vH_:sW_ P N Q [] k t h=ExK P N Q k .normal t h:=propext ⟨fun q=>⟨q.out⟩,fun q=>⟨q.out⟩⟩
theorem zc_(d:Option Nat)(loose:List LI)(chain:List (LI×List LI)):AfC P N Q d loose chain k t=fun v h=>holds (put t d v) h loose∧hg_ P chain (put t d v) h (exK P N Q k .normal) :=
 funext fun _=>funext fun _=>propext ⟨fun q=>q.out,fun q=>⟨q⟩⟩
theorem vv_(d:Option Nat)(op:LOp)(loose:List LI)(r:List (LI×List LI)):sW_ P N Q ((⟨d,none,op⟩,loose)::r) k t h=bc_ P t h (AfC P N Q d loose r k t) op:=by
 rw[zc_];exact propext ⟨fun q=>q.out,fun q=>⟨q⟩⟩
theorem AT_(d:Option Nat)(loose:List LI)(r:List (LI×List LI))(v:AV):AfC P N Q d loose r k t v h=(Hol (put t d v) h loose∧sW_ P N Q r k (put t d v) h) :=
 propext ⟨fun q=>⟨⟨q.out.1⟩,⟨q.out.2⟩⟩,fun q=>⟨⟨q.1.out,q.2.out⟩⟩⟩
end
section
variable {P : Program} {N : Nat} {Q : dK_} {k : List Fr} {t : Nat → AV} {h : List Row}
end
attribute [go_sem] r1_ rn_
attribute [go_sem] yY_ yS_ vE_ zR_ yT_ wL_ vH_ vv_ AT_ ok_
theorem ac_.below{S:Sit}{h:List Row}{w w':World}(m:ac_ S h w)(b:Below w.heap.size w w'):ac_ S h w':=by
 refine⟨fun k c e=>?_,m.len,fun l i r q1 q2=>?_,m.one⟩
 ·rw[b.block k (m.immLt e)];exact m.imm k c e
 ·obtain⟨k1,k2,k3,k4⟩:=m.rows l i r q1 q2
  refine⟨k1,k2,k3,?_⟩
  cases hb:i.blk with
  | none=>rw[hb]at k4;exact k4
  | some k =>
   rw[hb]at k4
   exact⟨k4.1,k4.2.le (.refl S) (b.block k (m.ownLt ⟨l,i,q1,hb⟩))⟩
theorem bg_.below{S:Sit}{w w':World}(b:Below w.heap.size w w'):bg_ S w S w' :=
 ⟨.refl S,b.os,b.tape,b.output,b.size,fun k hk _=>b.block k hk,fun _ q=>.inl q,fun _ _ q=>.inl q⟩
theorem gg_{S:Sit}:∀{vs xs:List Value},af_ S (vs.map AV.val) xs→xs=vs
 | [],xs,r=>by simpa[af_]using r
 | v::vs,xs,r=>by
  simp only[map_cons,af_]at r
  obtain⟨x,r',e,r1,r2⟩:=r
  simp only[Rep]at r1
  rw[e,r1,gg_ r2]
theorem gc_{P:Program}{f:FuncId}{vals:List Value}{v:Value}
 (hc:∀w,(∀p∈rp_,(P.globalNamed p.1).isSome=true→w.var? P p.1=some p.2)→Calls P f vals.toArray w fun e w'=>e=.returned v∧Below w.heap.size w w') (h:List Row):PureCall P f (vals.map AV.val) h (.val v):=by
 intro K hk S w xs hm hgl hr
 have e:=gg_ hr
 have e':xs=vals.toArray:=by cases xs;simp at e;rw[e]
 subst e'
 refine(hc w ?_).mono ?_
 ·intro p hp hs
  obtain⟨g,hg⟩:=Option.isSome_iff_exists.1 hs
  obtain⟨E,fr,hw⟩:=hm.imm g p.2 (hgl.1 p hp g hg)
  simp only[World.var?,hg,Option.bind_some,hw]
 ·rintro e w' ⟨rfl,b⟩
  exact⟨v,.val v,S,h,rfl,bg_.below b,hm.below b,by simp[Rep],hk⟩
theorem r3_{P:Program}{f:FuncId}{vals:List Value}{v:Value}
 (hc:∀w,(∀g,P.globalNamed "internal/bytealg.MaxLen"=some g→∃m,w.cell? ⟨g,0,none⟩=some (.int .i64 m))→Calls P f vals.toArray w fun e w'=>e=.returned v∧Below w.heap.size w w') (h:List Row):PureCall P f (vals.map AV.val) h (.val v):=by
 intro K hk S w xs hm hgl hr
 have e:=gg_ hr
 have e':xs=vals.toArray:=by cases xs;simp at e;rw[e]
 subst e'
 refine(hc w ?_).mono ?_
 ·intro g hg
  obtain⟨c,m,h1,h2⟩:=hgl.2 g hg
  obtain⟨E,fr,hw⟩:=hm.imm g c h1
  exact⟨m,by simp[World.cell?,hw,h2]⟩
 ·rintro e w' ⟨rfl,b⟩
  exact⟨v,.val v,S,h,rfl,bg_.below b,hm.below b,by simp[Rep],hk⟩
def aH_(R:AV→AV→List Nat→Prop):List AV→List AV→List Nat→Prop
 | [],ds,fs=>ds=[]∧fs=[]
 | c::cs,ds,fs=>∃d ds' f f',ds=d::ds'∧fs=f++f'∧R c d f∧aH_ R cs ds' f'
def aZ_(R:AV→AV→List Nat→Prop):List (List AV)→List (List AV)→List Nat→Prop
 | [],ds,fs=>ds=[]∧fs=[]
 | e::es,ds,fs=>∃d ds' f f',ds=d::ds'∧fs=f++f'∧aH_ R e d f∧aZ_ R es ds' f'
def Own(H:List Row):Nat→AV→AV→List Nat→Prop
 | 0,_,_,_=>False
 | n+1,a,r,fs =>
  match a with
  | .val v=>fs=[]∧(r=.val v∨(v=.slice none 0 0∧∃sz,r=.list 0 sz []))
  | .own l k=>∃row es f,H[l]?=some row∧row.es.length=k∧aZ_ (Own H n) row.es es f∧r=.list 0 row.sz es∧fs=l::f
  | .sub l k lo hi=>∃row es f,H[l]?=some row∧row.es.length=k∧aZ_ (Own H n) row.es es f∧r=.list 0 row.sz ((es.take hi).drop lo)∧fs=l::f
  | .agg cs=>∃ds,aH_ (Own H n) cs ds fs∧r=.agg ds
  | .tup cs=>∃ds,aH_ (Own H n) cs ds fs∧r=.tup ds
  | _=>False
theorem aH_.mono{R R':AV→AV→List Nat→Prop}:∀{cs ds:List AV} {fs:List Nat},(∀a r f,(∀l∈f,l∈fs)→R a r f→R' a r f)→aH_ R cs ds fs→aH_ R' cs ds fs
 | [],_,_,_,h=>h
 | c::cs,ds,fs,hm,h=>by
  obtain⟨d,ds',f,f',e1,e2,h1,h2⟩:=h
  subst e2
  exact⟨d,ds',f,f',e1,rfl,hm _ _ _ (fun l hl=>mem_append_left _ hl) h1,aH_.mono (fun a r g hg=>hm a r g fun l hl=>mem_append_right _ (hg l hl)) h2⟩
theorem aZ_.mono{R R':AV→AV→List Nat→Prop}:∀{cs ds:List (List AV)} {fs:List Nat},(∀a r f,(∀l∈f,l∈fs)→R a r f→R' a r f)→aZ_ R cs ds fs→aZ_ R' cs ds fs
 | [],_,_,_,h=>h
 | c::cs,ds,fs,hm,h=>by
  obtain⟨d,ds',f,f',e1,e2,h1,h2⟩:=h
  subst e2
  exact⟨d,ds',f,f',e1,rfl,aH_.mono (fun a r g hg=>hm a r g fun l hl=>mem_append_left _ (hg l hl)) h1,aZ_.mono (fun a r g hg=>hm a r g fun l hl=>mem_append_right _ (hg l hl)) h2⟩
theorem Own.keep{H H':List Row}:∀{n:Nat} {a r:AV} {fs:List Nat},(∀l∈fs,H'[l]?=H[l]?)→Own H n a r fs→Own H' n a r fs
 | 0,_,_,_,_,h=>h
 | n+1,a,r,fs,hk,h=>by
  cases a with
  | val v=>exact h
  | own l k =>
   obtain⟨row,es,f,h1,h2,h3,h4,h5⟩:=h
   subst h5
   exact⟨row,es,f,by rw[hk l (by simp)];exact h1,h2,aZ_.mono (fun a r g hg ho=>Own.keep (fun l hl=>hk l (mem_cons_of_mem _ (hg l hl))) ho) h3,h4,rfl⟩
  | sub l k lo hi =>
   obtain⟨row,es,f,h1,h2,h3,h4,h5⟩:=h
   subst h5
   exact⟨row,es,f,by rw[hk l (by simp)];exact h1,h2,aZ_.mono (fun a r g hg ho=>Own.keep (fun l hl=>hk l (mem_cons_of_mem _ (hg l hl))) ho) h3,h4,rfl⟩
  | agg cs =>
   obtain⟨ds,h1,h2⟩:=h
   exact⟨ds,aH_.mono (fun a r g hg ho=>Own.keep (fun l hl=>hk l (hg l hl)) ho) h1,h2⟩
  | tup cs =>
   obtain⟨ds,h1,h2⟩:=h
   exact⟨ds,aH_.mono (fun a r g hg ho=>Own.keep (fun l hl=>hk l (hg l hl)) ho) h1,h2⟩
  | _=>exact h.elim
theorem Own.more{H:List Row}:∀{n:Nat} {a r:AV} {fs:List Nat},Own H n a r fs→Own H (n+1) a r fs
 | 0,_,_,_,h=>h.elim
 | n+1,a,r,fs,h=>by
  cases a with
  | val v=>exact h
  | own l k =>
   obtain⟨row,es,f,h1,h2,h3,h4,h5⟩:=h
   exact⟨row,es,f,h1,h2,aZ_.mono (fun a r g _ ho=>Own.more ho) h3,h4,h5⟩
  | sub l k lo hi =>
   obtain⟨row,es,f,h1,h2,h3,h4,h5⟩:=h
   exact⟨row,es,f,h1,h2,aZ_.mono (fun a r g _ ho=>Own.more ho) h3,h4,h5⟩
  | agg cs =>
   obtain⟨ds,h1,h2⟩:=h
   exact⟨ds,aH_.mono (fun a r g _ ho=>Own.more ho) h1,h2⟩
  | tup cs =>
   obtain⟨ds,h1,h2⟩:=h
   exact⟨ds,aH_.mono (fun a r g _ ho=>Own.more ho) h1,h2⟩
  | _=>exact h.elim
theorem Own.up{H:List Row}{n m:Nat}{a r:AV}{fs:List Nat}(hm:n≤m)(h:Own H n a r fs):Own H m a r fs:=by
 induction hm with
 | refl=>exact h
 | step _ ih=>exact ih.more
theorem aH_.rep{S S':Sit}{R:AV→AV→List Nat→Prop}(hone:∀a x r f,Rep S a x→R a r f→Rep S' r x):∀{as:List AV} {xs:List Value} {rs:List AV} {fs:List Nat},af_ S as xs→aH_ R as rs fs→af_ S' rs xs
 | [],xs,rs,fs,r,h=>by
  obtain⟨h1,_⟩:=h;subst h1
  simpa[af_]using r
 | a::as,xs,rs,fs,r,h=>by
  obtain⟨d,ds',f,f',e1,e2,h1,h2⟩:=h
  subst e1
  simp only[af_]at r⊢
  obtain⟨v,q,e,r2,r3⟩:=r
  exact⟨v,q,e,hone a v d f r2 h1,aH_.rep hone r3 h2⟩
theorem aH_.repPre{S S':Sit}{R:AV→AV→List Nat→Prop}(hone:∀a x r f,Rep S a x→R a r f→Rep S' r x):∀{as:List AV} {xs:List Value} {rs:List AV} {fs:List Nat},au_ S as xs→aH_ R as rs fs→au_ S' rs xs∧rs.length=as.length
 | [],xs,rs,fs,r,h=>by
  obtain⟨h1,_⟩:=h;subst h1
  simp[au_]
 | a::as,xs,rs,fs,r,h=>by
  obtain⟨d,ds',f,f',e1,e2,h1,h2⟩:=h
  subst e1
  simp only[au_]at r⊢
  obtain⟨v,q,e,r2,r3⟩:=r
  have:=aH_.repPre hone r3 h2
  exact⟨⟨v,q,e,hone a v d f r2 h1,this.1⟩,by simp[this.2]⟩
theorem aZ_.rep{S S':Sit}{R:AV→AV→List Nat→Prop}(hone:∀a x r f,Rep S a x→R a r f→Rep S' r x):∀{es:List (List AV)} {xs:List Value} {rs:List (List AV)} {fs:List Nat},ap_ S es xs→aZ_ R es rs fs →
 ap_ S' rs xs∧rs.length=es.length∧∀sz,(∀e∈es,e.length=sz)→∀e∈rs,e.length=sz
 | [],xs,rs,fs,r,h=>by
  obtain⟨h1,_⟩:=h;subst h1
  simp[ap_]
 | d::es,xs,rs,fs,r,h=>by
  obtain⟨d',ds',f,f',e1,e2,h1,h2⟩:=h
  subst e1
  simp only[ap_]at r⊢
  have p1:=aH_.repPre hone r.1 h1
  have p2:=aZ_.rep hone r.2 h2
  refine⟨⟨p1.1,by rw[p1.2];exact p2.1⟩,by simp[p2.2.1],fun sz hsz e he=>?_⟩
  rcases mem_cons.1 he with q|q
  ·subst q;rw[p1.2];exact hsz d (by simp)
  ·exact p2.2.2 sz (fun e he=>hsz e (by simp[he])) e q
theorem aZ_.len{R:AV→AV→List Nat→Prop}:∀{es rs:List (List AV)} {fs:List Nat},aZ_ R es rs fs→rs.length=es.length
 | [],rs,fs,h=>by obtain⟨h,_⟩:=h;subst h;rfl
 | e::es,rs,fs,h=>by
  obtain⟨d,ds',f,f',e1,e2,h1,h2⟩:=h
  subst e1
  simp[aZ_.len h2]
theorem Own.rep{S:Sit}{h:List Row}{w:World}(m:ac_ S h w):∀(n:Nat) (a:AV) (x:Value) (r:AV) (fs:List Nat),Rep S a x→Own h n a r fs→Rep (S.shut w) r x:=by
 intro n
 induction n with
 | zero=>intro a x r fs _ e;exact e.elim
 | succ n ih =>
  intro a x r fs hr e
  cases a with
  | val v =>
   obtain⟨_,e|⟨e1,sz,e2⟩⟩:=e
   ·subst e;simpa[Rep]using hr
   ·subst e1 e2
    simp only[Rep]at hr⊢
    exact .inl ⟨trivial,trivial,_,_,hr⟩
  | agg cs =>
   obtain⟨ds,e1,e2⟩:=e
   subst e2
   simp only[Rep]at hr⊢
   obtain⟨vs,e3,hr⟩:=hr
   exact⟨vs,e3,aH_.rep ih hr e1⟩
  | tup cs =>
   obtain⟨ds,e1,e2⟩:=e
   subst e2
   simp only[Rep]at hr⊢
   obtain⟨vs,e3,hr⟩:=hr
   exact⟨vs,e3,aH_.rep ih hr e1⟩
  | own l k =>
   obtain⟨row,es,f,hl,hlen,e1,e2,_⟩:=e
   subst e2
   simp only[Rep]at hr
   obtain⟨_,i,q1,q2,q3⟩:=hr
   obtain⟨k1,k2,k3,k4⟩:=m.rows l i row q1 hl
   have hx:=q3 (by omega)
   cases hb:i.blk with
   | none =>
    rw[hb]at k4
    simp only[sliceAt,hb]at hx
    rw[k4.1]at e1
    obtain⟨e1,_⟩:=e1;subst e1
    simp only[Rep]
    rcases hx with hx|⟨_,p,hx⟩
    ·exact .inl ⟨trivial,trivial,_,_,hx⟩
    ·exact .inl ⟨trivial,trivial,_,_,hx⟩
   | some b =>
    rw[hb]at k4
    simp only[sliceAt,hb,reduceCtorEq,false_and,or_false]at hx
    by_cases hne:row.es=[]
    ·rw[hne]at e1 k1
     obtain⟨e1,_⟩:=e1;subst e1
     simp only[Rep]
     rw[k1]at hx
     exact .inl ⟨trivial,trivial,_,_,hx⟩
    obtain⟨_,c,_,⟨_,j2,_⟩,j3,j4,j5,j6⟩:=k4.2.cells (.inl hne)
    have p:=aZ_.rep ih j3 e1
    simp only[Rep]
    right
    have hown:S.ownsB b=true:=d2_.2 ⟨l,i,q1,hb⟩
    refine⟨b,0,i.cap,c,by rw[hx,p.2.1,k1],by rw[p.2.1,←k1];exact j5,?_,p.2.2 _ k3,.inl trivial,?_,by simpa[Sit.shut,Sit.still]using p.1⟩
    ·simp[Sit.shut,hown,j2]
    ·rw[p.2.1,j4,←k1,←k2]
     simpa using Nat.mul_le_mul_right _ j5
  | sub l k lo hi =>
   obtain⟨row,es,f,hl,hlen,e1,e2,_⟩:=e
   subst e2
   simp only[Rep]at hr
   obtain⟨_,i,q1,q2,q3⟩:=hr
   obtain⟨k1,k2,k3,k4⟩:=m.rows l i row q1 hl
   obtain⟨g1,g2,g3⟩:=q3 (by omega)
   have hesl:es.length=row.es.length:=aZ_.len e1
   have hlen2:((es.take hi).drop lo).length=hi-lo:=by simp;omega
   by_cases hz:hi-lo=0
   ·have hnil:(es.take hi).drop lo=[]:=eq_nil_of_length_eq_zero (by omega)
    rw[hnil]
    simp only[Rep]
    rcases g3 with ⟨_,p,q⟩|⟨b,off,_,q,_⟩
    ·exact .inl ⟨trivial,trivial,_,_,q⟩
    ·rw[hz]at q;exact .inl ⟨trivial,trivial,_,_,q⟩
   ·have hne:row.es≠[]:=by intro q;rw[q]at hlen;simp at hlen;omega
    rcases g3 with ⟨hb,p,q⟩|⟨b,off,hb,q,hoff⟩
    ·rw[hb]at k4;exact absurd k4.1 hne
    ·rw[hb]at k4
     obtain⟨_,c,_,⟨_,j2,_⟩,j3,j4,j5,j6⟩:=k4.2.cells (.inl hne)
     rw[hoff (by omega)]at q
     have p:=aZ_.rep ih j3 e1
     have p3:=p.2.2 _ k3
     have hd:=ap_.drop (ap_.take (k:=hi) p.1) (sz:=row.sz) (k:=lo) (fun x hx=>p3 x (mem_of_mem_take hx))
     simp only[Rep]
     right
     have hown:S.ownsB b=true:=d2_.2 ⟨l,i,q1,hb⟩
     refine⟨b,lo * i.sz,i.cap-lo,c,by rw[q,hlen2],by rw[hlen2];omega,?_,fun x hx=>p3 x (mem_of_mem_take (mem_of_mem_drop hx)),.inl trivial,?_,?_⟩
     ·simp[Sit.shut,hown,j2]
     ·rw[hlen2,j4,←k2,←Nat.add_mul]
      exact Nat.mul_le_mul_right _ (by omega)
     ·rw[k2];simpa[Sit.shut,Sit.still]using hd
  | _=>exact e.elim
def cR_(H:List Row)(a r:AV):Prop:=(a=r∧a.plain=true)∨∃n fs,Own H n a r fs
def bf_(H:List Row):List AV→List AV→Prop
 | [],rs=>rs=[]
 | a::as,rs=>∃r rs',rs=r::rs'∧cR_ H a r∧bf_ H as rs'
theorem bf_.rep{S:Sit}{H:List Row}{w:World}(m:ac_ S H w):∀{as rs:List AV} {xs:List Value},bf_ H as rs→af_ S as xs→af_ (S.shut w) rs xs
 | [],rs,xs,h,r=>by subst h;simpa[af_]using r
 | a::as,rs,xs,h,r=>by
  obtain⟨d,ds,e,h1,h2⟩:=h
  subst e
  simp only[af_]at r⊢
  obtain⟨v,q,e,r1,r2⟩:=r
  refine⟨v,q,e,?_,bf_.rep m h2 r2⟩
  rcases h1 with ⟨h1,hp⟩|⟨n,fs,h1⟩
  ·subst h1;exact Rep.up (hN_ m) _ _ (iR_ hp r1)
  ·exact Own.rep m n a v d fs r1 h1
theorem ac_.shut{S:Sit}{H:List Row}{w:World}(m:ac_ S H w):∀b c,(S.shut w).imm b=some c→∃E fr,w.heap[b]?=some (.cells c E fr):=by
 intro b c q
 simp only[Sit.shut]at q
 split at q
 ·split at q
  ·rename_i c' E fr hb
   simp at q;subst q
   exact⟨E,fr,hb⟩
  ·simp at q
 ·exact m.imm b c q
theorem cM_.shut{P:Program}{S:Sit}{H:List Row}{w:World}(m:ac_ S H w)(g:cM_ P S):cM_ P (S.shut w):=cM_.up (hN_ m) (show cM_ P S.still from g)
theorem wm_{P:Program}{f:FuncId}{as rs:List AV}{H:List Row}{v:Value}(hc:∀h,PureCall P f rs h (.val v))(ha:bf_ H as rs){K:AV→List Row→Prop}(hk:K (.val v) H):callSem P f as H K:=by
 intro S w vals hm hgl hr
 have hm0:ac_ (S.shut w) [] w:=⟨hm.shut,rfl,by simp[Sit.shut],by simp[Sit.shut]⟩
 refine(hc [] (fun r _=>r=.val v) rfl (S.shut w) w vals hm0 (hgl.shut hm) (ha.rep hm hr)).mono ?_
 rintro e w' ⟨v',av,S1,h1,rfl,st,hm1,rv,rfl⟩
 simp only[Rep]at rv
 subst rv
 have b:Below w.heap.size w w':=⟨st.os,st.tape,st.output,st.size,fun k hk=>st.block k hk (by rintro⟨l,i,q,_⟩;simp[Sit.shut]at q)⟩
 exact⟨v',.val v',S,H,rfl,bg_.below b,hm.below b,by simp[Rep],hk⟩
theorem rf_{S:Sit}{H:List Row}{w:World}(m:ac_ S H w){n:Nat}:∀{as rs:List AV} {xs:List Value},as.mapM (resolve H n)=some rs→af_ S as xs→af_ (S.shut w) rs xs :=
 fun h r=>eo_ (fun a x r' h1 h2=>iK_ m n a x r' h1 h2) r h
theorem frozen{P:Program}{f:FuncId}{as rs:List AV}{H:List Row}{v:Value}{n:Nat}(hc:∀h,PureCall P f rs h (.val v))(ha:as.mapM (resolve H n)=some rs):PureCall P f as H (.val v):=by
 intro K hk S w vals hm hgl hr
 have hm0:ac_ (S.shut w) [] w:=⟨hm.shut,rfl,by simp[Sit.shut],by simp[Sit.shut]⟩
 refine(hc [] (fun r _=>r=.val v) rfl (S.shut w) w vals hm0 (hgl.shut hm) (rf_ hm ha hr)).mono ?_
 rintro e w' ⟨v',av,S1,h1,rfl,st,hm1,rv,rfl⟩
 simp only[Rep]at rv
 subst rv
 have b:Below w.heap.size w w':=⟨st.os,st.tape,st.output,st.size,fun k hk=>st.block k hk (by rintro⟨l,i,q,_⟩;simp[Sit.shut]at q)⟩
 exact⟨v',.val v',S,H,rfl,bg_.below b,hm.below b,by simp[Rep],hk⟩
theorem l0_{H:List Row}{n:Nat}{a r:AV}(h:resolve H n a=some r):[a].mapM (resolve H n)=some [r]:=by
 rw[mapM_cons,h];rfl
theorem t7_{H:List Row}{n:Nat}{a r:AV}{as rs:List AV}(h:resolve H n a=some r)(h2:as.mapM (resolve H n)=some rs):(a::as).mapM (resolve H n)=some (r::rs):=by
 rw[mapM_cons,h,h2];rfl
structure ee_(base:Nat)(H:List Row)(a r:AV):Prop where
 out:∃n fs,Own H n a r fs∧fs.Nodup∧∀l∈fs,base≤l
def b8_(P:Program)(f:FuncId)(args:List AV)(r:AV)(Q:AV→Prop):Prop :=
 ∀(h:List Row) (K:AV→List Row→Prop),(∀av hn,ee_ h.length (h++hn) av r→Q av→K av (h++hn))→callSem P f args h K
theorem aH_.inner{H:List Row}{R:AV→AV→List Nat→Prop}(hone:∀a r f,R a r f→∀l∈f,∃row m es g,H[l]?=some row∧aZ_ (Own H m) row.es es g∧∀x∈g,x∈f):∀{as rs:List AV} {fs:List Nat},aH_ R as rs fs→∀l∈fs,∃row m es g,H[l]?=some row∧aZ_ (Own H m) row.es es g∧∀x∈g,x∈fs
 | [],rs,fs,h,l,hl=>by obtain⟨_,h⟩:=h;subst h;simp at hl
 | a::as,rs,fs,h,l,hl=>by
  obtain⟨d,ds',f,f',e1,e2,h1,h2⟩:=h
  subst e2
  rcases mem_append.1 hl with q|q
  ·obtain⟨row,m,es,g,q1,q2,q3⟩:=hone a d f h1 l q
   exact⟨row,m,es,g,q1,q2,fun x hx=>mem_append_left _ (q3 x hx)⟩
  ·obtain⟨row,m,es,g,q1,q2,q3⟩:=aH_.inner hone h2 l q
   exact⟨row,m,es,g,q1,q2,fun x hx=>mem_append_right _ (q3 x hx)⟩
theorem aZ_.inner{H:List Row}{R:AV→AV→List Nat→Prop}(hone:∀a r f,R a r f→∀l∈f,∃row m es g,H[l]?=some row∧aZ_ (Own H m) row.es es g∧∀x∈g,x∈f):∀{as rs:List (List AV)} {fs:List Nat},aZ_ R as rs fs→∀l∈fs,∃row m es g,H[l]?=some row∧aZ_ (Own H m) row.es es g∧∀x∈g,x∈fs
 | [],rs,fs,h,l,hl=>by obtain⟨_,h⟩:=h;subst h;simp at hl
 | a::as,rs,fs,h,l,hl=>by
  obtain⟨d,ds',f,f',e1,e2,h1,h2⟩:=h
  subst e2
  rcases mem_append.1 hl with q|q
  ·obtain⟨row,m,es,g,q1,q2,q3⟩:=aH_.inner hone h1 l q
   exact⟨row,m,es,g,q1,q2,fun x hx=>mem_append_left _ (q3 x hx)⟩
  ·obtain⟨row,m,es,g,q1,q2,q3⟩:=aZ_.inner hone h2 l q
   exact⟨row,m,es,g,q1,q2,fun x hx=>mem_append_right _ (q3 x hx)⟩
theorem Own.inner{H:List Row}:∀{n:Nat} {a r:AV} {fs:List Nat},Own H n a r fs→∀l∈fs,∃row m es g,H[l]?=some row∧aZ_ (Own H m) row.es es g∧∀x∈g,x∈fs
 | 0,_,_,_,h=>h.elim
 | n+1,a,r,fs,h=>by
  intro l hl
  cases a with
  | val v=>obtain⟨h,_⟩:=h;subst h;simp at hl
  | own l' k =>
   obtain⟨row,es,f,h1,h2,h3,h4,h5⟩:=h
   subst h5
   rcases mem_cons.1 hl with q|q
   ·subst q;exact⟨row,n,es,f,h1,h3,fun x hx=>mem_cons_of_mem _ hx⟩
   ·obtain⟨row',m,es',g,q1,q2,q3⟩:=aZ_.inner (fun a r f ho=>Own.inner ho) h3 l q
    exact⟨row',m,es',g,q1,q2,fun x hx=>mem_cons_of_mem _ (q3 x hx)⟩
  | sub l' k lo hi =>
   obtain⟨row,es,f,h1,h2,h3,h4,h5⟩:=h
   subst h5
   rcases mem_cons.1 hl with q|q
   ·subst q;exact⟨row,n,es,f,h1,h3,fun x hx=>mem_cons_of_mem _ hx⟩
   ·obtain⟨row',m,es',g,q1,q2,q3⟩:=aZ_.inner (fun a r f ho=>Own.inner ho) h3 l q
    exact⟨row',m,es',g,q1,q2,fun x hx=>mem_cons_of_mem _ (q3 x hx)⟩
  | agg cs =>
   obtain⟨ds,h1,h2⟩:=h
   exact aH_.inner (fun a r f ho=>Own.inner ho) h1 l hl
  | tup cs =>
   obtain⟨ds,h1,h2⟩:=h
   exact aH_.inner (fun a r f ho=>Own.inner ho) h1 l hl
  | _=>exact h.elim
theorem aH_.trans{S S':Sit}{R:AV→AV→List Nat→Prop}:∀{as rs:List AV} {fs:List Nat} {xs:List Value},(∀a x r f,(∀l∈f,l∈fs)→R a r f→Rep S a x→Rep S' a x)→aH_ R as rs fs→af_ S as xs→af_ S' as xs
 | [],rs,fs,xs,_,h,r=>by simpa[af_]using r
 | a::as,rs,fs,xs,hone,h,r=>by
  obtain⟨d,ds',f,f',e1,e2,h1,h2⟩:=h
  subst e2
  simp only[af_]at r⊢
  obtain⟨v,q,e,r2,r3⟩:=r
  exact⟨v,q,e,hone a v d f (fun l hl=>mem_append_left _ hl) h1 r2,aH_.trans (fun a x r g hg=>hone a x r g fun l hl=>mem_append_right _ (hg l hl)) h2 r3⟩
theorem aH_.transPre{S S':Sit}{R:AV→AV→List Nat→Prop}:∀{as rs:List AV} {fs:List Nat} {xs:List Value},(∀a x r f,(∀l∈f,l∈fs)→R a r f→Rep S a x→Rep S' a x)→aH_ R as rs fs→au_ S as xs→au_ S' as xs
 | [],rs,fs,xs,_,h,r=>by simp[au_]
 | a::as,rs,fs,xs,hone,h,r=>by
  obtain⟨d,ds',f,f',e1,e2,h1,h2⟩:=h
  subst e2
  simp only[au_]at r⊢
  obtain⟨v,q,e,r2,r3⟩:=r
  exact⟨v,q,e,hone a v d f (fun l hl=>mem_append_left _ hl) h1 r2,aH_.transPre (fun a x r g hg=>hone a x r g fun l hl=>mem_append_right _ (hg l hl)) h2 r3⟩
theorem aZ_.trans{S S':Sit}{R:AV→AV→List Nat→Prop}:∀{as rs:List (List AV)} {fs:List Nat} {xs:List Value},(∀a x r f,(∀l∈f,l∈fs)→R a r f→Rep S a x→Rep S' a x)→aZ_ R as rs fs→ap_ S as xs→ap_ S' as xs
 | [],rs,fs,xs,_,h,r=>by simp[ap_]
 | a::as,rs,fs,xs,hone,h,r=>by
  obtain⟨d,ds',f,f',e1,e2,h1,h2⟩:=h
  subst e2
  simp only[ap_]at r⊢
  exact⟨aH_.transPre (fun a x r g hg=>hone a x r g fun l hl=>mem_append_left _ (hg l hl)) h1 r.1,aZ_.trans (fun a x r g hg=>hone a x r g fun l hl=>mem_append_right _ (hg l hl)) h2 r.2⟩
theorem Own.trans{S S':Sit}{H:List Row}:∀{n:Nat} {a r:AV} {fs:List Nat} {x:Value},(∀l∈fs,S'.rows[l]?=S.rows[l]?)→Own H n a r fs→Rep S a x→Rep S' a x
 | 0,_,_,_,_,_,h,_=>h.elim
 | n+1,a,r,fs,x,hk,h,hr=>by
  cases a with
  | val v=>simpa[Rep]using hr
  | own l k =>
   obtain⟨row,es,f,h1,h2,h3,h4,h5⟩:=h
   subst h5
   simp only[Rep]at hr⊢
   rw[hk l (by simp)]
   exact hr
  | sub l k lo hi =>
   obtain⟨row,es,f,h1,h2,h3,h4,h5⟩:=h
   subst h5
   simp only[Rep]at hr⊢
   rw[hk l (by simp)]
   exact hr
  | agg cs =>
   obtain⟨ds,h1,h2⟩:=h
   simp only[Rep]at hr⊢
   obtain⟨vs,e,hr⟩:=hr
   exact⟨vs,e,aH_.trans (fun a x r g hg ho hx=>Own.trans (fun l hl=>hk l (hg l hl)) ho hx) h1 hr⟩
  | tup cs =>
   obtain⟨ds,h1,h2⟩:=h
   simp only[Rep]at hr⊢
   obtain⟨vs,e,hr⟩:=hr
   exact⟨vs,e,aH_.trans (fun a x r g hg ho hx=>Own.trans (fun l hl=>hk l (hg l hl)) ho hx) h1 hr⟩
  | _=>exact h.elim
def Row.junk(r:Row):Row:=match r.E with|.pmap _ _|.iter _ _ _ _=>⟨.junk,r.sz,r.es⟩|_=>r
theorem Row.junk_es(r:Row):r.junk.es=r.es:=by unfold Row.junk;split<;>rfl
theorem Row.junk_sz(r:Row):r.junk.sz=r.sz:=by unfold Row.junk;split<;>rfl
theorem Row.junk_noP{r:Row}:(∀e c,r.junk.E≠.pmap e c)∧∀a b c d,r.junk.E≠.iter a b c d:=by
 unfold Row.junk
 split
 ·exact⟨fun _ _=>by simp,fun _ _ _ _=>by simp⟩
 ·exact⟨fun _ _=>by simp,fun _ _ _ _=>by simp⟩
 ·rename_i h1 h2
  exact⟨fun e c q=>h1 e c q,fun a b c d q=>h2 a b c d q⟩
theorem Own.junk{H:List Row}:∀{n:Nat} {a r:AV} {fs:List Nat},Own H n a r fs→Own (H.map Row.junk) n a r fs
 | 0,_,_,_,h=>h.elim
 | n+1,a,r,fs,h=>by
  cases a with
  | val v=>exact h
  | own l k =>
   obtain⟨row,es,f,h1,h2,h3,h4,h5⟩:=h
   exact⟨row.junk,es,f,by rw[getElem?_map,h1];rfl,by rw[Row.junk_es];exact h2,by rw[Row.junk_es];exact aZ_.mono (fun a r g _ ho=>Own.junk ho) h3,by rw[Row.junk_sz];exact h4,h5⟩
  | sub l k lo hi =>
   obtain⟨row,es,f,h1,h2,h3,h4,h5⟩:=h
   exact⟨row.junk,es,f,by rw[getElem?_map,h1];rfl,by rw[Row.junk_es];exact h2,by rw[Row.junk_es];exact aZ_.mono (fun a r g _ ho=>Own.junk ho) h3,by rw[Row.junk_sz];exact h4,h5⟩
  | agg cs =>
   obtain⟨ds,h1,h2⟩:=h
   exact⟨ds,aH_.mono (fun a r g _ ho=>Own.junk ho) h1,h2⟩
  | tup cs =>
   obtain⟨ds,h1,h2⟩:=h
   exact⟨ds,aH_.mono (fun a r g _ ho=>Own.junk ho) h1,h2⟩
  | _=>exact h.elim
theorem ac_.junk{S:Sit}{H:List Row}{w:World}(m:ac_ S H w):ac_ S (H.map Row.junk) w:=by
 refine⟨m.imm,by simp[m.len],fun l i r h1 h2=>?_,m.one⟩
 rw[getElem?_map,Option.map_eq_some_iff]at h2
 obtain⟨r0,h2,rfl⟩:=h2
 obtain⟨k1,k2,k3,k4⟩:=m.rows l i r0 h1 h2
 refine⟨by rw[Row.junk_es];exact k1,by rw[Row.junk_sz];exact k2,by rw[Row.junk_es,Row.junk_sz];exact k3,?_⟩
 cases hb:i.blk with
 | none=>rw[hb]at k4;rw[Row.junk_es];exact k4
 | some b =>
  rw[hb]at k4
  refine⟨k4.1,?_⟩
  have hlt:=k4.2.lt
  have k5:=k4.2
  unfold Row.junk
  split
  ·rename_i hE
   obtain⟨q1,q2,_⟩:r0.es=[]∧r0.sz=0∧True:=by
    unfold aD_ at k5;rw[hE]at k5;exact⟨k5.1,k5.2.1,trivial⟩
   exact⟨q1,q2,hlt⟩
  ·rename_i hE
   obtain⟨q1,q2,_⟩:r0.es=[]∧r0.sz=0∧True:=by
    unfold aD_ at k5;rw[hE]at k5;exact⟨k5.1,k5.2.1,trivial⟩
   exact⟨q1,q2,hlt⟩
  ·exact k5
def fa_:bR_:=⟨0,none,0,0⟩
def dS_:Row:=⟨0,0,[]⟩
def lg_(fs:List Nat)(base:Nat)(hn:List Row):List Row:=hn.mapIdx fun i r=>if fs.contains (base+i)then r else dS_
def jj_(fs:List Nat)(base:Nat)(hn:List bR_):List bR_:=hn.mapIdx fun i r=>if fs.contains (base+i)then r else fa_
theorem rO_{P:Program}{f:FuncId}{as rs:List AV}{H:List Row}{r:AV}{Q:AV→List Row→Prop}(hc:∀(h:List Row) (K:AV→List Row→Prop),(∀av hn,ee_ h.length (h++hn) av r→Q av (h++hn)→K av (h++hn))→callSem P f rs h K)(hst:∀(n:Nat) (av:AV) (fs:List Nat) (X Y:List Row),Own X n av r fs→(∀l∈fs,Y[l]?=(X[l]?).map Row.junk)→Q av X→Q av Y)
 (ha:∀(S:Sit) (w:World) (xs:List Value),ac_ S H w→af_ S as xs→af_ (S.shut w) rs xs) {K:AV→List Row→Prop} (hk:∀av hn,ee_ H.length (H++hn) av r→Q av (H++hn)→K av (H++hn)):callSem P f as H K:=by
 intro S w vals hm hgl hr
 have hlen:=hm.len
 let S0:Sit:={ imm:=(S.shut w).imm,rows:=List.replicate H.length fa_ }
 have hle0:(S.shut w).le S0:=⟨fun _ _ e=>e,by simp[Sit.shut]⟩
 have hm0:ac_ S0 (List.replicate H.length dS_) w:=by
  refine⟨hm.shut,by simp[S0],fun l i row q1 q2=>?_,fun l l' i i' b q1 _ q2 _=>?_⟩
  ·have e1:=eq_of_mem_replicate (mem_of_getElem? q1)
   have e2:=eq_of_mem_replicate (mem_of_getElem? q2)
   subst e1 e2
   exact⟨rfl,rfl,by simp[dS_],rfl,rfl⟩
  ·have e1:=eq_of_mem_replicate (mem_of_getElem? q1)
   subst e1;simp[fa_]at q2
 have hrep:af_ S0 rs vals.toList:=af_.up hle0 _ _ (ha S w _ hm hr)
 refine(hc (List.replicate H.length dS_) (fun av h'=>∃hn,h'=List.replicate H.length dS_++hn∧ee_ H.length (List.replicate H.length dS_++hn) av r∧Q av (List.replicate H.length dS_++hn)) (fun av hn hf hq=>⟨hn,rfl,by simpa using hf,hq⟩) S0 w vals hm0 ((hgl.shut hm).up hle0) hrep).mono ?_
 rintro e w' ⟨v,av,S1,h1,rfl,st,hm0',rv,hn0,rfl,⟨n,fs,ho0,hnd,hge⟩,hQ⟩
 have hm1:=hm0'.junk
 have ho:=ho0.junk
 obtain⟨hn,hhn⟩:∃hn,hn=hn0.map Row.junk:=⟨_,rfl⟩
 rw[map_append,←hhn]at hm1 ho
 have hbl:(List.replicate H.length dS_).map Row.junk=List.replicate H.length dS_:=by simp[Row.junk,dS_]
 rw[hbl]at hm1 ho
 have hjk:∀l:Nat,(List.replicate H.length dS_++hn)[l]?=((List.replicate H.length dS_++hn0)[l]?).map Row.junk:=by
  intro l;rw[←getElem?_map,map_append,hbl,hhn]
 have hno:∀b,¬ S0.owns b:=by
  rintro b ⟨l,i,q1,q2⟩
  have e1:=eq_of_mem_replicate (mem_of_getElem? q1)
  subst e1;simp[fa_]at q2
 have hb:Below w.heap.size w w':=⟨st.os,st.tape,st.output,st.size,fun k hk=>st.block k hk (hno k)⟩
 have hnew:∀b,S1.owns b→w.heap.size≤b:=fun b hb=>(st.ownNew b hb).resolve_left (hno b)
 have hl1:S1.rows.length=H.length+hn.length:=by rw[hm1.len];simp
 have hm':=hm.below hb
 let S2:Sit:={ imm:=S.imm,rows:=S.rows++jj_ fs H.length (S1.rows.drop H.length) }
 have hrows:∀l∈fs,S2.rows[l]?=S1.rows[l]?:=by
  intro l hl
  have hg:=hge l hl
  show(S.rows++jj_ fs H.length (S1.rows.drop H.length))[l]?=_
  rw[getElem?_append_right (by omega),hlen]
  simp only[jj_,getElem?_mapIdx,getElem?_drop]
  have e:H.length+(l-H.length)=l:=by omega
  rw[e]
  cases S1.rows[l]? with
  | none=>rfl
  | some i=>simp[hl]
 have hR:∀l∈fs,(H++lg_ fs H.length hn)[l]?=(List.replicate H.length dS_++hn)[l]?:=by
  intro l hl
  have hg:=hge l hl
  rw[getElem?_append_right hg,getElem?_append_right (by simpa using hg)]
  simp only[lg_,getElem?_mapIdx,length_replicate]
  have e:H.length+(l-H.length)=l:=by omega
  rw[e]
  cases hn[l-H.length]? with
  | none=>rfl
  | some i=>simp[hl]
 have hS2:S.le S2:=⟨fun _ _ e=>e,fun l i e=>⟨i,by
  show(S.rows++_)[l]?=_
  rw[getElem?_append_left (List.getElem?_eq_some_iff.1 e).1];exact e,Nat.le_refl _,fun _=>rfl⟩⟩
 have hcase:∀(l:Nat) (i:bR_),S2.rows[l]?=some i→(l<H.length∧S.rows[l]?=some i)∨(H.length≤l∧l∈fs∧S1.rows[l]?=some i)∨(H.length≤l∧l∉fs∧i=fa_):=by
  intro l i q
  by_cases hlt:l<H.length
  ·left
   refine⟨hlt,?_⟩
   have:(S.rows++jj_ fs H.length (S1.rows.drop H.length))[l]?=some i:=q
   rwa [getElem?_append_left (by omega)]at this
  ·right
   by_cases hf:l∈fs
   ·left;exact⟨by omega,hf,by rw[←hrows l hf];exact q⟩
   ·right
    refine⟨by omega,hf,?_⟩
    have:(S.rows++jj_ fs H.length (S1.rows.drop H.length))[l]?=some i:=q
    rw[getElem?_append_right (by omega),hlen]at this
    simp only[jj_,getElem?_mapIdx,getElem?_drop,Option.map_eq_some_iff]at this
    obtain⟨j,_,e⟩:=this
    have e':H.length+(l-H.length)=l:=by omega
    rw[e']at e
    simp[hf]at e
    exact e.symm
 have hown2:∀b,S2.owns b→S.owns b∨(w.heap.size≤b):=by
  rintro b ⟨l,i,q1,q2⟩
  rcases hcase l i q1 with ⟨_,q⟩|⟨_,_,q⟩|⟨_,_,q⟩
  ·exact .inl ⟨l,i,q,q2⟩
  ·exact .inr (hnew b ⟨l,i,q,q2⟩)
  ·subst q;simp[fa_]at q2
 have hm2:ac_ S2 (H++lg_ fs H.length hn) w':=by
  refine⟨hm'.imm,by simp only[S2,List.length_append,jj_,lg_,length_mapIdx,length_drop,hl1,hlen];omega,fun l i row q1 q2=>?_,fun l l' i i' b q1 q1' q2 q2'=>?_⟩
  ·rcases hcase l i q1 with ⟨hlt,q⟩|⟨hge',hf,q⟩|⟨hge',hf,q⟩
   ·rw[getElem?_append_left hlt]at q2
    obtain⟨k1,k2,k3,k4⟩:=hm'.rows l i row q q2
    refine⟨k1,k2,k3,?_⟩
    cases hbk:i.blk with
    | none=>rw[hbk]at k4;exact k4
    | some b =>
     rw[hbk]at k4
     exact⟨k4.1,k4.2.le hS2 rfl⟩
   ·rw[hR l hf]at q2
    obtain⟨k1,k2,k3,k4⟩:=hm1.rows l i row q q2
    refine⟨k1,k2,k3,?_⟩
    cases hbk:i.blk with
    | none=>rw[hbk]at k4;exact k4
    | some b =>
     rw[hbk]at k4
     have hbig:=hnew b ⟨l,i,q,hbk⟩
     refine⟨?_,?_⟩
     ·cases hi:S.imm b with
      | none=>rfl
      | some d=>have:=hm.immLt hi;omega
     ·have k5:=k4.2
      have hnp:(∀e c,row.E≠.pmap e c)∧∀a b c d,row.E≠.iter a b c d:=by
       rw[hjk,Option.map_eq_some_iff]at q2
       obtain⟨_,_,rfl⟩:=q2
       exact Row.junk_noP
      unfold aD_ at k5⊢
      split at k5
      case h_2=>exact k5
      case h_5 hE=>exact absurd hE (hnp.1 _ _)
      case h_6=>exact k5
      case h_7 hE=>exact absurd hE (hnp.2 _ _ _ _)
      case h_8=>exact k5
      case h_1 =>
       obtain⟨c,j2,j3,j4⟩:=k5
       refine⟨c,j2,?_,j4⟩
       obtain⟨row',m,es,g,p1,p2,p3⟩:=ho.inner l hf
       rw[q2]at p1
       obtain rfl:=Option.some.inj p1
       exact aZ_.trans (fun a x r g' hg' hoa hx=>Own.trans (fun l' hl'=>hrows l' (p3 l' (hg' l' hl'))) hoa hx) p2 j3
      case h_3 =>
       obtain⟨⟨c,j2,j3,j4⟩,j5⟩:=k5
       refine⟨⟨c,j2,?_,j4⟩,j5⟩
       obtain⟨row',m,es,g,p1,p2,p3⟩:=ho.inner l hf
       rw[q2]at p1
       obtain rfl:=Option.some.inj p1
       exact aZ_.trans (fun a x r g' hg' hoa hx=>Own.trans (fun l' hl'=>hrows l' (p3 l' (hg' l' hl'))) hoa hx) p2 j3
      case h_4 =>
       obtain⟨c,fr,j2,j3,j4⟩:=k5
       refine⟨c,fr,j2,?_,j4⟩
       obtain⟨row',m,es,g,p1,p2,p3⟩:=ho.inner l hf
       rw[q2]at p1
       obtain rfl:=Option.some.inj p1
       exact aZ_.trans (fun a x r g' hg' hoa hx=>Own.trans (fun l' hl'=>hrows l' (p3 l' (hg' l' hl'))) hoa hx) p2 j3
   ·subst q
    rw[getElem?_append_right hge']at q2
    simp only[lg_,getElem?_mapIdx,Option.map_eq_some_iff]at q2
    obtain⟨j,_,e⟩:=q2
    have e':H.length+(l-H.length)=l:=by omega
    rw[e']at e
    simp[hf]at e
    subst e
    exact⟨rfl,rfl,by simp[dS_],rfl,rfl⟩
  ·rcases hcase l i q1 with ⟨_,q⟩|⟨_,_,q⟩|⟨_,_,q⟩<;>rcases hcase l' i' q1' with ⟨_,q'⟩|⟨_,_,q'⟩|⟨_,_,q'⟩
   ·exact hm.one l l' i i' b q q' q2 q2'
   ·have h1:=hm.ownLt ⟨l,i,q,q2⟩
    have h2:=hnew b ⟨l',i',q',q2'⟩
    omega
   ·subst q';simp[fa_]at q2'
   ·have h1:=hm.ownLt ⟨l',i',q',q2'⟩
    have h2:=hnew b ⟨l,i,q,q2⟩
    omega
   ·exact hm1.one l l' i i' b q q' q2 q2'
   ·subst q';simp[fa_]at q2'
   ·subst q;simp[fa_]at q2
   ·subst q;simp[fa_]at q2
   ·subst q;simp[fa_]at q2
 refine⟨v,av,S2,H++lg_ fs H.length hn,rfl,⟨hS2,hb.os,hb.tape,hb.output,hb.size,fun b hlt _=>hb.block b hlt,hown2,fun b c q=>.inl q⟩,hm2,Own.trans hrows ho rv,hk av _ ⟨n,fs,ho.keep hR,hnd,hge⟩ (hst n av fs _ _ ho0 (fun l hl=>(hR l hl).trans (hjk l)) hQ)⟩
theorem tx_{P:Program}{f:FuncId}{as rs:List AV}{H:List Row}{r:AV}{Q:AV→Prop}(hc:b8_ P f rs r Q)(ha:∀(S:Sit) (w:World) (xs:List Value),ac_ S H w→af_ S as xs→af_ (S.shut w) rs xs){K:AV→List Row→Prop}(hk:∀av hn,ee_ H.length (H++hn) av r→Q av→K av (H++hn)):callSem P f as H K:=rO_ (Q:=fun a _=>Q a) hc (fun _ _ _ _ _ _ _ q=>q) ha hk
theorem uH_{P:Program}{f:FuncId}{as rs:List AV}{H:List Row}{r:AV}{Q:AV→Prop}(hc:b8_ P f rs r Q)(ha:bf_ H as rs){K:AV→List Row→Prop}(hk:∀av hn,ee_ H.length (H++hn) av r→Q av→K av (H++hn)):callSem P f as H K :=
 tx_ hc (fun S w xs hm hr=>ha.rep hm hr) hk
theorem eU_{P:Program}{f:FuncId}{fn:Func}{lf:LF}{args:List AV}{r:AV}{Q:AV→Prop}(hmx:P.follows .mixedOrders=true)(hf:P.funcs[f]?=some fn)(hl:az_ P fn lf)(hn:args.length=lf.np)
 (hw:∀h:List Row,Ex P lf.N (cC_ lf.res fun av h'=>∃hn,h'=h++hn∧ee_ h.length (h++hn) av r∧Q av) lf.body [] (gk_ args) h):b8_ P f args r Q:=by
 intro h K hk
 refine(aJ_ hmx hf hl (bi_ hn (hw h))).mono ?_
 rintro a h' ⟨hn,rfl,h1,h2⟩
 exact hk a hn h1 h2
def txt(l:List UInt8):ByteArray:=⟨l.toArray⟩
theorem kb_(s:ByteArray):s=txt s.data.toList:=by cases s;rfl
theorem yR_(l:List UInt8):(⟨l.toArray⟩:ByteArray)=txt l:=rfl
theorem bD_(l:List UInt8):(txt l).size=l.length:=by simp[txt,ByteArray.size]
theorem bC_(l:List UInt8):(txt l).data.toList=l:=by simp[txt]
theorem tq_(l:List UInt8):(txt l).toList=l:=by rw[d7_,bC_]
theorem sG_(a b:List UInt8):(txt a=txt b)=(a=b):=by
 apply propext;constructor
 ·intro h;have:=congrArg (fun x=>x.data.toList) h;simpa[bC_]using this
 ·intro h;rw[h]
theorem ze_(l:List UInt8)(i:Nat):(txt l)[i]?=l[i]?:=by
 by_cases h:i<l.length
 ·rw[getElem?_pos (txt l) i (by rw[bD_];exact h),getElem?_eq_getElem h]
  congr 1
 ·rw[getElem?_neg (txt l) i (by rw[bD_];exact h),getElem?_eq_none (by omega)]
theorem r2_(l:List UInt8)(i j:Nat):(txt l).extract i j=txt ((l.take j).drop i):=by
 rw[kb_ ((txt l).extract i j)]
 congr 1
 rw[ByteArray.data_extract]
 simp[txt,extract_eq_drop_take',]
theorem zw_(a b:List UInt8):txt a++txt b=txt (a++b):=by
 rw[kb_ (txt a++txt b)]
 congr 1
theorem je_(q:Bool)(a b:List UInt8)(h:a.length+b.length≤9223372036854775807):bp_ .add q (.val (.string (txt a))) (.val (.string (txt b)))=some (.val (.string (txt (a++b)))):=by
 simp only[bp_,binOp,Op.stringOp,bD_]
 have h':¬ (((a.length+b.length:Nat):Int)>IntKind.i64.max):=by
  have:IntKind.i64.max=9223372036854775807:=by decide
  rw[this];omega
 rw[if_neg h',zw_]
 rfl
theorem zt_(q:Bool)(a b:Int)(hb:b≠0):bp_ .quo q (.val (.int .i64 a)) (.val (.int .i64 b))=some (.val (.int .i64 (IntKind.i64.wrap (a.tdiv b)))):=by
 have:bp_ .quo q (.val (.int .i64 a)) (.val (.int .i64 b))=eD_ (Op.intDiv .quo .i64 a b):=rfl
 rw[this,Op.intDiv,if_neg hb];rfl
theorem yQ_(q:Bool)(a b:Int)(hb:b≠0):bp_ .rem q (.val (.int .i64 a)) (.val (.int .i64 b))=some (.val (.int .i64 (a.tmod b))):=by
 have:bp_ .rem q (.val (.int .i64 a)) (.val (.int .i64 b))=eD_ (Op.intDiv .rem .i64 a b):=rfl
 rw[this,Op.intDiv,if_neg hb];rfl
theorem w2_(q:Bool)(a b:Int):bp_ .sub q (.val (.int .u8 a)) (.val (.int .u8 b))=some (.val (.int .u8 (IntKind.u8.wrap (a-b)))):=rfl
theorem tY_{n:Int}(h1:0≤n)(h2:n≤255):IntKind.u8.wrap n=n:=by
 rw[IntKind.wrap_u8];omega
theorem vT_{a b:Int}(h:0≤a):a.tdiv b=a / b:=Int.tdiv_eq_ediv_of_nonneg h
theorem w1_{a b:Int}(h:0≤a):a.tmod b=a % b:=Int.tmod_eq_emod_of_nonneg h
theorem mS_(b:UInt8):b.toNat<256:=b.toNat_lt
theorem pW_(b c:UInt8):(((b.toNat:Nat):Int)=((c.toNat:Nat):Int))=(b=c):=by
 apply propext;constructor
 ·intro h;exact UInt8.toNat_inj.1 (by omega)
 ·intro h;rw[h]
theorem oA_(b:UInt8):fH_ [.val (.int .u8 b.toNat)]=some b:=by
 simp[fH_]
theorem tE_{n:Int}(h1:0≤n)(h2:n≤255):fH_ [.val (.int .u8 n)]=some (UInt8.ofNat n.toNat):=by
 simp only[fH_]
 have:((UInt8.ofNat n.toNat).toNat:Int)=n:=by
  rw[UInt8.toNat_ofNat'];omega
 rw[if_pos this]
theorem pC_(l:List UInt8)(i:Nat):(a2_ l)[i]?=(l[i]?).map fun b=>[.val (.int .u8 b.toNat)]:=by simp[a2_]
theorem fO_(l:List UInt8):(a2_ l).length=l.length:=by simp[a2_]
theorem hE_:∀(l:List UInt8),(a2_ l).mapM fH_=some l
 | []=>rfl
 | b::l=>by
  have:=hE_ l
  simp only[a2_,map_cons,mapM_cons]at this⊢
  rw[oA_]
  simp[this]
theorem dv_{α:Type}(l:List α)(k:Nat)(h:k<l.length):l.drop k=l[k]::l.drop (k+1):=drop_eq_getElem_cons h
theorem zF_{α:Type}{a b:Nat}{x y:α}(h:a≤b):(if a≤b then x else y)=x:=if_pos h
theorem yU_{α:Type}{a b:Int}{x y:α}(h:a≤b):(if a≤b then x else y)=x:=if_pos h
theorem wJ_{α:Type}{a b c d:Nat}{x y:α}(h:a≤b)(h2:c≤d):(if a≤b∧c≤d then x else y)=x:=if_pos ⟨h,h2⟩
attribute [go_sem] getElem_cons_zero getElem_cons_succ
theorem zJ_{p:List AV→Prop}(x:List AV):(∀e∈[x],p e)=p x:=by simp
theorem CG_:List.range 1=[0]:=rfl
theorem AJ_:List.range 2=[0,1]:=rfl
theorem Bu_:List.range 3=[0,1,2]:=rfl
section
variable {P : Program} {N : Nat} {Q : dK_} {t : Nat → AV} {h : List Row}
theorem iP_{b:LC}{id:Nat}{k:List Fr}(I:Nat→(Nat→AV)→List Row→Prop)(n:Nat)(E:(Nat→AV)→List Row→Prop)(h0:I n t h)
 (hr:∀(J:Nat→(Nat→AV)→List Row→Prop),(∀m t h,I m t h→J m t h)→∀(k':List Fr),(∀t h,E t h→ExK P N Q k' .normal t h)→∀n t h,I n t h→Ex P N Q b (.loop J n::.blk id::k') t h)
 (hx:∀t h,E t h→ExK P N Q k .normal t h):Ex P N Q (.loop b) (.blk id::k) t h :=
 aL_ I n h0 fun J hJ n t h hi=>hr J hJ k hx n t h hi
end
theorem A2_:List.range 0=[]:=rfl
attribute [go_sem] A2_ df_ zJ_ CG_ AJ_ Bu_ AV.flat mapM_cons
attribute [go_sem] zF_ yU_ wJ_ yR_ bD_ bC_ tq_ sG_ ze_ r2_ je_ zt_ yQ_ oj_ w2_ tY_ vT_ w1_ oA_ tE_ pC_ fO_ zQ_
theorem mH_(S:Sit):∀vs:List Value,af_ S (vs.map AV.val) vs
 | []=>by simp[af_]
 | v::vs=>by simp only[map_cons,af_];exact⟨v,vs,rfl,by simp[Rep],mH_ S vs⟩
theorem uL_{P:Program}{f:FuncId}{vals us:List Value}
 (hc:∀w,(∀p∈rp_,(P.globalNamed p.1).isSome=true→w.var? P p.1=some p.2)→Calls P f vals.toArray w fun e w'=>e=.returned (.tuple us.toArray)∧RowKit.Below w.heap.size w w') (h:List Row):PureCall P f (vals.map AV.val) h (.tup (us.map AV.val)):=by
 intro K hk S w xs hm hgl hr
 have e:=gg_ hr
 have e':xs=vals.toArray:=by cases xs;simp at e;rw[e]
 subst e'
 refine(hc w ?_).mono ?_
 ·intro p hp hs
  obtain⟨g,hg⟩:=Option.isSome_iff_exists.1 hs
  obtain⟨E,fr,hw⟩:=hm.imm g p.2 (hgl.1 p hp g hg)
  simp only[World.var?,hg,Option.bind_some,hw]
 ·rintro e w' ⟨rfl,b⟩
  exact⟨_,.tup (us.map AV.val),S,h,rfl,bg_.below b,hm.below b,by simp only[Rep];exact⟨_,rfl,by simpa using mH_ S us⟩,hk⟩
def AV.solid:AV→Bool
 | .val _=>true
 | .tup cs=>cs.all fun|.val _=>true|_=>false
 | _=>false
theorem mv_{S S':Sit}:∀{cs:List AV} {xs:List Value},(cs.all fun|.val _=>true|_=>false)=true→af_ S cs xs→af_ S' cs xs
 | [],xs,_,r=>by simpa[af_]using r
 | c::cs,xs,h,r=>by
  simp only[all_cons,Bool.and_eq_true]at h
  simp only[af_]at r⊢
  obtain⟨v,q,e,r1,r2⟩:=r
  refine⟨v,q,e,?_,mv_ h.2 r2⟩
  cases c with
  | val u=>simpa[Rep]using r1
  | _=>simp at h
theorem kN_{S S':Sit}{a:AV}{x:Value}(h:a.solid=true)(r:Rep S a x):Rep S' a x:=by
 cases a with
 | val v=>simpa[Rep]using r
 | tup cs =>
  simp only[Rep]at r⊢
  obtain⟨vs,e,r⟩:=r
  exact⟨vs,e,mv_ h r⟩
 | _=>simp[AV.solid]at h
theorem frozenR{P:Program}{f:FuncId}{as rs:List AV}{H:List Row}{r:AV}{n:Nat}(hs:r.solid=true)(hc:∀h,PureCall P f rs h r)(ha:as.mapM (resolve H n)=some rs):PureCall P f as H r:=by
 intro K hk S w vals hm hgl hr
 have hm0:ac_ (S.shut w) [] w:=⟨hm.shut,rfl,by simp[Sit.shut],by simp[Sit.shut]⟩
 refine(hc [] (fun q _=>q=r) rfl (S.shut w) w vals hm0 (hgl.shut hm) (rf_ hm ha hr)).mono ?_
 rintro e w' ⟨v',av,S1,h1,rfl,st,hm1,rv,rfl⟩
 have b:Below w.heap.size w w':=⟨st.os,st.tape,st.output,st.size,fun k hk=>st.block k hk (by rintro⟨l,i,q,_⟩;simp[Sit.shut]at q)⟩
 exact⟨v',_,S,H,rfl,bg_.below b,hm.below b,kN_ hs rv,hk⟩
theorem em_{H:List Row}{l k n:Nat}{r:Row}(hl:H[l]?=some r)(hk:r.es.length=k)(hf:∀e∈r.es,e.all AV.flat=true):resolve H (n+2) (.own l k)=some (.list 0 r.sz r.es):=by
 have e:resolve H (n+2) (.own l k)=match H[l]? with
  | some r=>if r.es.length=k then(r.es.mapM fun(e:List AV)=>e.mapM (resolve H (n+1))).map (.list 0 r.sz)else none
  | none=>none:=rfl
 rw[e,hl]
 simp only[hk,if_true]
 rw[hm_ hf]
 rfl
theorem y4_{p:List AV→Prop}(x y:List AV):(∀e∈[x,y],p e)=(p x∧p y):=by simp
attribute [go_sem] y4_
def g2_(zs:List Int):List (List AV):=zs.map fun z=>[.val (.int .i64 z)]
theorem s6_(zs:List Int):(g2_ zs).length=zs.length:=by simp[g2_]
theorem sS_(a b:List Int):g2_ a++g2_ b=g2_ (a++b):=by simp[g2_]
theorem Own.val{H:List Row}{n:Nat}{a:AV}{v:Value}{fs:List Nat}(h:Own H n a (.val v) fs):a=.val v∧fs=[]:=by
 cases n with
 | zero=>exact h.elim
 | succ n =>
  cases a with
  | val u =>
   obtain⟨h1,h2|⟨_,_,h2⟩⟩:=h
   ·injection h2 with q;subst q;exact⟨rfl,h1⟩
   ·cases h2
  | own l k=>obtain⟨_,_,_,_,_,_,q,_⟩:=h;cases q
  | sub l k lo hi=>obtain⟨_,_,_,_,_,_,q,_⟩:=h;cases q
  | agg cs=>obtain⟨_,_,q⟩:=h;cases q
  | tup cs=>obtain⟨_,_,q⟩:=h;cases q
  | _=>exact h.elim
theorem vz_(out:List Int)(x:Int):g2_ out++[[AV.val (Value.int .i64 x)]]=g2_ (out++[x]):=sS_ out [x]
theorem xq_{p:List AV→Prop}:(∀e∈([]:List (List AV)),p e)=True:=by simp
attribute [go_sem] s6_ vz_ xq_
inductive Sch where
 | int
 | str
 | bool
 | list (fs:List Sch)
def aS_(g:List AV→Int→List AV×Int):List (List AV)→Int→List (List AV)×Int
 | [],k=>([],k)
 | e::es,k=>((g e k).1::(aS_ g es (g e k).2).1,(aS_ g es (g e k).2).2)
def bt_(g:List AV→Int→Int):List (List AV)→Int→Int
 | [],k=>k
 | e::es,k=>if g e k<0 then -1 else bt_ g es (g e k)
def a8_(g:List AV→Nat):List (List AV)→Nat
 | []=>0
 | e::es=>g e+a8_ g es
section
variable (mt : Int → ByteArray)
mutual
def bj_:Sch→AV→Int→AV×Int
 | .int,_,k=>(.val (.int .i64 k),k+1)
 | .str,_,k=>(.val (.string (mt k)),k+1)
 | .bool,_,k=>(.val (.bool (decide (k % 3=0))),k+1)
 | .list fs,.list tk sz es,k=>(.list tk sz (aS_ (bk_ fs) es k).1,(aS_ (bk_ fs) es k).2)
 | .list _,a,k=>(a,k)
def bk_:List Sch→List AV→Int→List AV×Int
 | s::ss,c::cs,k=>((bj_ s c k).1::(bk_ ss cs (bj_ s c k).2).1,(bk_ ss cs (bj_ s c k).2).2)
 | _,cs,k=>(cs,k)
end
mutual
def bH_:Sch→AV→Int→Int
 | .int,.val (.int .i64 n),k=>if n=k then k+1 else -1
 | .str,.val (.string s),k=>if s=mt k then k+1 else -1
 | .bool,.val (.bool b),k=>if b=decide (k % 3=0)then k+1 else -1
 | .list fs,.list _ _ es,k=>bt_ (bn_ fs) es k
 | _,_,_ => -1
def bn_:List Sch→List AV→Int→Int
 | s::ss,c::cs,k=>if bH_ s c k<0 then -1 else bn_ ss cs (bH_ s c k)
 | _,_,k=>k
end
end
mutual
def aY_:Sch→AV→Nat
 | .list fs,.list _ _ es=>a8_ (a0_ fs) es
 | .list _,_=>0
 | _,_=>1
def a0_:List Sch→List AV→Nat
 | s::ss,c::cs=>aY_ s c+a0_ ss cs
 | _,_=>0
end
mutual
def bo_:Sch→AV→Prop
 | .int,a=>∃n,a=.val (.int .i64 n)
 | .str,a=>∃s,a=.val (.string s)
 | .bool,a=>∃b,a=.val (.bool b)
 | .list fs,a=>∃es,a=.list 0 fs.length es∧∀e∈es,aW_ fs e
def aW_:List Sch→List AV→Prop
 | [],cs=>cs=[]
 | s::ss,cs=>∃c r,cs=c::r∧bo_ s c∧aW_ ss r
end
variable {mt : Int → ByteArray}
theorem lr_(g:List AV→Int→List AV×Int):∀(xs:List (List AV)) (x:List AV) (k:Int),aS_ g (xs++[x]) k=((aS_ g xs k).1++[(g x (aS_ g xs k).2).1],(g x (aS_ g xs k).2).2)
 | [],x,k=>rfl
 | y::xs,x,k=>by
  rw[cons_append,aS_,lr_ g xs x];rfl
theorem ht_(g:List AV→Int→List AV×Int):∀(xs:List (List AV)) (k:Int),(aS_ g xs k).1.length=xs.length
 | [],k=>rfl
 | y::xs,k=>by rw[aS_,List.length_cons,ht_ g xs];rfl
theorem dY_{g:List AV→Int→List AV×Int}{c:List AV→Nat}{xs:List (List AV)}(hg:∀x∈xs,∀k,(g x k).2=k+c x)(k:Int):(aS_ g xs k).2=k+a8_ c xs:=by
 induction xs generalizing k with
 | nil=>simp[aS_,a8_]
 | cons y xs ih =>
  rw[aS_,a8_]
  simp only
  rw[ih (fun x hx=>hg x (by simp[hx])),hg y (by simp)]
  omega
theorem v9_{g:List AV→Int→List AV×Int}{d:List AV→Int→Int}{c:List AV→Nat}{xs:List (List AV)}(hg:∀x∈xs,∀k,(g x k).2=k+c x)(hd:∀x∈xs,∀k,0≤k→d (g x k).1 k=(g x k).2)(k:Int)(hk:0≤k):bt_ d (aS_ g xs k).1 k=(aS_ g xs k).2:=by
 induction xs generalizing k with
 | nil=>rfl
 | cons y xs ih =>
  rw[aS_]
  simp only[bt_]
  rw[hd y (by simp) k hk,hg y (by simp),if_neg (by omega)]
  exact ih (fun x hx=>hg x (by simp[hx])) (fun x hx=>hd x (by simp[hx])) _ (by omega)
mutual
theorem hw_:∀(s:Sch) (a:AV) (k:Int),(bj_ mt s a k).2=k+aY_ s a
 | .int,a,k=>by simp[bj_,aY_]
 | .str,a,k=>by simp[bj_,aY_]
 | .bool,a,k=>by simp[bj_,aY_]
 | .list fs,.list tk sz es,k=>by
  simp only[bj_,aY_]
  exact dY_ (fun x _ k=>eb_ fs x k) k
 | .list fs,.val v,k=>by simp[bj_,aY_]
 | .list fs,.iptr cs,k=>by simp[bj_,aY_]
 | .list fs,.ptr _ _ _ _,k=>by simp[bj_,aY_]
 | .list fs,.own _ _,k=>by simp[bj_,aY_]
 | .list fs,.sub _ _ _ _,k=>by simp[bj_,aY_]
 | .list fs,.mp _,k=>by simp[bj_,aY_]
 | .list fs,.agg _,k=>by simp[bj_,aY_]
 | .list fs,.tup _,k=>by simp[bj_,aY_]
 | .list fs,.fn _ _ _,k=>by simp[bj_,aY_]
 | .list fs,.undef,k=>by simp[bj_,aY_]
theorem eb_:∀(fs:List Sch) (cs:List AV) (k:Int),(bk_ mt fs cs k).2=k+a0_ fs cs
 | [],cs,k=>by simp[bk_,a0_]
 | s::ss,[],k=>by simp[bk_,a0_]
 | s::ss,c::cs,k=>by
  simp only[bk_,a0_]
  rw[eb_ ss cs,hw_ s c];omega
end
mutual
theorem oZ_:∀(s:Sch) (a:AV) (k:Int),bo_ s a→0≤k→bH_ mt s (bj_ mt s a k).1 k=(bj_ mt s a k).2
 | .int,a,k,_,hk=>by simp[bj_,bH_]
 | .str,a,k,_,hk=>by simp[bj_,bH_]
 | .bool,a,k,_,hk=>by simp[bj_,bH_]
 | .list fs,a,k,h,hk=>by
  unfold bo_ at h
  obtain⟨es,rfl,h⟩:=h
  simp only[bj_,bH_]
  exact v9_ (fun x _ k=>eb_ fs x k) (fun x hx k hk=>sF_ fs x k (h x hx) hk) k hk
theorem sF_:∀(fs:List Sch) (cs:List AV) (k:Int),aW_ fs cs→0≤k→bn_ mt fs (bk_ mt fs cs k).1 k=(bk_ mt fs cs k).2
 | [],cs,k,_,hk=>by simp[bk_,bn_]
 | s::ss,cs,k,h,hk=>by
  unfold aW_ at h
  obtain⟨c,r,rfl,h1,h2⟩:=h
  simp only[bk_,bn_]
  rw[oZ_ s c k h1 hk,hw_,if_neg (by omega)]
  exact sF_ ss r _ h2 (by omega)
end
mutual
theorem oN_:∀(s:Sch) (a:AV) (k:Int),bo_ s a→bo_ s (bj_ mt s a k).1
 | .int,a,k,_=>by simp[bj_,bo_]
 | .str,a,k,_=>by simp[bj_,bo_]
 | .bool,a,k,_=>by simp[bj_,bo_]
 | .list fs,a,k,h=>by
  unfold bo_ at h
  obtain⟨es,rfl,h⟩:=h
  simp only[bj_,bo_]
  exact⟨_,rfl,mJ_ (fun x hx k=>sz_ fs x k (h x hx)) k⟩
theorem sz_:∀(fs:List Sch) (cs:List AV) (k:Int),aW_ fs cs→aW_ fs (bk_ mt fs cs k).1
 | [],cs,k,h=>by unfold aW_ at h;simp[bk_,aW_,h]
 | s::ss,cs,k,h=>by
  unfold aW_ at h
  obtain⟨c,r,rfl,h1,h2⟩:=h
  simp only[bk_]
  unfold aW_
  exact⟨_,_,rfl,oN_ s c k h1,sz_ ss r _ h2⟩
theorem mJ_{g:List AV→Int→List AV×Int}{p:List AV→Prop}:∀{xs:List (List AV)},(∀x∈xs,∀k,p (g x k).1)→∀k:Int,∀e∈(aS_ g xs k).1,p e
 | [],_,k,e,he=>by simp[aS_]at he
 | x::xs,h,k,e,he=>by
  simp only[aS_,mem_cons]at he
  rcases he with q|q
  ·subst q;exact h x (by simp) k
  ·exact mJ_ (fun y hy=>h y (by simp[hy])) _ e q
end
mutual
theorem nB_:∀(s:Sch) (a:AV) (k:Int),bo_ s a→aY_ s (bj_ mt s a k).1=aY_ s a
 | .int,a,k,_=>by simp[aY_]
 | .str,a,k,_=>by simp[aY_]
 | .bool,a,k,_=>by simp[aY_]
 | .list fs,a,k,h=>by
  unfold bo_ at h
  obtain⟨es,rfl,h⟩:=h
  simp only[bj_,aY_]
  exact nh_ (fun x hx k=>ql_ fs x k (h x hx)) k
theorem ql_:∀(fs:List Sch) (cs:List AV) (k:Int),aW_ fs cs→a0_ fs (bk_ mt fs cs k).1=a0_ fs cs
 | [],cs,k,h=>by simp[a0_]
 | s::ss,cs,k,h=>by
  unfold aW_ at h
  obtain⟨c,r,rfl,h1,h2⟩:=h
  simp only[bk_,a0_]
  rw[nB_ s c k h1,ql_ ss r _ h2]
theorem nh_{g:List AV→Int→List AV×Int}{c:List AV→Nat}:∀{xs:List (List AV)},(∀x∈xs,∀k,c (g x k).1=c x)→∀k:Int,a8_ c (aS_ g xs k).1=a8_ c xs
 | [],_,k=>rfl
 | x::xs,h,k=>by
  simp only[aS_,a8_]
  rw[h x (by simp),nh_ (fun y hy=>h y (by simp[hy]))]
end
theorem Own.lt{H:List Row}{n:Nat}{a r:AV}{fs:List Nat}(h:Own H n a r fs):∀l∈fs,l<H.length:=fun l hl=>by
 obtain⟨row,m,es,g,h1,_⟩:=h.inner l hl
 exact(List.getElem?_eq_some_iff.1 h1).1
theorem aH_.len{R:AV→AV→List Nat→Prop}:∀{cs ds:List AV} {fs:List Nat},aH_ R cs ds fs→ds.length=cs.length
 | [],ds,fs,h=>by obtain⟨h,_⟩:=h;subst h;rfl
 | c::cs,ds,fs,h=>by
  obtain⟨d,ds',f,f',e1,e2,h1,h2⟩:=h
  subst e1
  simp[aH_.len h2]
theorem aH_.split{R:AV→AV→List Nat→Prop}:∀{cs ds:List AV} {fs:List Nat} (j:Nat) {r:AV},aH_ R cs ds fs→ds[j]?=some r→∃c f1 f2 f3,cs[j]?=some c∧fs=f1++(f2++f3)∧R c r f2 ∧
 ∀(R':AV→AV→List Nat→Prop) (c' r':AV),(∀a r g,(∀l∈g,l∈f1∨l∈f3)→R a r g→R' a r g)→R' c' r' f2→aH_ R' (cs.set j c') (ds.set j r') fs
 | [],ds,fs,j,r,h,hj=>by obtain⟨h,_⟩:=h;subst h;simp at hj
 | c::cs,ds,fs,0,r,h,hj=>by
  obtain⟨d,ds',f,f',rfl,rfl,h1,h2⟩:=h
  simp only[getElem?_cons_zero,Option.some.injEq]at hj
  subst hj
  refine⟨c,[],f,f',rfl,rfl,h1,fun R' c' r' hm hr=>?_⟩
  exact⟨r',ds',f,f',rfl,rfl,hr,aH_.mono (fun a r g hg=>hm a r g fun l hl=>.inr (hg l hl)) h2⟩
 | c::cs,ds,fs,j+1,r,h,hj=>by
  obtain⟨d,ds',f,f',rfl,rfl,h1,h2⟩:=h
  simp only[getElem?_cons_succ]at hj
  obtain⟨c0,f1,f2,f3,q1,rfl,q3,q4⟩:=aH_.split j h2 hj
  refine⟨c0,f++f1,f2,f3,by simpa using q1,by simp,q3,fun R' c' r' hm hr=>?_⟩
  refine⟨d,ds'.set j r',f,f1++(f2++f3),rfl,rfl,hm _ _ _ (fun l hl=>.inl (by simp[hl])) h1,q4 R' c' r' (fun a r g hg=>hm a r g fun l hl=>?_) hr⟩
  rcases hg l hl with q|q
  ·exact .inl (by simp[q])
  ·exact .inr q
theorem aZ_.split{R:AV→AV→List Nat→Prop}:∀{es rs:List (List AV)} {fs:List Nat} (j:Nat) {d:List AV},aZ_ R es rs fs→rs[j]?=some d→∃e f1 f2 f3,es[j]?=some e∧fs=f1++(f2++f3)∧aH_ R e d f2 ∧
 ∀(R':AV→AV→List Nat→Prop) (e' d':List AV),(∀a r g,(∀l∈g,l∈f1∨l∈f3)→R a r g→R' a r g)→aH_ R' e' d' f2→aZ_ R' (es.set j e') (rs.set j d') fs
 | [],rs,fs,j,d,h,hj=>by obtain⟨h,_⟩:=h;subst h;simp at hj
 | e::es,rs,fs,0,d,h,hj=>by
  obtain⟨d0,ds',f,f',rfl,rfl,h1,h2⟩:=h
  simp only[getElem?_cons_zero,Option.some.injEq]at hj
  subst hj
  refine⟨e,[],f,f',rfl,rfl,h1,fun R' c' r' hm hr=>?_⟩
  exact⟨r',ds',f,f',rfl,rfl,hr,aZ_.mono (fun a r g hg=>hm a r g fun l hl=>.inr (hg l hl)) h2⟩
 | e::es,rs,fs,j+1,d,h,hj=>by
  obtain⟨d0,ds',f,f',rfl,rfl,h1,h2⟩:=h
  simp only[getElem?_cons_succ]at hj
  obtain⟨c0,f1,f2,f3,q1,rfl,q3,q4⟩:=aZ_.split j h2 hj
  refine⟨c0,f++f1,f2,f3,by simpa using q1,by simp,q3,fun R' c' r' hm hr=>?_⟩
  refine⟨d0,ds'.set j r',f,f1++(f2++f3),rfl,rfl,aH_.mono (fun a r g hg=>hm a r g fun l hl=>.inl (by simp[hg l hl])) h1,q4 R' c' r' (fun a r g hg=>hm a r g fun l hl=>?_) hr⟩
  rcases hg l hl with q|q
  ·exact .inl (by simp[q])
  ·exact .inr q
theorem Own.of_val{H:List Row}{m:Nat}{c:AV}{v:Value}{f:List Nat}(h:Own H m c (.val v) f):f=[]∧c=.val v:=by
 cases m with
 | zero=>exact h.elim
 | succ m =>
  cases c with
  | val u =>
   obtain⟨h1,h2|⟨_,sz,h2⟩⟩:=h
   ·simp only[AV.val.injEq]at h2;subst h2;exact⟨h1,rfl⟩
   ·cases h2
  | own l k=>obtain⟨row,es,g,_,_,_,h4,_⟩:=h;cases h4
  | sub l k lo hi=>obtain⟨row,es,g,_,_,_,h4,_⟩:=h;cases h4
  | agg cs=>obtain⟨ds,_,h4⟩:=h;cases h4
  | tup cs=>obtain⟨ds,_,h4⟩:=h;cases h4
  | _=>exact h.elim
theorem Own.mk_val(H:List Row)(m:Nat)(v:Value):Own H (m+1) (.val v) (.val v) []:=⟨rfl,.inl rfl⟩
theorem aZ_.up{H:List Row}{n m:Nat}(hm:n≤m){es rs:List (List AV)}{fs:List Nat}(h:aZ_ (Own H n) es rs fs):aZ_ (Own H m) es rs fs:=aZ_.mono (fun _ _ _ _ ho=>Own.up hm ho) h
theorem aH_.up{H:List Row}{n m:Nat}(hm:n≤m){es rs:List AV}{fs:List Nat}(h:aH_ (Own H n) es rs fs):aH_ (Own H m) es rs fs:=aH_.mono (fun _ _ _ _ ho=>Own.up hm ho) h
structure MT(H0:List Row)(l:Nat)(E:Tag)(sz cnt:Nat)(f:List Nat)(rs:List (List AV))(H:List Row):Prop where
 out:∃m es,H[l]?=some ⟨E,sz,es⟩∧es.length=cnt∧aZ_ (Own H (m+1)) es rs f
 len:H.length=H0.length
 kept:∀x,x∉l::f→H[x]?=H0[x]?
theorem zb_{α:Type}(e:List α)(off:Nat)(a:α)(h:off<e.length):e.take off++[a]++e.drop (off+1)=e.set off a:=by
 rw[set_eq_take_append_cons_drop,if_pos h];simp
theorem MT.put{H0:List Row}{l:Nat}{E:Tag}{sz cnt:Nat}{f:List Nat}{rs:List (List AV)}{H:List Row}{j off:Nat}{d:List AV}{v:Value}(h:MT H0 l E sz cnt f (rs.set j d) H)(hl:l∉f)(hj:j<rs.length)(ho:d[off]?=some (.val v)) :
 ∃es e,H[l]?=some ⟨E,sz,es⟩∧es.length=cnt∧es[j]?=some e∧off+1≤e.length ∧
  ∀w,MT H0 l E sz cnt f (rs.set j (d.set off (.val w))) (H.set l ⟨E,sz,es.set j (e.take off++[.val w]++e.drop (off+1))⟩):=by
 obtain⟨⟨m,es,h1,h2,h3⟩,h4,h5⟩:=h
 have hd:(rs.set j d)[j]?=some d:=by rw[getElem?_set_self hj]
 obtain⟨e,f1,f2,f3,q1,q2,q3,q4⟩:=h3.split j hd
 obtain⟨c,g1,g2,g3,p1,p2,p3,p4⟩:=q3.split off ho
 obtain⟨rfl,rfl⟩:=p3.of_val
 have hlen:off<e.length:=(List.getElem?_eq_some_iff.1 p1).1
 have hlt:l<H.length:=(List.getElem?_eq_some_iff.1 h1).1
 refine⟨es,e,h1,h2,q1,hlen,fun w=>⟨⟨m,_,getElem?_set_self hlt,by simpa using h2,?_⟩,by simpa using h4,fun x hx=>?_⟩⟩
 ·rw[zb_ e off _ hlen]
  have hk:∀a r g,(∀x∈g,x∈f)→Own H (m+1) a r g→Own (H.set l ⟨E,sz,es.set j (e.set off (.val w))⟩) (m+1) a r g:=fun a r g hg ho=>ho.keep fun x hx=>by
   rw[getElem?_set_ne];rintro rfl;exact hl (hg _ hx)
  have:=q4 (Own (H.set l ⟨E,sz,es.set j (e.set off (.val w))⟩) (m+1)) (e.set off (.val w)) (d.set off (.val w)) (fun a r g hg=>hk a r g fun x hx=>by
   rw[q2];rcases hg x hx with q|q<;>simp[q]) (p4 _ _ _ (fun a r g hg=>hk a r g fun x hx=>by
   rw[q2,p2];rcases hg x hx with q|q<;>simp[q]) (Own.mk_val _ _ _))
  rw[set_set]at this
  exact this
 ·rw[getElem?_set_ne (by rintro rfl;simp at hx)]
  exact h5 x hx
theorem MT.sub{H0:List Row}{l:Nat}{E:Tag}{sz cnt:Nat}{f:List Nat}{rs:List (List AV)}{H:List Row}{j off s2:Nat}{d:List AV}{es2:List (List AV)}(h:MT H0 l E sz cnt f (rs.set j d) H)(hl:l∉f)(nd:f.Nodup)(hj:j<rs.length)(ho:d[off]?=some (.list 0 s2 es2)) :
 ∃m es e c g,H[l]?=some ⟨E,sz,es⟩∧es.length=cnt∧es[j]?=some e∧cG_ none (e.drop off)=some c∧Own H m c (.list 0 s2 es2) g∧g.Nodup ∧
  ∀H' m' es3,H'.length=H.length→(∀x,x∉g→H'[x]?=H[x]?)→Own H' m' c (.list 0 s2 es3) g→MT H0 l E sz cnt f (rs.set j (d.set off (.list 0 s2 es3))) H':=by
 obtain⟨⟨m,es,h1,h2,h3⟩,h4,h5⟩:=h
 have hd:(rs.set j d)[j]?=some d:=by rw[getElem?_set_self hj]
 obtain⟨e,f1,f2,f3,q1,q2,q3,q4⟩:=h3.split j hd
 obtain⟨c,g1,g2,g3,p1,p2,p3,p4⟩:=q3.split off ho
 obtain⟨hlen,hc⟩:=List.getElem?_eq_some_iff.1 p1
 obtain⟨hle,he⟩:=List.getElem?_eq_some_iff.1 q1
 subst p2 q2
 simp only[nodup_append,mem_append]at nd
 obtain⟨n1,⟨⟨m1,⟨m2,m3,m4⟩,m5⟩,n3,n4⟩,n5⟩:=nd
 refine⟨m+1,es,e,c,g2,h1,h2,q1,by rw[drop_eq_getElem_cons hlen,hc];rfl,p3,m2,fun H' m' es3 e1 e2 e3=>?_⟩
 have hlg:l∉g2:=fun q=>hl (by simp[q])
 have hkeep:∀M,m+1≤M→∀a r g,(∀x∈g,x∉g2)→Own H (m+1) a r g→Own H' M a r g:=fun M hM a r g hg ho=>Own.up hM (ho.keep fun x hx=>e2 x (hg x hx))
 refine⟨⟨m+m',es,by rw[e2 l hlg];exact h1,h2,?_⟩,by rw[e1];exact h4,fun x hx=>?_⟩
 ·have:=q4 (Own H' (m+m'+1)) (e.set off c) (d.set off (.list 0 s2 es3)) (fun a r g hg=>hkeep _ (by omega) a r g fun x hx hx2=>by
   rcases hg x hx with q|q
   ·exact n5 x q x (.inl (.inr (.inl hx2))) rfl
   ·exact n4 x (.inr (.inl hx2)) x q rfl) (p4 _ _ _ (fun a r g hg=>hkeep _ (by omega) a r g fun x hx hx2=>by
   rcases hg x hx with q|q
   ·exact m5 x q x (.inl hx2) rfl
   ·exact m4 x hx2 x q rfl) (Own.up (by omega) e3))
  rw[set_set]at this
  have e4:e.set off c=e:=by rw[←hc];exact set_getElem_self hlen
  have e5:es.set j e=es:=by rw[←he];exact set_getElem_self hle
  rw[e4,e5]at this
  exact this
 ·rw[e2 x (fun q=>hx (by simp[q]))]
  exact h5 x hx
theorem rG_{P:Program}{F l n lo hi:Nat}{as:List AV}{H:List Row}{K:AV→List Row→Prop}{row:Row}(hl:H[l]?=some row)(hn:row.es.length=n)(hc:lo≤hi→hi≤n→callSem P F (.sub l n lo hi::as) H K):callSem P F (.sub l n lo hi::as) H K:=by
 intro S w vals hm hgl hr
 have hr':=hr
 simp only[af_]at hr'
 obtain⟨v,r,e,h1,h2⟩:=hr'
 simp only[Rep]at h1
 obtain⟨_,i,q1,q2,q3⟩:=h1
 have q4:=(hm.rows l i row q1 hl).1
 obtain⟨q5,q6,_⟩:=q3 (by omega)
 exact hc q5 q6 S w vals hm hgl hr
theorem r9_{P:Program}{F l n:Nat}{as:List AV}{H:List Row}{K:AV→List Row→Prop}(hc:callSem P F (.sub l n 0 n::as) H K):callSem P F (.own l n::as) H K:=by
 intro S w vals hm hgl hr
 refine hc S w vals hm hgl ?_
 simp only[af_]at hr⊢
 obtain⟨v,r,e,h1,h2⟩:=hr
 refine⟨v,r,e,?_,h2⟩
 simp only[Rep]at h1⊢
 obtain⟨q0,i,q1,q2,q3⟩:=h1
 refine⟨q0,i,q1,q2,fun q=>⟨Nat.zero_le _,Nat.le_refl _,?_⟩⟩
 rcases q3 q with q4|q4
 ·unfold sliceAt at q4
  split at q4
  ·rename_i b hb
   right
   exact⟨b,0,hb,by rw[q4,Nat.sub_zero,Nat.sub_zero,q],fun _=>by simp⟩
  ·rename_i hb
   left
   exact⟨hb,none,q4⟩
 ·exact .inl q4
def ix_(P:Program)(F:FuncId)(mt:Int→ByteArray)(fs:List Sch):Prop :=
 ∀(m:Nat) (a:AV) (es:List (List AV)) (f:List Nat) (H:List Row) (k:Int) (K:AV→List Row→Prop),Own H m a (.list 0 fs.length es) f→f.Nodup→(∀e∈es,aW_ fs e)→0≤k→k+a8_ (a0_ fs) es≤4611686018427387904 →
  (∀H' m',H'.length=H.length→(∀x,x∉f→H'[x]?=H[x]?)→Own H' m' a (.list 0 fs.length (aS_ (bk_ mt fs) es k).1) f→K (.val (.int .i64 (aS_ (bk_ mt fs) es k).2)) H') →
  callSem P F [a,.val (.int .i64 k)] H K
theorem ix_.of{P:Program}{F:FuncId}{mt:Int→ByteArray}{fs:List Sch}
 (hnil:∀(H:List Row) (k:Int) (K:AV→List Row→Prop),K (.val (.int .i64 k)) H→callSem P F [.val (.slice none 0 0),.val (.int .i64 k)] H K)
 (hsub:∀(l cnt lo hi:Nat) (E:Tag) (rs:List (List AV)) (f:List Nat) (H:List Row) (k:Int) (K:AV→List Row→Prop),MT H l E fs.length cnt f rs H→l∉f→f.Nodup→rs.length=cnt→lo≤hi→hi≤cnt→(∀e∈(rs.take hi).drop lo,aW_ fs e)→0≤k→k+a8_ (a0_ fs) ((rs.take hi).drop lo)≤4611686018427387904 →
   (∀H' rs',MT H l E fs.length cnt f rs' H'→(rs'.take hi).drop lo=(aS_ (bk_ mt fs) ((rs.take hi).drop lo) k).1→K (.val (.int .i64 (aS_ (bk_ mt fs) ((rs.take hi).drop lo) k).2)) H')→callSem P F [.sub l cnt lo hi,.val (.int .i64 k)] H K):ix_ P F mt fs:=by
 intro m a es f H k K ho nd hsh hk hb hK
 cases m with
 | zero=>exact ho.elim
 | succ m =>
  have part:∀(l cnt lo hi:Nat) (row:Row) (es0:List (List AV)) (f0:List Nat),H[l]?=some row→row.es.length=cnt→aZ_ (Own H m) row.es es0 f0→row.sz=fs.length→es=(es0.take hi).drop lo→f=l::f0 →
   (∀H' m' row' es',H'.length=H.length→(∀x,x∉f→H'[x]?=H[x]?)→H'[l]?=some row'→row'.es.length=cnt→row'.sz=fs.length→aZ_ (Own H' m') row'.es es' f0→(es'.take hi).drop lo=(aS_ (bk_ mt fs) es k).1→K (.val (.int .i64 (aS_ (bk_ mt fs) es k).2)) H') →
   callSem P F [.sub l cnt lo hi,.val (.int .i64 k)] H K:=by
   rintro l cnt lo hi ⟨E,sz,res⟩ es0 f0 h1 h2 h3 h4 rfl rfl hfin
   simp only at h2 h3 h4
   subst h4
   rw[nodup_cons]at nd
   refine rG_ h1 h2 fun hlo hhi=>?_
   refine hsub l cnt lo hi E es0 f0 H k K ⟨⟨m,res,h1,h2,h3.up (by omega)⟩,rfl,fun _ _=>rfl⟩ nd.1 nd.2 (by rw[h3.len,h2]) hlo hhi hsh hk hb ?_
   rintro H' rs' ⟨⟨m',res',g1,g2,g3⟩,g4,g5⟩ e
   exact hfin H' _ ⟨E,fs.length,res'⟩ rs' g4 g5 g1 g2 rfl g3 e
  cases a with
  | val v =>
   obtain⟨rfl,e|⟨rfl,sz,e⟩⟩:=ho
   ·cases e
   ·simp only[AV.list.injEq]at e
    obtain⟨_,rfl,rfl⟩:=e
    refine hnil H k K (hK H 1 rfl (fun _ _=>rfl) ⟨rfl,.inr ⟨rfl,_,rfl⟩⟩)
  | own l cnt =>
   obtain⟨row,es0,f0,h1,h2,h3,h4,h5⟩:=ho
   simp only[AV.list.injEq,true_and]at h4
   obtain⟨h4,rfl⟩:=h4
   have hlen:es.length=cnt:=by rw[h3.len,h2]
   refine r9_ (part l cnt 0 cnt row es f0 h1 h2 h3 h4.symm (by rw[drop_zero,take_of_length_le (by omega)]) h5 ?_)
   rintro H' m' row' es' e1 e2 e3 e4 e5 e6 e7
   have hlen':es'.length=cnt:=by rw[e6.len,e4]
   rw[drop_zero,take_of_length_le (by omega)]at e7
   subst e7
   exact hK H' (m'+1) e1 e2 ⟨row',_,f0,e3,e4,e6,by rw[e5],h5⟩
  | sub l cnt lo hi =>
   obtain⟨row,es0,f0,h1,h2,h3,h4,h5⟩:=ho
   simp only[AV.list.injEq,true_and]at h4
   obtain⟨h4,rfl⟩:=h4
   refine part l cnt lo hi row es0 f0 h1 h2 h3 h4.symm rfl h5 ?_
   rintro H' m' row' es' e1 e2 e3 e4 e5 e6 e7
   exact hK H' (m'+1) e1 e2 ⟨row',es',f0,e3,e4,e6,by rw[e5,e7],h5⟩
  | agg cs=>obtain⟨ds,_,e⟩:=ho;cases e
  | tup cs=>obtain⟨ds,_,e⟩:=ho;cases e
  | _=>exact ho.elim
theorem lP_{g:List AV→Int→List AV×Int}{seg:List (List AV)}{k:Int}{i:Nat}(h:i<seg.length):aS_ g (seg.take (i+1)) k=((aS_ g (seg.take i) k).1++[(g seg[i] (aS_ g (seg.take i) k).2).1],(g seg[i] (aS_ g (seg.take i) k).2).2):=by
 rw[take_add_one,getElem?_eq_getElem h,Option.toList_some,lr_]
theorem jo_{c:List AV→Nat}:∀{seg:List (List AV)} {i:Nat} (h:i<seg.length),a8_ c (seg.take i)+c seg[i]≤a8_ c seg
 | x::xs,0,h=>by simp[a8_]
 | x::xs,i+1,h=>by
  have:=jo_ (c:=c) (seg:=xs) (i:=i) (by simpa using h)
  simp only[take_succ_cons,a8_,getElem_cons_succ];omega
theorem mA_{rs seg:List (List AV)}{A:List (List AV)}{lo hi i:Nat}(h:(rs.take hi).drop lo=A++seg.drop i)(hA:A.length=i)(hi':i<seg.length):lo+i<rs.length∧rs[lo+i]?=some seg[i]∧lo+i<hi:=by
 have h1:((rs.take hi).drop lo)[i]?=some seg[i]:=by
  rw[h,getElem?_append_right (by omega),hA,Nat.sub_self,getElem?_drop,Nat.add_zero,getElem?_eq_getElem hi']
 rw[getElem?_drop,getElem?_take]at h1
 split at h1
 ·rename_i q
  exact⟨(List.getElem?_eq_some_iff.1 h1).1,h1,q⟩
 ·cases h1
theorem mp_{rs seg:List (List AV)}{A:List (List AV)}{lo hi i:Nat}{d:List AV}(h:(rs.take hi).drop lo=A++seg.drop i)(hA:A.length=i)(hi':i<seg.length):((rs.set (lo+i) d).take hi).drop lo=(A++[d])++seg.drop (i+1):=by
 obtain⟨h1,h2,h3⟩:=mA_ h hA hi'
 rw[take_set,drop_set,if_neg (by omega),h,Nat.add_sub_cancel_left,set_append_right _ _ (by omega),hA,Nat.sub_self,drop_eq_getElem_cons hi',set_cons_zero,append_assoc]
 rfl
theorem aH_.inv_nil{R:AV→AV→List Nat→Prop}{cs:List AV}{f:List Nat}(h:aH_ R cs [] f):cs=[]∧f=[]:=by
 cases cs with
 | nil=>exact⟨rfl,h.2⟩
 | cons c cs=>obtain⟨d,ds',g,g',e,_⟩:=h;cases e
theorem aH_.inv_cons{R:AV→AV→List Nat→Prop}{cs ds:List AV}{d:AV}{f:List Nat}(h:aH_ R cs (d::ds) f):∃c cs' g g',cs=c::cs'∧f=g++g'∧R c d g∧aH_ R cs' ds g':=by
 cases cs with
 | nil=>obtain⟨e,_⟩:=h;cases e
 | cons c cs =>
  obtain⟨d',ds',g,g',e,e2,h1,h2⟩:=h
  simp only[List.cons.injEq]at e
  obtain⟨rfl,rfl⟩:=e
  exact⟨c,cs,g,g',rfl,e2,h1,h2⟩
theorem aH_.inv_val{H:List Row}{m:Nat}{cs ds:List AV}{v:Value}{f:List Nat}(h:aH_ (Own H m) cs (.val v::ds) f):∃cs',cs=.val v::cs'∧aH_ (Own H m) cs' ds f:=by
 obtain⟨c,cs',g,g',rfl,rfl,h1,h2⟩:=h.inv_cons
 obtain⟨rfl,rfl⟩:=h1.of_val
 exact⟨cs',rfl,h2⟩
theorem aH_.mk_nil(R:AV→AV→List Nat→Prop):aH_ R [] [] []:=⟨rfl,rfl⟩
theorem aH_.mk_val{H:List Row}{m:Nat}{cs ds:List AV}{f:List Nat}(v:Value)(h:aH_ (Own H (m+1)) cs ds f):aH_ (Own H (m+1)) (.val v::cs) (.val v::ds) f:=⟨_,_,[],f,rfl,rfl,Own.mk_val _ _ _,h⟩
theorem aH_.mk_list{H:List Row}{m n:Nat}{c r:AV}{cs ds:List AV}{f g:List Nat}(h1:Own H m c r g)(h:aH_ (Own H (n+1)) cs ds f):aH_ (Own H (m+n+1)) (c::cs) (r::ds) (g++f):=⟨_,_,g,f,rfl,rfl,Own.up (by omega) h1,aH_.up (by omega) h⟩
theorem Own.cell_list{H:List Row}{m:Nat}{c:AV}{tk sz:Nat}{es:List (List AV)}{g:List Nat}(h:Own H m c (.list tk sz es) g):c.cell=true:=by
 cases m with
 | zero=>exact h.elim
 | succ m =>
  cases c with
  | val v => obtain ⟨_, e | ⟨rfl, _⟩⟩ := h
             ·cases e
             ·rfl
  | own l k=>rfl
  | sub l k lo hi=>rfl
  | agg cs=>obtain⟨_,_,e⟩:=h;cases e
  | tup cs=>obtain⟨_,_,e⟩:=h;cases e
  | _=>exact h.elim
theorem MT.elem{H0:List Row}{l:Nat}{E:Tag}{sz cnt:Nat}{f:List Nat}{rs:List (List AV)}{H:List Row}{j:Nat}{d:List AV}(h:MT H0 l E sz cnt f rs H)(hl:l∉f)(nd:f.Nodup)(hd:rs[j]?=some d) :
 ∃m es e f2,H[l]?=some ⟨E,sz,es⟩∧es.length=cnt∧es[j]?=some e∧aH_ (Own H (m+1)) e d f2∧f2.Nodup∧l∉f2 ∧
  ∀H' e' d',H'.length=H.length→H'[l]?=some ⟨E,sz,es.set j e'⟩→(∀x,x∉l::f2→H'[x]?=H[x]?)→(∃m',aH_ (Own H' m') e' d' f2)→MT H0 l E sz cnt f (rs.set j d') H':=by
 obtain⟨⟨m,es,h1,h2,h3⟩,h4,h5⟩:=h
 obtain⟨e,f1,f2,f3,q1,q2,q3,q4⟩:=h3.split j hd
 subst q2
 simp only[nodup_append,mem_append]at nd
 obtain⟨n1,⟨n2,n3,n4⟩,n5⟩:=nd
 refine⟨m,es,e,f2,h1,h2,q1,q3,n2,fun q=>hl (by simp[q]),fun H' e' d' e1 e2 e3 ⟨m',e4⟩=>⟨⟨m+m',_,e2,by simpa using h2,?_⟩,by rw[e1,h4],fun x hx=>?_⟩⟩
 ·refine q4 (Own H' (m+m'+1)) e' d' (fun a r g hg ho=>Own.up (by omega) (ho.keep fun x hx=>e3 x ?_)) (aH_.up (by omega) e4)
  rw[mem_cons]
  rintro(rfl|q)
  ·exact hl (by rcases hg _ hx with q|q<;>simp[q])
  ·rcases hg x hx with q'|q'
   ·exact n5 x q' x (.inl q) rfl
   ·exact n4 x q x q' rfl
 ·rw[e3 x (fun q=>hx (by rcases mem_cons.1 q with q|q<;>simp[q]))]
  exact h5 x hx
section
variable (mt : Int → ByteArray)
def br_:List Sch→List AV→Int→List AV×Int
 | .list fs::ss,c::cs,k=>((bj_ mt (.list fs) c k).1::(br_ ss cs (bj_ mt (.list fs) c k).2).1,(br_ ss cs (bj_ mt (.list fs) c k).2).2)
 | _::ss,c::cs,k=>(c::(br_ ss cs k).1,(br_ ss cs k).2)
 | _,cs,k=>(cs,k)
def fS_:List Sch→List AV→Int→Int
 | .list fs::ss,c::cs,k=>if bH_ mt (.list fs) c k<0 then -1 else fS_ ss cs (bH_ mt (.list fs) c k)
 | _::ss,_::cs,k=>fS_ ss cs k
 | _,_,k=>k
end
def bX_:List Sch→List AV→Nat
 | .list fs::ss,c::cs=>aY_ (.list fs) c+bX_ ss cs
 | _::ss,_::cs=>bX_ ss cs
 | _,_=>0
variable {mt : Int → ByteArray}
theorem f7_:∀(fs:List Sch) (cs:List AV) (k:Int),(br_ mt fs cs k).2=k+bX_ fs cs
 | [],cs,k=>by simp[br_,bX_]
 | .list fs::ss,[],k=>by simp[br_,bX_]
 | .int::ss,[],k=>by simp[br_,bX_]
 | .str::ss,[],k=>by simp[br_,bX_]
 | .bool::ss,[],k=>by simp[br_,bX_]
 | .list fs::ss,c::cs,k=>by simp only[br_,bX_];rw[f7_ ss,hw_];omega
 | .int::ss,c::cs,k=>by simp only[br_,bX_];exact f7_ ss cs k
 | .str::ss,c::cs,k=>by simp only[br_,bX_];exact f7_ ss cs k
 | .bool::ss,c::cs,k=>by simp only[br_,bX_];exact f7_ ss cs k
theorem hT_:∀(fs:List Sch) (cs:List AV) (k:Int),aW_ fs cs→0≤k→fS_ mt fs (br_ mt fs cs k).1 k=(br_ mt fs cs k).2
 | [],cs,k,_,hk=>by simp[br_,fS_]
 | .list fs::ss,cs,k,h,hk=>by
  unfold aW_ at h
  obtain⟨c,r,rfl,h1,h2⟩:=h
  simp only[br_,fS_]
  rw[oZ_ _ c k h1 hk,hw_,if_neg (by omega)]
  exact hT_ ss r _ h2 (by omega)
 | .int::ss,cs,k,h,hk=>by
  unfold aW_ at h
  obtain⟨c,r,rfl,h1,h2⟩:=h
  simp only[br_,fS_]
  exact hT_ ss r _ h2 hk
 | .str::ss,cs,k,h,hk=>by
  unfold aW_ at h
  obtain⟨c,r,rfl,h1,h2⟩:=h
  simp only[br_,fS_]
  exact hT_ ss r _ h2 hk
 | .bool::ss,cs,k,h,hk=>by
  unfold aW_ at h
  obtain⟨c,r,rfl,h1,h2⟩:=h
  simp only[br_,fS_]
  exact hT_ ss r _ h2 hk
theorem hW_:∀(fs:List Sch) (cs:List AV) (k:Int),aW_ fs cs→aW_ fs (br_ mt fs cs k).1
 | [],cs,k,h=>by unfold aW_ at h;simp[br_,aW_,h]
 | .list fs::ss,cs,k,h=>by
  unfold aW_ at h
  obtain⟨c,r,rfl,h1,h2⟩:=h
  simp only[br_]
  unfold aW_
  exact⟨_,_,rfl,oN_ _ c k h1,hW_ ss r _ h2⟩
 | .int::ss,cs,k,h=>by
  unfold aW_ at h
  obtain⟨c,r,rfl,h1,h2⟩:=h
  simp only[br_]
  unfold aW_
  exact⟨_,_,rfl,h1,hW_ ss r _ h2⟩
 | .str::ss,cs,k,h=>by
  unfold aW_ at h
  obtain⟨c,r,rfl,h1,h2⟩:=h
  simp only[br_]
  unfold aW_
  exact⟨_,_,rfl,h1,hW_ ss r _ h2⟩
 | .bool::ss,cs,k,h=>by
  unfold aW_ at h
  obtain⟨c,r,rfl,h1,h2⟩:=h
  simp only[br_]
  unfold aW_
  exact⟨_,_,rfl,h1,hW_ ss r _ h2⟩
def ya_(P:Program)(F:FuncId)(mt:Int→ByteArray)(fs:List Sch):Prop :=
 ∀(m:Nat) (cs ds:List AV) (f:List Nat) (H:List Row) (k:Int) (K:AV→List Row→Prop),aH_ (Own H m) cs ds f→f.Nodup→aW_ fs ds→0≤k→k+bX_ fs ds≤4611686018427387904 →
  (∀H',H.length≤H'.length→(∀x,x<H.length→x∉f→H'[x]?=H[x]?)→(∃m',aH_ (Own H' m') cs (br_ mt fs ds k).1 f)→K (.val (.int .i64 (br_ mt fs ds k).2)) H') →
  callSem P F [.agg cs,.val (.int .i64 k)] H K
theorem gO_{ss:List Sch}{cs:List AV}{n k:Int}(h:n=k)(hk:0≤k):bn_ mt (.int::ss) (.val (.int .i64 n)::cs) k=bn_ mt ss cs (k+1):=by
 have e:bH_ mt .int (.val (.int .i64 n)) k=k+1:=by simp only[bH_];rw[if_pos h]
 simp only[bn_];rw[e,if_neg (by omega)]
theorem oD_{ss:List Sch}{cs:List AV}{n k:Int}(h:¬ n=k):bn_ mt (.int::ss) (.val (.int .i64 n)::cs) k = -1:=by
 have e:bH_ mt .int (.val (.int .i64 n)) k = -1:=by simp only[bH_];rw[if_neg h]
 simp only[bn_];rw[e,if_pos (by omega)]
theorem ws_{ss:List Sch}{cs:List AV}{s:ByteArray}{k:Int}(h:s=mt k)(hk:0≤k):bn_ mt (.str::ss) (.val (.string s)::cs) k=bn_ mt ss cs (k+1):=by
 have e:bH_ mt .str (.val (.string s)) k=k+1:=by simp only[bH_];rw[if_pos h]
 simp only[bn_];rw[e,if_neg (by omega)]
theorem vm_{ss:List Sch}{cs:List AV}{s:ByteArray}{k:Int}(h:¬ s=mt k):bn_ mt (.str::ss) (.val (.string s)::cs) k = -1:=by
 have e:bH_ mt .str (.val (.string s)) k = -1:=by simp only[bH_];rw[if_neg h]
 simp only[bn_];rw[e,if_pos (by omega)]
theorem il_{ss:List Sch}{cs:List AV}{b:Bool}{k:Int}(h:b=decide (k % 3=0))(hk:0≤k):bn_ mt (.bool::ss) (.val (.bool b)::cs) k=bn_ mt ss cs (k+1):=by
 have e:bH_ mt .bool (.val (.bool b)) k=k+1:=by simp only[bH_];rw[if_pos h]
 simp only[bn_];rw[e,if_neg (by omega)]
theorem tL_{ss:List Sch}{cs:List AV}{b:Bool}{k:Int}(h:¬ b=decide (k % 3=0)):bn_ mt (.bool::ss) (.val (.bool b)::cs) k = -1:=by
 have e:bH_ mt .bool (.val (.bool b)) k = -1:=by simp only[bH_];rw[if_neg h]
 simp only[bn_];rw[e,if_pos (by omega)]
theorem k0_{ss fs:List Sch}{cs:List AV}{tk sz:Nat}{es:List (List AV)}{k:Int}(h:¬ bt_ (bn_ mt fs) es k<0):bn_ mt (.list fs::ss) (.list tk sz es::cs) k=bn_ mt ss cs (bt_ (bn_ mt fs) es k):=by
 have e:bH_ mt (.list fs) (.list tk sz es) k=bt_ (bn_ mt fs) es k:=by simp only[bH_]
 simp only[bn_];rw[e,if_neg h]
theorem jt_{ss fs:List Sch}{cs:List AV}{tk sz:Nat}{es:List (List AV)}{k:Int}(h:bt_ (bn_ mt fs) es k<0):bn_ mt (.list fs::ss) (.list tk sz es::cs) k = -1:=by
 have e:bH_ mt (.list fs) (.list tk sz es) k=bt_ (bn_ mt fs) es k:=by simp only[bH_]
 simp only[bn_];rw[e,if_pos h]
theorem lR_{cs:List AV}{k:Int}:bn_ mt [] cs k=k:=by simp[bn_]
theorem eu_{g:List AV→Int→Int}{e:List AV}{es:List (List AV)}{k:Int}(h:g e k = -1):bt_ g (e::es) k = -1:=by
 simp only[bt_];rw[if_pos (by omega)]
theorem in_{g:List AV→Int→Int}{e:List AV}{es:List (List AV)}{k z:Int}(h:g e k=z)(hz:0≤z):bt_ g (e::es) k=bt_ g es z:=by
 simp only[bt_];rw[h,if_neg (by omega)]
theorem l4_{g:List AV→Int→Int}{es:List (List AV)}{k:Int}{i:Nat}(h:i<es.length):bt_ g (es.drop i) k=bt_ g (es[i]::es.drop (i+1)) k:=by rw[drop_eq_getElem_cons h]
theorem p8_{c:List AV→Nat}{es:List (List AV)}{i:Nat}(h:i<es.length):a8_ c (es.drop i)=c es[i]+a8_ c (es.drop (i+1)):=by rw[drop_eq_getElem_cons h];rfl
theorem hR_{g:List AV→Int→Int}{c:List AV→Nat}{es:List (List AV)}(hg:∀e∈es,∀k,0≤k→g e k = -1∨g e k=k+c e)(k:Int)(hk:0≤k):bt_ g es k = -1∨bt_ g es k=k+a8_ c es:=by
 induction es generalizing k with
 | nil=>right;simp[bt_,a8_]
 | cons e es ih =>
  rcases hg e (by simp) k hk with q|q
  ·left;exact eu_ q
  ·rw[in_ q (by omega)]
   rcases ih (fun x hx=>hg x (by simp[hx])) (k+c e) (by omega)with p|p
   ·exact .inl p
   ·right;rw[p,a8_];omega
mutual
theorem vi_:∀(s:Sch) (a:AV) (k:Int),bo_ s a→0≤k→bH_ mt s a k = -1∨bH_ mt s a k=k+aY_ s a
 | .int,a,k,h,hk=>by
  unfold bo_ at h;obtain⟨n,rfl⟩:=h
  simp only[bH_,aY_];split<;>simp
 | .str,a,k,h,hk=>by
  unfold bo_ at h;obtain⟨n,rfl⟩:=h
  simp only[bH_,aY_];split<;>simp
 | .bool,a,k,h,hk=>by
  unfold bo_ at h;obtain⟨n,rfl⟩:=h
  simp only[bH_,aY_];split<;>simp
 | .list fs,a,k,h,hk=>by
  unfold bo_ at h
  obtain⟨es,rfl,h⟩:=h
  simp only[bH_,aY_]
  exact hR_ (fun e he k hk=>hJ_ fs e k (h e he) hk) k hk
theorem hJ_:∀(fs:List Sch) (cs:List AV) (k:Int),aW_ fs cs→0≤k→bn_ mt fs cs k = -1∨bn_ mt fs cs k=k+a0_ fs cs
 | [],cs,k,_,hk=>by simp[bn_,a0_]
 | s::ss,cs,k,h,hk=>by
  unfold aW_ at h
  obtain⟨c,r,rfl,h1,h2⟩:=h
  simp only[bn_,a0_]
  rcases vi_ s c k h1 hk with q|q
  ·left;rw[q,if_pos (by omega)]
  ·rw[q,if_neg (by omega)]
   rcases hJ_ ss r (k+aY_ s c) h2 (by omega)with p|p
   ·exact .inl p
   ·right;rw[p];omega
end
theorem gT_{c:List AV→Nat}:∀{es:List (List AV)},(∀e∈es,1≤c e)→es.length≤a8_ c es
 | [],_=>by simp
 | e::es,h=>by
  have:=gT_ (c:=c) (es:=es) (fun x hx=>h x (by simp[hx]))
  have:=h e (by simp)
  simp only[a8_,List.length_cons];omega
structure aT_(lo hi:Nat)(H:List Row)(a r:AV):Prop where
 out:∃n fs,Own H n a r fs∧fs.Nodup∧∀l∈fs,lo≤l∧l<hi
structure aQ_(lo hi:Nat)(H:List Row)(as rs:List AV):Prop where
 out:∃n fs,aH_ (Own H n) as rs fs∧fs.Nodup∧∀l∈fs,lo≤l∧l<hi
structure bz_(lo hi:Nat)(H:List Row)(es rs:List (List AV)):Prop where
 out:∃n fs,aZ_ (Own H n) es rs fs∧fs.Nodup∧∀l∈fs,lo≤l∧l<hi
section
variable {lo hi mid : Nat} {H H' : List Row} {a r : AV} {as rs as' rs' : List AV} {es ds : List (List AV)}
theorem ee_.b(h:ee_ lo H a r):aT_ lo H.length H a r:=by
 obtain⟨n,fs,h1,h2,h3⟩:=h
 exact⟨n,fs,h1,h2,fun l hl=>⟨h3 l hl,h1.lt l hl⟩⟩
theorem aT_.fresh(h:aT_ lo hi H a r):ee_ lo H a r:=by
 obtain⟨n,fs,h1,h2,h3⟩:=h
 exact⟨n,fs,h1,h2,fun l hl=>(h3 l hl).1⟩
theorem aT_.keep(hk:∀l,lo≤l→l<hi→H'[l]?=H[l]?)(h:aT_ lo hi H a r):aT_ lo hi H' a r:=by
 obtain⟨n,fs,h1,h2,h3⟩:=h
 exact⟨n,fs,h1.keep fun l hl=>hk l (h3 l hl).1 (h3 l hl).2,h2,h3⟩
theorem aQ_.keep(hk:∀l,lo≤l→l<hi→H'[l]?=H[l]?)(h:aQ_ lo hi H as rs):aQ_ lo hi H' as rs:=by
 obtain⟨n,fs,h1,h2,h3⟩:=h
 exact⟨n,fs,aH_.mono (fun a r g hg ho=>ho.keep fun l hl=>hk l (h3 l (hg l hl)).1 (h3 l (hg l hl)).2) h1,h2,h3⟩
theorem bz_.keep(hk:∀l,lo≤l→l<hi→H'[l]?=H[l]?)(h:bz_ lo hi H es ds):bz_ lo hi H' es ds:=by
 obtain⟨n,fs,h1,h2,h3⟩:=h
 exact⟨n,fs,aZ_.mono (fun a r g hg ho=>ho.keep fun l hl=>hk l (h3 l (hg l hl)).1 (h3 l (hg l hl)).2) h1,h2,h3⟩
theorem aT_.widen{lo' hi':Nat}(h1:lo'≤lo)(h2:hi≤hi')(h:aT_ lo hi H a r):aT_ lo' hi' H a r:=by
 obtain⟨n,fs,q1,q2,q3⟩:=h
 exact⟨n,fs,q1,q2,fun l hl=>by have:=q3 l hl;omega⟩
theorem aQ_.widen{lo' hi':Nat}(h1:lo'≤lo)(h2:hi≤hi')(h:aQ_ lo hi H as rs):aQ_ lo' hi' H as rs:=by
 obtain⟨n,fs,q1,q2,q3⟩:=h
 exact⟨n,fs,q1,q2,fun l hl=>by have:=q3 l hl;omega⟩
theorem bz_.widen{lo' hi':Nat}(h1:lo'≤lo)(h2:hi≤hi')(h:bz_ lo hi H es ds):bz_ lo' hi' H es ds:=by
 obtain⟨n,fs,q1,q2,q3⟩:=h
 exact⟨n,fs,q1,q2,fun l hl=>by have:=q3 l hl;omega⟩
theorem aT_.mknil(lo hi:Nat)(H:List Row)(sz:Nat):aT_ lo hi H (.val (.slice none 0 0)) (.list 0 sz []):=⟨1,[],⟨rfl,.inr ⟨rfl,_,rfl⟩⟩,nodup_nil,by simp⟩
theorem aQ_.nil(lo hi:Nat)(H:List Row):aQ_ lo hi H [] []:=⟨0,[],⟨rfl,rfl⟩,nodup_nil,by simp⟩
theorem bz_.nil(lo hi:Nat)(H:List Row):bz_ lo hi H [] []:=⟨0,[],⟨rfl,rfl⟩,nodup_nil,by simp⟩
theorem aQ_.cons(h1:aT_ lo mid H a r)(h2:aQ_ mid hi H as rs)(hm:lo≤mid∧mid≤hi):aQ_ lo hi H (a::as) (r::rs):=by
 obtain⟨n,fs,p1,p2,p3⟩:=h1
 obtain⟨m,gs,q1,q2,q3⟩:=h2
 refine⟨n+m,fs++gs,⟨r,rs,fs,gs,rfl,rfl,Own.up (by omega) p1,aH_.up (by omega) q1⟩,?_,fun l hl=>?_⟩
 ·rw[nodup_append]
  exact⟨p2,q2,fun x hx y hy=>by have:=p3 x hx;have:=q3 y hy;omega⟩
 ·rcases mem_append.1 hl with q|q
  ·have:=p3 l q;omega
  ·have:=q3 l q;omega
theorem aQ_.val(v:Value)(h2:aQ_ lo hi H as rs):aQ_ lo hi H (.val v::as) (.val v::rs):=by
 obtain⟨m,gs,q1,q2,q3⟩:=h2
 exact⟨m+1,gs,⟨.val v,rs,[],gs,rfl,rfl,Own.mk_val _ _ _,aH_.up (by omega) q1⟩,q2,q3⟩
theorem bz_.snoc(h1:bz_ lo mid H es ds)(h2:aQ_ mid hi H as rs)(hm:lo≤mid∧mid≤hi):bz_ lo hi H (es++[as]) (ds++[rs]):=by
 obtain⟨n,fs,p1,p2,p3⟩:=h1
 obtain⟨m,gs,q1,q2,q3⟩:=h2
 refine⟨n+m,fs++gs,?_,?_,fun l hl=>?_⟩
 ·have p1':=aZ_.up (Nat.le_add_right n m) p1
  have q1':=aH_.up (Nat.le_add_left m n) q1
  clear p1 q1 p2 p3 q2 q3
  induction es generalizing ds fs with
  | nil =>
   obtain⟨rfl,rfl⟩:=p1'
   exact⟨rs,[],gs,[],rfl,by simp,q1',rfl,rfl⟩
  | cons e es ih =>
   obtain⟨d,ds',f,f',rfl,rfl,g1,g2⟩:=p1'
   exact⟨d,ds'++[rs],f,f'++gs,rfl,by simp,g1,ih _ g2⟩
 ·rw[nodup_append]
  exact⟨p2,q2,fun x hx y hy=>by have:=p3 x hx;have:=q3 y hy;omega⟩
 ·rcases mem_append.1 hl with q|q
  ·have:=p3 l q;omega
  ·have:=q3 l q;omega
theorem aT_.agg(h:aQ_ lo hi H as rs):aT_ lo hi H (.agg as) (.agg rs):=by
 obtain⟨n,fs,p1,p2,p3⟩:=h
 exact⟨n+1,fs,⟨rs,p1,rfl⟩,p2,p3⟩
theorem aT_.tup(h:aQ_ lo hi H as rs):aT_ lo hi H (.tup as) (.tup rs):=by
 obtain⟨n,fs,p1,p2,p3⟩:=h
 exact⟨n+1,fs,⟨rs,p1,rfl⟩,p2,p3⟩
theorem aT_.unagg(h:aT_ lo hi H (.agg as) (.agg rs)):aQ_ lo hi H as rs:=by
 obtain⟨n,fs,p1,p2,p3⟩:=h
 cases n with
 | zero=>exact p1.elim
 | succ n =>
  obtain⟨ds,q1,q2⟩:=p1
  cases q2
  exact⟨n,fs,q1,p2,p3⟩
theorem aT_.untup(h:aT_ lo hi H (.tup as) (.tup rs)):aQ_ lo hi H as rs:=by
 obtain⟨n,fs,p1,p2,p3⟩:=h
 cases n with
 | zero=>exact p1.elim
 | succ n =>
  obtain⟨ds,q1,q2⟩:=p1
  cases q2
  exact⟨n,fs,q1,p2,p3⟩
theorem aT_.mkown{lo' l k:Nat}{E:Tag}{sz:Nat}(h:bz_ lo hi H es ds)(hl:H[l]?=some ⟨E,sz,es⟩)(hk:es.length=k)(h1:lo'≤l)(h2:l<lo)(h3:lo≤hi):aT_ lo' hi H (.own l k) (.list 0 sz ds):=by
 obtain⟨n,fs,p1,p2,p3⟩:=h
 refine⟨n+1,l::fs,⟨⟨E,sz,es⟩,ds,fs,hl,hk,p1,rfl,rfl⟩,?_,fun x hx=>?_⟩
 ·rw[nodup_cons]
  exact⟨fun q=>by have:=p3 l q;omega,p2⟩
 ·rcases mem_cons.1 hx with q|q
  ·subst q;omega
  ·have:=p3 x q;omega
theorem bz_.ofVals(lo hi:Nat)(H:List Row):∀(es:List (List AV)),(∀e∈es,∀c∈e,∃v,c=.val v)→bz_ lo hi H es es
 | [],_=>.nil lo hi H
 | e::es,h=>by
  obtain⟨n,fs,p1,p2,p3⟩:=bz_.ofVals lo hi H es (fun x hx=>h x (by simp[hx]))
  have he:∀(cs:List AV),(∀c∈cs,∃v,c=.val v)→aH_ (Own H (n+1)) cs cs []:=by
   intro cs
   induction cs with
   | nil=>intro _;exact⟨rfl,rfl⟩
   | cons c cs ih =>
    intro hc
    obtain⟨v,rfl⟩:=hc c (by simp)
    exact⟨_,_,[],[],rfl,rfl,Own.mk_val _ _ _,ih fun x hx=>hc x (by simp[hx])⟩
  exact⟨n+1,fs,⟨e,es,[],fs,rfl,rfl,he e (h e (by simp)),aZ_.up (by omega) p1⟩,p2,p3⟩
theorem aT_.arg(h:aT_ lo hi H a r):cR_ H a r:=by
 obtain⟨n,fs,h1,_⟩:=h
 exact .inr ⟨n,fs,h1⟩
theorem bf_.two{b q:AV}(h1:cR_ H a r)(h2:cR_ H b q):bf_ H [a,b] [r,q]:=⟨_,_,rfl,h1,_,_,rfl,h2,rfl⟩
theorem bf_.one(h1:cR_ H a r):bf_ H [a] [r]:=⟨_,_,rfl,h1,rfl⟩
theorem cR_.same(hp:a.plain=true):cR_ H a a:=.inl ⟨rfl,hp⟩
theorem bf_.cons(h1:cR_ H a r)(h2:bf_ H as rs):bf_ H (a::as) (r::rs):=⟨_,_,rfl,h1,h2⟩
theorem bf_.nil:bf_ H [] []:=rfl
end
theorem ta_{P:Program}{f:FuncId}{args:List AV}{R:AV→Prop}(D:AV→List Row→AV→Prop)(hD:∀(S:Sit) (h:List Row) (w:World) (a r:AV) (x:Value),ac_ S h w→Rep S a x→D a h r→Rep (S.shut w) r x)(hp:args.all AV.plain=true)(hw:callSem P f args [] fun av h'=>∃r,D av h' r∧R r)(h:List Row)(K:AV→List Row→Prop)(hk:∀r,R r→K r h):callSem P f args h K:=by
 intro S w vals hm hgl hr
 have hm0:ac_ S.still [] w:=⟨hm.imm,rfl,by simp[Sit.still],by simp[Sit.still]⟩
 refine(hw S.still w vals hm0 hgl (gm_ hp hr)).mono ?_
 rintro e w' ⟨v,av,S1,h1,rfl,st,hm1,rv,r,hres,hR⟩
 have rr:=hD S1 h1 w' av r v hm1 rv hres
 have hnone:∀b,¬ S.still.owns b:=by
  rintro b ⟨l,i,q,_⟩
  simp[Sit.still]at q
 have hblk:∀b,b<w.heap.size→w'.heap[b]?=w.heap[b]?:=fun b hb=>st.block b hb (hnone b)
 have hown1:∀b,S1.owns b→w.heap.size≤b:=fun b hb=>by
  rcases st.ownNew b hb with q|q
  ·exact absurd q (hnone b)
  ·exact q
 have himm1:∀b c,S1.imm b=some c→S.imm b=some c∨w.heap.size≤b:=fun b c hb=>by
  rcases st.immNew b c hb with q|q|q
  ·exact .inl q
  ·exact absurd q (hnone b)
  ·exact .inr q
 have hshut:∀b c,(S1.shut w').imm b=some c→S.imm b=some c∨w.heap.size≤b:=by
  intro b c hb
  simp only[Sit.shut]at hb
  split at hb
  ·rename_i hq
   exact .inr (hown1 b (d2_.1 hq))
  ·exact himm1 b c hb
 have hle:S.le { imm:=(S1.shut w').imm,rows:=S.rows }:=by
  refine⟨fun b c e=>?_,fun l i e=>⟨i,e,Nat.le_refl _,fun _=>rfl⟩⟩
  exact(hN_ hm1).imm b c (st.le.imm b c e)
 refine⟨v,r,{ imm:=(S1.shut w').imm,rows:=S.rows },h,rfl,⟨hle,st.os,st.tape,st.output,st.size,fun b hb _=>hblk b hb,fun b q=>.inl q,fun b c q=>?_⟩,⟨fun b c q=>?_,hm.len,fun l i rw q1 q2=>?_,hm.one⟩,?_,hk r hR⟩
 ·rcases hshut b c q with q|q
  ·exact .inl q
  ·exact .inr (.inr q)
 ·simp only[Sit.shut]at q
  split at q
  ·split at q
   ·rename_i c' E fr hb
    simp at q;subst q
    exact⟨E,fr,hb⟩
   ·simp at q
  ·exact hm1.imm b c q
 ·obtain⟨k1,k2,k3,k4⟩:=hm.rows l i rw q1 q2
  refine⟨k1,k2,k3,?_⟩
  cases hb:i.blk with
  | none=>rw[hb]at k4;exact k4
  | some b =>
   rw[hb]at k4
   have j1:=k4.1
   have hlt:=hm.ownLt ⟨l,i,q1,hb⟩
   refine⟨?_,k4.2.le hle (hblk b hlt)⟩
   cases q:(S1.shut w').imm b with
   | none=>rfl
   | some d =>
    rcases hshut b d q with q'|q'
    ·rw[j1]at q';cases q'
    ·omega
 ·have hl2:(S1.shut w').le { imm:=(S1.shut w').imm,rows:=S.rows }:=⟨fun _ _ e=>e,by simp[Sit.shut]⟩
  exact Rep.up hl2 _ _ rr
theorem b8_.pure{P:Program}{f:FuncId}{args:List AV}{r:AV}{Q:AV→Prop}(hc:b8_ P f args r Q)(hp:args.all AV.plain=true)(h:List Row):PureCall P f args h r:=by
 intro K hk
 refine ta_ (R:=fun x=>x=r) (fun a h r=>∃n fs,Own h n a r fs) (fun S h w a r x hm rx ⟨n,fs,ho⟩=>Own.rep hm n a x r fs rx ho) hp ?_ h K (by rintro _ rfl;exact hk)
 refine hc [] _ (fun av hn hf hq=>?_)
 obtain⟨n,fs,h1,_⟩:=hf
 exact⟨r,⟨n,fs,h1⟩,rfl⟩
theorem PureCall.own{P:Program}{f:FuncId}{as rs:List AV}{H:List Row}{v:Value}(hc:∀h,PureCall P f rs h (.val v))(ha:bf_ H as rs):PureCall P f as H (.val v):=fun _ hk=>wm_ hc ha hk
theorem aQ_.app{lo mid hi:Nat}{H:List Row}{as rs as' rs':List AV}(h1:aQ_ lo mid H as rs)(h2:aQ_ mid hi H as' rs')(hm:lo≤mid∧mid≤hi):aQ_ lo hi H (as++as') (rs++rs'):=by
 obtain⟨n,fs,p1,p2,p3⟩:=h1
 obtain⟨m,gs,q1,q2,q3⟩:=h2
 refine⟨n+m,fs++gs,?_,?_,fun l hl=>?_⟩
 ·have p1':=aH_.up (Nat.le_add_right n m) p1
  have q1':=aH_.up (Nat.le_add_left m n) q1
  clear p1 q1 p2 p3 q2 q3
  induction as generalizing rs fs with
  | nil =>
   obtain⟨rfl,rfl⟩:=p1'
   exact q1'
  | cons e es ih =>
   obtain⟨d,ds',f,f',rfl,rfl,g1,g2⟩:=p1'
   exact⟨d,ds'++rs',f,f'++gs,rfl,by simp,g1,ih _ g2⟩
 ·rw[nodup_append]
  exact⟨p2,q2,fun x hx y hy=>by have:=p3 x hx;have:=q3 y hy;omega⟩
 ·rcases mem_append.1 hl with q|q
  ·have:=p3 l q;omega
  ·have:=q3 l q;omega
theorem lO_{h a b m t:List Row}{l:Nat}(hab:a.length=b.length)(h1:h.length+b.length≤l)(h2:l<(h++(b++m)).length):(h++(a++(m++t)))[l]?=(h++(b++m))[l]?:=by
 simp only[List.length_append]at h2
 have e1:(h++(a++(m++t)))[l]?=m[l-h.length-a.length]?:=by
  rw[getElem?_append_right (by omega),getElem?_append_right (by omega),getElem?_append_left (by omega)]
 have e2:(h++(b++m))[l]?=m[l-h.length-b.length]?:=by
  rw[getElem?_append_right (by omega),getElem?_append_right (by omega)]
 rw[e1,e2,hab]
theorem rE_{h0 rest hn:List Row}{r r':Row}{done ds:List (List AV)}{cs rs:List AV}(h1:bz_ (h0.length+1) (h0++r::rest).length (h0++r::rest) done ds)(h2:ee_ (h0++r::rest).length ((h0++r::rest)++hn) (.agg cs) (.agg rs)) :
 bz_ (h0.length+1) (h0++r'::(rest++hn)).length (h0++r'::(rest++hn)) (done++[cs]) (ds++[rs]):=by
 have e:(h0++r::rest)++hn=h0++([r]++(rest++hn)):=by simp
 have e':h0++r'::(rest++hn)=h0++([r']++(rest++hn)):=rfl
 refine bz_.snoc (mid:=(h0++r::rest).length) (h1.keep fun l q1 q2=>?_) (((h2.b.unagg).keep fun l q1 q2=>?_).widen (Nat.le_refl _) (by simp)) (by first|(simp;done)|(simp;omega))
 ·exact lO_ (a:=[r']) (b:=[r]) (m:=rest) (t:=hn) rfl q1 q2
 ·rw[e]at q2⊢
  rw[e']
  have:=lO_ (h:=h0) (a:=[r']) (b:=[r]) (m:=rest++hn) (t:=[]) rfl (l:=l) (by simp at q1⊢;omega) q2
  rwa [append_nil]at this
theorem tl_{h0 rest:List Row}{E:Tag}{sz n:Nat}{done ds:List (List AV)}(h1:bz_ (h0.length+1) (h0++⟨E,sz,done⟩::rest).length (h0++⟨E,sz,done⟩::rest) done ds)(hn:done.length=n):ee_ h0.length (h0++⟨E,sz,done⟩::rest) (.own h0.length n) (.list 0 sz ds) :=
 (aT_.mkown h1 (by rw[fN_];rfl) hn (Nat.le_refl _) (Nat.lt_succ_self _) (by simp)).fresh
theorem kE_{base:Nat}{H:List Row}{as rs:List AV}(h:aQ_ base H.length H as rs):ee_ base H (.agg as) (.agg rs):=(aT_.agg h).fresh
theorem pre3{h0 m hn t M:List Row}{x1 x2 x3 y1 y2 y3:Row}{l:Nat}(hM:M=m++(hn++t))(h1:(h0++y1::y2::y3::m).length≤l)(h2:l<((h0++y1::y2::y3::m)++hn).length):(h0++x1::x2::x3::M)[l]?=((h0++y1::y2::y3::m)++hn)[l]?:=by
 subst hM
 have e:(h0++y1::y2::y3::m)++hn=h0++([y1,y2,y3]++(m++hn)):=by simp
 rw[e]at h2⊢
 have:=lO_ (h:=h0) (a:=[x1,x2,x3]) (b:=[y1,y2,y3]) (m:=m++hn) (t:=t) rfl (l:=l) (by simp at h1⊢;omega) h2
 rw[append_assoc]at this
 exact this
structure FB(lo hi:Nat)(H:List Row)(a r:AV):Prop where
 tree:aT_ lo hi H a r
 le:hi≤H.length
structure bb_(H H':List Row):Prop where
 len:H.length≤H'.length
 kept:∀l,l<H.length→H'[l]?=H[l]?
structure But(fs:List Nat)(H H':List Row):Prop where
 len:H.length≤H'.length
 kept:∀l,l<H.length→l∉fs→H'[l]?=H[l]?
section
variable {lo hi : Nat} {H H' : List Row} {a r : AV} {fs : List Nat}
theorem bb_.at{i:Nat}{row:Row}(m:bb_ H H')(o:H[i]?=some row):H'[i]?=some row:=(m.kept i (List.getElem?_eq_some_iff.1 o).1).trans o
theorem bb_.fb(m:bb_ H H')(f:FB lo hi H a r):FB lo hi H' a r:=⟨f.tree.keep fun l _ h2=>m.kept l (by have:=f.le;omega),Nat.le_trans f.le m.len⟩
theorem bb_.row(H:List Row)(row:Row):bb_ H (H++[row]):=⟨by simp,fun l hl=>getElem?_append_left hl⟩
theorem bb_.trans{H'':List Row}(h:bb_ H H')(k:bb_ H' H''):bb_ H H'':=⟨Nat.le_trans h.len k.len,fun l hl=>(k.kept l (Nat.lt_of_lt_of_le hl h.len)).trans (h.kept l hl)⟩
theorem But.at{i:Nat}{row:Row}(m:But fs H H')(o:H[i]?=some row)(h:i∉fs):H'[i]?=some row:=(m.kept i (List.getElem?_eq_some_iff.1 o).1 h).trans o
theorem But.fb(m:But fs H H')(f:FB lo hi H a r)(h:∀l,lo≤l→l<hi→l∉fs):FB lo hi H' a r:=⟨f.tree.keep fun l h1 h2=>m.kept l (by have:=f.le;omega) (h l h1 h2),Nat.le_trans f.le m.len⟩
end
theorem sr_(H:List Row)(r:Row):(H++[r])[H.length]?=some r:=by rw[fN_];rfl
theorem tk_{P:Program}{f:FuncId}{as rs:List AV}{H:List Row}{r:AV}{Q:AV→Prop}(hc:b8_ P f rs r Q)(ha:bf_ H as rs){K:AV→List Row→Prop}(hk:∀av H',bb_ H H'→FB H.length H'.length H' av r→Q av→K av H'):callSem P f as H K :=
 uH_ hc ha fun av hn hf hq=>hk av (H++hn) ⟨by simp,fun l hl=>getElem?_append_left hl⟩ ⟨hf.b,Nat.le_refl _⟩ hq
theorem rP_{P:Program}{f:FuncId}{as:List AV}{H:List Row}{r:AV}{Q:AV→Prop}(hc:b8_ P f as r Q){K:AV→List Row→Prop}(hk:∀av H',bb_ H H'→FB H.length H'.length H' av r→Q av→K av H'):callSem P f as H K :=
 hc H K fun av hn hf hq=>hk av (H++hn) ⟨by simp,fun l hl=>getElem?_append_left hl⟩ ⟨hf.b,Nat.le_refl _⟩ hq
theorem qh_{P:Program}{F:FuncId}{mt:Int→ByteArray}{fs:List Sch}(hc:ya_ P F mt fs){lo hi:Nat}{H:List Row}{cs ds:List AV}{k:Int}{K:AV→List Row→Prop}(ha:FB lo hi H (.agg cs) (.agg ds))(hsh:aW_ fs ds)(hk:0≤k)(hb:k+bX_ fs ds≤4611686018427387904)
 (hK:∀H' g,(∀l∈g,lo≤l∧l<hi)→But g H H'→FB lo hi H' (.agg cs) (.agg (br_ mt fs ds k).1)→K (.val (.int .i64 (br_ mt fs ds k).2)) H'):callSem P F [.agg cs,.val (.int .i64 k)] H K:=by
 have h4:=ha.le
 obtain⟨n,g,h1,h2,h3⟩:=ha.tree.unagg
 refine hc n cs ds g H k K h1 h2 hsh hk hb fun H' e1 e2 ⟨m',e3⟩=>hK H' g h3 ⟨e1,fun l hl hg=>e2 l hl hg⟩ ⟨⟨m'+1,g,⟨_,e3,rfl⟩,h2,h3⟩,by omega⟩
theorem FB.two{lo hi:Nat}{H:List Row}{a r:AV}{v u:Value}(h:FB lo hi H (.tup [a,.val v]) (.tup [r,.val u])):FB lo hi H a r∧(.val v=AV.val u):=by
 have h4:=h.le
 obtain⟨n,fs,h1,h2,h3⟩:=h.tree.untup
 obtain⟨d,ds,f,f',e1,rfl,q1,q2⟩:=h1
 simp only[List.cons.injEq]at e1
 obtain⟨rfl,rfl⟩:=e1
 obtain⟨d,ds,f2,f3,e1,rfl,q3,q4⟩:=q2
 simp only[List.cons.injEq]at e1
 obtain⟨rfl,rfl⟩:=e1
 obtain⟨_,rfl⟩:=q4
 obtain⟨rfl,e⟩:=q3.of_val
 refine⟨⟨⟨n,f,q1,(nodup_append.1 h2).1,fun l hl=>h3 l (mem_append_left _ hl)⟩,h4⟩,e⟩
theorem FB.arg{lo hi:Nat}{H:List Row}{a r:AV}(h:FB lo hi H a r):cR_ H a r:=h.tree.arg
theorem ii_{α:Type}{c:List AV→Nat}{f:α→List AV}{sz:α→Nat}{K:Nat}(h:∀x,c (f x)≤K * (1+sz x)):∀xs:List α,a8_ c (xs.map f)≤K * ay_ sz xs
 | []=>by simp[a8_]
 | x::xs=>by
  have h1:=ii_ h xs
  have h2:=h x
  simp only[map_cons,a8_,ay_,cL_,List.length_cons]at h1⊢
  have:K * (xs.length+1+(sz x+cL_ sz xs))=K * (1+sz x)+K * (xs.length+cL_ sz xs):=by rw[←Nat.mul_add];congr 1;omega
  omega
variable {mt : Int → ByteArray}
theorem g4_:∀(fs:List Sch) (cs:List AV) (k:Int),aW_ fs cs→bX_ fs (br_ mt fs cs k).1=bX_ fs cs
 | [],cs,k,h=>by simp[bX_]
 | .list fs::ss,cs,k,h=>by
  unfold aW_ at h
  obtain⟨c,r,rfl,h1,h2⟩:=h
  simp only[br_,bX_]
  rw[nB_ _ c k h1,g4_ ss r _ h2]
 | .int::ss,cs,k,h=>by
  unfold aW_ at h
  obtain⟨c,r,rfl,h1,h2⟩:=h
  simp only[br_,bX_]
  exact g4_ ss r _ h2
 | .str::ss,cs,k,h=>by
  unfold aW_ at h
  obtain⟨c,r,rfl,h1,h2⟩:=h
  simp only[br_,bX_]
  exact g4_ ss r _ h2
 | .bool::ss,cs,k,h=>by
  unfold aW_ at h
  obtain⟨c,r,rfl,h1,h2⟩:=h
  simp only[br_,bX_]
  exact g4_ ss r _ h2
theorem oO_:∀(fs:List Sch) (cs:List AV),aW_ fs cs→cs.all AV.flat=true
 | [],cs,h=>by unfold aW_ at h;subst h;rfl
 | s::ss,cs,h=>by
  unfold aW_ at h
  obtain⟨c,r,rfl,h1,h2⟩:=h
  rw[all_cons,oO_ ss r h2,Bool.and_true]
  cases s<;>(unfold bo_ at h1;obtain⟨_,h1⟩:=h1)<;>first|(subst h1;rfl)|(obtain⟨rfl,_⟩:=h1;rfl)
theorem jH_{t:Nat→AV}{h:List Row}(a s:Nat)(n:Option Nat)(K:AV→List Row→Prop):cC_ [.cell a n,.tmp s] K .ret t h=match an_ t h (.load n (.tmp a))with|some av=>K (.tup [av,t s]) h|none=>False:=by
 simp only[cC_,dn_,mapM_cons,mapM_nil]
 cases an_ t h (.load n (.tmp a))<;>simp[cT_]
theorem lH_{α:Type}{es:List α}{i:Nat}{x:α}(h:es[i]?=some x):es.set i x=es:=by
 obtain⟨hi,e⟩:=List.getElem?_eq_some_iff.1 h
 subst e
 exact set_getElem_self hi
def Cv(L:Nat)(a b:AV):Prop:=b=a∨(a=.val (.slice none 0 0)∧b=.own L 0)
def CvL(L:Nat):List AV→List AV→Prop
 | [],bs=>bs=[]
 | a::as,bs=>∃b r,bs=b::r∧Cv L a b∧CvL L as r
def ec_(L:Nat):List (List AV)→List (List AV)→Prop
 | [],bs=>bs=[]
 | a::as,bs=>∃b r,bs=b::r∧CvL L a b∧ec_ L as r
theorem CvL.len{L:Nat}:∀{as bs:List AV},CvL L as bs→bs.length=as.length
 | [],bs,h=>by unfold CvL at h;subst h;rfl
 | a::as,bs,h=>by
  unfold CvL at h
  obtain⟨b,r,rfl,_,h2⟩:=h
  simp[h2.len]
theorem CvL.refl(L:Nat):∀as:List AV,CvL L as as
 | []=>rfl
 | a::as=>⟨a,as,rfl,.inl rfl,CvL.refl L as⟩
theorem ec_.refl(L:Nat):∀as:List (List AV),ec_ L as as
 | []=>rfl
 | a::as=>⟨a,as,rfl,CvL.refl L a,ec_.refl L as⟩
theorem ec_.len{L:Nat}:∀{as bs:List (List AV)},ec_ L as bs→bs.length=as.length
 | [],bs,h=>by unfold ec_ at h;subst h;rfl
 | a::as,bs,h=>by
  unfold ec_ at h
  obtain⟨b,r,rfl,_,h2⟩:=h
  simp[h2.len]
theorem ec_.all{L sz:Nat}:∀{as bs:List (List AV)},ec_ L as bs→(∀e∈as,e.length=sz)→∀e∈bs,e.length=sz
 | [],bs,h,_=>by unfold ec_ at h;subst h;simp
 | a::as,bs,h,hs=>by
  unfold ec_ at h
  obtain⟨b,r,rfl,h1,h2⟩:=h
  intro e he
  rcases mem_cons.1 he with q|q
  ·subst q;rw[h1.len];exact hs a (by simp)
  ·exact h2.all (fun x hx=>hs x (by simp[hx])) e q
section
variable {S S' : Sit} {L sz : Nat} (hle : S.le S') (hL : S'.rows[L]? = some ⟨0, none, 0, sz⟩)
include hle hL
theorem Cv.rep{a b:AV}{x:Value}(h:Cv L a b)(r:Rep S a x):Rep S' b x:=by
 rcases h with rfl|⟨rfl,rfl⟩
 ·exact Rep.up hle _ _ r
 ·simp only[Rep]at r⊢
  subst r
  exact⟨⟨_,_,_,rfl⟩,_,hL,Nat.le_refl _,fun _=>.inl rfl⟩
theorem CvL.repPre:∀{as bs:List AV} {vs:List Value},CvL L as bs→au_ S as vs→au_ S' bs vs
 | [],bs,vs,h,r=>by unfold CvL at h;subst h;simp[au_]
 | a::as,bs,vs,h,r=>by
  unfold CvL at h
  obtain⟨b,q,rfl,h1,h2⟩:=h
  simp only[au_]at r⊢
  obtain⟨v,w,e,r1,r2⟩:=r
  exact⟨v,w,e,h1.rep hle hL r1,CvL.repPre h2 r2⟩
theorem ec_.rep:∀{as bs:List (List AV)} {vs:List Value},ec_ L as bs→ap_ S as vs→ap_ S' bs vs
 | [],bs,vs,h,r=>by unfold ec_ at h;subst h;simp[ap_]
 | a::as,bs,vs,h,r=>by
  unfold ec_ at h
  obtain⟨b,q,rfl,h1,h2⟩:=h
  simp only[ap_]at r⊢
  exact⟨h1.repPre hle hL r.1,by rw[h1.len];exact ec_.rep h2 r.2⟩
end
theorem kU_{N:Nat}{t t':Nat→AV}{h h':List Row}(E:Tag)(hE:∃T,E=.ty T)(sz:Nat)(ht:∀k,Cv h.length (t k) (t' k))(hlen:h'.length=h.length+1)(hnew:h'[h.length]?=some ⟨E,sz,[]⟩)
 (hrow:∀l r',l<h.length→h'[l]?=some r'→∃r,h[l]?=some r∧r'.E=r.E∧r'.sz=r.sz∧ec_ h.length r.es r'.es):hI_ N t h t' h':=by
 intro S w a hm hr
 have hl:=hm.len
 have hle:S.le { imm:=S.imm,rows:=S.rows++[⟨0,none,0,sz⟩] }:=⟨fun _ _ e=>e,fun l i e=>⟨i,by
  show(S.rows++_)[l]?=_
  rw[getElem?_append_left (List.getElem?_eq_some_iff.1 e).1];exact e,Nat.le_refl _,fun _=>rfl⟩⟩
 have hL:({ imm:=S.imm,rows:=S.rows++[⟨0,none,0,sz⟩] }:Sit).rows[h.length]?=some ⟨0,none,0,sz⟩:=by
  show(S.rows++_)[h.length]?=_
  rw[←hl,getElem?_append_right (Nat.le_refl _),Nat.sub_self];rfl
 have hcase:∀(l:Nat) (i:bR_),(S.rows++[⟨0,none,0,sz⟩])[l]?=some i→(l<h.length∧S.rows[l]?=some i)∨(l=h.length∧i=⟨0,none,0,sz⟩):=by
  intro l i q
  by_cases hlt:l<h.length
  ·left;rw[getElem?_append_left (by omega)]at q;exact⟨hlt,q⟩
  ·right
   have h2:=(List.getElem?_eq_some_iff.1 q).1
   simp only[List.length_append,List.length_cons,List.length_nil]at h2
   have e:l=h.length:=by omega
   subst e
   refine⟨rfl,?_⟩
   rw[←hl,getElem?_append_right (Nat.le_refl _),Nat.sub_self]at q
   simpa using q.symm
 refine⟨{ imm:=S.imm,rows:=S.rows++[⟨0,none,0,sz⟩] },⟨hle,rfl,rfl,rfl,Nat.le_refl _,fun _ _ _=>rfl,?_,fun b c q=>.inl q⟩,⟨hm.imm,by simp[hl,hlen],?_,?_⟩,⟨hr.1,hr.2.1,fun k hk=>(ht k).rep hle hL (hr.2.2 k hk)⟩⟩
 ·rintro b ⟨l,i,q1,q2⟩
  rcases hcase l i q1 with ⟨_,q⟩|⟨_,q⟩
  ·exact .inl ⟨l,i,q,q2⟩
  ·subst q;simp at q2
 ·intro l i r' q1 q2
  rcases hcase l i q1 with ⟨hlt,q⟩|⟨rfl,rfl⟩
  ·obtain⟨r,e1,e2,e3,e4⟩:=hrow l r' hlt q2
   obtain⟨k1,k2,k3,k4⟩:=hm.rows l i r q e1
   refine⟨by rw[e4.len];exact k1,by rw[e3];exact k2,by rw[e3];exact e4.all k3,?_⟩
   cases hb:i.blk with
   | none =>
    rw[hb]at k4
    obtain⟨k4,k5⟩:=k4
    rw[k4]at e4
    exact⟨e4,k5⟩
   | some b =>
    rw[hb]at k4
    refine⟨k4.1,?_⟩
    have k5:=k4.2
    unfold aD_ at k5⊢
    rw[e2]
    split at k5
    ·rename_i T hT
     obtain⟨c,j1,j2,j3⟩:=k5
     exact⟨c,j1,e4.rep hle hL j2,j3⟩
    ·rename_i ents hT
     obtain⟨j1,j2,j3⟩:=k5
     rw[j1]at e4
     exact⟨e4,by rw[e3];exact j2,j3⟩
    ·rename_i T hT
     obtain⟨⟨c,j1,j2,j3⟩,j4⟩:=k5
     exact⟨⟨c,j1,e4.rep hle hL j2,j3⟩,j4⟩
    ·rename_i T hT
     obtain⟨c,fr,j1,j2,j3⟩:=k5
     exact⟨c,fr,j1,e4.rep hle hL j2,j3⟩
    ·rename_i ents ck hT
     obtain⟨j1,j2,arr,j3,j4⟩:=k5
     rw[j1]at e4
     exact⟨e4,by rw[e3];exact j2,arr,j3,j4.up hle⟩
    ·rename_i ents hT
     obtain⟨j1,j2,j3⟩:=k5
     rw[j1]at e4
     exact⟨e4,by rw[e3];exact j2,j3⟩
    ·rename_i m0 sc sn ck hT
     obtain⟨j1,j2,bm,j3,j4⟩:=k5
     rw[j1]at e4
     exact⟨e4,by rw[e3];exact j2,bm,j3,Rep.up hle _ _ j4⟩
    ·rename_i hT
     obtain⟨j1,j2,j3⟩:=k5
     rw[j1]at e4
     exact⟨e4,by rw[e3];exact j2,j3⟩
  ·rw[hnew]at q2
   obtain rfl:=Option.some.inj q2
   exact⟨rfl,rfl,by simp,rfl,rfl⟩
 ·intro l l' i i' b q1 q1' q2 q2'
  rcases hcase l i q1 with ⟨_,q⟩|⟨_,rfl⟩
  ·rcases hcase l' i' q1' with ⟨_,q'⟩|⟨_,rfl⟩
   ·exact hm.one l l' i i' b q q' q2 q2'
   ·simp at q2'
  ·simp at q2
theorem b3_{N:Nat}{t:Nat→AV}{h:List Row}:hI_ N t h t h:=fun S w a hm hr=>⟨S,.refl S w,hm,hr⟩
theorem iu_{N:Nat}{t:Nat→AV}{h:List Row}(d:Nat)(T:TypeId)(sz:Nat)(hd:t d=.val (.slice none 0 0)):hI_ N t h (upd t d (.own h.length 0)) (h++[⟨.ty T,sz,[]⟩]):=by
 refine kU_ (.ty T) ⟨T,rfl⟩ sz (fun k=>?_) (by simp) (by rw[fN_];rfl) (fun l r' hl hr=>⟨r',by rwa [getElem?_append_left hl]at hr,rfl,rfl,ec_.refl _ _⟩)
 by_cases e:k=d
 ·subst e;right;exact⟨hd,wj_ _ _ _⟩
 ·left;exact Am_ _ _ _ _ e
structure dT_(l:Nat)(H:List Row)(E:Tag)(sz:Nat)(done ds:List (List AV)):Prop where
 row:H[l]?=some ⟨E,sz,done⟩
 tree:bz_ (l+1) H.length H done ds
theorem dT_.lt{l:Nat}{H:List Row}{E:Tag}{sz:Nat}{done ds:List (List AV)}(g:dT_ l H E sz done ds):l<H.length:=(List.getElem?_eq_some_iff.1 g.row).1
theorem dT_.step{l:Nat}{H H1 H2:List Row}{E:Tag}{sz:Nat}{done ds:List (List AV)}{cs rs:List AV}(g:dT_ l H E sz done ds)(hf:aQ_ H.length H1.length H1 cs rs)(h1:H.length≤H1.length)(hk:∀x,l<x→x<H.length→H1[x]?=H[x]?)
 (h2:H1.length≤H2.length) (hk2:∀x,l<x→x<H1.length→H2[x]?=H1[x]?) (hr:H2[l]?=some ⟨E,sz,done++[cs]⟩):dT_ l H2 E sz (done++[cs]) (ds++[rs]):=by
 refine⟨hr,bz_.snoc (mid:=H.length) (g.tree.keep fun x q1 q2=>?_) ((hf.keep fun x q1 q2=>?_).widen (Nat.le_refl _) h2) ⟨g.lt,by omega⟩⟩
 ·rw[hk2 x (by omega) (by omega),hk x (by omega) q2]
 ·exact hk2 x (by have:=g.lt;omega) q2
theorem dT_.more{l:Nat}{H H':List Row}{E:Tag}{sz:Nat}{done ds:List (List AV)}(g:dT_ l H E sz done ds)(h1:H.length≤H'.length)(hk:∀x,l≤x→x<H.length→H'[x]?=H[x]?):dT_ l H' E sz done ds :=
 ⟨by rw[hk l (Nat.le_refl _) g.lt];exact g.row,(g.tree.keep fun x q1 q2=>hk x (by omega) q2).widen (Nat.le_refl _) h1⟩
theorem dT_.done{l n:Nat}{H:List Row}{E:Tag}{sz:Nat}{done ds:List (List AV)}(g:dT_ l H E sz done ds)(hn:done.length=n):aT_ l H.length H (.own l n) (.list 0 sz ds) :=
 aT_.mkown g.tree g.row hn (Nat.le_refl _) (Nat.lt_succ_self _) g.lt
theorem dT_.agg{l n lo:Nat}{H:List Row}{E:Tag}{sz:Nat}{done ds:List (List AV)}(g:dT_ l H E sz done ds)(hn:done.length=n)(hlo:lo≤l)(v u:Value):aT_ lo H.length H (.agg [.val v,.val u,.own l n]) (.agg [.val v,.val u,.list 0 sz ds]) :=
 (aT_.agg (aQ_.val _ (aQ_.val _ (aQ_.cons (g.done hn) (aQ_.nil _ _ _) ⟨Nat.le_of_lt g.lt,Nat.le_refl _⟩)))).widen hlo (Nat.le_refl _)
theorem dT_.zero{l:Nat}{H:List Row}{E:Tag}{sz:Nat}(h:H[l]?=some ⟨E,sz,[]⟩):dT_ l H E sz [] []:=⟨h,.nil _ _ _⟩
theorem aQ_.rest{lo hi:Nat}{H:List Row}{a r:AV}{as rs:List AV}(h:aQ_ lo hi H (a::as) (r::rs)):aQ_ lo hi H as rs:=by
 obtain⟨n,fs,⟨d,ds,f,f',e1,rfl,h1,h2⟩,p2,p3⟩:=h
 cases e1
 exact⟨n,f',h2,(nodup_append.1 p2).2.1,fun l hl=>p3 l (mem_append_right _ hl)⟩
theorem ny_{α:Type}:∀xs:List α,cL_ (fun _=>0) xs=0
 | []=>rfl
 | x::xs=>by simp only[cL_];rw[ny_ xs]
theorem ry_{α:Type}(xs:List α):ay_ (fun _=>0) xs=xs.length:=by simp only[ay_];rw[ny_];rfl
section
variable {H0 H H' : List Row} {i : Nat} {r : Row}
theorem bb_.refl(H:List Row):bb_ H H:=⟨Nat.le_refl _,fun _ _=>rfl⟩
theorem bb_.set(m:bb_ H0 H)(h:H0.length≤i):bb_ H0 (H.set i r):=⟨by rw[List.length_set];exact m.len,fun l hl=>by rw[getElem?_set_ne (by omega)];exact m.kept l hl⟩
theorem bb_.add(m:bb_ H0 H)(l:List Row):bb_ H0 (H++l):=⟨by rw[List.length_append];have:=m.len;omega,fun x hx=>by rw[getElem?_append_left (by have:=m.len;omega)];exact m.kept x hx⟩
theorem bb_.app(H l:List Row):bb_ H (H++l):=(bb_.refl H).add l
theorem bb_.tail(m:bb_ H0 H):∃hn,H=H0++hn:=by
 refine⟨H.drop H0.length,?_⟩
 have e:H.take H0.length=H0:=by
  apply ext_getElem?
  intro l
  rw[getElem?_take]
  by_cases q:l<H0.length
  ·rw[if_pos q];exact m.kept l q
  ·rw[if_neg q,getElem?_eq_none (by omega)]
 rw[←take_append_drop H0.length H,e]
 simp
end
theorem kt_{P:Program}{N:Nat}{Q:dK_}{k:List Fr}{t:Nat→AV}{h:List Row}{b:LC}(h':List Row)(hg:∀t,hI_ N t h t h')(hb:Ex P N Q b k t h'):Ex P N Q (.ghost b) k t h:=bw_ t h' (hg t) hb
theorem aT_.pair{lo hi:Nat}{H:List Row}{a r:AV}(h:aT_ lo hi H a r)(hl:lo≤hi)(v:Value):aT_ lo hi H (.tup [a,.val v]) (.tup [r,.val v]) :=
 aT_.tup (aQ_.cons h (aQ_.val v (aQ_.nil hi hi H)) ⟨hl,Nat.le_refl _⟩)
structure Res(h h':List Row)(av r:AV):Prop where
 more:bb_ h h'
 tree:aT_ h.length h'.length h' av r
theorem uf_{P:Program}{f:FuncId}{fn:Func}{lf:LF}{args:List AV}{r:AV}{Q:AV→Prop}(hmx:P.follows .mixedOrders=true)(hf:P.funcs[f]?=some fn)(hl:az_ P fn lf)(hn:args.length=lf.np)
 (hw:∀h:List Row,Ex P lf.N (cC_ lf.res fun av h'=>Res h h' av r∧Q av) lf.body [] (gk_ args) h):b8_ P f args r Q:=by
 intro h K hk
 refine(aJ_ hmx hf hl (bi_ hn (hw h))).mono ?_
 rintro a h' ⟨⟨m,h1⟩,h2⟩
 obtain⟨hn,rfl⟩:=m.tail
 exact hk a hn h1.fresh h2
mutual
def AV.shift(k:Nat):AV→AV
 | .val v=>.val v
 | .list tk sz es=>.list tk sz es
 | .iptr cs=>.iptr cs
 | .ptr l n i off=>.ptr (l+k) n i off
 | .own l n=>.own (l+k) n
 | .sub l n lo hi=>.sub (l+k) n lo hi
 | .mp l=>.mp (l+k)
 | .agg cs=>.agg (dF_ k cs)
 | .tup cs=>.tup (dF_ k cs)
 | .fn f a b=>.fn f (dF_ k a) (dF_ k b)
 | .undef=>.undef
def dF_(k:Nat):List AV→List AV
 | []=>[]
 | c::cs=>c.shift k::dF_ k cs
end
theorem mu_(k:Nat):∀cs:List AV,(dF_ k cs).length=cs.length
 | []=>rfl
 | c::cs=>by simp only[dF_,List.length_cons];rw[mu_ k cs]
def gC_(k:Nat)(es:List (List AV)):List (List AV):=es.map (dF_ k)
def xy_(k:Nat):Tag→Tag
 | .pmap ents c=>.pmap (ents.map fun e=>(e.1,e.2.1,e.2.2.shift k)) c
 | .iter m s seen c=>.iter (m+k) s seen c
 | T=>T
def e6_(k:Nat)(r:Row):Row:=⟨xy_ k r.E,r.sz,gC_ k r.es⟩
section
variable {S S2 : Sit} {R : List bR_} {k : Nat} (himm : S2.imm = S.imm) (hrows : S2.rows = R ++ S.rows) (hk : R.length = k)
include himm hrows hk
theorem iw_{l:Nat}:S2.rows[l+k]?=S.rows[l]?:=by
 rw[hrows,getElem?_append_right (by omega)];congr 1;omega
theorem lv_:S2.still=S.still:=by simp[Sit.still,himm]
mutual
theorem Rep.shift:∀(a:AV) (x:Value),Rep S a x→Rep S2 (a.shift k) x
 | .val v,x,r=>by simpa[Rep,AV.shift]using r
 | .list tk sz es,x,r=>by
  simp only[Rep,AV.shift]at r⊢
  rw[himm,lv_ himm hrows hk];exact r
 | .iptr cs,x,r=>by
  simp only[Rep,AV.shift]at r⊢
  rw[himm,lv_ himm hrows hk];exact r
 | .ptr l n i off,x,r=>by
  simp only[Rep,AV.shift]at r⊢
  rw[iw_ himm hrows hk];exact r
 | .own l n,x,r=>by
  simp only[Rep,AV.shift]at r⊢
  rw[iw_ himm hrows hk];exact r
 | .sub l n lo hi,x,r=>by
  simp only[Rep,AV.shift]at r⊢
  rw[iw_ himm hrows hk];exact r
 | .mp l,x,r=>by
  simp only[Rep,AV.shift]at r⊢
  rw[iw_ himm hrows hk];exact r
 | .agg cs,x,r=>by
  simp only[Rep,AV.shift]at r⊢
  obtain⟨vs,e,r⟩:=r
  exact⟨vs,e,af_.shift cs _ r⟩
 | .tup cs,x,r=>by
  simp only[Rep,AV.shift]at r⊢
  obtain⟨vs,e,r⟩:=r
  exact⟨vs,e,af_.shift cs _ r⟩
 | .fn f a b,x,r=>by
  simp only[Rep,AV.shift]at r⊢
  obtain⟨vs,us,e,r1,r2⟩:=r
  exact⟨vs,us,e,af_.shift a _ r1,af_.shift b _ r2⟩
 | .undef,x,r=>by simp[Rep,AV.shift]
theorem af_.shift:∀(a:List AV) (x:List Value),af_ S a x→af_ S2 (dF_ k a) x
 | [],x,r=>by simpa[af_,dF_]using r
 | c::cs,x,r=>by
  simp only[af_,dF_]at r⊢
  obtain⟨v,w,e,r1,r2⟩:=r
  exact⟨v,w,e,Rep.shift c v r1,af_.shift cs w r2⟩
end
theorem au_.shift:∀(a:List AV) (x:List Value),au_ S a x→au_ S2 (dF_ k a) x
 | [],x,r=>by simp[au_,dF_]
 | c::cs,x,r=>by
  simp only[au_,dF_]at r⊢
  obtain⟨v,w,e,r1,r2⟩:=r
  exact⟨v,w,e,Rep.shift himm hrows hk c v r1,au_.shift cs w r2⟩
theorem ap_.shift:∀(es:List (List AV)) (x:List Value),ap_ S es x→ap_ S2 (gC_ k es) x
 | [],x,r=>by simp[ap_,gC_]
 | c::cs,x,r=>by
  simp only[gC_,map_cons,ap_]at r⊢
  exact⟨au_.shift himm hrows hk c _ r.1,by rw[mu_];exact ap_.shift cs _ r.2⟩
theorem be_.shift:∀(es:List MapEntry) (ps:List (Int×Nat×AV)),be_ S es ps→be_ S2 es (ps.map fun e=>(e.1,e.2.1,e.2.2.shift k))
 | [],[],_=>trivial
 | [],_::_,q=>q.elim
 | _::_,[],q=>q.elim
 | e::es,p::ps,q=>⟨⟨q.1.1,q.1.2.1,Rep.shift himm hrows hk _ _ q.1.2.2⟩,be_.shift es ps q.2⟩
end
section
variable {H h : List Row} {k : Nat} (hk : h.length = k)
include hk
theorem oy_{l:Nat}:(h++H.map (e6_ k))[l+k]?=(H[l]?).map (e6_ k):=by
 rw[getElem?_append_right (by omega),getElem?_map];congr 2;omega
theorem aH_.shift{R R':AV→AV→List Nat→Prop}(hR:∀a r f,R a r f→R' (a.shift k) r (f.map (·+k))):∀{as rs:List AV} {fs:List Nat},aH_ R as rs fs→aH_ R' (dF_ k as) rs (fs.map (·+k))
 | [],rs,fs,ho=>by
  obtain⟨rfl,rfl⟩:=ho
  exact⟨rfl,rfl⟩
 | a::as,rs,fs,ho=>by
  obtain⟨d,ds,f,f',rfl,rfl,h1,h2⟩:=ho
  exact⟨d,ds,_,_,rfl,by rw[map_append],hR _ _ _ h1,aH_.shift hR h2⟩
theorem aZ_.shift{R R':AV→AV→List Nat→Prop}(hR:∀a r f,R a r f→R' (a.shift k) r (f.map (·+k))):∀{as rs:List (List AV)} {fs:List Nat},aZ_ R as rs fs→aZ_ R' (gC_ k as) rs (fs.map (·+k))
 | [],rs,fs,ho=>by
  obtain⟨rfl,rfl⟩:=ho
  exact⟨rfl,rfl⟩
 | a::as,rs,fs,ho=>by
  obtain⟨d,ds,f,f',rfl,rfl,h1,h2⟩:=ho
  exact⟨d,ds,_,_,rfl,by rw[map_append],aH_.shift hk hR h1,aZ_.shift hR h2⟩
theorem Own.shift:∀{n:Nat} {a r:AV} {fs:List Nat},Own H n a r fs→Own (h++H.map (e6_ k)) n (a.shift k) r (fs.map (·+k))
 | 0,a,r,fs,ho=>ho.elim
 | n+1,.val v,r,fs,ho=>by
  obtain⟨rfl,h2⟩:=ho
  exact⟨rfl,h2⟩
 | n+1,.own l m,r,fs,ho=>by
  obtain⟨row,es,f,h1,h2,h3,rfl,rfl⟩:=ho
  refine⟨e6_ k row,es,_,by rw[oy_ hk,h1];rfl,by simpa[e6_,gC_]using h2,aZ_.shift hk (fun a r f ho=>Own.shift ho) h3,rfl,by simp⟩
 | n+1,.sub l m lo hi,r,fs,ho=>by
  obtain⟨row,es,f,h1,h2,h3,rfl,rfl⟩:=ho
  refine⟨e6_ k row,es,_,by rw[oy_ hk,h1];rfl,by simpa[e6_,gC_]using h2,aZ_.shift hk (fun a r f ho=>Own.shift ho) h3,rfl,by simp⟩
 | n+1,.agg cs,r,fs,ho=>by
  obtain⟨ds,h1,rfl⟩:=ho
  exact⟨ds,aH_.shift hk (fun a r f ho=>Own.shift ho) h1,rfl⟩
 | n+1,.tup cs,r,fs,ho=>by
  obtain⟨ds,h1,rfl⟩:=ho
  exact⟨ds,aH_.shift hk (fun a r f ho=>Own.shift ho) h1,rfl⟩
 | n+1,.list _ _ _,r,fs,ho=>ho.elim
 | n+1,.iptr _,r,fs,ho=>ho.elim
 | n+1,.ptr _ _ _ _,r,fs,ho=>ho.elim
 | n+1,.mp _,r,fs,ho=>ho.elim
 | n+1,.fn _ _ _,r,fs,ho=>ho.elim
 | n+1,.undef,r,fs,ho=>ho.elim
theorem aT_.shift{lo hi:Nat}{a r:AV}(hf:aT_ lo hi H a r):aT_ (lo+k) (hi+k) (h++H.map (e6_ k)) (a.shift k) r:=by
 obtain⟨n,fs,h1,h2,h3⟩:=hf
 refine⟨n,_,Own.shift hk h1,List.Pairwise.map _ (fun a b hab q=>hab (by omega)) h2,fun l hl=>?_⟩
 obtain⟨m,hm,rfl⟩:=mem_map.1 hl
 have:=h3 m hm
 omega
end
section
variable {H l t : List Row} {i j : Nat} {r : Row}
theorem am_(h:i≠j):(H.set i r)[j]?=H[j]?:=getElem?_set_ne h
theorem aq_(h:i<H.length):(H.set i r)[i]?=some r:=by rw[getElem?_set_self h]
theorem ab_(h:i<H.length):(H++l)[i]?=H[i]?:=getElem?_append_left h
theorem as_(h:i=H.length):(H++r::t)[i]?=some r:=by subst h;rw[getElem?_append_right (Nat.le_refl _),Nat.sub_self];rfl
theorem aX_{s:Row}(h:i=H.length+1):(H++r::s::t)[i]?=some s:=by subst h;rw[getElem?_append_right (by omega)];simp
theorem bO_{s u:Row}(h:i=H.length+2):(H++r::s::u::t)[i]?=some u:=by subst h;rw[getElem?_append_right (by omega)];simp
theorem cu_{s u v:Row}(h:i=H.length+3):(H++r::s::u::v::t)[i]?=some v:=by subst h;rw[getElem?_append_right (by omega)];simp
end
abbrev wh_(s:ByteArray):List AV:=[.val (.string s)]
theorem lV_{h0:List Row}{E:Tag}(xs:List ByteArray):ee_ h0.length (h0++[⟨E,1,xs.map wh_⟩]) (.own h0.length xs.length) (.list 0 1 (xs.map wh_)) :=
 (aT_.mkown (E:=E) (lo:=h0.length+1) (hi:=h0.length+1) (bz_.ofVals _ _ _ _ (by
   intro e he c hc
   obtain⟨x,_,q⟩:=mem_map.1 he;subst q
   simp only[wh_,mem_singleton]at hc
   exact⟨_,hc⟩)) (by simp) (by simp) (Nat.le_refl _) (Nat.lt_succ_self _) (Nat.le_refl _)).fresh
theorem ac_.unfull{S:Sit}{h:List Row}{w:World}(m:ac_ S h w){l:Nat}{E:TypeId}{sz:Nat}{es:List (List AV)}(hl:h[l]?=some ⟨.full E,sz,es⟩):ac_ S (h.set l ⟨.ty E,sz,es⟩) w:=by
 refine⟨m.imm,by simp[m.len],fun l' i r q1 q2=>?_,m.one⟩
 rw[getElem?_set]at q2
 by_cases e:l=l'
 ·subst e
  have hlt:=(List.getElem?_eq_some_iff.1 hl).1
  simp[hlt]at q2
  subst q2
  obtain⟨k1,k2,k3,k4⟩:=m.rows l i _ q1 hl
  refine⟨k1,k2,k3,?_⟩
  cases hb:i.blk with
  | none=>rw[hb]at k4;exact k4
  | some b =>
   rw[hb]at k4
   refine⟨k4.1,?_⟩
   have k5:=k4.2
   rw[aD_.full (E:=E) rfl]at k5
   rw[aD_.ty (E:=E) rfl]
   exact k5.1
 ·simp[e]at q2
  exact m.rows l' i r q1 q2
theorem ac_.mkfull{S:Sit}{h:List Row}{w:World}(m:ac_ S h w){l:Nat}{i:bR_}{E:TypeId}{sz:Nat}{es:List (List AV)}(hl:h[l]?=some ⟨.ty E,sz,es⟩)(hi:S.rows[l]?=some i)(hc:i.cap=i.len):ac_ S (h.set l ⟨.full E,sz,es⟩) w:=by
 refine⟨m.imm,by simp[m.len],fun l' i' r q1 q2=>?_,m.one⟩
 rw[getElem?_set]at q2
 by_cases e:l=l'
 ·subst e
  have hlt:=(List.getElem?_eq_some_iff.1 hl).1
  simp[hlt]at q2
  subst q2
  rw[hi]at q1
  obtain rfl:=Option.some.inj q1
  obtain⟨k1,k2,k3,k4⟩:=m.rows l i _ hi hl
  refine⟨k1,k2,k3,?_⟩
  cases hb:i.blk with
  | none=>rw[hb]at k4;exact k4
  | some b =>
   rw[hb]at k4
   refine⟨k4.1,?_⟩
   have k5:=k4.2
   rw[aD_.ty (E:=E) rfl]at k5
   rw[aD_.full (E:=E) rfl]
   exact⟨k5,hc⟩
 ·simp[e]at q2
  exact m.rows l' i' r q1 q2
theorem ly_{P:Program}{f:FuncId}{l N lo sz:Nat}{E:TypeId}{es:List (List AV)}{rest:List AV}{h:List Row}{K:AV→List Row→Prop}(hl:h[l]?=some ⟨.ty E,sz,es⟩)(hN:es.length=N)(hsz:0<sz)
 (h1:callSem P f (.sub l (N+1) lo N::rest) (h.set l ⟨.ty E,sz,es++[List.replicate sz .undef]⟩) K)
 (h2:callSem P f (.sub l N lo N::rest) (h.set l ⟨.full E,sz,es⟩) fun av h'=>h'[l]?=some ⟨.full E,sz,es⟩∧K av (h'.set l ⟨.ty E,sz,es⟩)):callSem P f (.sub l N lo N::rest) h K:=by
 intro S w vals hm hgl hr
 have hr0:=hr
 simp only[af_]at hr
 obtain⟨v,r,hv,hr1,hr2⟩:=hr
 simp only[Rep]at hr1
 obtain⟨_,i,p1,p2,p3⟩:=hr1
 obtain⟨k1,k2,k3,k4⟩:=hm.rows l i _ p1 hl
 have hil:i.len=N:=by rw[k1,hN]
 obtain⟨g1,_,g3⟩:=p3 hil.symm
 by_cases hc:i.len<i.cap
 ·cases hb:i.blk with
  | none=>rw[hb]at k4;have:=k4.2;omega
  | some b =>
   rw[hb]at k4
   have k5:=k4.2
   rw[aD_.ty (E:=E) rfl]at k5
   obtain⟨c,j2,j3,j4,j5,j6⟩:=k5
   have hlen:∀e∈es++[List.replicate sz AV.undef],e.length=sz:=by
    intro e he
    rcases mem_append.1 he with q|q
    ·exact k3 e q
    ·simp only[mem_singleton]at q;subst q;simp
   have hsz2:i.sz=sz:=k2
   have hg:=ac_.grow (w':=w) hm (E:=E) (.inl rfl) p1 hl (es':=es++[List.replicate sz .undef]) (b:=b) (cap:=i.cap) (c':=c) hlen (by simp)
    (by
      refine(bu_ hlen).2 fun q e he j cc hj=>?_
      by_cases hq:q<es.length
      ·rw[getElem?_append_left hq]at he
       exact(bu_ k3).1 j3 q e he j cc hj
      ·rw[getElem?_append_right (by omega)]at he
       have hq0:q-es.length=0:=by
        by_cases z:q-es.length=0
        ·exact z
        ·obtain⟨k,hk⟩:=Nat.exists_eq_succ_of_ne_zero z
         rw[hk]at he;simp at he
       rw[hq0]at he
       simp only[getElem?_cons_zero,Option.some.injEq]at he
       subst he
       have hjl:j<sz:=by
        have:=(List.getElem?_eq_some_iff.1 hj).1
        simpa using this
       have hcu:cc=.undef:=by
        have:=mem_of_getElem? hj
        exact eq_of_mem_replicate this
       subst hcu
       have hqe:q=es.length:=by omega
       have hlt:q * sz+j<c.size:=by
        rw[j4,hsz2,hqe,hN]
        have:(N+1) * sz≤i.cap * sz:=Nat.mul_le_mul_right _ (by omega)
        rw[Nat.add_mul]at this
        omega
       exact⟨c[q * sz+j],by simp[hlt],by simp[Rep]⟩)
    (by show c.size=i.cap * sz;rw[j4,hsz2]) (by simp;omega) j6 (.inl hb) ⟨(0,0),j2,.zero _ _⟩ (fun _ _ _=>rfl) (Nat.le_refl _) rfl rfl rfl
   have hS:=hg.2
   refine(h1 _ w vals hg.1 (hgl.up hS.le) ?_).mono ?_
   ·rw[hv]
    simp only[af_]
    refine⟨v,r,rfl,?_,af_.up hS.le _ _ hr2⟩
    have hll:l<S.rows.length:=(List.getElem?_eq_some_iff.1 p1).1
    simp only[Rep]
    refine⟨?_,⟨(es++[List.replicate sz AV.undef]).length,some b,i.cap,sz⟩,by simp[hll],by simp;omega,fun _=>⟨g1,by omega,.inr ?_⟩⟩
    ·rcases g3 with ⟨_,p,q⟩|⟨b',off,_,q,_⟩
     ·exact⟨_,_,_,q⟩
     ·exact⟨_,_,_,q⟩
    ·rcases g3 with ⟨q,_⟩|⟨b',off,hb',q,hoff⟩
     ·rw[hb]at q;cases q
     ·rw[hb]at hb';cases hb'
      exact⟨b,off,rfl,q,fun hp=>by have:=hoff hp;rw[this,hsz2]⟩
   ·rintro e w' ⟨v',av,S2,h2',e1,st,m2,rv,k⟩
    exact⟨v',av,S2,h2',e1,hS.trans st,m2,rv,k⟩
 ·have hcap:i.cap=i.len:=by
   cases hb:i.blk with
   | none=>rw[hb]at k4;rw[k4.2,k1,k4.1];rfl
   | some b =>
    rw[hb]at k4
    have k5:=k4.2
    rw[aD_.ty (E:=E) rfl]at k5
    obtain⟨c,j2,j3,j4,j5,j6⟩:=k5
    omega
  refine(h2 S w vals (hm.mkfull hl p1 hcap) hgl hr0).mono ?_
  rintro e w' ⟨v',av,S2,h2',e1,st,m2,rv,q1,q2⟩
  exact⟨v',av,S2,h2'.set l ⟨.ty E,sz,es⟩,e1,st,m2.unfull q1,rv,q2⟩
theorem Rep.own_sub{S:Sit}{l n:Nat}{x:Value}(r:Rep S (.own l n) x):Rep S (.sub l n 0 n) x:=by
 simp only[Rep]at r⊢
 obtain⟨r0,i,r1,r2,r3⟩:=r
 refine⟨r0,i,r1,r2,fun q=>⟨Nat.zero_le _,Nat.le_refl _,?_⟩⟩
 rcases r3 q with h|⟨h1,h2⟩
 ·cases hb:i.blk with
  | none=>left;exact⟨rfl,none,by simpa[sliceAt,hb]using h⟩
  | some b =>
   right
   refine⟨b,0,rfl,?_,fun _=>by simp⟩
   rw[h];simp only[sliceAt,hb]
   rw[q];rfl
 ·left
  obtain⟨p,h2⟩:=h2
  exact⟨h1,p,by simpa using h2⟩
theorem callSem.own_sub{P:Program}{f:FuncId}{l n:Nat}{rest:List AV}{h:List Row}{K:AV→List Row→Prop}(hc:callSem P f (.sub l n 0 n::rest) h K):callSem P f (.own l n::rest) h K:=by
 intro S w vals hm hgl hr
 refine hc S w vals hm hgl ?_
 simp only[af_]at hr⊢
 obtain⟨v,r,hv,hr1,hr2⟩:=hr
 exact⟨v,r,hv,hr1.own_sub,hr2⟩
theorem rU_{α:Type}:∀{a b:List (List α)},a.Sublist b→a.flatten.Sublist b.flatten:=by
 intro a b h
 induction h with
 | slnil=>exact List.Sublist.refl _
 | cons x _ ih=>rw[flatten_cons];exact ih.trans (sublist_append_right _ _)
 | cons_cons x _ ih=>rw[flatten_cons,flatten_cons];exact List.Sublist.append (List.Sublist.refl _) ih
structure Tr where
 c:List AV
 d:List AV
 f:List Nat
theorem aZ_.of_trs{R:AV→AV→List Nat→Prop}:∀ts:List Tr,(∀t∈ts,aH_ R t.c t.d t.f)→aZ_ R (ts.map Tr.c) (ts.map Tr.d) (ts.map Tr.f).flatten
 | [],_=>⟨rfl,rfl⟩
 | t::ts,h=>⟨t.d,ts.map Tr.d,t.f,(ts.map Tr.f).flatten,rfl,by simp,h t (by simp),aZ_.of_trs ts fun x hx=>h x (by simp[hx])⟩
theorem hh_{α:Type}(p:α→Bool):∀(xs:List α) (k:Nat),(co_ p xs k = -1∧∀c∈xs,p c=false)∨∃i,∃hi:i<xs.length,co_ p xs k=((k+i:Nat):Int)∧p xs[i]=true∧∀(j:Nat) (hj:j<i),p xs[j]=false
 | [],k=>.inl ⟨rfl,fun _ h=>by simp at h⟩
 | x::r,k=>by
  by_cases q:p x=true
  ·exact .inr ⟨0,by simp,by simp[co_,q],by simpa using q,fun j hj=>absurd hj (Nat.not_lt_zero j)⟩
  ·have q':p x=false:=by simpa using q
   rcases hh_ p r (k+1)with ⟨h1,h2⟩|⟨i,hi,h1,h2,h3⟩
   ·refine .inl ⟨?_,fun c hc=>?_⟩
    ·unfold co_;rw[q'];simpa using h1
    ·rcases mem_cons.1 hc with e|e
     ·subst e;exact q'
     ·exact h2 c e
   ·refine .inr ⟨i+1,by simpa using hi,?_,by simpa using h2,fun j hj=>?_⟩
    ·unfold co_;rw[q']
     simp only[Bool.false_eq_true,if_false]
     rw[h1];congr 1;omega
    ·cases j with
     | zero=>exact q'
     | succ j=>exact h3 j (by omega)
def foot(l:Nat)(ts:List Tr):List Nat:=l::(ts.map Tr.f).flatten
structure ci_(lo:Nat)(H:List Row)(E sz l m:Nat)(ts:List Tr):Prop where
 row:H[l]?=some ⟨.ty E,sz,ts.map Tr.c⟩
 le:m≤ts.length
 wide:∀t∈ts,t.c.length=sz∧t.c.all AV.cell=true
 tree:∃k,∀t∈ts,aH_ (Own H k) t.c t.d t.f
 one:(foot l ts).Nodup
 lows:∀x∈foot l ts,lo≤x∧x<H.length
def Sl(a:AV)(l m:Nat)(ts:List Tr):Prop:=a=.sub l ts.length 0 m∨(a=.own l ts.length∧m=ts.length)
section
variable {lo E sz l m : Nat} {H H' : List Row} {ts : List Tr} {a : AV}
theorem ci_.lt(s:ci_ lo H E sz l m ts):l<H.length:=(List.getElem?_eq_some_iff.1 s.row).1
theorem ci_.fresh(s:ci_ lo H E sz l m ts):aT_ lo H.length H (.sub l ts.length 0 m) (.list 0 sz ((ts.take m).map Tr.d)):=by
 obtain⟨k,hk⟩:=s.tree
 exact⟨k+1,foot l ts,⟨⟨.ty E,sz,ts.map Tr.c⟩,ts.map Tr.d,(ts.map Tr.f).flatten,s.row,by simp,aZ_.of_trs ts hk,by simp[map_take],rfl⟩,s.one,s.lows⟩
theorem ci_.freshOwn(s:ci_ lo H E sz l m ts):aT_ lo H.length H (.own l ts.length) (.list 0 sz (ts.map Tr.d)):=by
 obtain⟨k,hk⟩:=s.tree
 exact⟨k+1,foot l ts,⟨⟨.ty E,sz,ts.map Tr.c⟩,ts.map Tr.d,(ts.map Tr.f).flatten,s.row,by simp,aZ_.of_trs ts hk,rfl,rfl⟩,s.one,s.lows⟩
theorem ci_.freshS(s:ci_ lo H E sz l m ts)(h:Sl a l m ts):aT_ lo H.length H a (.list 0 sz ((ts.take m).map Tr.d)):=by
 rcases h with rfl|⟨rfl,rfl⟩
 ·exact s.fresh
 ·rw[take_length];exact s.freshOwn
theorem Sl.cell(h:Sl a l m ts):a.cell=true:=by
 rcases h with rfl|⟨rfl,_⟩<;>rfl
theorem ci_.keep(s:ci_ lo H E sz l m ts)(hk:∀x∈foot l ts,H'[x]?=H[x]?)(hl:H.length≤H'.length):ci_ lo H' E sz l m ts:=by
 obtain⟨k,ht⟩:=s.tree
 refine⟨by rw[hk l (by simp[foot])];exact s.row,s.le,s.wide,⟨k,fun t q=>?_⟩,s.one,fun x hx=>?_⟩
 ·refine aH_.mono (fun a r g hg ho=>ho.keep fun x hx=>hk x ?_) (ht t q)
  exact mem_cons_of_mem _ (mem_flatten.2 ⟨t.f,mem_map.2 ⟨t,q,rfl⟩,hg x hx⟩)
 ·have:=s.lows x hx;omega
theorem ci_.more(s:ci_ lo H E sz l m ts)(h:bb_ H H'):ci_ lo H' E sz l m ts:=s.keep (fun x hx=>h.kept x (s.lows x hx).2) h.len
theorem mem_foot{t:Tr}{x:Nat}(ht:t∈ts)(hx:x∈t.f):x∈foot l ts:=mem_cons_of_mem _ (mem_flatten.2 ⟨t.f,mem_map.2 ⟨t,ht,rfl⟩,hx⟩)
theorem ci_.apart(s:ci_ lo H E sz l m ts){t:Tr}(ht:t∈ts):l∉t.f:=by
 intro h
 have:=(nodup_cons.1 s.one).1
 exact this (mem_flatten.2 ⟨t.f,mem_map.2 ⟨t,ht,rfl⟩,h⟩)
theorem ci_.arg(s:ci_ lo H E sz l m ts){t:Tr}(ht:t∈ts)(hk:∀x∈t.f,H'[x]?=H[x]?):cR_ H' (.agg t.c) (.agg t.d):=by
 obtain⟨k,h⟩:=s.tree
 exact .inr ⟨k+1,t.f,t.d,aH_.mono (fun a r g hg ho=>ho.keep fun x hx=>hk x (hg x hx)) (h t ht),rfl⟩
theorem ci_.renew(s:ci_ lo H E sz l m ts){l' m':Nat}{ts' new old:List Tr}(hrow:H'[l']?=some ⟨.ty E,sz,ts'.map Tr.c⟩)(hle:m'≤ts'.length)(hp:ts'.Perm (new++old))(ho:old.Sublist ts)
 (hw:∀t∈new,t.c.length=sz∧t.c.all AV.cell=true) (hn:∃k,∀t∈new,aH_ (Own H' k) t.c t.d t.f) (hnd:(new.map Tr.f).flatten.Nodup) (hnf:∀x∈(new.map Tr.f).flatten,x∉foot l ts∧x≠l'∧lo≤x∧x<H'.length)
 (hk:∀x∈(ts.map Tr.f).flatten,H'[x]?=H[x]?) (hl:l'=l∨H.length≤l') (hlen:H.length≤H'.length):ci_ lo H' E sz l' m' ts':=by
 obtain⟨k,ht⟩:=s.tree
 obtain⟨k2,hn⟩:=hn
 have hmem:∀t∈ts',t∈new∨t∈ts:=fun t q=>by
  rcases mem_append.1 (hp.mem_iff.1 q)with q|q
  ·exact .inl q
  ·exact .inr (ho.subset q)
 have hfl:(ts'.map Tr.f).flatten.Perm ((new.map Tr.f).flatten++(old.map Tr.f).flatten):=by
  have:=(hp.map Tr.f).flatten
  rwa [map_append,flatten_append]at this
 have hsub:(old.map Tr.f).flatten.Sublist (ts.map Tr.f).flatten:=rU_ (ho.map Tr.f)
 have hone:=nodup_cons.1 s.one
 have hl0:lo≤l'∧l'<H'.length:=by
  have h2:=(List.getElem?_eq_some_iff.1 hrow).1
  have h3:=s.lows l (by simp[foot])
  rcases hl with e|e
  ·subst e;omega
  ·omega
 have hlout:l'∉(ts.map Tr.f).flatten:=by
  intro q
  rcases hl with e|e
  ·subst e;exact hone.1 q
  ·have:=(s.lows l' (mem_cons_of_mem _ q)).2;omega
 refine⟨hrow,hle,fun t q=>?_,⟨k+k2,fun t q=>?_⟩,?_,fun x hx=>?_⟩
 ·rcases hmem t q with q|q
  ·exact hw t q
  ·exact s.wide t q
 ·rcases hmem t q with q|q
  ·exact aH_.up (by omega) (hn t q)
  ·refine aH_.up (n:=k) (by omega) (aH_.mono (fun a r g hg ho=>ho.keep fun x hx=>hk x ?_) (ht t q))
   exact mem_flatten.2 ⟨t.f,mem_map.2 ⟨t,q,rfl⟩,hg x hx⟩
 ·refine nodup_cons.2 ⟨fun q=>?_,hfl.nodup_iff.2 (nodup_append.2 ⟨hnd,hone.2.sublist hsub,?_⟩)⟩
  ·rcases mem_append.1 (hfl.mem_iff.1 q)with q|q
   ·exact(hnf l' q).2.1 rfl
   ·exact hlout (hsub.subset q)
  ·intro x hx y hy e
   subst e
   exact(hnf x hx).1 (mem_cons_of_mem _ (hsub.subset hy))
 ·rcases mem_cons.1 hx with e|q
  ·subst e;exact hl0
  ·rcases mem_append.1 (hfl.mem_iff.1 q)with q|q
   ·have:=hnf x q;omega
   ·have:=s.lows x (mem_cons_of_mem _ (hsub.subset q));omega
theorem ci_.put(s:ci_ lo H E sz l m ts){k:Nat}{t':Tr}(hk:k<ts.length)(hf:t'.f=ts[k].f)(hw:t'.c.length=sz∧t'.c.all AV.cell=true)(ht:∀n,aH_ (Own H n) ts[k].c ts[k].d ts[k].f→aH_ (Own H n) t'.c t'.d t'.f):ci_ lo (H.set l ⟨.ty E,sz,(ts.set k t').map Tr.c⟩) E sz l m (ts.set k t'):=by
 obtain⟨q,h⟩:=s.tree
 have hmap:(ts.set k t').map Tr.f=ts.map Tr.f:=by
  rw[map_set,hf]
  apply ext_getElem?
  intro i
  rw[getElem?_set]
  split
  ·rename_i e
   subst e
   rw[if_pos (by simpa using hk),getElem?_map,getElem?_eq_getElem hk];rfl
  ·rfl
 have hkeep:∀t∈ts,∀x∈t.f,(H.set l ⟨.ty E,sz,(ts.set k t').map Tr.c⟩)[x]?=H[x]?:=fun t ht x hx=>getElem?_set_ne (fun e:l=x=>s.apart ht (by rw[e];exact hx))
 refine⟨by rw[getElem?_set_self s.lt],by rw[List.length_set];exact s.le,fun t ht'=>?_,⟨q,fun t ht'=>?_⟩,?_,fun x hx=>?_⟩
 ·rcases mem_or_eq_of_mem_set ht' with e|e
  ·exact s.wide t e
  ·subst e;exact hw
 ·rcases mem_or_eq_of_mem_set ht' with e|e
  ·exact aH_.mono (fun a r g hg ho=>ho.keep fun x hx=>hkeep t e x (hg x hx)) (h t e)
  ·subst e
   have:=ht q (h _ (getElem_mem hk))
   exact aH_.mono (fun a r g hg ho=>ho.keep fun x hx=>hkeep _ (getElem_mem hk) x (by rw[←hf];exact hg x hx)) this
 ·unfold foot;rw[hmap];exact s.one
 ·unfold foot at hx;rw[hmap]at hx
  rw[List.length_set];exact s.lows x hx
end
structure fz_(H:List Row)(a r:AV):Prop where
 out:∀(S:Sit) (w:World) (x:Value),ac_ S H w→Rep S a x→Rep (S.shut w) r x
def fk_(H:List Row):List AV→List AV→Prop
 | [],rs=>rs=[]
 | a::as,rs=>∃r rs',rs=r::rs'∧fz_ H a r∧fk_ H as rs'
theorem fk_.nil{H:List Row}:fk_ H [] []:=rfl
theorem fk_.cons{H:List Row}{a r:AV}{as rs:List AV}(h1:fz_ H a r)(h2:fk_ H as rs):fk_ H (a::as) (r::rs):=⟨_,_,rfl,h1,h2⟩
theorem cR_.any{H:List Row}{a r:AV}(h:cR_ H a r):fz_ H a r:=⟨fun S w x m hr=>by
 rcases h with ⟨rfl,hp⟩|⟨n,fs,h1⟩
 ·exact Rep.up (hN_ m) _ _ (iR_ hp hr)
 ·exact Own.rep m n a x r fs hr h1⟩
theorem fz_.same{H:List Row}{a:AV}(hp:a.plain=true):fz_ H a a:=(cR_.same hp).any
theorem fz_.res{H:List Row}{a r:AV}{n:Nat}(h:resolve H n a=some r):fz_ H a r:=⟨fun S w x m hr=>iK_ m n a x r hr h⟩
theorem fz_.box{H:List Row}{l:Nat}{E:Tag}{sz:Nat}{c r:AV}(hl:H[l]?=some ⟨E,sz,[[c]]⟩)(hc:fz_ H c r):fz_ H (.ptr l 1 0 0) (.iptr [r]):=⟨fun S w x m hr=>by
 simp only[Rep]at hr
 obtain⟨_,i,q1,q2,q3⟩:=hr
 obtain⟨k1,k2,k3,k4⟩:=m.rows l i _ q1 hl
 obtain⟨b,hb,hx⟩:=q3 (by rw[k1];rfl)
 rw[hb]at k4
 obtain⟨_,cs,_,⟨_,j2,_⟩,j3,j4,j5,j6⟩:=k4.2.cells (.inl (by simp))
 simp only[ap_,au_]at j3
 obtain⟨⟨v,q,e,r1,_⟩,_⟩:=j3
 have hown:S.ownsB b=true:=d2_.2 ⟨l,i,q1,hb⟩
 have hlen:cs.size=q.length+1:=by
  have:=congrArg List.length e
  simpa using this
 simp only[Rep]
 refine⟨b,0,cs,by simpa using hx,by simp[Sit.shut,hown,j2],by simp[hlen],?_⟩
 rw[drop_zero,e]
 simp only[au_]
 exact⟨v,q,rfl,hc.out S w v m r1,trivial⟩⟩
theorem fk_.rep{S:Sit}{H:List Row}{w:World}(m:ac_ S H w):∀{as rs:List AV} {xs:List Value},fk_ H as rs→af_ S as xs→af_ (S.shut w) rs xs
 | [],rs,xs,h,r=>by subst h;simpa[af_]using r
 | a::as,rs,xs,h,r=>by
  obtain⟨d,ds,e,h1,h2⟩:=h
  subst e
  simp only[af_]at r⊢
  obtain⟨v,q,e,r1,r2⟩:=r
  exact⟨v,q,e,h1.out S w v m r1,fk_.rep m h2 r2⟩
theorem FB.three{lo hi:Nat}{H:List Row}{a r:AV}{v u v2 u2:Value}(h:FB lo hi H (.tup [a,.val v,.val v2]) (.tup [r,.val u,.val u2])):FB lo hi H a r∧(.val v=AV.val u)∧(.val v2=AV.val u2):=by
 have h4:=h.le
 obtain⟨n,fs,h1,h2,h3⟩:=h.tree.untup
 obtain⟨d,ds,f,f',e1,rfl,q1,q2⟩:=h1
 simp only[List.cons.injEq]at e1
 obtain⟨rfl,rfl⟩:=e1
 obtain⟨d,ds,f2,f3,e1,rfl,q3,q4⟩:=q2
 simp only[List.cons.injEq]at e1
 obtain⟨rfl,rfl⟩:=e1
 obtain⟨d,ds,f4,f5,e1,rfl,q5,q6⟩:=q4
 simp only[List.cons.injEq]at e1
 obtain⟨rfl,rfl⟩:=e1
 obtain⟨_,rfl⟩:=q6
 obtain⟨rfl,e⟩:=q3.of_val
 obtain⟨rfl,e2⟩:=q5.of_val
 refine⟨⟨⟨n,f,q1,(nodup_append.1 h2).1,fun l hl=>h3 l (mem_append_left _ hl)⟩,h4⟩,e,e2⟩
structure TB(E0 E sz L lo:Nat)(H:List Row)(l m:Nat)(ts:List Tr):Prop where
 box:∃a,H[L]?=some ⟨.ty E0,1,[[a]]⟩∧Sl a l m ts
 lt:L<lo
 at':ci_ lo H E sz l m ts
theorem TB.tree{E0 E sz L lo l m:Nat}{H:List Row}{ts:List Tr}(b:TB E0 E sz L lo H l m ts):∃a,H[L]?=some ⟨.ty E0,1,[[a]]⟩∧Sl a l m ts∧aT_ lo H.length H a (.list 0 sz ((ts.take m).map Tr.d)):=by
 obtain⟨a,h1,h2⟩:=b.box
 exact⟨a,h1,h2,b.at'.freshS h2⟩
theorem TB.keep{E0 E sz L lo l m:Nat}{H H':List Row}{ts:List Tr}(b:TB E0 E sz L lo H l m ts)(hb:H'[L]?=H[L]?)(hk:∀x∈foot l ts,H'[x]?=H[x]?)(hl:H.length≤H'.length):TB E0 E sz L lo H' l m ts:=by
 obtain⟨a,h1,h2⟩:=b.box
 exact⟨⟨a,hb.trans h1,h2⟩,b.lt,b.at'.keep hk hl⟩
theorem TB.more{E0 E sz L lo l m:Nat}{H H':List Row}{ts:List Tr}(b:TB E0 E sz L lo H l m ts)(h:bb_ H H'):TB E0 E sz L lo H' l m ts:=by
 obtain⟨a,h1,h2⟩:=b.box
 exact b.keep (h.kept L (List.getElem?_eq_some_iff.1 h1).1) (fun x hx=>h.kept x (b.at'.lows x hx).2) h.len
end Go.AW
