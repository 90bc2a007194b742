/-
 AW, part 47: parts of rows: a slice whose elements stand somewhere in a row of the call's own.
-/
import Derived.Test.YtlcmlgihlojdmaaGreatDoorAwC
namespace Go.AW
open List
set_option linter.unusedVariables false
set_option linter.unusedSimpArgs false
structure aI_(H:List Row)(E:TypeId)(sz:Nat)(a:AV)(l:Nat)(es:List (List AV)):Prop where
 out:∃pre post,a=.sub l (pre.length+(es.length+post.length)) pre.length (pre.length+es.length)∧H[l]?=some ⟨.ty E,sz,pre++(es++post)⟩
section
variable {H H' : List Row} {E sz l : Nat} {a : AV} {es : List (List AV)}
theorem aI_.lt(p:aI_ H E sz a l es):l<H.length:=by
 obtain⟨_,_,_,h⟩:=p;exact(List.getElem?_eq_some_iff.1 h).1
theorem aI_.cell(p:aI_ H E sz a l es):a.cell=true:=by
 obtain⟨_,_,rfl,_⟩:=p;rfl
theorem aI_.keep(p:aI_ H E sz a l es)(h:H'[l]?=H[l]?):aI_ H' E sz a l es:=by
 obtain⟨pre,post,e,q⟩:=p;exact⟨pre,post,e,by rw[h];exact q⟩
theorem aI_.whole(h:H[l]?=some ⟨.ty E,sz,es⟩):aI_ H E sz (.sub l es.length 0 es.length) l es:=⟨[],[],by simp,by simpa using h⟩
theorem aI_.res(p:aI_ H E sz a l es)(hf:∀e∈es,e.all AV.flat=true)(n:Nat):resolve H (n+2) a=some (.list 0 sz es):=by
 obtain⟨pre,post,rfl,q⟩:=p
 have e:resolve H (n+2) (.sub l (pre.length+(es.length+post.length)) pre.length (pre.length+es.length))=match H[l]? with
  | some r=>if r.es.length=pre.length+(es.length+post.length)then(((r.es.take (pre.length+es.length)).drop pre.length).mapM fun(e:List AV)=>e.mapM (resolve H (n+1))).map (.list 0 r.sz)else none
  | none=>none:=rfl
 rw[e,q]
 simp only[la_,if_true]
 have e2:(List.take (pre.length+es.length) (pre++(es++post))).drop pre.length=es:=by
  rw[take_length_add_append,drop_left,take_left]
 rw[e2,ho_ hf]
 rfl
theorem aI_.src(p:aI_ H E sz a l es):dy_ H sz a=some es:=by
 obtain⟨pre,post,rfl,q⟩:=p
 simp only[dy_,q,la_,and_self,if_true]
 rw[take_length_add_append,drop_left,take_left]
end
theorem gl_(p n:Nat)(k:Nat)(h:k<n):(((p:Nat):Int)+(k:Int)<((p+n:Nat):Int))=True:=eq_true (by omega)
theorem dQ_{α:Type}(pre es post:List α)(k:Nat)(h:k<es.length):(pre++(es++post))[pre.length+k]?=es[k]?:=by
 rw[getElem?_append_right (by omega),Nat.add_sub_cancel_left,getElem?_append_left h]
theorem ud_{α:Type}(pre es post:List α)(k:Nat)(v:α)(h:k<es.length):(pre++(es++post)).set (pre.length+k) v=pre++(es.set k v++post):=by
 rw[set_append_right _ _ (by omega),Nat.add_sub_cancel_left,set_append_left _ _ h]
theorem pL_{α:Type}(pre es post:List α)(n:Nat)(h:n=es.length):((pre++(es++post)).take (pre.length+n)).drop pre.length=es:=by
 subst h
 rw[take_length_add_append,drop_left,take_left]
theorem gv_{α:Type}(pre es post:List α):(pre++(es++post)).length=pre.length+(es.length+post.length):=by simp
theorem callSem.weaken{P:Program}{f:FuncId}{args:List AV}{h:List Row}{K:AV→List Row→Prop}(c:callSem P f args h fun av h'=>∃av',(∀S x,Rep S av x→Rep S av' x)∧K av' h'):callSem P f args h K:=by
 intro S w vals hm hgl hr
 refine(c S w vals hm hgl hr).mono ?_
 rintro e w' ⟨v,av,S',h',rfl,st,hm',rv,av',hc,hk⟩
 exact⟨v,av',S',h',rfl,st,hm',hc S' v rv,hk⟩
theorem callSem.args{P:Program}{f:FuncId}{args args':List AV}{h:List Row}{K:AV→List Row→Prop}(hc:∀S xs,ae_ S args xs→ae_ S args' xs)(c:callSem P f args' h K):callSem P f args h K :=
 fun S w vals hm hgl hr=>c S w vals hm hgl (hc S _ hr)
theorem ez_(a:AV):∀(S:Sit) (x:Value),Rep S a x→Rep S a x:=fun _ _ h=>h
theorem dK_(l n:Nat):∀(S:Sit) (x:Value),Rep S (.own l n) x→Rep S (.sub l n 0 n) x:=fun _ _ h=>h.own_sub
theorem tA_{cs ds:List AV}(h:∀S xs,ae_ S cs xs→ae_ S ds xs):∀(S:Sit) (x:Value),Rep S (.agg cs) x→Rep S (.agg ds) x:=by
 intro S x r
 simp only[Rep]at r⊢
 obtain⟨vs,e,q⟩:=r
 exact⟨vs,e,h S _ q⟩
theorem wS_:∀(S:Sit) (xs:List Value),ae_ S [] xs→ae_ S [] xs:=fun _ _ h=>h
theorem eL_{c d:AV}{cs ds:List AV}(h:∀S x,Rep S c x→Rep S d x)(hs:∀S xs,ae_ S cs xs→ae_ S ds xs):∀(S:Sit) (xs:List Value),ae_ S (c::cs) xs→ae_ S (d::ds) xs:=by
 intro S xs r
 simp only[ae_]at r⊢
 obtain⟨v,q,e,r1,r2⟩:=r
 exact⟨v,q,e,h S v r1,hs S q r2⟩
theorem ab_.room{S:Sit}{h:List Row}{w:World}(hm:ab_ S h w){l sz:Nat}{E:TypeId}{es:List (List AV)}(hl:h[l]?=some ⟨.ty E,sz,es⟩) :
 (∃S',a0_ S w S' w∧ab_ S' (h.set l ⟨.ty E,sz,es++[List.replicate sz .undef]⟩) w ∧
   (∀j,j≠l→S'.rows[j]?=S.rows[j]?)∧∀lo hi x,Rep S (.sub l es.length lo hi) x→Rep S' (.sub l (es.length+1) lo hi) x)∨ab_ S (h.set l ⟨.full E,sz,es⟩) w:=by
 have hll:l<S.rows.length:=by rw[hm.len];exact(List.getElem?_eq_some_iff.1 hl).1
 obtain⟨i,p1⟩:∃i,S.rows[l]?=some i:=⟨_,getElem?_eq_getElem hll⟩
 obtain⟨k1,k2,k3,k4⟩:=hm.rows l i _ p1 hl
 have hil:i.len=es.length:=k1
 by_cases hc:i.len<i.cap
 ·left
  cases hb:i.blk with
  | none=>rw[hb]at k4;have:=k4.2;omega
  | some b =>
   rw[hb]at k4
   have k5:=k4.2
   rw[ax_.ty (E:=E) rfl]at k5
   obtain⟨c,j2,j3,j4,j5,j6⟩:=k5
   have hlen:∀e∈es++[List.replicate sz AV.undef],e.length=sz:=by
    intro e he
    rcases mem_append.1 he with q|q
    ·exact k3 e q
    ·simp only[mem_singleton]at q;subst q;simp
   have hsz2:i.sz=sz:=k2
   have hg:=ab_.grow (w':=w) hm (E:=E) (.inl rfl) p1 hl (es':=es++[List.replicate sz .undef]) (b:=b) (cap:=i.cap) (c':=c) hlen (by simp)
    (by
      refine(bi_ hlen).2 fun q e he j cc hj=>?_
      by_cases hq:q<es.length
      ·rw[getElem?_append_left hq]at he
       exact(bi_ k3).1 j3 q e he j cc hj
      ·rw[getElem?_append_right (by omega)]at he
       have hq0:q-es.length=0:=by
        by_cases z:q-es.length=0
        ·exact z
        ·obtain⟨k,hk⟩:=Nat.exists_eq_succ_of_ne_zero z
         rw[hk]at he;simp at he
       rw[hq0]at he
       simp only[getElem?_cons_zero,Option.some.injEq]at he
       subst he
       have hjl:j<sz:=by
        have:=(List.getElem?_eq_some_iff.1 hj).1
        simpa using this
       have hcu:cc=.undef:=by
        have:=mem_of_getElem? hj
        exact eq_of_mem_replicate this
       subst hcu
       have hqe:q=es.length:=by omega
       have hlt:q * sz+j<c.size:=by
        rw[j4,hsz2,hqe]
        have:(es.length+1) * sz≤i.cap * sz:=Nat.mul_le_mul_right _ (by omega)
        rw[Nat.add_mul]at this
        omega
       exact⟨c[q * sz+j],by simp[hlt],by simp[Rep]⟩)
    (by show c.size=i.cap * sz;rw[j4,hsz2]) (by simp;omega) j6 (.inl hb) ⟨(0,0),j2,.zero _ _⟩ (fun _ _ _=>rfl) (Nat.le_refl _) rfl rfl rfl
   refine⟨_,hg.2,hg.1,fun j hj=>?_,fun lo hi x hr=>?_⟩
   ·show(S.rows.set l _)[j]?=_
    rw[getElem?_set_ne (Ne.symm hj)]
   ·simp only[Rep]at hr⊢
    obtain⟨h0,i2,p2,_,p3⟩:=hr
    rw[p1]at p2
    obtain rfl:=Option.some.inj p2
    obtain⟨g1,g2,g3⟩:=p3 hil.symm
    refine⟨h0,⟨(es++[List.replicate sz AV.undef]).length,some b,i.cap,sz⟩,by simp[hll],by simp,fun _=>⟨g1,by omega,.inr ?_⟩⟩
    rcases g3 with ⟨q,_⟩|⟨b',off,hb',q,hoff⟩
    ·rw[hb]at q;cases q
    ·rw[hb]at hb';cases hb'
     exact⟨b,off,rfl,q,fun hp=>by have:=hoff hp;rw[this,hsz2]⟩
 ·right
  have hcap:i.cap=i.len:=by
   cases hb:i.blk with
   | none=>rw[hb]at k4;rw[k4.2,k1,k4.1];rfl
   | some b =>
    rw[hb]at k4
    have k5:=k4.2
    rw[ax_.ty (E:=E) rfl]at k5
    obtain⟨c,j2,j3,j4,j5,j6⟩:=k5
    omega
  exact hm.mkfull hl p1 hcap
end Go.AW
