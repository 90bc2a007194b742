/-
 AW, part 45: a call that is given boxes of the caller's and leaves in them slices that are written no more: its new rows are given up.
-/
import Derived.Test.YtlcmlgihlojdmaaGreatDoorAwC
namespace Go.AW
open List
open Go.RowKit
set_option linter.unusedVariables false
set_option linter.unusedSimpArgs false
set_option linter.unusedSectionVars false
def cv_(b:Nat)(h:List Row):Nat→AV→Option AV
 | 0,_=>none
 | n+1,a =>
  match a with
  | .val v=>some (.val v)
  | .list tk s es=>some (.list tk s es)
  | .iptr cs=>some (.iptr cs)
  | .own l k =>
   match h[l]? with
   | some r=>if b≤l∧r.es.length=k then(r.es.mapM fun(e:List AV)=>e.mapM (cv_ b h n)).map (.list 0 r.sz)else none
   | none=>none
  | .sub l k lo hi =>
   match h[l]? with
   | some r=>if b≤l∧r.es.length=k then(((r.es.take hi).drop lo).mapM fun(e:List AV)=>e.mapM (cv_ b h n)).map (.list 0 r.sz)else none
   | none=>none
  | .agg cs=>(cs.mapM (cv_ b h n)).map .agg
  | .tup cs=>(cs.mapM (cv_ b h n)).map .tup
  | _=>none
def Sit.ownsFrom(S:Sit)(b:Nat)(k:Nat):Bool:=(S.rows.drop b).any fun i=>i.blk==some k
theorem gs_{S:Sit}{b k:Nat}:S.ownsFrom b k=true↔∃(l:Nat) (i:bR_),b≤l∧S.rows[l]?=some i∧i.blk=some k:=by
 simp only[Sit.ownsFrom,any_eq_true,beq_iff_eq]
 constructor
 ·rintro⟨i,hi,hb⟩
  obtain⟨l,hl⟩:=mem_iff_getElem?.1 hi
  rw[getElem?_drop]at hl
  exact⟨b+l,i,by omega,hl,hb⟩
 ·rintro⟨l,i,hbl,hl,hb⟩
  refine⟨i,mem_of_getElem? (i:=l-b) ?_,hb⟩
  rw[getElem?_drop,show b+(l-b)=l by omega];exact hl
def Sit.cutAt(S:Sit)(b:Nat)(w:World):Sit :=
 { imm:=fun k=>if S.ownsFrom b k then(match w.heap[k]? with|some (.cells c _ _)=>some c|_=>none)else S.imm k,rows:=S.rows.take b }
section
variable {S S' : Sit} {R : AV → Option AV}
theorem mk_(hone:∀a x r,Rep S a x→R a=some r→Rep S' r x):∀{as:List AV} {xs:List Value} {rs:List AV},af_ S as xs→as.mapM R=some rs→af_ S' rs xs
 | [],xs,rs,r,e=>by
  simp at e;subst e
  simpa[af_]using r
 | a::as,xs,rs,r,e=>by
  rw[mapM_cons]at e
  cases h1:R a with
  | none=>simp[h1]at e
  | some r1 =>
   cases h2:as.mapM R with
   | none=>simp[h1,h2]at e
   | some rs' =>
    simp[h1,h2]at e
    subst e
    simp only[af_]at r⊢
    obtain⟨v,q,e,r2,r3⟩:=r
    exact⟨v,q,e,hone a v r1 r2 h1,mk_ hone r3 h2⟩
theorem lD_(hone:∀a x r,Rep S a x→R a=some r→Rep S' r x):∀{as:List AV} {xs:List Value} {rs:List AV},au_ S as xs→as.mapM R=some rs→au_ S' rs xs∧rs.length=as.length
 | [],xs,rs,r,e=>by
  simp at e;subst e
  simp[au_]
 | a::as,xs,rs,r,e=>by
  rw[mapM_cons]at e
  cases h1:R a with
  | none=>simp[h1]at e
  | some r1 =>
   cases h2:as.mapM R with
   | none=>simp[h1,h2]at e
   | some rs' =>
    simp[h1,h2]at e
    subst e
    simp only[au_]at r⊢
    obtain⟨v,q,e,r2,r3⟩:=r
    have:=lD_ hone r3 h2
    exact⟨⟨v,q,e,hone a v r1 r2 h1,this.1⟩,by simp[this.2]⟩
theorem hu_(hone:∀a x r,Rep S a x→R a=some r→Rep S' r x):∀{es:List (List AV)} {xs:List Value} {rs:List (List AV)},ap_ S es xs→(es.mapM fun e=>e.mapM R)=some rs →
 ap_ S' rs xs∧rs.length=es.length∧∀sz,(∀e∈es,e.length=sz)→∀e∈rs,e.length=sz
 | [],xs,rs,r,e=>by
  simp at e;subst e
  simp[ap_]
 | d::es,xs,rs,r,e=>by
  rw[mapM_cons]at e
  cases h1:d.mapM R with
  | none=>simp[h1]at e
  | some r1 =>
   cases h2:(es.mapM fun e=>e.mapM R)with
   | none=>simp[h1,h2]at e
   | some rs' =>
    simp[h1,h2]at e
    subst e
    simp only[ap_]at r⊢
    have p1:=lD_ hone r.1 h1
    have p2:=hu_ hone r.2 h2
    refine⟨⟨p1.1,by rw[p1.2];exact p2.1⟩,by simp[p2.2.1],fun sz hsz e he=>?_⟩
    rcases mem_cons.1 he with q|q
    ·subst q;rw[p1.2];exact hsz d (by simp)
    ·exact p2.2.2 sz (fun e he=>hsz e (by simp[he])) e q
end
theorem kS_{S:Sit}{h:List Row}{w:World}(m:ac_ S h w)(b:Nat):S.still.le (S.cutAt b w).still:=by
 refine⟨fun k c e=>?_,by simp[Sit.still]⟩
 have hn:S.ownsFrom b k=false:=by
  cases q:S.ownsFrom b k with
  | false=>rfl
  | true =>
   obtain⟨l,i,_,h1,h2⟩:=gs_.1 q
   have:=m.ownNotImm ⟨l,i,h1,h2⟩
   simp only[Sit.still]at e
   rw[this]at e;cases e
 simp only[Sit.still,Sit.cutAt,hn]
 exact e
theorem xf_{S:Sit}{h:List Row}{w:World}(m:ac_ S h w)(b:Nat):∀(n:Nat) (a:AV) (x:Value) (r:AV),Rep S a x→cv_ b h n a=some r→Rep (S.cutAt b w).still r x:=by
 intro n
 induction n with
 | zero=>intro a x r _ e;simp[cv_]at e
 | succ n ih =>
  intro a x r hr e
  have hflat:a.flat=true→r=a→Rep (S.cutAt b w).still r x:=fun hf he=>by
   subst he
   exact Rep.up (kS_ m b) _ _ (fo_ hf hr)
  cases a with
  | val v=>simp only[cv_,Option.some.injEq]at e;exact hflat rfl e.symm
  | list tk s es=>simp only[cv_,Option.some.injEq]at e;exact hflat rfl e.symm
  | iptr cs=>simp only[cv_,Option.some.injEq]at e;exact hflat rfl e.symm
  | agg cs =>
   simp only[cv_,Option.map_eq_some_iff]at e
   obtain⟨rs,e1,e2⟩:=e
   subst e2
   simp only[Rep]at hr⊢
   obtain⟨vs,e3,hr⟩:=hr
   exact⟨vs,e3,mk_ ih hr e1⟩
  | tup cs =>
   simp only[cv_,Option.map_eq_some_iff]at e
   obtain⟨rs,e1,e2⟩:=e
   subst e2
   simp only[Rep]at hr⊢
   obtain⟨vs,e3,hr⟩:=hr
   exact⟨vs,e3,mk_ ih hr e1⟩
  | own l k =>
   simp only[cv_]at e
   split at e
   ·rename_i row hl
    split at e
    ·rename_i hlen
     obtain⟨hbl,hlen⟩:=hlen
     simp only[Option.map_eq_some_iff]at e
     obtain⟨rs,e1,e2⟩:=e
     subst e2
     simp only[Rep]at hr
     obtain⟨_,i,q1,q2,q3⟩:=hr
     obtain⟨k1,k2,k3,k4⟩:=m.rows l i row q1 hl
     have hx:=q3 (by omega)
     cases hb:i.blk with
     | none =>
      rw[hb]at k4
      simp only[sliceAt,hb]at hx
      rw[k4.1]at e1
      simp at e1;subst e1
      simp only[Rep]
      rcases hx with hx|⟨_,p,hx⟩
      ·exact .inl ⟨trivial,trivial,_,_,hx⟩
      ·exact .inl ⟨trivial,trivial,_,_,hx⟩
     | some bk =>
      rw[hb]at k4
      simp only[sliceAt,hb,reduceCtorEq,false_and,or_false]at hx
      by_cases hne:row.es=[]
      ·rw[hne]at e1 k1
       simp at e1;subst e1
       simp only[Rep]
       rw[k1]at hx
       exact .inl ⟨trivial,trivial,_,_,hx⟩
      obtain⟨_,c,_,⟨_,j2,_⟩,j3,j4,j5,j6⟩:=k4.2.cells (.inl hne)
      have p:=hu_ ih j3 e1
      simp only[Rep]
      right
      have hown:S.ownsFrom b bk=true:=gs_.2 ⟨l,i,hbl,q1,hb⟩
      refine⟨bk,0,i.cap,c,by rw[hx,p.2.1,k1],by rw[p.2.1,←k1];exact j5,?_,p.2.2 _ k3,.inl trivial,?_,by simpa[Sit.cutAt,Sit.still]using p.1⟩
      ·simp[Sit.still,Sit.cutAt,hown,j2]
      ·rw[p.2.1,j4,←k1,←k2]
       simpa using Nat.mul_le_mul_right _ j5
    ·simp at e
   ·simp at e
  | sub l k lo hi =>
   simp only[cv_]at e
   split at e
   ·rename_i row hl
    split at e
    ·rename_i hlen
     obtain⟨hbl,hlen⟩:=hlen
     simp only[Option.map_eq_some_iff]at e
     obtain⟨rs,e1,e2⟩:=e
     subst e2
     have hs:df_ h row.sz (.sub l k lo hi)=some ((row.es.take hi).drop lo):=by simp[df_,hl,hlen]
     obtain⟨s1,s2⟩:=dR_ m hs hr
     simp only[Rep]at hr
     obtain⟨_,i,q1,q2,q3⟩:=hr
     obtain⟨k1,k2,k3,k4⟩:=m.rows l i row q1 hl
     obtain⟨g1,g2,g3⟩:=q3 (by omega)
     have hlen2:((row.es.take hi).drop lo).length=hi-lo:=by simp;omega
     by_cases hz:hi-lo=0
     ·have hnil:(row.es.take hi).drop lo=[]:=eq_nil_of_length_eq_zero (by omega)
      rw[hnil]at e1
      simp at e1;subst e1
      simp only[Rep]
      rcases g3 with ⟨_,p,q⟩|⟨bk,off,_,q,_⟩
      ·exact .inl ⟨trivial,trivial,_,_,q⟩
      ·rw[hz]at q;exact .inl ⟨trivial,trivial,_,_,q⟩
     ·have hne:row.es≠[]:=by intro q;rw[q]at hlen;simp at hlen;omega
      rcases g3 with ⟨hb,p,q⟩|⟨bk,off,hb,q,hoff⟩
      ·rw[hb]at k4;exact absurd k4.1 hne
      ·rw[hb]at k4
       obtain⟨_,c,_,⟨_,j2,_⟩,j3,j4,j5,j6⟩:=k4.2.cells (.inl hne)
       rw[hoff (by omega)]at q
       have hd:=ap_.drop (ap_.take (k:=hi) j3) (sz:=row.sz) (k:=lo) (fun x hx=>k3 x (mem_of_mem_take hx))
       have p:=hu_ ih hd e1
       simp only[Rep]
       right
       have hown:S.ownsFrom b bk=true:=gs_.2 ⟨l,i,hbl,q1,hb⟩
       refine⟨bk,lo * i.sz,i.cap-lo,c,by rw[q,p.2.1,hlen2],by rw[p.2.1,hlen2];omega,?_,p.2.2 _ s1,.inl trivial,?_,?_⟩
       ·simp[Sit.still,Sit.cutAt,hown,j2]
       ·rw[p.2.1,hlen2,j4,←k2,←Nat.add_mul]
        exact Nat.mul_le_mul_right _ (by omega)
       ·rw[k2];simpa[Sit.cutAt,Sit.still]using p.1
    ·simp at e
   ·simp at e
  | _=>simp[cv_]at e
mutual
def AV.lows(b:Nat):AV→Prop
 | .ptr l _ _ _|.own l _|.sub l _ _ _|.mp l=>l<b
 | .agg cs|.tup cs=>gV_ b cs
 | .fn _ p q=>gV_ b p∧gV_ b q
 | _=>True
def gV_(b:Nat):List AV→Prop
 | []=>True
 | a::as=>a.lows b∧gV_ b as
end
mutual
theorem Rep.below{S:Sit}:∀(a:AV) (x:Value),Rep S a x→a.lows S.rows.length
 | .val _,_,_=>trivial
 | .list _ _ _,_,_=>trivial
 | .iptr _,_,_=>trivial
 | .undef,_,_=>trivial
 | .ptr l n k off,x,r=>by
  simp only[Rep]at r;obtain⟨_,i,r1,_⟩:=r;exact(List.getElem?_eq_some_iff.1 r1).1
 | .own l n,x,r=>by
  simp only[Rep]at r;obtain⟨_,i,r1,_⟩:=r;exact(List.getElem?_eq_some_iff.1 r1).1
 | .sub l n lo hi,x,r=>by
  simp only[Rep]at r;obtain⟨_,i,r1,_⟩:=r;exact(List.getElem?_eq_some_iff.1 r1).1
 | .mp l,x,r=>by
  simp only[Rep]at r;obtain⟨_,i,r1,_⟩:=r;exact(List.getElem?_eq_some_iff.1 r1).1
 | .agg cs,x,r=>by
  simp only[Rep]at r;obtain⟨vs,_,r⟩:=r;exact af_.below cs _ r
 | .tup cs,x,r=>by
  simp only[Rep]at r;obtain⟨vs,_,r⟩:=r;exact af_.below cs _ r
 | .fn f p q,x,r=>by
  simp only[Rep]at r;obtain⟨vs,us,_,r1,r2⟩:=r;exact⟨af_.below p _ r1,af_.below q _ r2⟩
theorem af_.below{S:Sit}:∀(as:List AV) (xs:List Value),af_ S as xs→gV_ S.rows.length as
 | [],_,_=>trivial
 | a::as,xs,r=>by
  simp only[af_]at r;obtain⟨v,q,_,r1,r2⟩:=r;exact⟨Rep.below a v r1,af_.below as q r2⟩
end
section
variable {S S' : Sit} {b : Nat} (himm : ∀ k c, S.imm k = some c → S'.imm k = some c) (hrows : ∀ l, l < b → S'.rows[l]? = S.rows[l]?)
include himm hrows
theorem rj_:S.still.le S'.still:=⟨himm,by simp[Sit.still]⟩
mutual
theorem Rep.over:∀(a:AV) (x:Value),a.lows b→Rep S a x→Rep S' a x
 | .val v,x,_,r=>by simpa[Rep]using r
 | .list tk sz es,x,_,r=>by
  simp only[Rep]at r⊢
  rcases r with r|⟨k,off,cap,c,r1,r2,r3,r4,r5,r6,r7⟩
  ·exact .inl r
  ·exact .inr ⟨k,off,cap,c,r1,r2,himm _ _ r3,r4,r5,r6,ap_.up (rj_ himm hrows) es _ r7⟩
 | .iptr cs,x,_,r=>by
  simp only[Rep]at r⊢
  obtain⟨k,off,c,r1,r2,r3,r4⟩:=r
  exact⟨k,off,c,r1,himm _ _ r2,r3,au_.up (rj_ himm hrows) cs _ r4⟩
 | .ptr l n k off,x,hl,r=>by simp only[Rep]at r⊢;rw[hrows l hl];exact r
 | .own l n,x,hl,r=>by simp only[Rep]at r⊢;rw[hrows l hl];exact r
 | .sub l n lo hi,x,hl,r=>by simp only[Rep]at r⊢;rw[hrows l hl];exact r
 | .mp l,x,hl,r=>by simp only[Rep]at r⊢;rw[hrows l hl];exact r
 | .agg cs,x,hl,r=>by
  simp only[Rep]at r⊢
  obtain⟨vs,r1,r2⟩:=r
  exact⟨vs,r1,af_.over cs _ hl r2⟩
 | .tup cs,x,hl,r=>by
  simp only[Rep]at r⊢
  obtain⟨vs,r1,r2⟩:=r
  exact⟨vs,r1,af_.over cs _ hl r2⟩
 | .fn f p q,x,hl,r=>by
  simp only[Rep]at r⊢
  obtain⟨vs,us,r1,r2,r3⟩:=r
  exact⟨vs,us,r1,af_.over p _ hl.1 r2,af_.over q _ hl.2 r3⟩
 | .undef,x,_,r=>by simp[Rep]
theorem af_.over:∀(as:List AV) (xs:List Value),gV_ b as→af_ S as xs→af_ S' as xs
 | [],xs,_,r=>by simpa[af_]using r
 | a::as,xs,hl,r=>by
  simp only[af_]at r⊢
  obtain⟨v,q,e,r1,r2⟩:=r
  exact⟨v,q,e,Rep.over a v hl.1 r1,af_.over as q hl.2 r2⟩
end
theorem au_.over:∀(as:List AV) (xs:List Value),gV_ b as→au_ S as xs→au_ S' as xs
 | [],xs,_,r=>by simp[au_]
 | a::as,xs,hl,r=>by
  simp only[au_]at r⊢
  obtain⟨v,q,e,r1,r2⟩:=r
  exact⟨v,q,e,Rep.over himm hrows a v hl.1 r1,au_.over as q hl.2 r2⟩
theorem ap_.over:∀(es:List (List AV)) (xs:List Value),(∀e∈es,gV_ b e)→ap_ S es xs→ap_ S' es xs
 | [],xs,_,r=>by simp[ap_]
 | e::es,xs,hl,r=>by
  simp only[ap_]at r⊢
  exact⟨au_.over himm hrows e _ (hl e (by simp)) r.1,ap_.over es _ (fun x hx=>hl x (by simp[hx])) r.2⟩
theorem be_.over:∀(es:List MapEntry) (ps:List (Int×Nat×AV)),(∀p∈ps,p.2.2.lows b)→be_ S es ps→be_ S' es ps
 | [],[],_,_=>trivial
 | [],_::_,_,q=>q.elim
 | _::_,[],_,q=>q.elim
 | e::es,p::ps,hl,q=>⟨⟨q.1.1,q.1.2.1,Rep.over himm hrows _ _ (hl p (by simp)) q.1.2.2⟩,be_.over es ps (fun x hx=>hl x (by simp[hx])) q.2⟩
end
theorem au_.below{S:Sit}:∀(as:List AV) (xs:List Value),au_ S as xs→gV_ S.rows.length as
 | [],_,_=>trivial
 | a::as,xs,r=>by
  simp only[au_]at r;obtain⟨v,q,_,r1,r2⟩:=r;exact⟨Rep.below a v r1,au_.below as q r2⟩
theorem ap_.below{S:Sit}:∀(es:List (List AV)) (xs:List Value),ap_ S es xs→∀e∈es,gV_ S.rows.length e
 | [],_,_,e,he=>by cases he
 | d::es,xs,r,e,he=>by
  simp only[ap_]at r
  rcases mem_cons.1 he with q|q
  ·subst q;exact au_.below _ _ r.1
  ·exact ap_.below es _ r.2 e q
theorem be_.below{S:Sit}:∀(es:List MapEntry) (ps:List (Int×Nat×AV)),be_ S es ps→∀p∈ps,p.2.2.lows S.rows.length
 | [],[],_,p,hp=>by cases hp
 | [],_::_,q,_,_=>q.elim
 | _::_,[],q,_,_=>q.elim
 | e::es,p::ps,q,x,hx=>by
  rcases mem_cons.1 hx with k|k
  ·subst k;exact Rep.below _ _ q.1.2.2
  ·exact be_.below es ps q.2 x k
theorem aD_.over{S S0 S':Sit}{w w0:World}{b k k0:Nat}{i i0:bR_}{r:Row}(himm:∀k c,S.imm k=some c→S'.imm k=some c)(hrows:∀l,l<b→S'.rows[l]?=S.rows[l]?)(hb:S0.rows.length=b)
 (h0:aD_ S0 w0 k0 i0 r) (h:aD_ S w k i r):aD_ S' w k i r:=by
 have h1:=h0
 unfold aD_ at h h1⊢
 split at h
 ·rename_i E hE
  rw[hE]at h1
  obtain⟨c,j1,j2,j3⟩:=h
  obtain⟨_,_,p2,_⟩:=h1
  exact⟨c,j1,ap_.over himm hrows _ _ (by rw[←hb];exact ap_.below _ _ p2) j2,j3⟩
 ·exact h
 ·rename_i E hE
  rw[hE]at h1
  obtain⟨⟨c,j1,j2,j3⟩,j4⟩:=h
  obtain⟨⟨_,_,p2,_⟩,_⟩:=h1
  exact⟨⟨c,j1,ap_.over himm hrows _ _ (by rw[←hb];exact ap_.below _ _ p2) j2,j3⟩,j4⟩
 ·rename_i E hE
  rw[hE]at h1
  obtain⟨c,fr,j1,j2,j3⟩:=h
  obtain⟨_,_,_,p2,_⟩:=h1
  exact⟨c,fr,j1,ap_.over himm hrows _ _ (by rw[←hb];exact ap_.below _ _ p2) j2,j3⟩
 ·rename_i ents ck hE
  rw[hE]at h1
  obtain⟨j1,j2,arr,j3,j4⟩:=h
  obtain⟨_,_,_,_,p4⟩:=h1
  exact⟨j1,j2,arr,j3,be_.over himm hrows _ _ (by rw[←hb];exact be_.below _ _ p4) j4⟩
 ·exact h
 ·rename_i m0 sc sn ck hE
  rw[hE]at h1
  obtain⟨j1,j2,bm,j3,j4⟩:=h
  obtain⟨_,_,_,_,p4⟩:=h1
  exact⟨j1,j2,bm,j3,Rep.over himm hrows (.mp m0) _ (by rw[←hb];exact Rep.below _ _ p4) j4⟩
 ·exact h
structure CB_(h h':List Row)(av:AV)(K:AV→List Row→Prop):Prop where
 out:∃n r H,cv_ h.length h' n av=some r∧H.length=h.length ∧
  (∀l,l<h.length→(h'[l]?=h[l]?∧H[l]?=h[l]?)∨∃r1 E es,h'[l]?=some r1∧r1.E=.ty E∧(r1.es.mapM fun e=>e.mapM (cv_ h.length h' n))=some es∧H[l]?=some ⟨.ty E,r1.sz,es⟩)∧K r H
theorem pe_{P:Program}{f:FuncId}{args:List AV}{h:List Row}{K:AV→List Row→Prop}(hw:callSem P f args h fun av h'=>CB_ h h' av K):callSem P f args h K:=by
 intro S w vals hm hgl hr
 refine(hw S w vals hm hgl hr).mono ?_
 rintro e w' ⟨v,av,S1,h1,rfl,st,hm1,rv,n,r,H,hres,hlen,hrow,hK⟩
 have hl0:=hm.len
 have hl1:=hm1.len
 have hle1:h.length≤S1.rows.length:=by
  rcases Nat.lt_or_ge S1.rows.length h.length with q|q
  ·have:S1.rows.length<S.rows.length:=by omega
   obtain⟨i',e1,_⟩:=st.le.rows S1.rows.length (S.rows[S1.rows.length]) (getElem?_eq_getElem this)
   have:=(List.getElem?_eq_some_iff.1 e1).1
   omega
  ·exact q
 let S2:Sit:=S1.cutAt h.length w'
 have himm:∀k c,S1.imm k=some c→S2.imm k=some c:=fun k c e=>(kS_ hm1 h.length).imm k c e
 have hrows:∀l,l<h.length→S2.rows[l]?=S1.rows[l]?:=by
  intro l hl
  show(S1.rows.take h.length)[l]?=_
  rw[getElem?_take,if_pos hl]
 have hS2:S.le S2:=by
  refine⟨fun k c e=>himm k c (st.le.imm k c e),fun l i e=>?_⟩
  have hl:l<h.length:=by rw[←hl0];exact(List.getElem?_eq_some_iff.1 e).1
  rw[hrows l hl];exact st.le.rows l i e
 have hstl:(S1.cutAt h.length w').still.le S2:=⟨fun _ _ e=>e,by simp[Sit.still]⟩
 have hone:∀a x r,Rep S1 a x→cv_ h.length h1 n a=some r→Rep S2 r x:=fun a x r q1 q2=>Rep.up hstl _ _ (xf_ hm1 h.length n a x r q1 q2)
 have himm2:∀k c,S2.imm k=some c→S1.imm k=some c∨∃(l:Nat) (i:bR_),h.length≤l∧S1.rows[l]?=some i∧i.blk=some k:=by
  intro k c e
  simp only[S2,Sit.cutAt]at e
  split at e
  ·rename_i q;exact .inr (gs_.1 q)
  ·exact .inl e
 refine⟨v,r,S2,H,rfl,⟨hS2,st.os,st.tape,st.output,st.size,st.block,fun k q=>?_,fun k c q=>?_⟩,⟨fun k c q=>?_,?_,fun l i row q1 q2=>?_,fun l l' i i' k q1 q1' q2 q2'=>?_⟩,hone _ _ _ rv hres,hK⟩
 ·obtain⟨l,i,q1,q2⟩:=q
  have hl:l<h.length:=by
   have:=(List.getElem?_eq_some_iff.1 q1).1
   have h3:S2.rows.length=h.length:=by show(S1.rows.take h.length).length=_;rw[length_take];omega
   omega
  rw[hrows l hl]at q1
  exact st.ownNew k ⟨l,i,q1,q2⟩
 ·rcases himm2 k c q with q|⟨l,i,_,q1,q2⟩
  ·exact st.immNew k c q
  ·rcases st.ownNew k ⟨l,i,q1,q2⟩with q|q
   ·exact .inr (.inl q)
   ·exact .inr (.inr q)
 ·simp only[S2,Sit.cutAt]at q
  split at q
  ·split at q
   ·rename_i c' E fr hb
    simp at q;subst q
    exact⟨E,fr,hb⟩
   ·simp at q
  ·exact hm1.imm k c q
 ·show(S1.rows.take h.length).length=_
  rw[length_take,hlen];omega
 ·have hl:l<h.length:=by rw[←hlen];exact(List.getElem?_eq_some_iff.1 q2).1
  rw[hrows l hl]at q1
  have hnone:∀k,i.blk=some k→S1.imm k=none→S2.imm k=none:=by
   intro k hk hi
   cases e:S2.imm k with
   | none=>rfl
   | some c =>
    rcases himm2 k c e with q|⟨l2,i2,hl2,q3,q4⟩
    ·rw[hi]at q;cases q
    ·have:=hm1.one l l2 i i2 k q1 q3 hk q4
     omega
  rcases hrow l hl with ⟨e1,e2⟩|⟨r1,E,es,e1,e2,e3,e4⟩
  ·rw[e2]at q2
   rw[q2]at e1
   obtain⟨k1,k2,k3,k4⟩:=hm1.rows l i row q1 e1
   refine⟨k1,k2,k3,?_⟩
   cases hb:i.blk with
   | none=>rw[hb]at k4;exact k4
   | some k =>
    rw[hb]at k4
    refine⟨hnone k hb k4.1,?_⟩
    have hlS:l<S.rows.length:=by omega
    obtain⟨n1,n2,n3,n4⟩:=hm.rows l _ row (getElem?_eq_getElem hlS) q2
    cases hb0:(S.rows[l]).blk with
    | some k0 =>
     rw[hb0]at n4
     exact aD_.over himm hrows hl0 n4.2 k4.2
    | none =>
     obtain⟨i',p1,p2,p3⟩:=st.le.rows l _ (getElem?_eq_getElem hlS)
     rw[q1]at p1
     obtain rfl:=Option.some.inj p1
     have:=p3 (by rw[k1,n1])
     rw[this,hb0]at hb;cases hb
  ·rw[e4]at q2
   obtain rfl:=Option.some.inj q2
   obtain⟨k1,k2,k3,k4⟩:=hm1.rows l i r1 q1 e1
   cases hb:i.blk with
   | none =>
    rw[hb]at k4
    rw[k4.1]at e3
    simp at e3
    subst e3
    refine⟨by rw[k1,k4.1],k2,by simp,?_⟩
    rw[hb];exact⟨rfl,k4.2⟩
   | some k =>
    rw[hb]at k4
    have k5:=k4.2
    rw[aD_.ty e2]at k5
    obtain⟨c,j1,j2,j3⟩:=k5
    have p:=hu_ hone j2 e3
    refine⟨by rw[k1];exact p.2.1.symm,k2,p.2.2 _ k3,?_⟩
    rw[hb]
    refine⟨hnone k hb k4.1,?_⟩
    rw[aD_.ty (E:=E) rfl]
    exact⟨c,j1,p.1,j3⟩
 ·have hl:∀(l:Nat) (i:bR_),S2.rows[l]?=some i→S1.rows[l]?=some i:=by
   intro l i q
   have:(S1.rows.take h.length)[l]?=some i:=q
   rw[getElem?_take]at this
   split at this
   ·exact this
   ·cases this
  exact hm1.one l l' i i' k (hl _ _ q1) (hl _ _ q1') q2 q2'
end Go.AW
