/-
 AW, part 45: a call that is given boxes of the caller's and leaves in them slices that are written no more: its new rows are given up.
-/
import Derived.Test.YtlcmlgihlojdmaaGreatDoorAwC
namespace Go.AW
open List
open Go.RowKit
set_option linter.unusedVariables false
set_option linter.unusedSimpArgs false
set_option linter.unusedSectionVars false
section
variable {S S' : Sit} {R : AV → Option AV}
end
mutual
def AV.lows(b:Nat):AV→Prop
 | .ptr l _ _ _|.own l _|.sub l _ _ _|.mp l=>l<b
 | .agg cs|.tup cs=>gz_ b cs
 | .fn _ p q=>gz_ b p∧gz_ b q
 | _=>True
def gz_(b:Nat):List AV→Prop
 | []=>True
 | a::as=>a.lows b∧gz_ b as
end
mutual
theorem Rep.below{S:Sit}:∀(a:AV) (x:Value),Rep S a x→a.lows S.rows.length
 | .val _,_,_=>trivial
 | .list _ _ _,_,_=>trivial
 | .iptr _,_,_=>trivial
 | .undef,_,_=>trivial
 | .ptr l n k off,x,r=>by
  simp only[Rep]at r;obtain⟨_,i,r1,_⟩:=r;exact(List.getElem?_eq_some_iff.1 r1).1
 | .own l n,x,r=>by
  simp only[Rep]at r;obtain⟨_,i,r1,_⟩:=r;exact(List.getElem?_eq_some_iff.1 r1).1
 | .sub l n lo hi,x,r=>by
  simp only[Rep]at r;obtain⟨_,i,r1,_⟩:=r;exact(List.getElem?_eq_some_iff.1 r1).1
 | .mp l,x,r=>by
  simp only[Rep]at r;obtain⟨_,i,r1,_⟩:=r;exact(List.getElem?_eq_some_iff.1 r1).1
 | .agg cs,x,r=>by
  simp only[Rep]at r;obtain⟨vs,_,r⟩:=r;exact ae_.below cs _ r
 | .tup cs,x,r=>by
  simp only[Rep]at r;obtain⟨vs,_,r⟩:=r;exact ae_.below cs _ r
 | .fn f p q,x,r=>by
  simp only[Rep]at r;obtain⟨vs,us,_,r1,r2⟩:=r;exact⟨ae_.below p _ r1,ae_.below q _ r2⟩
theorem ae_.below{S:Sit}:∀(as:List AV) (xs:List Value),ae_ S as xs→gz_ S.rows.length as
 | [],_,_=>trivial
 | a::as,xs,r=>by
  simp only[ae_]at r;obtain⟨v,q,_,r1,r2⟩:=r;exact⟨Rep.below a v r1,ae_.below as q r2⟩
end
section
variable {S S' : Sit} {b : Nat} (himm : ∀ k c, S.imm k = some c → S'.imm k = some c) (hrows : ∀ l, l < b → S'.rows[l]? = S.rows[l]?)
include himm hrows
theorem pK_:S.still.le S'.still:=⟨himm,by simp[Sit.still]⟩
mutual
theorem Rep.over:∀(a:AV) (x:Value),a.lows b→Rep S a x→Rep S' a x
 | .val v,x,_,r=>by simpa[Rep]using r
 | .list tk sz es,x,_,r=>by
  simp only[Rep]at r⊢
  rcases r with r|⟨k,off,cap,c,r1,r2,r3,r4,r5,r6,r7⟩
  ·exact .inl r
  ·exact .inr ⟨k,off,cap,c,r1,r2,himm _ _ r3,r4,r5,r6,aj_.up (pK_ himm hrows) es _ r7⟩
 | .iptr cs,x,_,r=>by
  simp only[Rep]at r⊢
  obtain⟨k,off,c,r1,r2,r3,r4⟩:=r
  exact⟨k,off,c,r1,himm _ _ r2,r3,an_.up (pK_ himm hrows) cs _ r4⟩
 | .ptr l n k off,x,hl,r=>by simp only[Rep]at r⊢;rw[hrows l hl];exact r
 | .own l n,x,hl,r=>by simp only[Rep]at r⊢;rw[hrows l hl];exact r
 | .sub l n lo hi,x,hl,r=>by simp only[Rep]at r⊢;rw[hrows l hl];exact r
 | .mp l,x,hl,r=>by simp only[Rep]at r⊢;rw[hrows l hl];exact r
 | .agg cs,x,hl,r=>by
  simp only[Rep]at r⊢
  obtain⟨vs,r1,r2⟩:=r
  exact⟨vs,r1,ae_.over cs _ hl r2⟩
 | .tup cs,x,hl,r=>by
  simp only[Rep]at r⊢
  obtain⟨vs,r1,r2⟩:=r
  exact⟨vs,r1,ae_.over cs _ hl r2⟩
 | .fn f p q,x,hl,r=>by
  simp only[Rep]at r⊢
  obtain⟨vs,us,r1,r2,r3⟩:=r
  exact⟨vs,us,r1,ae_.over p _ hl.1 r2,ae_.over q _ hl.2 r3⟩
 | .undef,x,_,r=>by simp[Rep]
theorem ae_.over:∀(as:List AV) (xs:List Value),gz_ b as→ae_ S as xs→ae_ S' as xs
 | [],xs,_,r=>by simpa[ae_]using r
 | a::as,xs,hl,r=>by
  simp only[ae_]at r⊢
  obtain⟨v,q,e,r1,r2⟩:=r
  exact⟨v,q,e,Rep.over a v hl.1 r1,ae_.over as q hl.2 r2⟩
end
theorem an_.over:∀(as:List AV) (xs:List Value),gz_ b as→an_ S as xs→an_ S' as xs
 | [],xs,_,r=>by simp[an_]
 | a::as,xs,hl,r=>by
  simp only[an_]at r⊢
  obtain⟨v,q,e,r1,r2⟩:=r
  exact⟨v,q,e,Rep.over himm hrows a v hl.1 r1,an_.over as q hl.2 r2⟩
theorem aj_.over:∀(es:List (List AV)) (xs:List Value),(∀e∈es,gz_ b e)→aj_ S es xs→aj_ S' es xs
 | [],xs,_,r=>by simp[aj_]
 | e::es,xs,hl,r=>by
  simp only[aj_]at r⊢
  exact⟨an_.over himm hrows e _ (hl e (by simp)) r.1,aj_.over es _ (fun x hx=>hl x (by simp[hx])) r.2⟩
theorem a8_.over:∀(es:List MapEntry) (ps:List (Int×Nat×AV)),(∀p∈ps,p.2.2.lows b)→a8_ S es ps→a8_ S' es ps
 | [],[],_,_=>trivial
 | [],_::_,_,q=>q.elim
 | _::_,[],_,q=>q.elim
 | e::es,p::ps,hl,q=>⟨⟨q.1.1,q.1.2.1,Rep.over himm hrows _ _ (hl p (by simp)) q.1.2.2⟩,a8_.over es ps (fun x hx=>hl x (by simp[hx])) q.2⟩
end
theorem an_.below{S:Sit}:∀(as:List AV) (xs:List Value),an_ S as xs→gz_ S.rows.length as
 | [],_,_=>trivial
 | a::as,xs,r=>by
  simp only[an_]at r;obtain⟨v,q,_,r1,r2⟩:=r;exact⟨Rep.below a v r1,an_.below as q r2⟩
theorem aj_.below{S:Sit}:∀(es:List (List AV)) (xs:List Value),aj_ S es xs→∀e∈es,gz_ S.rows.length e
 | [],_,_,e,he=>by cases he
 | d::es,xs,r,e,he=>by
  simp only[aj_]at r
  rcases mem_cons.1 he with q|q
  ·subst q;exact an_.below _ _ r.1
  ·exact aj_.below es _ r.2 e q
theorem a8_.below{S:Sit}:∀(es:List MapEntry) (ps:List (Int×Nat×AV)),a8_ S es ps→∀p∈ps,p.2.2.lows S.rows.length
 | [],[],_,p,hp=>by cases hp
 | [],_::_,q,_,_=>q.elim
 | _::_,[],q,_,_=>q.elim
 | e::es,p::ps,q,x,hx=>by
  rcases mem_cons.1 hx with k|k
  ·subst k;exact Rep.below _ _ q.1.2.2
  ·exact a8_.below es ps q.2 x k
theorem ax_.over{S S0 S':Sit}{w w0:World}{b k k0:Nat}{i i0:bV_}{r:Row}(himm:∀k c,S.imm k=some c→S'.imm k=some c)(hrows:∀l,l<b→S'.rows[l]?=S.rows[l]?)(hb:S0.rows.length=b)
 (h0:ax_ S0 w0 k0 i0 r) (h:ax_ S w k i r):ax_ S' w k i r:=by
 have h1:=h0
 unfold ax_ at h h1⊢
 split at h
 ·rename_i E hE
  rw[hE]at h1
  obtain⟨c,j1,j2,j3⟩:=h
  obtain⟨_,_,p2,_⟩:=h1
  exact⟨c,j1,aj_.over himm hrows _ _ (by rw[←hb];exact aj_.below _ _ p2) j2,j3⟩
 ·exact h
 ·rename_i E hE
  rw[hE]at h1
  obtain⟨⟨c,j1,j2,j3⟩,j4⟩:=h
  obtain⟨⟨_,_,p2,_⟩,_⟩:=h1
  exact⟨⟨c,j1,aj_.over himm hrows _ _ (by rw[←hb];exact aj_.below _ _ p2) j2,j3⟩,j4⟩
 ·rename_i E hE
  rw[hE]at h1
  obtain⟨c,fr,j1,j2,j3⟩:=h
  obtain⟨_,_,_,p2,_⟩:=h1
  exact⟨c,fr,j1,aj_.over himm hrows _ _ (by rw[←hb];exact aj_.below _ _ p2) j2,j3⟩
 ·rename_i ents ck hE
  rw[hE]at h1
  obtain⟨j1,j2,arr,j3,j4⟩:=h
  obtain⟨_,_,_,_,p4⟩:=h1
  exact⟨j1,j2,arr,j3,a8_.over himm hrows _ _ (by rw[←hb];exact a8_.below _ _ p4) j4⟩
 ·exact h
 ·rename_i m0 sc sn ck hE
  rw[hE]at h1
  obtain⟨j1,j2,bm,j3,j4⟩:=h
  obtain⟨_,_,_,_,p4⟩:=h1
  exact⟨j1,j2,bm,j3,Rep.over himm hrows (.mp m0) _ (by rw[←hb];exact Rep.below _ _ p4) j4⟩
 ·exact h
end Go.AW
