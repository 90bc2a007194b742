/-
 A small program logic over abstract values, proved sound over the model: what a function's code gives for data, without worlds and cells. Nothing of any one program. No conditions.
-/
import Derived.Test.YtlcmlgihlojdmaaGreatDoorAwA
import Derived.Calls
import Derived.Orders
import Derived.Deep.LoopGhost
import Derived.Laws.Cells
import Derived.Laws.CopyRow
import Derived.Laws.AppendOwn
import Derived.Laws.MakeOwn
import Derived.Laws.Entries
import Derived.ChangeKeysEq
import Derived.Lib.ItoaNum
import Derived.Laws.IdiomStrings
import Derived.Laws.StructEq
import Derived.Lib.Overlaps
import Derived.Below
import Derived.Lib.AppendZerosOnto
import Derived.Maps.RangeRun
import Derived.Laws.Strings
import GoSem.ClaimChange
import Derived.ChangeArms
import Derived.Attr
set_option linter.unusedVariables false
set_option linter.unusedSimpArgs false
set_option linter.unusedSectionVars false
namespace Go.AW
open List
open Go.RowKit (Below)
open Go.ChangeMaps (setBlock)
open Go.RowKit
section
variable {P : Program} {S : Sit} {h : List Row} {w : World} {N : Nat} {t : Nat → AV} {a : Act} {o : Oper} {K : AV → List Row → Prop} {next : Act → World → Prop} {Q : Exit → Act → World → Prop}
theorem c6_{sz:Nat}{es es':List (List AV)}{vs vs':List Value}(h1:∀e∈es,e.length=sz)(h2:∀e∈es',e.length=sz)(hl:vs.length=es.length * sz)(r1:aj_ S es vs)(r2:aj_ S es' vs') :
 aj_ S (es++es') (vs++vs'):=by
 have h12:∀e∈es++es',e.length=sz:=by
  intro e he
  rcases mem_append.1 he with q|q
  ·exact h1 e q
  ·exact h2 e q
 refine(bi_ h12).2 fun i e he j c hc=>?_
 by_cases hi:i<es.length
 ·rw[getElem?_append_left hi]at he
  obtain⟨v,hv,r⟩:=(bi_ h1).1 r1 i e he j c hc
  refine⟨v,?_,r⟩
  have hlt:i * sz+j<vs.length:=by
   rcases List.getElem?_eq_some_iff.1 hv with ⟨q,_⟩;exact q
  rw[getElem?_append_left hlt];exact hv
 ·rw[getElem?_append_right (by omega)]at he
  obtain⟨v,hv,r⟩:=(bi_ h2).1 r2 _ e he j c hc
  refine⟨v,?_,r⟩
  have hge:es.length * sz≤i * sz:=Nat.mul_le_mul_right _ (by omega)
  rw[getElem?_append_right (by omega),hl,←hv]
  congr 1
  rw[Nat.sub_mul];omega
theorem cp_{sz n:Nat}{es:List (List AV)}{vs:List Value}(h1:∀e∈es,e.length=sz)(r1:aj_ S es vs)(hn:es.length * sz≤n):aj_ S es (vs.take n):=by
 refine(bi_ h1).2 fun i e he j c hc=>?_
 obtain⟨v,hv,r⟩:=(bi_ h1).1 r1 i e he j c hc
 refine⟨v,?_,r⟩
 have hi:i<es.length:=by rcases List.getElem?_eq_some_iff.1 he with ⟨q,_⟩;exact q
 have hj:j<sz:=by
  have:=h1 e (mem_of_getElem? he)
  rcases List.getElem?_eq_some_iff.1 hc with ⟨q,_⟩;omega
 have:(i+1) * sz≤es.length * sz:=Nat.mul_le_mul_right _ hi
 rw[Nat.add_mul]at this
 rw[getElem?_take,if_pos (by omega)];exact hv
theorem es_{es:List (List AV)}{vs:List Value}(rest:List Value){sz:Nat}(h1:∀e∈es,e.length=sz)(r1:aj_ S es vs):aj_ S es (vs++rest):=by
 refine(bi_ h1).2 fun i e he j c hc=>?_
 obtain⟨v,hv,r⟩:=(bi_ h1).1 r1 i e he j c hc
 refine⟨v,?_,r⟩
 have hlt:i * sz+j<vs.length:=by
  rcases List.getElem?_eq_some_iff.1 hv with ⟨q,_⟩;exact q
 rw[getElem?_append_left hlt];exact hv
theorem in_{sz:Nat}:∀{es:List (List AV)} {vs:List Value},(∀e∈es,e.length=sz)→(∀e∈es,e.all AV.cell=true)→aj_ S es vs→∀v∈vs.take (es.length * sz),v.oneCell'=true:=by
 intro es vs h1 h2 r v hv
 obtain⟨p,hp⟩:=mem_iff_getElem?.1 hv
 rw[getElem?_take]at hp
 split at hp
 ·rename_i hlt
  have hsz:0<sz:=by
   rcases Nat.eq_zero_or_pos sz with q|q
   ·subst q;simp at hlt
   ·exact q
  have hi:p / sz<es.length:=(Nat.div_lt_iff_lt_mul hsz).2 hlt
  have he:=getElem?_eq_getElem hi
  have hel:=h1 es[p / sz] (getElem_mem hi)
  have hj:p % sz<es[p / sz].length:=by rw[hel];exact Nat.mod_lt _ hsz
  obtain⟨u,hu,ru⟩:=(bi_ h1).1 r (p / sz) _ he (p % sz) _ (getElem?_eq_getElem hj)
  have:p / sz * sz+p % sz=p:=by rw[Nat.mul_comm];exact Nat.div_add_mod p sz
  rw[this,hp]at hu
  simp at hu;subst hu
  have hc:=h2 es[p / sz] (getElem_mem hi)
  rw[all_eq_true]at hc
  exact ll_ (hc _ (getElem_mem hj)) ru
 ·simp at hp
theorem ab_.grow{w':World}(m:ab_ S h w){l:Nat}{i:bV_}{r:Row}{b cap:Nat}{E:TypeId}{c':Array Value}{es':List (List AV)}(hE:r.E=.ty E∨r.E=.byt E)
 (h1:S.rows[l]?=some i) (h2:h[l]?=some r) (hlen:∀e∈es',e.length=r.sz) (hes:r.es.length<es'.length) (hrep:aj_ S es' c'.toList) (hsize:c'.size=cap * r.sz) (hcap:es'.length≤cap) (hmax:cap≤maxLen)
 (hb:i.blk=some b∨b=w.heap.size) (hnew:∃fr,w'.heap[b]?=some (.cells c' E fr)∧frT r.E c' fr) (hold:∀k,k<w.heap.size→k≠b→w'.heap[k]?=w.heap[k]?) (hsz:w.heap.size≤w'.heap.size)
 (hos:w'.os=w.os) (htape:w'.tape=w.tape) (hout:w'.output=w.output) :
 ab_ { imm:=S.imm,rows:=S.rows.set l ⟨es'.length,some b,cap,r.sz⟩ } (h.set l { r with es:=es' }) w' ∧
 a0_ S w { imm:=S.imm,rows:=S.rows.set l ⟨es'.length,some b,cap,r.sz⟩ } w':=by
 obtain⟨k1,k2,k3,k4⟩:=m.rows l i r h1 h2
 have hl:l<S.rows.length:=by rcases List.getElem?_eq_some_iff.1 h1 with ⟨q,_⟩;exact q
 have hl':l<h.length:=by rcases List.getElem?_eq_some_iff.1 h2 with ⟨q,_⟩;exact q
 have himm:S.imm b=none:=by
  rcases hb with q|q
  ·exact m.ownNotImm ⟨l,i,h1,q⟩
  ·cases e:S.imm b with
   | none=>rfl
   | some d=>have:=m.immLt e;omega
 have hle:S.le { imm:=S.imm,rows:=S.rows.set l ⟨es'.length,some b,cap,r.sz⟩ }:=by
  refine⟨fun _ _ q=>q,fun k j q=>?_⟩
  by_cases e:l=k
  ·subst e
   rw[h1]at q;simp at q;subst q
   exact⟨⟨es'.length,some b,cap,r.sz⟩,by simp[hl],by show i.len≤es'.length;omega,fun q=>by replace q:es'.length=i.len:=q;omega⟩
  ·exact⟨j,by simp[e];exact q,Nat.le_refl _,fun _=>rfl⟩
 have hne:∀(k:Nat) (j:bV_) (b':Nat),l≠k→S.rows[k]?=some j→j.blk=some b'→b'≠b:=by
  intro k j b' hk q1 q2 e
  subst e
  rcases hb with q|q
  ·exact hk (m.one l k i j b' h1 q1 q q2)
  ·have:=m.ownLt ⟨k,j,q1,q2⟩;omega
 refine⟨⟨fun x y q=>?_,by simp[m.len],fun l' i' r' q1 q2=>?_,fun l1 l2 i1 i2 b' q1 q2 q3 q4=>?_⟩,⟨hle,hos,htape,hout,hsz,fun x hx ho=>?_,fun x q=>?_,fun _ _ q=>.inl q⟩⟩
 ·have:x≠b:=fun e=>by subst e;rw[himm]at q;cases q
  rw[hold x (m.immLt q) this];exact m.imm x y q
 ·by_cases e:l=l'
  ·subst e
   simp[hl']at q2
   subst q2
   simp[hl]at q1;subst q1
   refine⟨rfl,rfl,hlen,himm,?_⟩
   obtain⟨fr,hnew,hfr⟩:=hnew
   rcases hE with hE|hE
   ·rw[ax_.ty (r:={ r with es:=es' }) hE]
    rw[hE]at hfr
    obtain rfl:fr=(0,0):=hfr
    exact⟨c',hnew,aj_.up hle _ _ hrep,hsize,hcap,hmax⟩
   ·rw[ax_.byt (r:={ r with es:=es' }) hE]
    rw[hE]at hfr
    exact⟨c',fr,⟨hnew,hfr⟩,aj_.up hle _ _ hrep,hsize,hcap,hmax⟩
  ·simp[e]at q1 q2
   obtain⟨n1,n2,n3,n4⟩:=m.rows l' i' r' q1 q2
   refine⟨n1,n2,n3,?_⟩
   cases hb':i'.blk with
   | none=>rw[hb']at n4;exact n4
   | some b' =>
    rw[hb']at n4
    exact⟨n4.1,n4.2.le hle (hold b' (m.ownLt ⟨l',i',q1,hb'⟩) (hne l' i' b' e q1 hb'))⟩
 ·by_cases e1:l=l1<;>by_cases e2:l=l2
  ·omega
  ·subst e1
   simp[hl]at q1;subst q1
   simp[e2]at q2
   simp at q3;subst q3
   exact absurd rfl (hne l2 i2 b e2 q2 q4)
  ·subst e2
   simp[hl]at q2;subst q2
   simp[e1]at q1
   simp at q4;subst q4
   exact absurd rfl (hne l1 i1 b e1 q1 q3)
  ·simp[e1]at q1;simp[e2]at q2
   exact m.one l1 l2 i1 i2 b' q1 q2 q3 q4
 ·refine hold x hx fun e=>?_
  rcases hb with q|q
  ·exact ho ⟨l,i,h1,by rw[q,e]⟩
  ·omega
 ·obtain⟨k,j,q1,q2⟩:=q
  by_cases e:l=k
  ·subst e
   simp[hl]at q1;subst q1
   simp at q2;subst q2
   rcases hb with q|q
   ·exact .inl ⟨l,i,h1,q⟩
   ·exact .inr (by omega)
  ·simp[e]at q1
   exact .inl ⟨k,j,q1,q2⟩
theorem jF_{l n b cap sz:Nat}{i:bV_}(hl:S.rows[l]?=some i):Rep { imm:=S.imm,rows:=S.rows.set l ⟨n,some b,cap,sz⟩ } (.own l n) (.slice (some ⟨b,0,none⟩) n cap):=by
 have hl':l<S.rows.length:=by rcases List.getElem?_eq_some_iff.1 hl with ⟨q,_⟩;exact q
 simp only[Rep]
 exact⟨⟨_,_,_,rfl⟩,⟨n,some b,cap,sz⟩,by simp[hl'],Nat.le_refl _,fun _=>by simp[sliceAt]⟩
theorem fo_{c:Call}{x y:Operand}{ty:TypeId}(hop:o.op=.call c)(hc:c.callee=.builtin .append)(ha:c.args=#[x,y])(ht:c.argTypes=#[ty,ty]) :
 (execOp a.eval o).run P w=((Builtin.append_ #[ty,ty] o.type #[a.eval x,a.eval y]).run P w).andThen fun v w'=>.ok (.value v) w':=by
 simp[execOp,hop,resolve,hc,ha,ht,invoke,builtin]
theorem lF_{ty u e:TypeId}{i:TypeInfo}(hu:P.underlying ty=some (.slice e))(hi:P.info? e=some i){b:Option Addr}{n cap k:Nat}{y:Value}(hle:n≤cap)(hy:∃p,y=.slice p 0 k) :
 (Builtin.append_ #[ty,ty] u #[.slice b n cap,y]).run P w=.ok (.slice b n cap) w:=by
 obtain⟨p,e1⟩:=hy
 subst e1
 cases p<;>cases b<;>simp[Builtin.append_,run_underlying hu,b9_ hi,Builtin.lenOf,hle,Builtin.firstCells,storeCells,loadCells,loadCellsFrom]
theorem hy_{sz p:Nat}{es es2:List (List AV)}{vs ns:List Value}(hl:∀e∈es,e.length=sz)(r:aj_ S es vs)(hv:es.length * sz≤vs.length)(h2:∀e∈es2,e.length=sz)(r2:aj_ S es2 ns)(hn:ns.length=es2.length * sz)(hp:p+es2.length≤es.length) :
 aj_ S (es.take p++es2++es.drop (p+es2.length)) (vs.take (p * sz)++ns++vs.drop (p * sz+ns.length)):=by
 have hps:p * sz≤vs.length:=Nat.le_trans (Nat.mul_le_mul_right _ (by omega)) hv
 have h1:aj_ S (es.take p) (vs.take (p * sz)):=cp_ (fun e he=>hl e (mem_of_mem_take he)) (aj_.take r) (by rw[length_take];exact Nat.mul_le_mul_right _ (Nat.min_le_left _ _))
 have hpl:(es.take p).length=p:=by simp;omega
 have h3:aj_ S (es.drop (p+es2.length)) (vs.drop (p * sz+ns.length)):=by
  have:=aj_.drop (k:=p+es2.length) r hl
  rw[hn,←Nat.add_mul];exact this
 have h12:=c6_ (sz:=sz) (fun e he=>hl e (mem_of_mem_take he)) h2 (by rw[hpl];simp;omega) h1 r2
 refine c6_ (sz:=sz) ?_ (fun e he=>hl e (mem_of_mem_drop he)) ?_ h12 h3
 ·intro e he
  rcases mem_append.1 he with q|q
  ·exact hl e (mem_of_mem_take q)
  ·exact h2 e q
 ·simp only[List.length_append,hn,hpl,Nat.add_mul,length_take];omega
theorem jC_{c:Call}{x y:Operand}{ty e:TypeId}{i:TypeInfo}{z:Value}{l n m:Nat}{es:List (List AV)}{r:Row}{inf:bV_}(hop:o.op=.call c)(hc:c.callee=.builtin .append)(ha:c.args=#[x,y])(ht:c.argTypes=#[ty,ty])
 (hu:P.underlying ty=some (.slice e)) (hi:P.info? e=some i) (hz:i.zero=some z) (hzs:i.size=z.cells.size) (hpos:0<i.size) (hm:ab_ S h w) (hr:Rel S N t a) (hx:ag_ N x=true) (hy:ag_ N y=true)
 (e2:dy_ h i.size (ah_ t y)=some es) (e3:h[l]?=some r) (p1:S.rows[l]?=some inf) (g1:r.es.length=n) (g2:r.E=.ty e) (g3:r.sz=i.size) (hmn:m≤n) (g4:(m+es.length) * i.bytes≤140737488355328) (g5:m+es.length≤9223372036854775807)
 (g6:∀e∈es,e.all AV.cell=true)
 (hxv:(inf.blk=none∧∃p,a.eval x=.slice p 0 0)∨∃b off,inf.blk=some b∧a.eval x=.slice (some ⟨b,off,none⟩) m inf.cap∧(0<inf.cap→off=0))
 (k0:es=[]→K (ah_ t x) h) (k1':es≠[]→m+es.length≤n→K (.sub l n 0 (m+es.length)) (h.set l { r with es:=r.es.take m++es++r.es.drop (m+es.length) }))
 (k2':n<m+es.length→K (.own l (m+es.length)) (h.set l { r with es:=r.es.take m++es })) (hh:bI_ S w a o K next):o.wp P a w next Q:=by
 obtain⟨k1,k2,k3,k4⟩:=hm.rows l inf r p1 e3
 obtain⟨hel,hsrc⟩:=ej_ hm e2 (hr.eval hy)
 have hexec:=fo_ (P:=P) (a:=a) (o:=o) (w:=w) hop hc ha ht
 have hin:inf.len=n:=by omega
 by_cases hemp:es=[]
 ·have hyv:∃p k,a.eval y=.slice p 0 k:=by
   rcases hsrc with ⟨_,p0,c0,q⟩|⟨b,off,cap,cc,E,fr,q,_⟩
   ·exact⟨p0,c0,q⟩
   ·exact⟨_,cap,by simpa[hemp]using q⟩
  have hrun:(execOp a.eval o).run P w=.ok (.value (a.eval x)) w:=by
   rw[hexec]
   have hsl:∃b m cap,a.eval x=.slice b m cap∧m≤cap:=by
    rcases hxv with ⟨_,p,q⟩|⟨b,off,hb,q,_⟩
    ·exact⟨p,0,0,q,Nat.le_refl _⟩
    ·rw[hb]at k4
     obtain⟨_,_,_,_,_,_,j5,_⟩:=k4.2.cells (.inr (by omega))
     exact⟨_,_,_,q,by omega⟩
   obtain⟨b,m,cap,q1,q2⟩:=hsl
   obtain⟨p,k,q⟩:=hyv
   rw[q1,q,lF_ (k:=k) hu hi q2 ⟨p,rfl⟩];rfl
  exact a2_ hrun (hh _ _ S _ _ (a0_.refl _ _) hm (hr.eval hx) (k0 hemp))
 ·have hcnt:0<es.length:=length_pos_iff.2 hemp
  rcases hsrc with ⟨q,_⟩|⟨sb,soff,scap,sc,sE,sfr,y1,y2,y3,y4⟩
  ·exact absurd q hemp
  ·have hnl:((sc.toList.drop soff).take (es.length * i.size)).length=es.length * i.size:=by simp;omega
   have hnews:∀j u,((sc.toList.drop soff).take (es.length * i.size))[j]?=some u→w.cell? ((⟨sb,soff,none⟩:Addr).add j)=some u:=by
    intro j u hj
    rw[getElem?_take]at hj
    split at hj
    ·rw[b1_]
     have:sc[soff+j]?=some u:=by simpa using hj
     simp[World.cell?,y2,this]
    ·simp at hj
   have hone:=in_ hel g6 y4
   have hrn:=cp_ hel y4 (Nat.le_refl _)
   have hT:∀d∈r.es.take m,d.length=r.sz:=fun d hd=>k3 d (mem_of_mem_take hd)
   have hTl:(r.es.take m).length=m:=by simp;omega
   have hh1:∀d∈r.es.take m++es,d.length=r.sz:=by
    intro d hd
    rcases mem_append.1 hd with q|q
    ·exact hT d q
    ·rw[g3];exact hel d q
   have hlen':(r.es.take m++es).length=m+es.length:=by rw[List.length_append,hTl]
   have grown:∀(olds:List Value) (old:Nat),n<m+es.length→old<m+es.length→olds.length=m * i.size→aj_ S (r.es.take m) olds →
    (execOp a.eval o).run P w=.ok (.value (.slice (some ⟨w.heap.size,0,none⟩) (m+es.length) (grownCap w (m+es.length) old e)))
     (w.drew.alloc (.cells (olds.toArray++((sc.toList.drop soff).take (es.length * i.size)).toArray++Builtin.zeroCells z.cells (grownCap w (m+es.length) old e-(m+es.length))) e)) →
    o.wp P a w next Q:=by
    intro olds old hgr ho hol hor hrun
    have hge:=grownCap_ge w (m+es.length) old e
    have hcm:=grownCap_le_maxLen w (m+es.length) old e (by simp[maxLen];omega)
    have hoz:olds.length=(r.es.take m).length * r.sz:=by rw[hol,hTl,g3]
    have hg:=ab_.grow (w':=w.drew.alloc (.cells (olds.toArray++((sc.toList.drop soff).take (es.length * i.size)).toArray++Builtin.zeroCells z.cells (grownCap w (m+es.length) old e-(m+es.length))) e)) hm (.inl g2) p1 e3 (es':=r.es.take m++es)
     (b:=w.heap.size) (cap:=grownCap w (m+es.length) old e) (c':=olds.toArray++((sc.toList.drop soff).take (es.length * i.size)).toArray++Builtin.zeroCells z.cells (grownCap w (m+es.length) old e-(m+es.length)))
     hh1 (by rw[hlen'];omega)
     (by
       have:=es_ (Builtin.zeroCells z.cells (grownCap w (m+es.length) old e-(m+es.length))).toList hh1 (c6_ (sz:=r.sz) hT (by rw[g3];exact hel) hoz hor hrn)
       simpa using this)
     (by
       simp only[Array.size_append,size_toArray,size_zeroCells,←hzs,hol,hnl,←Nat.add_mul,g3]
       congr 1
       omega)
     (by rw[hlen'];omega) hcm (.inr rfl) ⟨(0,0),heap_alloc_new w.drew _,.zero _ _⟩ (fun q hq _=>tQ_ w.drew _ q hq) (by simp) rfl rfl rfl
    rw[hlen']at hg
    exact a2_ hrun (hh _ _ _ _ _ hg.2 hg.1 (jF_ p1) (k2' hgr))
   rcases hxv with ⟨hb,p,hxv⟩|⟨b,off,hb,hxv,hoff⟩
   ·rw[hb]at k4
    have hn0:n=0:=by rw[←g1,k4.1];rfl
    have hm0:m=0:=by omega
    subst hn0 hm0
    refine grown [] 0 (by omega) (by omega) (by simp) (by simp[aj_]) ?_
    cases p with
    | none =>
     have hrn0:=run_append_nil (P:=P) w ty o.type e i z hu hi hz ⟨sb,soff,none⟩ es.length scap _ hnl hnews hcnt (by omega) (by simp at g4;omega)
     rw[hexec,hxv,y1,hrn0]
     simp
    | some ad =>
     have hr2:=run_append_grow (P:=P) w ty o.type e i z hu hi hz ad 0 0 [] (by simp) (by simp) ⟨sb,soff,none⟩ es.length scap _ hnl hnews (by omega) (by omega) (growslice_fits (by omega) g4)
     rw[hexec,hxv,y1,hr2];rfl
   ·rw[hb]at k4
    obtain⟨E',cc,hE',⟨fr,j2,hfr⟩,j3,j4,j5,j6⟩:=k4.2.cells (.inr (by omega))
    have hEe:E'=e:=by
     rw[g2]at hE'
     rcases hE' with (q|q)|⟨q,_⟩
     ·injection q with q;exact q.symm
     ·cases q
     ·cases q
    subst hEe
    rw[g2]at hfr
    obtain rfl:fr=(0,0):=hfr
    have hcs:cc.size=inf.cap * i.size:=by rw[j4,k2,g3]
    have hsize2:m * i.size≤cc.size:=by rw[hcs];exact Nat.mul_le_mul_right _ (by omega)
    have h3:aj_ S (r.es.take m) (cc.toList.take (m * i.size)):=cp_ hT (aj_.take j3) (by rw[hTl,g3];omega)
    by_cases hroom:m+es.length≤inf.cap
    ·rw[hoff (by omega)]at hxv
     have hfit:m * i.size+((sc.toList.drop soff).take (es.length * i.size)).length≤cc.size:=by
      rw[hnl,hcs,←Nat.add_mul];exact Nat.mul_le_mul_right _ hroom
     have hr2:=run_append_room (P:=P) w ty o.type E' i hu hi b m inf.cap cc j2 ⟨sb,soff,none⟩ es.length scap _ hnl hnews hone hroom hfit
     have hcsz:(cc.toList.take (m * i.size)++(sc.toList.drop soff).take (es.length * i.size)++cc.toList.drop (m * i.size+((sc.toList.drop soff).take (es.length * i.size)).length)).toArray.size=cc.size:=by
      simp only[size_toArray,List.length_append,length_drop,Array.length_toList,length_take]at hfit⊢
      omega
     by_cases hin2:m+es.length≤n
     ·have hsp:=hy_ (p:=m) (es2:=es) k3 j3 (by simp only[Array.length_toList];rw[j4,←k1,k2];exact Nat.mul_le_mul_right _ j5) (by rw[g3];exact hel) hrn (by rw[hnl,g3]) (by omega)
      rw[g3]at hsp
      have hg:=ab_.set (w':=w.setRow b (cc.toList.take (m * i.size)++(sc.toList.drop soff).take (es.length * i.size)++cc.toList.drop (m * i.size+((sc.toList.drop soff).take (es.length * i.size)).length)).toArray) hm (.inl (.inl g2)) p1 e3 hb
       (es':=r.es.take m++es++r.es.drop (m+es.length)) (c':=(cc.toList.take (m * i.size)++(sc.toList.drop soff).take (es.length * i.size)++cc.toList.drop (m * i.size+((sc.toList.drop soff).take (es.length * i.size)).length)).toArray)
       (by rw[List.length_append,hlen',length_drop];omega) (by simpa using hsp)
       (by
         intro d hd
         rcases mem_append.1 hd with q|q
         ·exact hh1 d q
         ·exact k3 d (mem_of_mem_drop q))
       (by rw[hcsz,j4]) ⟨(0,0),setRow_heap w b cc _ E' _ j2,.zero _ _⟩ (fun q hq=>setRow_other w b q _ hq) (setRow_size _ _ _) rfl rfl rfl
      refine a2_ (v:=.slice (some ⟨b,0,none⟩) (m+es.length) inf.cap) ?_ (hh _ _ _ _ _ hg.2 hg.1 ?_ (k1' hemp hin2))
      ·rw[hexec,hxv,y1,hr2];rfl
      ·simp only[Rep]
       exact⟨⟨_,_,_,rfl⟩,inf,p1,by omega,fun _=>⟨Nat.zero_le _,by omega,.inr ⟨b,0,hb,by simp,fun _=>by simp⟩⟩⟩
     ·have hg:=ab_.grow (w':=w.setRow b (cc.toList.take (m * i.size)++(sc.toList.drop soff).take (es.length * i.size)++cc.toList.drop (m * i.size+((sc.toList.drop soff).take (es.length * i.size)).length)).toArray) hm (.inl g2) p1 e3 (es':=r.es.take m++es)
       (b:=b) (cap:=inf.cap) (c':=(cc.toList.take (m * i.size)++(sc.toList.drop soff).take (es.length * i.size)++cc.toList.drop (m * i.size+((sc.toList.drop soff).take (es.length * i.size)).length)).toArray)
       hh1 (by rw[hlen'];omega)
       (by
         have:=es_ (cc.toList.drop (m * i.size+((sc.toList.drop soff).take (es.length * i.size)).length)) hh1 (c6_ (sz:=r.sz) hT (by rw[g3];exact hel) (by rw[hTl,g3];simp;omega) h3 hrn)
         simpa using this)
       (by rw[hcsz,j4,k2])
       (by rw[hlen'];omega) j6 (.inl hb) ⟨(0,0),setRow_heap w b cc _ E' _ j2,.zero _ _⟩ (fun q _ hq=>setRow_other w b q _ hq) (by simp) rfl rfl rfl
      rw[hlen']at hg
      refine a2_ (v:=.slice (some ⟨b,0,none⟩) (m+es.length) inf.cap) ?_ (hh _ _ _ _ _ hg.2 hg.1 (jF_ p1) (k2' (by omega)))
      rw[hexec,hxv,y1,hr2];rfl
    ·have hol:(cc.toList.take (m * i.size)).length=m * i.size:=by simp;omega
     have holds:∀j u,(cc.toList.take (m * i.size))[j]?=some u→w.cell? ((⟨b,off,none⟩:Addr).add j)=some u:=by
      intro j u hj
      rw[getElem?_take]at hj
      split at hj
      ·rename_i hjm
       have hm0:0<m:=by
        rcases Nat.eq_zero_or_pos m with q|q
        ·subst q;simp at hjm
        ·exact q
       rw[b1_,hoff (by omega)]
       have:cc[j]?=some u:=by simpa using hj
       simp[World.cell?,j2,this]
      ·simp at hj
     have hr2:=run_append_grow (P:=P) w ty o.type E' i z hu hi hz ⟨b,off,none⟩ m inf.cap _ hol holds ⟨sb,soff,none⟩ es.length scap _ hnl hnews (by omega) (by omega) (growslice_fits (by omega) g4)
     refine grown (cc.toList.take (m * i.size)) inf.cap (by omega) (by omega) hol h3 ?_
     rw[hexec,hxv,y1,hr2];rfl
theorem jb_{l:Nat}{r:Row}(e3:h[l]?=some r):h.set l { r with es:=r.es }=h:=by
 apply ext_getElem?
 intro q
 rw[getElem?_set]
 split
 ·rename_i e;subst e
  split
  ·rw[e3]
  ·rename_i hlt;rw[getElem?_eq_none (by omega)]
 ·rfl
theorem oK_{c:Call}{x y:Operand}{ty e:TypeId}{i:TypeInfo}{z:Value}{l n:Nat}{es:List (List AV)}{r:Row}(hop:o.op=.call c)(hc:c.callee=.builtin .append)(ha:c.args=#[x,y])(ht:c.argTypes=#[ty,ty])
 (hu:P.underlying ty=some (.slice e)) (hi:P.info? e=some i) (hz:i.zero=some z) (hzs:i.size=z.cells.size) (hpos:0<i.size) (hm:ab_ S h w) (hr:Rel S N t a) (hx:ag_ N x=true) (hy:ag_ N y=true)
 (e1:ah_ t x=.own l n) (e2:dy_ h i.size (ah_ t y)=some es) (e3:h[l]?=some r) (g1:r.es.length=n) (g2:r.E=.ty e) (g3:r.sz=i.size) (g4:(n+es.length) * i.bytes≤140737488355328) (g5:n+es.length≤9223372036854775807)
 (g6:∀e∈es,e.all AV.cell=true) (hk:K (.own l (n+es.length)) (h.set l { r with es:=r.es++es })) (hh:bI_ S w a o K next):o.wp P a w next Q:=by
 have rx:=hr.eval hx
 rw[e1]at rx
 simp only[Rep]at rx
 obtain⟨_,inf,p1,p2,p3⟩:=rx
 obtain⟨k1,k2,k3,k4⟩:=hm.rows l inf r p1 e3
 have hxv:=p3 (by omega)
 have hT:r.es.take n=r.es:=take_of_length_le (by omega)
 refine jC_ (m:=n) hop hc ha ht hu hi hz hzs hpos hm hr hx hy e2 e3 p1 g1 g2 g3 (Nat.le_refl _) g4 g5 g6 ?_ ?_ ?_ ?_ hh
 ·rcases hxv with q|q
  ·cases hb:inf.blk with
   | none=>exact .inl ⟨rfl,none,by simpa[sliceAt,hb]using q⟩
   | some b =>
    refine .inr ⟨b,0,rfl,?_,fun _=>rfl⟩
    rw[q];simp only[sliceAt,hb]
    rw[show inf.len=n by omega]
  ·exact .inl q
 ·intro he
  subst he
  rw[e1]
  have:=jb_ e3
  simpa[this]using hk
 ·intro he hle
  exact absurd (length_pos_iff.2 he) (by omega)
 ·intro _
  rw[hT];exact hk
theorem oO_{c:Call}{x y:Operand}{ty e:TypeId}{i:TypeInfo}{z:Value}{l n m:Nat}{es:List (List AV)}{r:Row}(hop:o.op=.call c)(hc:c.callee=.builtin .append)(ha:c.args=#[x,y])(ht:c.argTypes=#[ty,ty])
 (hu:P.underlying ty=some (.slice e)) (hi:P.info? e=some i) (hz:i.zero=some z) (hzs:i.size=z.cells.size) (hpos:0<i.size) (hm:ab_ S h w) (hr:Rel S N t a) (hx:ag_ N x=true) (hy:ag_ N y=true)
 (e1:ah_ t x=.sub l n 0 m) (e2:dy_ h i.size (ah_ t y)=some es) (e3:h[l]?=some r) (g1:r.es.length=n) (g2:r.E=.ty e) (g3:r.sz=i.size) (hmn:m≤n) (g4:(m+es.length) * i.bytes≤140737488355328) (g5:m+es.length≤9223372036854775807)
 (g6:∀e∈es,e.all AV.cell=true)
 (hk:if m+es.length≤n then K (.sub l n 0 (m+es.length)) (h.set l { r with es:=r.es.take m++es++r.es.drop (m+es.length) })else K (.own l (m+es.length)) (h.set l { r with es:=r.es.take m++es })) (hh:bI_ S w a o K next):o.wp P a w next Q:=by
 have rx:=hr.eval hx
 rw[e1]at rx
 simp only[Rep]at rx
 obtain⟨_,inf,p1,p2,p3⟩:=rx
 obtain⟨k1,k2,k3,k4⟩:=hm.rows l inf r p1 e3
 obtain⟨_,_,hxv⟩:=p3 (by omega)
 refine jC_ (m:=m) hop hc ha ht hu hi hz hzs hpos hm hr hx hy e2 e3 p1 g1 g2 g3 hmn g4 g5 g6 ?_ ?_ ?_ ?_ hh
 ·rcases hxv with q|⟨b,off,hb,q,hoff⟩
  ·exact .inl q
  ·exact .inr ⟨b,off,hb,by simpa using q,fun z=>by simpa using hoff z⟩
 ·intro he
  subst he
  rw[if_pos (by simpa using hmn)]at hk
  rw[e1]
  have:=jb_ e3
  simpa[this]using hk
 ·intro _ hle
  rw[if_pos hle]at hk;exact hk
 ·intro hlt
  rw[if_neg (by omega)]at hk;exact hk
end
section
variable {P : Program} {S : Sit} {h : List Row} {w : World} {N : Nat} {t : Nat → AV} {a : Act} {o : Oper} {K : AV → List Row → Prop} {next : Act → World → Prop} {Q : Exit → Act → World → Prop}
theorem wT_{c:Call}{x:Operand}{ty e:TypeId}{p:Option Addr}{n cp:Nat}(hop:o.op=.call c)(hc:c.callee=.builtin .cap)(ha:c.args=#[x])(ht:c.argTypes=#[ty])(hu:P.underlying ty=some (.slice e))(hx:a.eval x=.slice p n cp) :
 (execOp a.eval o).run P w=.ok (.value (.int .i64 cp)) w:=by
 simp[execOp,hop,resolve,hc,ha,ht,invoke,builtin,Builtin.cap_,run_underlying hu,hx,goInt]
theorem vp_{c:Call}{x:Operand}{ty e:TypeId}(hop:o.op=.call c)(hc:c.callee=.builtin .cap)(ha:c.args=#[x])(ht:c.argTypes=#[ty])(hu:P.underlying ty=some (.slice e))(hm:ab_ S h w)(hr:Rel S N t a)
 (hxo:ag_ N x=true) (hw:aX_ P t h K (.capSl x)) (hh:bI_ S w a o K next):o.wp P a w next Q:=by
 have rx:=hr.eval hxo
 have fin:∀(p:Option Addr) (n cp:Nat),a.eval x=.slice p n cp→K (.val (.int .i64 cp)) h→o.wp P a w next Q:=fun p n cp hx hk =>
  a2_ (wT_ hop hc ha ht hu hx) (hh _ _ S h w (a0_.refl _ _) hm (by simp[Rep]) hk)
 simp only[aX_]at hw
 split at hw
 ·rename_i l n q1
  rw[q1]at rx
  simp only[Rep]at rx
  obtain⟨_,i,e1,e2,e3⟩:=rx
  split at hw
  ·rename_i r q2
   obtain⟨w1,w2,w3⟩:=hw
   obtain⟨k1,k2,k3,k4⟩:=hm.rows l i r e1 q2
   have hlen:n=i.len:=by rw[k1,w1]
   rcases e3 hlen with q|⟨hb,p,q⟩
   ·unfold sliceAt at q
    cases hblk:i.blk with
    | none =>
     rw[hblk]at q k4
     have hn0:n=0:=by rw[←w1,k4.1];rfl
     exact fin _ _ _ q (w3 0 (by omega) (fun _=>hn0.symm))
    | some b =>
     rw[hblk]at q k4
     obtain⟨E,cc,hE,_,_,_,j5,_⟩:=k4.2.cells (.inr (by omega))
     refine fin _ _ _ q (w3 _ (by omega) fun hf=>?_)
     rcases hE with (hE|hE)|⟨hE,hcap⟩
     ·rw[hE]at hf;cases hf
     ·rw[hE]at hf;cases hf
     ·omega
   ·rw[hb]at k4
    have hn0:n=0:=by rw[←w1,k4.1];rfl
    exact fin _ _ _ q (w3 0 (by omega) (fun _=>hn0.symm))
  ·exact hw.elim
 ·rename_i l n lo hi q1
  rw[q1]at rx
  simp only[Rep]at rx
  obtain⟨_,i,e1,e2,e3⟩:=rx
  split at hw
  ·rename_i r q2
   obtain⟨w1,w2,w3⟩:=hw
   obtain⟨k1,k2,k3,k4⟩:=hm.rows l i r e1 q2
   have hlen:n=i.len:=by rw[k1,w1]
   obtain⟨g1,g2,g3⟩:=e3 hlen
   rcases g3 with ⟨hb,p,q⟩|⟨b,off,hb,q,_⟩
   ·rw[hb]at k4
    have hn0:n=0:=by rw[←w1,k4.1];rfl
    exact fin _ _ _ q (w3 0 (by omega) (fun _=>by omega))
   ·rw[hb]at k4
    obtain⟨E,cc,hE,_,_,_,j5,_⟩:=k4.2.cells (.inr (by omega))
    refine fin _ _ _ q (w3 _ (by omega) fun hf=>?_)
    rcases hE with (hE|hE)|⟨hE,hcap⟩
    ·rw[hE]at hf;cases hf
    ·rw[hE]at hf;cases hf
    ·omega
  ·exact hw.elim
 ·exact hw.elim
theorem qs_(w:World)(dT sT ty elem:TypeId){i:TypeInfo}(b off:Nat)(cur:Array Value)(tt:TypeId)(dLen dCap:Nat){src:Addr}{n sc:Nat}(cs:List Value)
 (hu:P.underlying dT=some (.slice elem)) (hi:P.info? elem=some i) (hn:cs.length=Nat.min n dLen * i.size) (hsrc:∀j v,cs[j]?=some v→w.cell? (src.add j)=some v)
 {fr:Nat×Nat} (hb:w.heap[b]?=some (.cells cur tt fr)) (hfr:∀k,k<cur.size→¬ (fr.1≤k∧k<fr.2)) (hbound:off+cs.length≤cur.size) (h1:∀v∈cs,v.oneCell'=true) :
 (Builtin.copy_ #[dT,sT] ty #[.slice (some ⟨b,off,none⟩) dLen dCap,.slice (some src) n sc]).run P w=.ok (goInt (Nat.min n dLen)) (w.setRow b (cur.toList.take off++cs++cur.toList.drop (off+cs.length)).toArray):=by
 have hl:=run_loadCells_list (P:=P) w src cs hsrc
 have hst:=g2_ (P:=P) b off tt fr cs 0 cur w hb hfr (by simpa using hbound) h1
 simp only[Nat.add_zero]at hst
 rw[hn]at hl
 simp[Builtin.copy_,run_underlying hu,Builtin.lenOf,Builtin.firstCells,b9_ hi,hl,hst]
theorem oA_(w:World)(dT sT ty elem:TypeId){i:TypeInfo}(d:Option Addr)(dLen dCap:Nat){src:Option Addr}{n sc:Nat}
 (hu:P.underlying dT=some (.slice elem)) (hi:P.info? elem=some i) (hn:Nat.min n dLen=0) :
 (Builtin.copy_ #[dT,sT] ty #[.slice d dLen dCap,.slice src n sc]).run P w=.ok (goInt 0) w:=by
 have hl:∀s:Addr,(loadCells s 0).run P w=.ok #[] w:=fun s=>run_loadCells_list (P:=P) w s [] (by simp)
 cases src<;>cases d<;>simp[Builtin.copy_,run_underlying hu,Builtin.lenOf,Builtin.firstCells,b9_ hi,hn,hl,storeCells]
theorem sR_{c:Call}{x y:Operand}{ty e:TypeId}{i:TypeInfo}(hop:o.op=.call c)(hc:c.callee=.builtin .copy)(ha:c.args=#[x,y])(ht:c.argTypes=#[ty,ty])(hu:P.underlying ty=some (.slice e))(hi:P.info? e=some i)
 (hm:ab_ S h w) (hr:Rel S N t a) (hxo:ag_ N x=true) (hyo:ag_ N y=true) (hw:aX_ P t h K (.copySl i.size x y)) (hh:bI_ S w a o K next):o.wp P a w next Q:=by
 have rx:=hr.eval hxo
 have hexec:(execOp a.eval o).run P w=((Builtin.copy_ #[ty,ty] o.type #[a.eval x,a.eval y]).run P w).andThen fun v w'=>.ok (.value v) w':=by
  simp[execOp,hop,resolve,hc,ha,ht,invoke,builtin]
 simp only[aX_]at hw
 split at hw
 ·rename_i l n lo hi' es q1 q2
  rw[q1]at rx
  simp only[Rep]at rx
  obtain⟨_,inf,p1,p2,p3⟩:=rx
  obtain⟨hel,hsrc⟩:=ej_ hm q2 (hr.eval hyo)
  split at hw
  ·rename_i r e3
   obtain⟨w1,w2,g1,g3,hpos,g6,hk⟩:=hw
   obtain⟨k1,k2,k3,k4⟩:=hm.rows l inf r p1 e3
   obtain⟨_,_,hxv⟩:=p3 (by omega)
   obtain⟨m,hmm⟩:∃m,m=Nat.min es.length (hi'-lo):=⟨_,rfl⟩
   rw[←hmm]at hk
   have hm1:m≤es.length:=by rw[hmm];exact Nat.min_le_left _ _
   have hm2:m≤hi'-lo:=by rw[hmm];exact Nat.min_le_right _ _
   have hfl:(es.take (hi'-lo)).length=m:=by rw[length_take,hmm,Nat.min_comm]
   have hft:es.take (hi'-lo)=es.take m:=by
    by_cases q:es.length≤hi'-lo
    ·rw[take_of_length_le q,take_of_length_le (by rw[hmm];show es.length≤min es.length (hi'-lo);omega)]
    ·have:m=hi'-lo:=by rw[hmm];show min es.length (hi'-lo)=_;omega
     rw[this]
   by_cases h0:m=0
   ·have hnil:es.take (hi'-lo)=[]:=eq_nil_of_length_eq_zero (by omega)
    have hself:({ r with es:=r.es.take lo++es.take (hi'-lo)++r.es.drop (lo+m) }:Row)=r:=by
     rw[hnil,h0];simp
    have hsl:h.set l r=h:=jb_ e3
    rw[hself,hsl,h0]at hk
    have hys:∃sp n sc,a.eval y=.slice sp n sc∧n=es.length:=by
     rcases hsrc with ⟨q,p,c0,e1⟩|⟨b,off,cap,cc,E,fr,e1,_⟩
     ·exact⟨p,0,c0,e1,by rw[q];rfl⟩
     ·exact⟨_,_,_,e1,rfl⟩
    obtain⟨sp,sn,sc,hys,rfl⟩:=hys
    have hxs:∃dp dc,a.eval x=.slice dp (hi'-lo) dc:=by
     rcases hxv with ⟨hb,p,q⟩|⟨b,off,hb,q,_⟩
     ·rw[hb]at k4
      have hn0:n=0:=by rw[←g1,k4.1];rfl
      exact⟨p,0,by rw[q,show hi'-lo=0 by omega]⟩
     ·exact⟨_,_,q⟩
    obtain⟨dp,dc,hxs⟩:=hxs
    have hrun:(execOp a.eval o).run P w=.ok (.value (.int .i64 (0:Nat))) w:=by
     rw[hexec,hxs,hys,oA_ w ty ty o.type e dp _ _ hu hi (by rw[←hmm];exact h0)];rfl
    exact a2_ hrun (hh _ _ S h w (a0_.refl _ _) hm (by simp[Rep]) hk)
   ·rcases hsrc with ⟨q,_⟩|⟨sb,soff,scap,sc,sE,sfr,y1,y2,y3,y4⟩
    ·rw[q]at hm1;simp at hm1;omega
    ·rcases hxv with ⟨hb,_⟩|⟨b,off,hb,hxs,hoff⟩
     ·rw[hb]at k4
      have hn0:n=0:=by rw[←g1,k4.1];rfl
      omega
     ·rw[hb]at k4
      obtain⟨E',cc,hE',⟨fr,j2,hfr⟩,j3,j4,j5,j6⟩:=k4.2.cells (.inr (by omega))
      have ho:off=lo * i.size:=by rw[hoff (by omega),k2,g3]
      rw[ho]at hxs
      obtain⟨cs,hcs⟩:∃cs,cs=(sc.toList.drop soff).take (m * i.size):=⟨_,rfl⟩
      have hle:m * i.size≤es.length * i.size:=Nat.mul_le_mul_right _ hm1
      have hcl:cs.length=m * i.size:=by rw[hcs];simp;omega
      have hnews:∀j u,cs[j]?=some u→w.cell? ((⟨sb,soff,none⟩:Addr).add j)=some u:=by
       intro j u hj
       rw[hcs,getElem?_take]at hj
       split at hj
       ·rw[b1_]
        have:sc[soff+j]?=some u:=by simpa using hj
        simp[World.cell?,y2,this]
       ·simp at hj
      have hel':∀e∈es.take m,e.length=i.size:=fun d hd=>hel d (mem_of_mem_take hd)
      have hrt:aj_ S (es.take m) (sc.toList.drop soff):=aj_.take y4
      have htl:(es.take m).length=m:=by simp;omega
      have hone:∀v∈cs,v.oneCell'=true:=by
       rw[hcs]
       have:=in_ hel' (by rw[←hft];exact g6) hrt
       rwa [htl]at this
      have hrn:aj_ S (es.take m) cs:=by
       rw[hcs]
       exact cp_ hel' hrt (by rw[htl];exact Nat.le_refl _)
      have hfit:lo * i.size+cs.length≤cc.size:=by
       rw[hcl,j4,k2,g3,←Nat.add_mul];exact Nat.mul_le_mul_right _ (by omega)
      have hrun:=qs_ (P:=P) w ty ty o.type e b (lo * i.size) cc E' (hi'-lo) (inf.cap-lo) (src:=⟨sb,soff,none⟩) (n:=es.length) (sc:=scap) cs hu hi (by rw[hcl,←hmm]) hnews j2 (fun o ho=>hfr.free o ho) hfit hone
      rw[←hmm]at hrun
      have hsp:=hy_ (p:=lo) (es2:=es.take m) k3 j3 (by simp only[Array.length_toList];rw[j4,←k1,k2];exact Nat.mul_le_mul_right _ j5) (by rw[g3];exact hel') hrn (by rw[hcl,htl,g3]) (by rw[htl];omega)
      rw[g3,htl]at hsp
      have hcsz:(cc.toList.take (lo * i.size)++cs++cc.toList.drop (lo * i.size+cs.length)).toArray.size=cc.size:=by
       simp only[size_toArray,List.length_append,length_drop,Array.length_toList,length_take]at hfit⊢
       omega
      have hg:=ab_.set (w':=w.setRow b (cc.toList.take (lo * i.size)++cs++cc.toList.drop (lo * i.size+cs.length)).toArray) hm hE' p1 e3 hb
       (es':=r.es.take lo++es.take m++r.es.drop (lo+m)) (c':=(cc.toList.take (lo * i.size)++cs++cc.toList.drop (lo * i.size+cs.length)).toArray)
       (by simp only[List.length_append,length_drop,length_take];omega) (by simpa using hsp)
       (by
         intro d hd
         rcases mem_append.1 hd with q|q
         ·rcases mem_append.1 q with q|q
          ·exact k3 d (mem_of_mem_take q)
          ·rw[g3];exact hel' d q
         ·exact k3 d (mem_of_mem_drop q))
       (by rw[hcsz,j4]) ⟨fr,setRow_heap w b cc _ E' _ j2,hfr.size hcsz⟩ (fun q hq=>setRow_other w b q _ hq) (setRow_size _ _ _) rfl rfl rfl
      rw[hft]at hk
      refine a2_ (v:=.int .i64 m) ?_ (hh _ _ _ _ _ hg.2 hg.1 (by simp[Rep]) hk)
      rw[hexec,hxs,y1,hrun];rfl
  ·exact hw.elim
 ·exact hw.elim
theorem rB_{g:FuncId}(hv:oW_ P g=true):∃fn T U e i,P.funcs[g]?=some fn∧(fn.name == "runtime.NumGoroutine")=false∧fn.body.isNone=true∧Extern.findNext fn=none ∧
 Extern.find fn=some (Extern.SlicesOverlaps.overlaps #[T,T] U)∧P.underlying T=some (.slice e)∧P.info? e=some i:=by
 unfold oW_ at hv
 split at hv
 ·rename_i fn hf
  simp only[Bool.and_eq_true,Bool.not_eq_true',beq_iff_eq]at hv
  obtain⟨⟨⟨⟨⟨⟨⟨h1,h2⟩,h3⟩,h4⟩,h5⟩,h6⟩,h7⟩,h8⟩:=hv
  split at h8
  ·rename_i T U hp
   simp only[Bool.and_eq_true,beq_iff_eq]at h8
   obtain⟨rfl,h8⟩:=h8
   split at h8
   ·rename_i e hu
    obtain⟨i,hi⟩:=Option.isSome_iff_exists.1 h8
    have hpp:fn.params=#[T,T]:=by apply Array.toList_inj.1;simpa using hp
    rw[Option.isNone_iff_eq_none]at h4 h5 h6 h7
    refine⟨fn,T,fn.resultTypes,e,i,hf,h2,h1,?_,?_,hu,hi⟩
    ·unfold Extern.findNext
     simp only[h7,h3]
     rw[show Extern.allNextRows.lookup "slices.overlaps"=none by kernel_rfl];rfl
    ·unfold Extern.find
     simp only[h4,h5,h6,h3]
     rw[show Extern.allGenericRows.lookup "slices.overlaps"=none by kernel_rfl,show Extern.allTypedRows.lookup "slices.overlaps"=some Extern.SlicesOverlaps.overlaps by kernel_rfl,hpp]
     rfl
   ·simp at h8
  ·simp at h8
 ·simp at hv
theorem kC_(w:World)(tS e:TypeId)(U:Array TypeId)(ht:P.underlying tS=some (.slice e))(size:Nat)(hz:(Go.sizeOf e).run P w=.ok size w)(pa pb:Option Addr)(la ca lb cb:Nat)(h0:la=0∨lb=0) :
 (Extern.SlicesOverlaps.overlaps #[tS,tS] U #[.slice pa la ca,.slice pb lb cb]).run P w=.ok (.bool false) w:=by
 change Sem.run P (α:=Value) (do
  let some t:=(#[tS,tS]:Array TypeId)[0]?|stuck "slices.overlaps: no parameter types"
  let .slice elem ←underlying t|stuck "slices.overlaps: slice type expected"
  let size ←sizeOf elem
  match pa,pb with
  | some a,some b =>
   if la=0∨lb=0∨size=0 then pure (Value.bool false)
   else if a.block != b.block&&(←frozen a)&&(←frozen b)then unsupported .addressObserved
   else do
    if a.block != b.block then do
     noView a;noView b
     if ←mayBeOne a b then return Value.bool ((←choose (.extern "sameAddr.stringBytes" 2))==1)
    pure (Value.bool (a.block==b.block&&a.off<b.off+lb * size&&b.off<a.off+la * size))
  | _,_=>pure (Value.bool false)) w=_
 have h1:la=0∨lb=0∨size=0:=by rcases h0 with q|q<;>simp[q]
 cases pa<;>cases pb<;>simp[run_underlying ht,hz,h1]
theorem zK_{c:Call}{g:FuncId}{x y:Operand}(hop:o.op=.call c)(hc:c.callee=.value (.func g))(ha:c.args=#[x,y])(hv:oW_ P g=true)(hm:ab_ S h w)(hr:Rel S N t a)
 (hxo:ag_ N x=true) (hyo:ag_ N y=true) (hw:aX_ P t h K (.ovl x y)) (hh:bI_ S w a o K next):o.wp P a w next Q:=by
 obtain⟨fn,T,U,e,i,hf,hnm,hbd,hnx,hfd,hu,hi⟩:=rB_ hv
 have hexec:(execOp a.eval o).run P w=((Extern.SlicesOverlaps.overlaps #[T,T] U #[a.eval x,a.eval y]).run P w).andThen fun v w'=>.ok (.value v) w':=by
  have e1:(execOp a.eval o).run P w=(callFunc g #[a.eval x,a.eval y]).run P w:=by
   simp[execOp,hop,resolve,hc,ha,Act.eval,Deferred.ofValue,invoke]
  rw[e1,run_callFunc_extern hf hnm hbd hnx hfd]
 have rx:=hr.eval hxo
 have ry:=hr.eval hyo
 simp only[aX_]at hw
 split at hw
 ·rename_i l n l' n' lo hi' q1 q2
  rw[q1]at rx
  rw[q2]at ry
  simp only[Rep]at rx ry
  obtain⟨_,i1,p1,p2,p3⟩:=rx
  obtain⟨_,i2,u1,u2,u3⟩:=ry
  split at hw
  ·rename_i r r' e3 e4
   obtain⟨hne,w1,w2,w3,w4,w5,w6,hk⟩:=hw
   obtain⟨k1,k2,k3,k4⟩:=hm.rows l i1 r p1 e3
   obtain⟨m1,m2,m3,m4⟩:=hm.rows l' i2 r' u1 e4
   have hxv:=p3 (by omega)
   obtain⟨g1,g2,hyv⟩:=u3 (by omega)
   have hfrz:∀b c E,w.heap[b]?=some (.cells c E (0,0))→∀k,w.frozen? ⟨b,k,none⟩=false:=by
    intro b c E hb k
    simp[World.frozen?,hb]
   have fin:(Extern.SlicesOverlaps.overlaps #[T,T] U #[a.eval x,a.eval y]).run P w=.ok (.bool false) w→o.wp P a w next Q:=fun hrun =>
    a2_ (by rw[hexec,hrun];rfl) (hh (.bool false) _ S h w (a0_.refl _ _) hm (by simp[Rep]) hk)
   have easy:∀(pa pb:Option Addr) (na ca nb cb:Nat),a.eval x=.slice pa na ca→a.eval y=.slice pb nb cb→(na=0∨nb=0)→o.wp P a w next Q:=by
    intro pa pb na ca nb cb ex ey h0
    refine fin ?_
    rw[ex,ey]
    exact kC_ w T e U hu i.size (b9_ hi w) pa pb na ca nb cb h0
   rcases hyv with ⟨hb2,pb,ey⟩|⟨b2,off2,hb2,ey,hoff2⟩
   ·cases hb1:i1.blk with
    | none =>
     rcases hxv with q|⟨_,p,q⟩
     ·simp only[sliceAt,hb1]at q
      exact easy _ _ _ _ _ _ q ey (.inl rfl)
     ·exact easy _ _ _ _ _ _ q ey (.inl rfl)
    | some b1 =>
     rcases hxv with q|⟨q,_⟩
     ·simp only[sliceAt,hb1]at q
      exact easy _ _ _ _ _ _ q ey (.inr rfl)
     ·rw[hb1]at q;cases q
   ·cases hb1:i1.blk with
    | none =>
     rcases hxv with q|⟨_,p,q⟩
     ·simp only[sliceAt,hb1]at q
      exact easy _ _ _ _ _ _ q ey (.inl rfl)
     ·exact easy _ _ _ _ _ _ q ey (.inl rfl)
    | some b1 =>
     rcases hxv with q|⟨q,_⟩
     ·simp only[sliceAt,hb1]at q
      by_cases hz:i1.len=0∨hi'-lo=0
      ·exact easy _ _ _ _ _ _ q ey hz
      ·rw[hb1]at k4
       rw[hb2]at m4
       obtain⟨E1,c1,_,⟨f1,j2,hf1⟩,_,j4,j5,_⟩:=k4.2.cells (.inr (by omega))
       obtain⟨E2,c2,_,⟨f2,n2,hf2⟩,_,n4,n5,_⟩:=m4.2.cells (.inr (by omega))
       obtain rfl:=hf1.not w5
       obtain rfl:=hf2.not w6
       have hbb:b1≠b2:=fun q=>hne (hm.one l l' i1 i2 b1 p1 u1 hb1 (by rw[q];exact hb2))
       have hc2:c2.size≠0:=by
        rw[n4,m2]
        have:0<i2.cap * r'.sz:=Nat.mul_pos (by omega) w4
        omega
       refine fin ?_
       rw[q,ey,show ∀A B:Value,Extern.SlicesOverlaps.overlaps #[T,T] U #[A,B]=Extern.SlicesOverlaps.overlaps #[T,T] #[0] #[A,B]from fun A B=>rfl]
       exact Lib.run_overlaps_apart w T 0 e hu i.size (b9_ hi) ⟨b1,0,none⟩ ⟨b2,off2,none⟩ _ _ _ _ hbb E1 E2 c1.size c2.size (by simp[World.shape?,j2]) (by simp[World.shape?,n2]) hc2 (hfrz _ _ _ j2 _) (hfrz _ _ _ j2 _)
     ·rw[hb1]at q;cases q
  ·exact hw.elim
 ·exact hw.elim
theorem ne_{c:Call}{x y:Operand}{ty e:TypeId}{i:TypeInfo}{z:Value}{l n m:Nat}{es:List (List AV)}{r:Row}(hop:o.op=.call c)(hc:c.callee=.builtin .append)(ha:c.args=#[x,y])(ht:c.argTypes=#[ty,ty])
 (hu:P.underlying ty=some (.slice e)) (hi:P.info? e=some i) (hz:i.zero=some z) (hzs:i.size=z.cells.size) (hpos:0<i.size) (hm:ab_ S h w) (hr:Rel S N t a) (hx:ag_ N x=true) (hy:ag_ N y=true)
 (e1:ah_ t x=.sub l n 0 m) (e2:dy_ h i.size (ah_ t y)=some es) (e3:h[l]?=some r) (g1:r.es.length=n) (g2:r.E=.full e) (g3:r.sz=i.size) (hmn:m≤n) (hgr:n<m+es.length) (g4:(m+es.length) * i.bytes≤140737488355328) (g5:m+es.length≤9223372036854775807)
 (g6:∀e∈es,e.all AV.cell=true) (hk:K (.own h.length (m+es.length)) (h++[⟨.ty e,i.size,r.es.take m++es⟩])) (hh:bI_ S w a o K next):o.wp P a w next Q:=by
 have rx:=hr.eval hx
 rw[e1]at rx
 simp only[Rep]at rx
 obtain⟨_,inf,p1,p2,p3⟩:=rx
 obtain⟨k1,k2,k3,k4⟩:=hm.rows l inf r p1 e3
 obtain⟨_,_,hxv⟩:=p3 (by omega)
 obtain⟨hel,hsrc⟩:=ej_ hm e2 (hr.eval hy)
 have hexec:=fo_ (P:=P) (a:=a) (o:=o) (w:=w) hop hc ha ht
 have hcnt:0<es.length:=by omega
 rcases hsrc with ⟨q,_⟩|⟨sb,soff,scap,sc,sE,sfr,y1,y2,y3,y4⟩
 ·rw[q]at hcnt;simp at hcnt
 ·have hnl:((sc.toList.drop soff).take (es.length * i.size)).length=es.length * i.size:=by simp;omega
  have hnews:∀j u,((sc.toList.drop soff).take (es.length * i.size))[j]?=some u→w.cell? ((⟨sb,soff,none⟩:Addr).add j)=some u:=by
   intro j u hj
   rw[getElem?_take]at hj
   split at hj
   ·rw[b1_]
    have:sc[soff+j]?=some u:=by simpa using hj
    simp[World.cell?,y2,this]
   ·simp at hj
  have hrn:=cp_ hel y4 (Nat.le_refl _)
  have hT:∀d∈r.es.take m,d.length=i.size:=fun d hd=>by rw[←g3];exact k3 d (mem_of_mem_take hd)
  have hTl:(r.es.take m).length=m:=by simp;omega
  have hh1:∀d∈r.es.take m++es,d.length=i.size:=by
   intro d hd
   rcases mem_append.1 hd with q|q
   ·exact hT d q
   ·exact hel d q
  have hlen':(r.es.take m++es).length=m+es.length:=by rw[List.length_append,hTl]
  have grown:∀(olds:List Value) (old:Nat),old<m+es.length→olds.length=m * i.size→aj_ S (r.es.take m) olds →
   (execOp a.eval o).run P w=.ok (.value (.slice (some ⟨w.heap.size,0,none⟩) (m+es.length) (grownCap w (m+es.length) old e)))
    (w.drew.alloc (.cells (olds.toArray++((sc.toList.drop soff).take (es.length * i.size)).toArray++Builtin.zeroCells z.cells (grownCap w (m+es.length) old e-(m+es.length))) e)) →
   o.wp P a w next Q:=by
   intro olds old ho hol hor hrun
   have hge:=grownCap_ge w (m+es.length) old e
   have hcm:=grownCap_le_maxLen w (m+es.length) old e (by simp[maxLen];omega)
   have hoz:olds.length=(r.es.take m).length * i.size:=by rw[hol,hTl]
   have hg:=ab_.new (w':=w.drew.alloc (.cells (olds.toArray++((sc.toList.drop soff).take (es.length * i.size)).toArray++Builtin.zeroCells z.cells (grownCap w (m+es.length) old e-(m+es.length))) e)) hm (E:=e) (sz:=i.size) (es:=r.es.take m++es)
    (cap:=grownCap w (m+es.length) old e) (c:=olds.toArray++((sc.toList.drop soff).take (es.length * i.size)).toArray++Builtin.zeroCells z.cells (grownCap w (m+es.length) old e-(m+es.length)))
    (by
      have:=es_ (Builtin.zeroCells z.cells (grownCap w (m+es.length) old e-(m+es.length))).toList hh1 (c6_ (sz:=i.size) hT hel hoz hor hrn)
      simpa using this)
    hh1
    (by
      simp only[Array.size_append,size_toArray,size_zeroCells,←hzs,hol,hnl,←Nat.add_mul]
      congr 1
      omega)
    (by rw[hlen'];omega) hcm rfl rfl rfl rfl
   rw[hlen']at hg
   refine a2_ hrun (hh _ _ _ _ _ hg.2 hg.1 ?_ hk)
   rw[←hm.len]
   exact dj_ S _ _ _ _ _
  rcases hxv with ⟨hb,p,hxv⟩|⟨b,off,hb,hxv,hoff⟩
  ·rw[hb]at k4
   have hn0:n=0:=by rw[←g1,k4.1];rfl
   have hm0:m=0:=by omega
   subst hn0 hm0
   refine grown [] 0 (by omega) (by simp) (by simp[aj_]) ?_
   cases p with
   | none =>
    have hrn0:=run_append_nil (P:=P) w ty o.type e i z hu hi hz ⟨sb,soff,none⟩ es.length scap _ hnl hnews hcnt (by omega) (by simp at g4;omega)
    rw[hexec,hxv,y1,hrn0]
    simp
   | some ad =>
    have hr2:=run_append_grow (P:=P) w ty o.type e i z hu hi hz ad 0 0 [] (by simp) (by simp) ⟨sb,soff,none⟩ es.length scap _ hnl hnews (by omega) (by omega) (growslice_fits (by omega) g4)
    rw[hexec,hxv,y1,hr2];rfl
  ·rw[hb]at k4
   obtain⟨E',cc,hE',⟨fr,j2,hfr⟩,j3,j4,j5,j6⟩:=k4.2.cells (.inr (by omega))
   have hcap:inf.cap=n:=by
    rcases hE' with (q|q)|⟨q,q2⟩
    ·rw[g2]at q;cases q
    ·rw[g2]at q;cases q
    ·omega
   have hcs:cc.size=n * i.size:=by rw[j4,k2,g3,hcap]
   have hsize2:m * i.size≤cc.size:=by rw[hcs];exact Nat.mul_le_mul_right _ (by omega)
   have h3:aj_ S (r.es.take m) (cc.toList.take (m * i.size)):=cp_ hT (aj_.take j3) (by rw[hTl];omega)
   have hol:(cc.toList.take (m * i.size)).length=m * i.size:=by simp;omega
   have holds:∀j u,(cc.toList.take (m * i.size))[j]?=some u→w.cell? ((⟨b,off,none⟩:Addr).add j)=some u:=by
    intro j u hj
    rw[getElem?_take]at hj
    split at hj
    ·rename_i hjm
     have hm0:0<m:=by
      rcases Nat.eq_zero_or_pos m with q|q
      ·subst q;simp at hjm
      ·exact q
     rw[b1_,hoff (by omega)]
     have:cc[j]?=some u:=by simpa using hj
     simp[World.cell?,j2,this]
    ·simp at hj
   have hr2:=run_append_grow (P:=P) w ty o.type e i z hu hi hz ⟨b,off,none⟩ m inf.cap _ hol holds ⟨sb,soff,none⟩ es.length scap _ hnl hnews (by omega) (by omega) (growslice_fits (by omega) g4)
   refine grown (cc.toList.take (m * i.size)) inf.cap (by omega) hol h3 ?_
   simp only[Nat.sub_zero]at hxv
   rw[hexec,hxv,y1,hr2];rfl
theorem mA_{c:Call}{x y:Operand}{ty e:TypeId}{i:TypeInfo}{z:Value}{l n lo m:Nat}{es:List (List AV)}{r:Row}(hop:o.op=.call c)(hc:c.callee=.builtin .append)(ha:c.args=#[x,y])(ht:c.argTypes=#[ty,ty])
 (hu:P.underlying ty=some (.slice e)) (hi:P.info? e=some i) (hz:i.zero=some z) (hzs:i.size=z.cells.size) (hpos:0<i.size) (hm:ab_ S h w) (hr:Rel S N t a) (hx:ag_ N x=true) (hy:ag_ N y=true)
 (e1:ah_ t x=.sub l n lo m) (e2:dy_ h i.size (ah_ t y)=some es) (e3:h[l]?=some r) (g1:r.es.length=n) (g2:r.E=.full e) (g3:r.sz=i.size) (hlm:lo≤m) (hmn:m≤n) (hgr:n<m+es.length) (g4:(m+es.length) * i.bytes≤140737488355328) (g5:m+es.length≤9223372036854775807)
 (g6:∀e∈es,e.all AV.cell=true) (hk:K (.own h.length (m-lo+es.length)) (h++[⟨.ty e,i.size,(r.es.take m).drop lo++es⟩])) (hh:bI_ S w a o K next):o.wp P a w next Q:=by
 have rx:=hr.eval hx
 rw[e1]at rx
 simp only[Rep]at rx
 obtain⟨_,inf,p1,p2,p3⟩:=rx
 obtain⟨k1,k2,k3,k4⟩:=hm.rows l inf r p1 e3
 obtain⟨_,_,hxv⟩:=p3 (by omega)
 obtain⟨hel,hsrc⟩:=ej_ hm e2 (hr.eval hy)
 have hexec:=fo_ (P:=P) (a:=a) (o:=o) (w:=w) hop hc ha ht
 have hcnt:0<es.length:=by omega
 rcases hsrc with ⟨q,_⟩|⟨sb,soff,scap,sc,sE,sfr,y1,y2,y3,y4⟩
 ·rw[q]at hcnt;simp at hcnt
 ·have hnl:((sc.toList.drop soff).take (es.length * i.size)).length=es.length * i.size:=by simp;omega
  have hnews:∀j u,((sc.toList.drop soff).take (es.length * i.size))[j]?=some u→w.cell? ((⟨sb,soff,none⟩:Addr).add j)=some u:=by
   intro j u hj
   rw[getElem?_take]at hj
   split at hj
   ·rw[b1_]
    have:sc[soff+j]?=some u:=by simpa using hj
    simp[World.cell?,y2,this]
   ·simp at hj
  have hrn:=cp_ hel y4 (Nat.le_refl _)
  have hT:∀d∈(r.es.take m).drop lo,d.length=i.size:=fun d hd=>by rw[←g3];exact k3 d (mem_of_mem_take (mem_of_mem_drop hd))
  have hTl:((r.es.take m).drop lo).length=m-lo:=by simp;omega
  have hh1:∀d∈(r.es.take m).drop lo++es,d.length=i.size:=by
   intro d hd
   rcases mem_append.1 hd with q|q
   ·exact hT d q
   ·exact hel d q
  have hlen':((r.es.take m).drop lo++es).length=m-lo+es.length:=by rw[List.length_append,hTl]
  have grown:∀(olds:List Value) (old:Nat),old<m-lo+es.length→olds.length=(m-lo) * i.size→aj_ S ((r.es.take m).drop lo) olds →
   (execOp a.eval o).run P w=.ok (.value (.slice (some ⟨w.heap.size,0,none⟩) (m-lo+es.length) (grownCap w (m-lo+es.length) old e)))
    (w.drew.alloc (.cells (olds.toArray++((sc.toList.drop soff).take (es.length * i.size)).toArray++Builtin.zeroCells z.cells (grownCap w (m-lo+es.length) old e-(m-lo+es.length))) e)) →
   o.wp P a w next Q:=by
   intro olds old ho hol hor hrun
   have hge:=grownCap_ge w (m-lo+es.length) old e
   have hcm:=grownCap_le_maxLen w (m-lo+es.length) old e (by simp[maxLen];omega)
   have hoz:olds.length=((r.es.take m).drop lo).length * i.size:=by rw[hol,hTl]
   have hg:=ab_.new (w':=w.drew.alloc (.cells (olds.toArray++((sc.toList.drop soff).take (es.length * i.size)).toArray++Builtin.zeroCells z.cells (grownCap w (m-lo+es.length) old e-(m-lo+es.length))) e)) hm (E:=e) (sz:=i.size) (es:=(r.es.take m).drop lo++es)
    (cap:=grownCap w (m-lo+es.length) old e) (c:=olds.toArray++((sc.toList.drop soff).take (es.length * i.size)).toArray++Builtin.zeroCells z.cells (grownCap w (m-lo+es.length) old e-(m-lo+es.length)))
    (by
      have:=es_ (Builtin.zeroCells z.cells (grownCap w (m-lo+es.length) old e-(m-lo+es.length))).toList hh1 (c6_ (sz:=i.size) hT hel hoz hor hrn)
      simpa using this)
    hh1
    (by
      simp only[Array.size_append,size_toArray,size_zeroCells,←hzs,hol,hnl,←Nat.add_mul]
      congr 1
      omega)
    (by rw[hlen'];omega) hcm rfl rfl rfl rfl
   rw[hlen']at hg
   refine a2_ hrun (hh _ _ _ _ _ hg.2 hg.1 ?_ hk)
   rw[←hm.len]
   exact dj_ S _ _ _ _ _
  rcases hxv with ⟨hb,p,hxv⟩|⟨b,off,hb,hxv,hoff⟩
  ·rw[hb]at k4
   have hn0:n=0:=by rw[←g1,k4.1];rfl
   have hm0:m=0:=by omega
   have hl0:lo=0:=by omega
   subst hn0 hm0 hl0
   refine grown [] 0 (by omega) (by simp) (by simp[aj_]) ?_
   cases p with
   | none =>
    have hrn0:=run_append_nil (P:=P) w ty o.type e i z hu hi hz ⟨sb,soff,none⟩ es.length scap _ hnl hnews hcnt (by omega) (by simp at g4;omega)
    rw[hexec,hxv,y1,hrn0]
    simp
   | some ad =>
    have hr2:=run_append_grow (P:=P) w ty o.type e i z hu hi hz ad 0 0 [] (by simp) (by simp) ⟨sb,soff,none⟩ es.length scap _ hnl hnews (by omega) (by omega) (growslice_fits (by omega) g4)
    rw[hexec,hxv,y1,hr2];rfl
  ·rw[hb]at k4
   obtain⟨E',cc,hE',⟨fr,j2,hfr⟩,j3,j4,j5,j6⟩:=k4.2.cells (.inr (by omega))
   have hcap:inf.cap=n:=by
    rcases hE' with (q|q)|⟨q,q2⟩
    ·rw[g2]at q;cases q
    ·rw[g2]at q;cases q
    ·omega
   have hcs:cc.size=n * i.size:=by rw[j4,k2,g3,hcap]
   have hm4:(m-lo+es.length) * i.bytes≤140737488355328:=Nat.le_trans (Nat.mul_le_mul_right _ (by omega)) g4
   have hcl:(cc.toList).length=n * i.size:=by rw[Array.length_toList,hcs]
   have hlm2:lo * i.size+(m-lo) * i.size≤n * i.size:=by rw[←Nat.add_mul];exact Nat.mul_le_mul_right _ (by omega)
   have hd:=aj_.drop (aj_.take (k:=m) j3) (sz:=i.size) (k:=lo) (fun x hx=>by rw[←g3];exact k3 x (mem_of_mem_take hx))
   have hol:((cc.toList.drop (lo * i.size)).take ((m-lo) * i.size)).length=(m-lo) * i.size:=by simp only[length_take,length_drop,hcl];omega
   have h3:aj_ S ((r.es.take m).drop lo) ((cc.toList.drop (lo * i.size)).take ((m-lo) * i.size)):=cp_ hT hd (by rw[hTl];exact Nat.le_refl _)
   have holds:∀j u,((cc.toList.drop (lo * i.size)).take ((m-lo) * i.size))[j]?=some u→w.cell? ((⟨b,off,none⟩:Addr).add j)=some u:=by
    intro j u hj
    rw[getElem?_take]at hj
    split at hj
    ·rename_i hjm
     have hm0:0<m-lo:=by
      rcases Nat.eq_zero_or_pos (m-lo)with q|q
      ·rw[q]at hjm;simp at hjm
      ·exact q
     rw[b1_,hoff (by omega),k2,g3]
     have:cc[lo * i.size+j]?=some u:=by
      rw[getElem?_drop]at hj;simpa using hj
     simp[World.cell?,j2,this]
    ·simp at hj
   have hr2:=run_append_grow (P:=P) w ty o.type e i z hu hi hz ⟨b,off,none⟩ (m-lo) (inf.cap-lo) _ hol holds ⟨sb,soff,none⟩ es.length scap _ hnl hnews (by omega) (by omega) (growslice_fits (by omega) hm4)
   refine grown _ (inf.cap-lo) (by omega) hol h3 ?_
   rw[hexec,hxv,y1,hr2];rfl
theorem jN_{w:World}(t ty e:TypeId)(i:TypeInfo)(ht:P.underlying t=some (.slice e))(hi:P.info? e=some i)
 (g off sLen sCap:Nat) (cur:Array Value) (hg:w.heap[g]?=some (.cells cur e (0,0)))
 (a:Addr) (m c:Nat) (news:List Value) (hl:news.length=m * i.size) (hnews:∀j u,news[j]?=some u→w.cell? (a.add j)=some u) (h1:∀u∈news,u.oneCell'=true)
 (hroom:sLen+m≤sCap) (hfit:off+sLen * i.size+news.length≤cur.size) :
 (Builtin.append_ #[t,t] ty #[.slice (some ⟨g,off,none⟩) sLen sCap,.slice (some a) m c]).run P w =
  .ok (.slice (some ⟨g,off,none⟩) (sLen+m) sCap) (w.setRow g (cur.toList.take (off+sLen * i.size)++news++cur.toList.drop (off+sLen * i.size+news.length)).toArray):=by
 have hf:=run_firstCells_some (P:=P) w i.size m a m c news hl hnews
 have hst:=run_storeCells_at P g (off+sLen * i.size) e news 0 cur w hg (by simpa using hfit) h1
 simp only[Nat.add_zero]at hst
 simp[Builtin.append_,run_underlying ht,sizeOf,typeInfo,hi,Builtin.lenOf,hroom,hf,Addr.add_lit,hst]
theorem ot_{c:Call}{x y:Operand}{ty e:TypeId}{i:TypeInfo}{z:Value}{l n lo m:Nat}{es:List (List AV)}{r:Row}(hop:o.op=.call c)(hc:c.callee=.builtin .append)(ha:c.args=#[x,y])(ht:c.argTypes=#[ty,ty])
 (hu:P.underlying ty=some (.slice e)) (hi:P.info? e=some i) (hz:i.zero=some z) (hzs:i.size=z.cells.size) (hpos:0<i.size) (hm:ab_ S h w) (hr:Rel S N t a) (hx:ag_ N x=true) (hy:ag_ N y=true)
 (e1:ah_ t x=.sub l n lo m) (e2:dy_ h i.size (ah_ t y)=some es) (e3:h[l]?=some r) (g1:r.es.length=n) (g2:r.E=.ty e) (g3:r.sz=i.size) (hlm:lo≤m) (hcnt:0<es.length) (hin2:m+es.length≤n)
 (g6:∀e∈es,e.all AV.cell=true) (hk:K (.sub l n lo (m+es.length)) (h.set l { r with es:=r.es.take m++es++r.es.drop (m+es.length) })) (hh:bI_ S w a o K next):o.wp P a w next Q:=by
 have rx:=hr.eval hx
 rw[e1]at rx
 simp only[Rep]at rx
 obtain⟨_,inf,p1,p2,p3⟩:=rx
 obtain⟨k1,k2,k3,k4⟩:=hm.rows l inf r p1 e3
 obtain⟨_,_,hxv⟩:=p3 (by omega)
 obtain⟨hel,hsrc⟩:=ej_ hm e2 (hr.eval hy)
 have hexec:=fo_ (P:=P) (a:=a) (o:=o) (w:=w) hop hc ha ht
 rcases hsrc with ⟨q,_⟩|⟨sb,soff,scap,sc,sE,sfr,y1,y2,y3,y4⟩
 ·rw[q]at hcnt;simp at hcnt
 have hnl:((sc.toList.drop soff).take (es.length * i.size)).length=es.length * i.size:=by simp;omega
 have hnews:∀j u,((sc.toList.drop soff).take (es.length * i.size))[j]?=some u→w.cell? ((⟨sb,soff,none⟩:Addr).add j)=some u:=by
  intro j u hj
  rw[getElem?_take]at hj
  split at hj
  ·rw[b1_]
   have:sc[soff+j]?=some u:=by simpa using hj
   simp[World.cell?,y2,this]
  ·simp at hj
 have hone:=in_ hel g6 y4
 have hrn:=cp_ hel y4 (Nat.le_refl _)
 rcases hxv with ⟨hb,p,hxv⟩|⟨b,off,hb,hxv,hoff⟩
 ·rw[hb]at k4
  have hn0:n=0:=by rw[←g1,k4.1];rfl
  omega
 rw[hb]at k4
 obtain⟨E',cc,hE',⟨fr,j2,hfr⟩,j3,j4,j5,j6⟩:=k4.2.cells (.inr (by omega))
 have hEe:E'=e:=by
  rw[g2]at hE'
  rcases hE' with (q|q)|⟨q,_⟩
  ·injection q with q;exact q.symm
  ·cases q
  ·cases q
 subst hEe
 rw[g2]at hfr
 obtain rfl:fr=(0,0):=hfr
 have hcs:cc.size=inf.cap * i.size:=by rw[j4,k2,g3]
 rw[hoff (by omega),k2,g3]at hxv
 have e5:lo * i.size+(m-lo) * i.size=m * i.size:=by rw[←Nat.add_mul];congr 1;omega
 have hfit:lo * i.size+(m-lo) * i.size+((sc.toList.drop soff).take (es.length * i.size)).length≤cc.size:=by
  rw[e5,hnl,hcs,←Nat.add_mul];exact Nat.mul_le_mul_right _ (by omega)
 have hr2:=jN_ (P:=P) ty o.type E' i hu hi b (lo * i.size) (m-lo) (inf.cap-lo) cc j2 ⟨sb,soff,none⟩ es.length scap _ hnl hnews hone (by omega) hfit
 rw[e5]at hr2 hfit
 have hcsz:(cc.toList.take (m * i.size)++(sc.toList.drop soff).take (es.length * i.size)++cc.toList.drop (m * i.size+((sc.toList.drop soff).take (es.length * i.size)).length)).toArray.size=cc.size:=by
  simp only[size_toArray,List.length_append,length_drop,Array.length_toList,length_take]at hfit⊢
  omega
 have hTl:(r.es.take m).length=m:=by simp;omega
 have hsp:=hy_ (p:=m) (es2:=es) k3 j3 (by simp only[Array.length_toList];rw[j4,←k1,k2];exact Nat.mul_le_mul_right _ j5) (by rw[g3];exact hel) hrn (by rw[hnl,g3]) (by omega)
 rw[g3]at hsp
 have hg:=ab_.set (w':=w.setRow b (cc.toList.take (m * i.size)++(sc.toList.drop soff).take (es.length * i.size)++cc.toList.drop (m * i.size+((sc.toList.drop soff).take (es.length * i.size)).length)).toArray) hm (.inl (.inl g2)) p1 e3 hb
  (es':=r.es.take m++es++r.es.drop (m+es.length)) (c':=(cc.toList.take (m * i.size)++(sc.toList.drop soff).take (es.length * i.size)++cc.toList.drop (m * i.size+((sc.toList.drop soff).take (es.length * i.size)).length)).toArray)
  (by simp only[List.length_append,hTl,length_drop];omega) (by simpa using hsp)
  (by
    intro d hd
    rcases mem_append.1 hd with q|q
    ·rcases mem_append.1 q with q|q
     ·exact k3 d (mem_of_mem_take q)
     ·rw[g3];exact hel d q
    ·exact k3 d (mem_of_mem_drop q))
  (by rw[hcsz,j4]) ⟨(0,0),setRow_heap w b cc _ E' _ j2,.zero _ _⟩ (fun q hq=>setRow_other w b q _ hq) (setRow_size _ _ _) rfl rfl rfl
 refine a2_ (v:=.slice (some ⟨b,lo * i.size,none⟩) (m-lo+es.length) (inf.cap-lo)) ?_ (hh _ _ _ _ _ hg.2 hg.1 ?_ hk)
 ·rw[hexec,hxv,y1,hr2];rfl
 ·simp only[Rep]
  refine⟨⟨_,_,_,rfl⟩,inf,p1,by omega,fun _=>⟨by omega,by omega,.inr ⟨b,lo * i.size,hb,?_,fun _=>by rw[k2,g3]⟩⟩⟩
  have:m-lo+es.length=m+es.length-lo:=by omega
  rw[this]
end
section
variable {P : Program} {S : Sit} {h : List Row} {w : World} {N : Nat} {t : Nat → AV} {a : Act} {o : Oper} {K : AV → List Row → Prop} {next : Act → World → Prop} {Q : Exit → Act → World → Prop}
theorem oF_{c:Call}{x y:Operand}{ty e:TypeId}{i:TypeInfo}{z:Value}{es:List (List AV)}(hop:o.op=.call c)(hc:c.callee=.builtin .append)(ha:c.args=#[x,y])(ht:c.argTypes=#[ty,ty])
 (hu:P.underlying ty=some (.slice e)) (hi:P.info? e=some i) (hz:i.zero=some z) (hzs:i.size=z.cells.size) (hm:ab_ S h w) (hr:Rel S N t a) (hx:ag_ N x=true) (hy:ag_ N y=true)
 (e1:ah_ t x=.val (.slice none 0 0)) (e2:dy_ h i.size (ah_ t y)=some es) (hcnt:0<es.length) (g4:es.length * i.bytes≤140737488355328) (g5:es.length≤9223372036854775807)
 (hk:K (.own h.length es.length) (h++[⟨e,i.size,es⟩])) (hh:bI_ S w a o K next):o.wp P a w next Q:=by
 have rx:=hr.eval hx
 rw[e1]at rx
 simp only[Rep]at rx
 obtain⟨hel,hsrc⟩:=ej_ hm e2 (hr.eval hy)
 have hexec:=fo_ (P:=P) (a:=a) (o:=o) (w:=w) hop hc ha ht
 rcases hsrc with ⟨q,_⟩|⟨sb,soff,scap,sc,sE,sfr,y1,y2,y3,y4⟩
 ·subst q;simp at hcnt
 ·have hnl:((sc.toList.drop soff).take (es.length * i.size)).length=es.length * i.size:=by simp;omega
  have hnews:∀j u,((sc.toList.drop soff).take (es.length * i.size))[j]?=some u→w.cell? ((⟨sb,soff,none⟩:Addr).add j)=some u:=by
   intro j u hj
   rw[getElem?_take]at hj
   split at hj
   ·rw[b1_]
    have:sc[soff+j]?=some u:=by simpa using hj
    simp[World.cell?,y2,this]
   ·simp at hj
  have hrn:=cp_ hel y4 (Nat.le_refl _)
  have hrn0:=run_append_nil (P:=P) w ty o.type e i z hu hi hz ⟨sb,soff,none⟩ es.length scap _ hnl hnews hcnt (by omega) (by omega)
  have hge:=grownCap_ge w es.length 0 e
  have hcm:=grownCap_le_maxLen w es.length 0 e (by simp[maxLen];omega)
  have hnew:=ab_.new (w':=w.drew.alloc (.cells (((sc.toList.drop soff).take (es.length * i.size)).toArray++Builtin.zeroCells z.cells (grownCap w es.length 0 e-es.length)) e)) hm (E:=e) (sz:=i.size) (cap:=grownCap w es.length 0 e) (es:=es)
   (c:=((sc.toList.drop soff).take (es.length * i.size)).toArray++Builtin.zeroCells z.cells (grownCap w es.length 0 e-es.length))
   (by simpa using es_ (Builtin.zeroCells z.cells (grownCap w es.length 0 e-es.length)).toList hel hrn) hel
   (by
     simp only[Array.size_append,size_toArray,size_zeroCells,←hzs,hnl,←Nat.add_mul]
     congr 1
     omega) hge hcm rfl rfl rfl rfl
  refine a2_ (v:=.slice (some ⟨w.heap.size,0,none⟩) es.length (grownCap w es.length 0 e)) ?_ (hh _ _ _ _ _ hnew.2 hnew.1 ?_ hk)
  ·rw[hexec,rx,y1,hrn0];rfl
  ·rw[←hm.len]
   exact dj_ S _ _ _ _ _
theorem nH_{places:List (Nat×Nat)}{sz:Nat}:∀(parts:List (Nat×AV)) (j:Nat) (done rest:List AV) (es:List (List AV)),
 (∀k,k<parts.length→places[j+k]?=some ((j+k) * sz,sz))→parts.map (·.1)=(List.range parts.length).map (j+·)→done.length=j * sz→rest.length=parts.length * sz →
 (parts.mapM fun p=>cellsOf p.2)=some es→(∀e∈es,e.length=sz)→co_ places (done++rest) parts=some (done++es.flatten)
 | [],j,done,rest,es,_,_,_,h4,h5,_=>by
  simp at h5;subst h5
  have:rest=[]:=by apply eq_nil_of_length_eq_zero;simpa using h4
  simp[co_,this]
 | (i,v)::parts,j,done,rest,es,h1,h2,h3,h4,h5,h6=>by
  have hi:i=j:=by
   have:=congrArg (fun l=>l[0]?) h2
   simpa using this
  subst hi
  have h1':=h1 0 (by simp)
  simp only[Nat.add_zero]at h1'
  rw[mapM_cons]at h5
  cases hc:cellsOf v with
  | none=>simp[hc]at h5
  | some ps =>
   cases hr:(parts.mapM fun p=>cellsOf p.2)with
   | none=>simp[hc,hr]at h5
   | some es' =>
    simp[hc,hr]at h5
    subst h5
    have hps:ps.length=sz:=h6 ps (by simp)
    simp only[List.length_cons,Nat.add_mul,Nat.one_mul]at h4
    simp only[co_,h1',hc]
    rw[if_pos ⟨hps,by simp;omega⟩]
    have e1:(done++rest).take (i * sz)=done:=by rw[←h3];exact take_left
    have e2:(done++rest).drop (i * sz+sz)=rest.drop sz:=by
     rw[←h3,drop_append];simp
    rw[e1,e2]
    have:=nH_ (places:=places) (sz:=sz) parts (i+1) (done++ps) (rest.drop sz) es' (fun k hk=>by have:=h1 (k+1) (by simpa using hk);rw[show i+1+k=i+(k+1) by omega];exact this)
     (by
       simp only[map_cons,List.length_cons,range_succ_eq_map,List.cons.injEq,map_map]at h2
       rw[h2.2]
       apply map_congr_left
       intro x _
       simp;omega) (by simp[h3,hps,Nat.add_mul]) (by simp;omega) hr (fun e he=>h6 e (by simp[he]))
    rw[this]
    simp
theorem gY_:∀{es:List (List AV)} {vs:List Value},ae_ S es.flatten vs→aj_ S es vs
 | [],vs,_=>by simp[aj_]
 | e::es,vs,h=>by
  simp only[flatten_cons]at h
  simp only[aj_]
  have hp:=el_ h
  constructor
  ·have:=an_.take (k:=e.length) hp
   simpa using this
  ·have h2:=(an_.drop (k:=e.length) hp).toL
   have hl:=ae_.length h
   rw[take_of_length_le (by simp at hl⊢;omega)]at h2
   exact gY_ (by simpa using h2)
theorem gt_{ty e:TypeId}{i:TypeInfo}{z:Value}{len:Nat}{parts:Array (Nat×Operand)}{es:List (List AV)}(hop:o.op=.buildSlice ty len parts)(hu:P.underlying ty=some (.slice e))(hi:P.info? e=some i)(hz:i.zero=some z)
 (hzs:i.size=z.cells.size) (hpos:0<i.size) (hsmall:len * i.size≤65536) (hm:ab_ S h w) (hr:Rel S N t a) (hx:∀p∈parts.toList,ag_ N p.2=true)
 (g1:parts.toList.map (·.1)=List.range len) (g2:(parts.toList.mapM fun p=>cellsOf (ah_ t p.2))=some es) (g3:∀d∈es,d.length=i.size) :
 ∃c',(execOp a.eval o).run P w=.ok (.value (.slice (some ⟨w.heap.size,0,none⟩) len len)) (w.alloc (.cells c' e))∧ae_ S es.flatten c'.toList∧c'.size=len * i.size∧es.length=len:=by
 have hpl:parts.toList.length=len:=by
  have:=congrArg List.length g1
  simpa using this
 have hzero:∀(x:Array Value),x=(Array.range (len * i.size)).map (fun q=>z.cells[q % z.cells.size]!)→x.size=len * i.size:=by intro x e;subst e;simp
 generalize hz0:(Array.range (len * i.size)).map (fun q=>z.cells[q % z.cells.size]!)=zs at hzero
 have hzlen:=hzero zs rfl
 have hrl:ae_ S ((parts.toList.map fun p=>(p.1,ah_ t p.2)).map (·.2)) ((parts.toList.map fun p=>(p.1,a.eval p.2)).map (·.2)):=by
  have:=eG_ hr (xs:=parts.toList.map (·.2)) (by intro x hx';obtain⟨p,hp,e⟩:=mem_map.1 hx';subst e;exact hx p hp)
  simpa[map_map,Function.comp_def]using this
 have hmap:((parts.toList.map fun p=>(p.1,ah_ t p.2)).mapM fun p=>cellsOf p.2)=some es:=by
  rw[←g2]
  simp[mapM_map,Function.comp_def]
 have haf:=nH_ (places:=(List.range len).map fun k=>(k * i.size,i.size)) (sz:=i.size) (parts.toList.map fun p=>(p.1,ah_ t p.2)) 0 [] (zs.toList.map .val) es
  (by intro k hk;simp only[length_map,hpl]at hk;simp[hk])
  (by simp only[map_map,Function.comp_def,length_map,hpl,Nat.zero_add,map_id'];exact g1) (by simp) (by simp[hzlen,←hpl]) hmap g3
 simp only[nil_append]at haf
 obtain⟨c',hc1,hc2⟩:=lh_ (S:=S) (places:=(List.range len).map fun k=>(k * i.size,i.size)) (place:=fun k=>some (k * i.size,i.size))
  (by
    intro k p hk
    have hkl:k<len:=by
     rcases List.getElem?_eq_some_iff.1 hk with ⟨q,_⟩
     simpa using q
    simp[hkl]at hk
    exact congrArg some hk) (parts.toList.map fun p=>(p.1,ah_ t p.2)) (parts.toList.map fun p=>(p.1,a.eval p.2)) _ _ zs (fL_ S _) (by simp[map_map,Function.comp_def]) hrl haf
 have hcsize:c'.size=len * i.size:=by
  have h1:=ae_.length hc2
  simp only[Array.length_toList]at h1
  rw[h1]
  have hes:es.length=len:=by
   have:∀(l:List (Nat×Operand)) (r:List (List AV)),(l.mapM fun p=>cellsOf (ah_ t p.2))=some r→r.length=l.length:=by
    intro l
    induction l with
    | nil=>intro r h;simp at h;subst h;rfl
    | cons p l ih =>
     intro r h
     rw[mapM_cons]at h
     cases q1:cellsOf (ah_ t p.2)with
     | none=>simp[q1]at h
     | some c1 =>
      cases q2:(l.mapM fun p=>cellsOf (ah_ t p.2))with
      | none=>simp[q1,q2]at h
      | some r'=>simp[q1,q2]at h;subst h;simp[ih r' q2]
   rw[this _ _ g2,hpl]
  have:∀(l:List (List AV)),(∀d∈l,d.length=i.size)→l.flatten.length=l.length * i.size:=by
   intro l
   induction l with
   | nil=>simp
   | cons d l ih =>
    intro hd
    simp only[flatten_cons,List.length_append,List.length_cons,Nat.add_mul]
    rw[ih (fun x hx=>hd x (by simp[hx])),hd d (by simp)];omega
  rw[this es g3,hes]
 have hrun:(execOp a.eval o).run P w=.ok (.value (.slice (some ⟨w.heap.size,0,none⟩) len len)) (w.alloc (.cells c' e)):=by
  have hp:(parts.map fun x=>(x.1,a.eval x.2)).toList=parts.toList.map fun p=>(p.1,a.eval p.2):=by simp
  have hne:¬ (len * i.size>2 ^ 24):=by omega
  by_cases h0:len * i.size=0
  ·have hl0:len=0:=by
    rcases Nat.mul_eq_zero.1 h0 with q|q
    ·exact q
    ·omega
   subst hl0
   have hpn:parts=#[]:=by
    apply Array.eq_empty_of_size_eq_zero;simpa using hpl
   subst hpn
   simp[Instr.fill]at hc1
   have hzs0:zs=#[]:=by apply Array.eq_empty_of_size_eq_zero;simpa using hzlen
   subst hzs0
   subst hc1
   simp[execOp,hop,Instr.buildSlice,run_underlying hu,b9_ hi,Instr.fill,newRow]
   have e0:Array.map (fun _=>default) (Array.range 0)=(#[]:Array Value):=by apply Array.eq_empty_of_size_eq_zero;simp
   rw[e0]
  ·simp only[execOp,hop,Instr.buildSlice,Sem.run_bind,run_underlying hu,Result.andThen_ok,b9_ hi,hne,if_false,h0,zeroValue,eh_ hi,hz,Sem.run_pure,hp,hz0,hc1,newRow,Sem.run_ite]
   simp
 have hes:es.length=len:=by
  have h1:=ae_.length hc2
  simp only[Array.length_toList,hcsize]at h1
  have:∀(l:List (List AV)),(∀d∈l,d.length=i.size)→l.flatten.length=l.length * i.size:=by
   intro l
   induction l with
   | nil=>simp
   | cons d l ih =>
    intro hd
    simp only[flatten_cons,List.length_append,List.length_cons,Nat.add_mul]
    rw[ih (fun x hx=>hd x (by simp[hx])),hd d (by simp)];omega
  rw[this es g3]at h1
  exact(Nat.eq_of_mul_eq_mul_right hpos h1).symm
 exact⟨c',hrun,hc2,hcsize,hes⟩
theorem oz_{ty e:TypeId}{i:TypeInfo}{z:Value}{len:Nat}{parts:Array (Nat×Operand)}{es:List (List AV)}(hop:o.op=.buildSlice ty len parts)(hu:P.underlying ty=some (.slice e))(hi:P.info? e=some i)(hz:i.zero=some z)
 (hzs:i.size=z.cells.size) (hpos:0<i.size) (hsmall:len * i.size≤65536) (hm:ab_ S h w) (hr:Rel S N t a) (hx:∀p∈parts.toList,ag_ N p.2=true)
 (g1:parts.toList.map (·.1)=List.range len) (g2:(parts.toList.mapM fun p=>cellsOf (ah_ t p.2))=some es) (g3:∀d∈es,d.length=i.size)
 (hk:K (.own h.length len) (h++[⟨e,i.size,es⟩])) (hh:bI_ S w a o K next):o.wp P a w next Q:=by
 obtain⟨c',hrun,hc2,hcsize,hes⟩:=gt_ hop hu hi hz hzs hpos hsmall hm hr hx g1 g2 g3
 have hmax:len≤maxLen:=by
  have:len * 1≤len * i.size:=Nat.mul_le_mul_left _ hpos
  simp[maxLen];omega
 have hnew:=ab_.new (w':=w.alloc (.cells c' e)) hm (E:=e) (sz:=i.size) (cap:=len) (es:=es) (c:=c') (gY_ hc2) g3 hcsize (by omega) hmax rfl rfl rfl rfl
 rw[hes]at hnew
 refine a2_ hrun (hh _ _ _ _ _ hnew.2 hnew.1 ?_ hk)
 rw[←hm.len]
 exact dj_ S _ _ _ _ _
theorem ab_.newImm{w':World}{c:Array Value}{E:TypeId}{fr:Nat×Nat}(hm:ab_ S h w)(hb:RowKit.Below w.heap.size w w')(hnew:w'.heap[w.heap.size]?=some (.cells c E fr)) :
 ∃S':Sit,a0_ S w S' w'∧ab_ S' h w'∧S'.imm w.heap.size=some c:=by
 let S':Sit:={ imm:=fun b=>if b=w.heap.size then some c else S.imm b,rows:=S.rows }
 have hle:S.le S':=by
  refine⟨fun b c q=>?_,fun l i q=>⟨i,q,Nat.le_refl _,fun _=>rfl⟩⟩
  show(if b=w.heap.size then _ else S.imm b)=_
  rw[if_neg (by have:=hm.immLt q;omega)];exact q
 have hm':ab_ S' h w':=by
  refine⟨fun b d q=>?_,hm.len,fun l i r q1 q2=>?_,hm.one⟩
  ·have q':(if b=w.heap.size then some c else S.imm b)=some d:=q
   split at q'
   ·rename_i e0;subst e0
    simp at q';subst q'
    exact⟨_,_,hnew⟩
   ·obtain⟨E,fr,k⟩:=hm.imm b d q'
    exact⟨E,fr,by rw[hb.block b (hm.immLt q')];exact k⟩
  ·obtain⟨k1,k2,k3,k4⟩:=hm.rows l i r q1 q2
   refine⟨k1,k2,k3,?_⟩
   cases hbk:i.blk with
   | none=>rw[hbk]at k4;exact k4
   | some b =>
    rw[hbk]at k4
    have hlt:=hm.ownLt ⟨l,i,q1,hbk⟩
    have j1:=k4.1
    refine⟨?_,k4.2.le hle (hb.block b hlt)⟩
    show(if b=w.heap.size then _ else S.imm b)=_
    rw[if_neg (by omega)];exact j1
 have hst:a0_ S w S' w':=⟨hle,hb.os,hb.tape,hb.output,hb.size,fun b hlt _=>hb.block b hlt,fun b q=>.inl q,fun b d q=>by
  have q':(if b=w.heap.size then some c else S.imm b)=some d:=q
  split at q'
  ·exact .inr (.inr (by omega))
  ·exact .inl q'⟩
 exact⟨S',hst,hm',by show(if w.heap.size=w.heap.size then some c else S.imm w.heap.size)=_;rw[if_pos rfl]⟩
theorem qP_{ty e:TypeId}{i:TypeInfo}{z:Value}{len:Nat}{parts:Array (Nat×Operand)}{es:List (List AV)}(hop:o.op=.buildSlice ty len parts)(hu:P.underlying ty=some (.slice e))(hi:P.info? e=some i)(hz:i.zero=some z)
 (hzs:i.size=z.cells.size) (hpos:0<i.size) (hsmall:len * i.size≤65536) (hm:ab_ S h w) (hr:Rel S N t a) (hx:∀p∈parts.toList,ag_ N p.2=true)
 (g1:parts.toList.map (·.1)=List.range len) (g2:(parts.toList.mapM fun p=>cellsOf (ah_ t p.2))=some es) (g3:∀d∈es,d.length=i.size) (g4:∀d∈es,d.all AV.flat=true)
 (hk:K (.list 0 i.size es) h) (hh:bI_ S w a o K next):o.wp P a w next Q:=by
 obtain⟨c',hrun,hc2,hcsize,hes⟩:=gt_ hop hu hi hz hzs hpos hsmall hm hr hx g1 g2 g3
 have hb:RowKit.Below w.heap.size w (w.alloc (.cells c' e)):=(RowKit.Below.refl _ _).alloc (Nat.le_refl _) _
 obtain⟨S',hst,hm',himm⟩:=hm.newImm (E:=e) (fr:=(0,0)) (c:=c') hb (by show(w.heap.push _)[w.heap.size]?=_;simp)
 refine a2_ hrun (hh _ _ S' h _ hst hm' ?_ hk)
 simp only[Rep]
 right
 have hflat:es.flatten.all AV.flat=true:=by
  rw[all_eq_true];intro x hx'
  obtain⟨d,hd,hxd⟩:=mem_flatten.1 hx'
  exact all_eq_true.1 (g4 d hd) x hxd
 refine⟨w.heap.size,0,len,c',by rw[hes],by omega,himm,g3,.inl trivial,by rw[hes,hcsize];omega,?_⟩
 rw[drop_zero]
 exact gY_ (ae_.up hst.le.still _ _ (fn_ hflat hc2))
theorem rL_{src dst e:TypeId}{x:Operand}{s:ByteArray}(hop:o.op=.convert src dst x)(hs:P.underlying src=some .string)(hd:P.underlying dst=some (.slice e))(he:P.underlying e=some (.int .u8))(hm:ab_ S h w)(hr:Rel S N t a)(hx:ag_ N x=true)
 (hv:ah_ t x=.val (.string s)) (hk:ToB K e s h) (hh:bI_ S w a o K next):o.wp P a w next Q:=by
 have rx:=hr.eval hx
 rw[hv]at rx
 simp only[Rep]at rx
 generalize hcap:grownCap w s.size 0 e=cap
 have hge:s.size≤cap:=by rw[←hcap];exact grownCap_ge w s.size 0 e
 generalize hw':w.drew.alloc (.cells (bytesRow s cap) e ((bytesRow s cap).size,(bytesRow s cap).size+1))=w'
 have hrun:(execOp a.eval o).run P w=.ok (.value (.slice (some ⟨w.heap.size,0,none⟩) s.size cap)) w':=by
  have:=run_bytes_of_string (P:=P) w src dst e s hs hd he
  rw[hcap,hw']at this
  simp only[execOp,hop,rx,Sem.run_bind,this,Result.andThen_ok]
  rfl
 have hbl0:(aY_ s.data.toList).length=s.size:=by
  simp only[aY_,length_map,Array.length_toList];rfl
 have hall0:∀d∈aY_ s.data.toList,d.length=1:=by
  intro d hd;obtain⟨x,_,q⟩:=mem_map.1 hd;subst q;rfl
 have hrep0:∀S0:Sit,aj_ S0 (aY_ s.data.toList) (bytesRow s cap).toList:=by
  intro S0
  rw[bi_ hall0]
  intro i d hd j c hc
  simp only[aY_,getElem?_map,Option.map_eq_some_iff]at hd
  obtain⟨x,hx',e1⟩:=hd
  subst e1
  cases j with
  | succ j=>simp at hc
  | zero =>
   simp at hc;subst hc
   refine⟨.int .u8 x.toNat,?_,by simp[Rep]⟩
   have hi:i<s.data.size:=by
    have:=(List.getElem?_eq_some_iff.1 hx').1
    simpa using this
   have hx2:s.data[i]?=some x:=by simpa using hx'
   simp only[Nat.mul_one,Nat.add_zero,Array.getElem?_toList,bytesRow]
   rw[Array.getElem?_append_left (by simpa using hi),Array.getElem?_map,hx2]
   rfl
 have hbsz:(bytesRow s cap).size=cap:=by
  have h0:s.data.size=s.size:=rfl
  simp[bytesRow,h0];omega
 have hwh:w'.heap=w.heap.push (.cells (bytesRow s cap) e ((bytesRow s cap).size,(bytesRow s cap).size+1)):=by rw[←hw'];rfl
 rcases hk.out with hk|hk
 case inr =>
  obtain⟨hsm,hk⟩:=hk
  have hcm:cap≤maxLen:=by rw[←hcap];exact grownCap_le_maxLen w s.size 0 e (by simp[maxLen];omega)
  have hnew:=ab_.newRow (w':=w') hm (E:=.byt e) (sz:=1) (cap:=cap) (es:=aY_ s.data.toList) hall0
   (by
     rw[ax_.byt (E:=e) rfl]
     exact⟨bytesRow s cap,((bytesRow s cap).size,(bytesRow s cap).size+1),⟨by rw[hwh];simp,.inr (Nat.le_refl _)⟩,hrep0 _,by rw[hbsz,Nat.mul_one],by rw[hbl0];exact hge,hcm⟩) hwh (by rw[←hw'];rfl) (by rw[←hw'];rfl) (by rw[←hw'];rfl)
  refine a2_ hrun (hh _ _ _ _ _ hnew.2 hnew.1 ?_ hk)
  rw[←hm.len]
  simp only[Rep]
  exact⟨⟨_,_,_,rfl⟩,⟨(aY_ s.data.toList).length,some w.heap.size,cap,1⟩,by simp,by rw[hbl0];exact Nat.le_refl _,fun _=>.inl (by simp[sliceAt,hbl0])⟩
 have hb:Below w.heap.size w w':=by
  rw[←hw']
  exact(RowKit.Below.refl _ _).drew.alloc (Nat.le_refl _) _
 have hnew:w'.heap[w.heap.size]?=some (.cells (bytesRow s cap) e ((bytesRow s cap).size,(bytesRow s cap).size+1)):=by
  rw[←hw']
  show(w.heap.push _)[w.heap.size]?=_
  simp
 have hnone:S.imm w.heap.size=none:=by
  cases q:S.imm w.heap.size with
  | none=>rfl
  | some c=>have:=hm.immLt q;omega
 let S':Sit:={ imm:=fun b=>if b=w.heap.size then some (bytesRow s cap)else S.imm b,rows:=S.rows }
 have hle:S.le S':=by
  refine⟨fun b c q=>?_,fun l i q=>⟨i,q,Nat.le_refl _,fun _=>rfl⟩⟩
  show(if b=w.heap.size then _ else S.imm b)=_
  rw[if_neg (by have:=hm.immLt q;omega)];exact q
 have hm':ab_ S' h w':=by
  refine⟨fun b c q=>?_,hm.len,fun l i r q1 q2=>?_,hm.one⟩
  ·have q':(if b=w.heap.size then some (bytesRow s cap)else S.imm b)=some c:=q
   split at q'
   ·rename_i e0;subst e0
    simp at q';subst q'
    exact⟨_,_,hnew⟩
   ·obtain⟨E,fr,k⟩:=hm.imm b c q'
    exact⟨E,fr,by rw[hb.block b (hm.immLt q')];exact k⟩
  ·obtain⟨k1,k2,k3,k4⟩:=hm.rows l i r q1 q2
   refine⟨k1,k2,k3,?_⟩
   cases hbk:i.blk with
   | none=>rw[hbk]at k4;exact k4
   | some b =>
    rw[hbk]at k4
    have hlt:=hm.ownLt ⟨l,i,q1,hbk⟩
    have j1:=k4.1
    refine⟨?_,k4.2.le hle (hb.block b hlt)⟩
    show(if b=w.heap.size then _ else S.imm b)=_
    rw[if_neg (by omega)];exact j1
 have hst:a0_ S w S' w':=⟨hle,hb.os,hb.tape,hb.output,hb.size,fun b hlt _=>hb.block b hlt,fun b q=>.inl q,fun b c q=>by
  have q':(if b=w.heap.size then some (bytesRow s cap)else S.imm b)=some c:=q
  split at q'
  ·exact .inr (.inr (by omega))
  ·exact .inl q'⟩
 refine a2_ hrun (hh _ _ S' h w' hst hm' ?_ hk)
 simp only[Rep]
 right
 have hbl:(aY_ s.data.toList).length=s.size:=by
  simp only[aY_,length_map,Array.length_toList];rfl
 have hall:∀d∈aY_ s.data.toList,d.length=1:=by
  intro d hd;obtain⟨x,_,q⟩:=mem_map.1 hd;subst q;rfl
 refine⟨w.heap.size,0,cap,bytesRow s cap,by rw[hbl],by rw[hbl];exact hge,?_,hall,.inl trivial,?_,?_⟩
 ·show(if w.heap.size=w.heap.size then some (bytesRow s cap)else S.imm w.heap.size)=_
  rw[if_pos rfl]
 ·rw[hbl]
  have h0:s.data.size=s.size:=rfl
  simp[bytesRow,h0]
 ·rw[bi_ hall]
  intro i d hd j c hc
  simp only[aY_,getElem?_map,Option.map_eq_some_iff]at hd
  obtain⟨x,hx',e1⟩:=hd
  subst e1
  cases j with
  | succ j=>simp at hc
  | zero =>
   simp at hc;subst hc
   refine⟨.int .u8 x.toNat,?_,by simp[Rep]⟩
   have hi:i<s.data.size:=by
    have:=(List.getElem?_eq_some_iff.1 hx').1
    simpa using this
   have hx2:s.data[i]?=some x:=by simpa using hx'
   simp only[Nat.mul_one,Nat.add_zero,drop_zero,Array.getElem?_toList,bytesRow]
   rw[Array.getElem?_append_left (by simpa using hi),Array.getElem?_map,hx2]
   rfl
theorem iy_{g:FuncId}{fn:Func}{c:Code}(hf:P.funcs[g]?=some fn)(hb:fn.body=some c)(hn:(fn.name == "runtime.NumGoroutine")=false) (args:Array Value):(callFunc g args).run P w=.ok (.enter g args) w:=by
 simp only[callFunc,program,Sem.run_bind,Sem.run,Result.andThen_ok,hf,hn,hb]
 rfl
theorem gR_{g:FuncId}(h:cB_ P g=true):∃fn c,P.funcs[g]?=some fn∧fn.body=some c∧(fn.name == "runtime.NumGoroutine")=false:=by
 unfold cB_ at h
 split at h
 ·rename_i fn hf
  simp only[Bool.and_eq_true,Bool.not_eq_true']at h
  obtain⟨h1,h2⟩:=h
  cases hb:fn.body with
  | none=>simp[hb]at h1
  | some c=>exact⟨fn,c,hf,hb,h2⟩
 ·simp at h
theorem pP_{g:FuncId}{args:List AV}{vals:Array Value}(hrun:(execOp a.eval o).run P w=.ok (.enter g vals) w)(hm:ab_ S h w)(hgl:cn_ P S)(hv:ae_ S args vals.toList)(hk:callSem P g args h K)(hh:bI_ S w a o K next):o.wp P a w next Q:=by
 unfold Oper.wp
 rw[hrun]
 refine(hk S w vals hm hgl hv).mono ?_
 rintro e w' ⟨v,av,S',h',rfl,s,m',r,k⟩
 exact hh v av S' h' w' s m' r k
theorem xJ_{c:Call}{f:FuncId}(hop:o.op=.call c)(hc:c.callee=.value (.func f))(hf:cB_ P f=true)(hm:ab_ S h w)(hgl:cn_ P S)(hr:Rel S N t a)(hx:∀x∈c.args.toList,ag_ N x=true)
 (hk:callSem P f (c.args.toList.map (ah_ t)) h K) (hh:bI_ S w a o K next):o.wp P a w next Q:=by
 obtain⟨fn,cd,h1,h2,h3⟩:=gR_ hf
 refine pP_ (vals:=c.args.map a.eval) ?_ hm hgl (by simpa using eG_ hr hx) hk hh
 simp only[execOp,hop,resolve,hc,Act.eval,Deferred.ofValue,Sem.run_bind,Sem.run_pure,Result.andThen_ok,invoke]
 rw[show(#[]++Array.map a.eval c.args++#[]:Array Value)=c.args.map a.eval by simp]
 exact iy_ h1 h2 h3 _
theorem vs_{c:Call}{x:Operand}{g:FuncId}{first caps:List AV}(hop:o.op=.call c)(hc:c.callee=.value x)(hxx:ag_ N x=true)(hg:ah_ t x=.fn g first caps)(hf:cB_ P g=true)(hm:ab_ S h w)(hgl:cn_ P S)(hr:Rel S N t a)
 (hx:∀x∈c.args.toList,ag_ N x=true) (hk:callSem P g (first++c.args.toList.map (ah_ t)++caps) h K) (hh:bI_ S w a o K next):o.wp P a w next Q:=by
 obtain⟨fn,cd,h1,h2,h3⟩:=gR_ hf
 have rx:=hr.eval hxx
 rw[hg]at rx
 simp only[Rep]at rx
 obtain⟨vs,us,e1,r1,r2⟩:=rx
 have app:∀{A B:List AV} {X Y:List Value},ae_ S A X→ae_ S B Y→ae_ S (A++B) (X++Y):=by
  intro A
  induction A with
  | nil=>intro B X Y h1 h2;simp[ae_]at h1;subst h1;simpa using h2
  | cons a A ih =>
   intro B X Y h1 h2
   simp only[ae_]at h1
   obtain⟨v,r,e,g1,g2⟩:=h1
   subst e
   simp only[cons_append,ae_]
   exact⟨v,_,rfl,g1,ih g2 h2⟩
 refine pP_ (vals:=vs++c.args.map a.eval++us) ?_ hm hgl (by simpa using app r1 (app (eG_ hr hx) r2)) (by simpa using hk) hh
 simp only[execOp,hop,resolve,hc,e1,Deferred.ofValue,Sem.run_bind,Sem.run_pure,Result.andThen_ok,invoke]
 exact iy_ h1 h2 h3 _
theorem l5_{c:Call}{x y:Operand}{ty tn e:TypeId}{kn kq:IntKind}{i:TypeInfo}{z:Value}{l n m k:Nat}{r:Row}(hop:o.op=.call c)(hc:c.callee=.builtin .append)(ha:c.args=#[x,y])(ht:c.argTypes=#[ty,tn])
 (hu:P.underlying ty=some (.slice e)) (hn:P.underlying tn=some (.int kn)) (hi:P.info? e=some i) (hz:i.zero=some z) (hzs:i.size=z.cells.size) (hpos:0<i.size) (hm:ab_ S h w) (hr:Rel S N t a) (hx:ag_ N x=true) (hy:ag_ N y=true)
 (e1:ah_ t x=.sub l n 0 m) (e2:ah_ t y=.val (.int kq k)) (e3:h[l]?=some r) (g1:r.es.length=n) (g2:r.E=.full e) (g3:r.sz=i.size) (hmn:m≤n) (hgr:n<m+k) (g4:(m+k) * i.bytes≤140737488355328) (g5:m+k≤9223372036854775807)
 (hk:K (.own h.length (m+k)) (h++[⟨.ty e,i.size,r.es.take m++List.replicate k (z.cells.toList.map .val)⟩])) (hh:bI_ S w a o K next):o.wp P a w next Q:=by
 have rx:=hr.eval hx
 have ry:=hr.eval hy
 rw[e1]at rx
 rw[e2]at ry
 simp only[Rep]at rx ry
 obtain⟨_,inf,p1,p2,p3⟩:=rx
 obtain⟨k1,k2,k3,k4⟩:=hm.rows l inf r p1 e3
 obtain⟨_,_,hxv⟩:=p3 (by omega)
 have hexec:(execOp a.eval o).run P w=((Builtin.append_ #[ty,tn] o.type #[a.eval x,a.eval y]).run P w).andThen fun v w'=>.ok (.value v) w':=by
  simp[execOp,hop,resolve,hc,ha,ht,invoke,builtin]
 have hcnt:0<k:=by omega
 have hzl:(Builtin.zeroCells z.cells k).toList.length=k * i.size:=by simp[size_zeroCells,hzs]
 have hzr:aj_ S (List.replicate k (z.cells.toList.map .val)) (Builtin.zeroCells z.cells k).toList:=jA_ (S:=S) z.cells k
 have hel:∀d∈List.replicate k (z.cells.toList.map AV.val),d.length=i.size:=by
  intro d hd;rw[eq_of_mem_replicate hd,hzs];simp
 have hT:∀d∈r.es.take m,d.length=i.size:=fun d hd=>by rw[←g3];exact k3 d (mem_of_mem_take hd)
 have hTl:(r.es.take m).length=m:=by simp;omega
 have hh1:∀d∈r.es.take m++List.replicate k (z.cells.toList.map AV.val),d.length=i.size:=by
  intro d hd
  rcases mem_append.1 hd with q|q
  ·exact hT d q
  ·exact hel d q
 have hlen':(r.es.take m++List.replicate k (z.cells.toList.map AV.val)).length=m+k:=by rw[List.length_append,hTl,length_replicate]
 have grown:∀(olds:List Value) (old:Nat),old<m+k→olds.length=m * i.size→aj_ S (r.es.take m) olds →
  (execOp a.eval o).run P w=.ok (.value (.slice (some ⟨w.heap.size,0,none⟩) (m+k) (grownCap w (m+k) old e)))
   (w.drew.alloc (.cells (olds.toArray++Builtin.zeroCells z.cells k++Builtin.zeroCells z.cells (grownCap w (m+k) old e-(m+k))) e)) →
  o.wp P a w next Q:=by
  intro olds old ho hol hor hrun
  have hge:=grownCap_ge w (m+k) old e
  have hcm:=grownCap_le_maxLen w (m+k) old e (by simp[maxLen];omega)
  have hoz:olds.length=(r.es.take m).length * i.size:=by rw[hol,hTl]
  have hg:=ab_.new (w':=w.drew.alloc (.cells (olds.toArray++Builtin.zeroCells z.cells k++Builtin.zeroCells z.cells (grownCap w (m+k) old e-(m+k))) e)) hm (E:=e) (sz:=i.size) (es:=r.es.take m++List.replicate k (z.cells.toList.map .val))
   (cap:=grownCap w (m+k) old e) (c:=olds.toArray++Builtin.zeroCells z.cells k++Builtin.zeroCells z.cells (grownCap w (m+k) old e-(m+k)))
   (by
     have:=es_ (Builtin.zeroCells z.cells (grownCap w (m+k) old e-(m+k))).toList hh1 (c6_ (sz:=i.size) hT hel hoz hor hzr)
     simpa using this)
   hh1
   (by
     simp only[Array.size_append,size_toArray,size_zeroCells,←hzs,hol,←Nat.add_mul]
     congr 1
     omega)
   (by rw[hlen'];omega) hcm rfl rfl rfl rfl
  rw[hlen']at hg
  refine a2_ hrun (hh _ _ _ _ _ hg.2 hg.1 ?_ hk)
  rw[←hm.len]
  exact dj_ S _ _ _ _ _
 have hk48:k * i.bytes≤281474976710656:=by
  have:k * i.bytes≤(m+k) * i.bytes:=Nat.mul_le_mul_right _ (by omega)
  omega
 rcases hxv with ⟨hb,p,hxv⟩|⟨b,off,hb,hxv,hoff⟩
 ·rw[hb]at k4
  have hn0:n=0:=by rw[←g1,k4.1];rfl
  have hm0:m=0:=by omega
  subst hn0 hm0
  refine grown [] 0 (by omega) (by simp) (by simp[aj_]) ?_
  have hold:(Builtin.firstCells i.size 0 (.slice p 0 0)).run P w.drew=.ok ([]:List Value).toArray w.drew:=by
   cases p<;>simp[Builtin.firstCells,loadCells,loadCellsFrom]
  have hr2:=Lib.run_append_grow_zeros (P:=P) w ty tn o.type e i z kq kn hu hn hi hz p 0 0 [] hold k hcnt hpos (by omega) (by omega) hk48 (growslice_fits (by omega) g4)
  rw[hexec,hxv,ry,hr2];rfl
 ·rw[hb]at k4
  obtain⟨E',cc,hE',⟨fr,j2,hfr⟩,j3,j4,j5,j6⟩:=k4.2.cells (.inr (by omega))
  have hcap:inf.cap=n:=by
   rcases hE' with (q|q)|⟨q,q2⟩
   ·rw[g2]at q;cases q
   ·rw[g2]at q;cases q
   ·omega
  have hcs:cc.size=n * i.size:=by rw[j4,k2,g3,hcap]
  have hsize2:m * i.size≤cc.size:=by rw[hcs];exact Nat.mul_le_mul_right _ (by omega)
  have h3:aj_ S (r.es.take m) (cc.toList.take (m * i.size)):=cp_ hT (aj_.take j3) (by rw[hTl];omega)
  have hol:(cc.toList.take (m * i.size)).length=m * i.size:=by simp;omega
  have holds:∀j u,(cc.toList.take (m * i.size))[j]?=some u→w.drew.cell? ((⟨b,off,none⟩:Addr).add j)=some u:=by
   intro j u hj
   rw[getElem?_take]at hj
   split at hj
   ·rename_i hjm
    have hm0:0<m:=by
     rcases Nat.eq_zero_or_pos m with q|q
     ·subst q;simp at hjm
     ·exact q
    rw[b1_,hoff (by omega)]
    have:cc[j]?=some u:=by simpa using hj
    have j2':w.drew.heap[b]?=some (.cells cc E' fr):=j2
    simp[World.cell?,j2',this]
   ·simp at hj
  have hold:(Builtin.firstCells i.size m (.slice (some ⟨b,off,none⟩) m inf.cap)).run P w.drew=.ok (cc.toList.take (m * i.size)).toArray w.drew:=by
   have:=run_loadCells_list (P:=P) w.drew ⟨b,off,none⟩ _ holds
   rw[hol]at this
   simpa[Builtin.firstCells]using this
  have hr2:=Lib.run_append_grow_zeros (P:=P) w ty tn o.type e i z kq kn hu hn hi hz (some ⟨b,off,none⟩) m inf.cap _ hold k hcnt hpos (by omega) (by omega) hk48 (growslice_fits (by omega) g4)
  refine grown (cc.toList.take (m * i.size)) inf.cap (by omega) hol h3 ?_
  simp only[Nat.sub_zero]at hxv
  rw[hexec,hxv,ry,hr2];rfl
theorem lo_{c:Call}{x y:Operand}{ty tn e:TypeId}{kn kq:IntKind}{i:TypeInfo}{z:Value}{l n lo m k:Nat}{r:Row}(hop:o.op=.call c)(hc:c.callee=.builtin .append)(ha:c.args=#[x,y])(ht:c.argTypes=#[ty,tn])
 (hu:P.underlying ty=some (.slice e)) (hn:P.underlying tn=some (.int kn)) (hi:P.info? e=some i) (hz:i.zero=some z) (hzs:i.size=z.cells.size) (hpos:0<i.size) (hm:ab_ S h w) (hr:Rel S N t a) (hx:ag_ N x=true) (hy:ag_ N y=true)
 (e1:ah_ t x=.sub l n lo m) (e2:ah_ t y=.val (.int kq k)) (e3:h[l]?=some r) (g1:r.es.length=n) (g2:r.E=.full e) (g3:r.sz=i.size) (hlm:lo≤m) (hmn:m≤n) (hgr:n<m+k) (g4:(m+k) * i.bytes≤140737488355328) (g5:m+k≤9223372036854775807)
 (hk:K (.own h.length (m-lo+k)) (h++[⟨.ty e,i.size,(r.es.take m).drop lo++List.replicate k (z.cells.toList.map .val)⟩])) (hh:bI_ S w a o K next):o.wp P a w next Q:=by
 have rx:=hr.eval hx
 have ry:=hr.eval hy
 rw[e1]at rx
 rw[e2]at ry
 simp only[Rep]at rx ry
 obtain⟨_,inf,p1,p2,p3⟩:=rx
 obtain⟨k1,k2,k3,k4⟩:=hm.rows l inf r p1 e3
 obtain⟨_,_,hxv⟩:=p3 (by omega)
 have hexec:(execOp a.eval o).run P w=((Builtin.append_ #[ty,tn] o.type #[a.eval x,a.eval y]).run P w).andThen fun v w'=>.ok (.value v) w':=by
  simp[execOp,hop,resolve,hc,ha,ht,invoke,builtin]
 have hcnt:0<k:=by omega
 have hzl:(Builtin.zeroCells z.cells k).toList.length=k * i.size:=by simp[size_zeroCells,hzs]
 have hzr:aj_ S (List.replicate k (z.cells.toList.map .val)) (Builtin.zeroCells z.cells k).toList:=jA_ (S:=S) z.cells k
 have hel:∀d∈List.replicate k (z.cells.toList.map AV.val),d.length=i.size:=by
  intro d hd;rw[eq_of_mem_replicate hd,hzs];simp
 have hT:∀d∈(r.es.take m).drop lo,d.length=i.size:=fun d hd=>by rw[←g3];exact k3 d (mem_of_mem_take (mem_of_mem_drop hd))
 have hTl:((r.es.take m).drop lo).length=m-lo:=by simp;omega
 have hh1:∀d∈(r.es.take m).drop lo++List.replicate k (z.cells.toList.map AV.val),d.length=i.size:=by
  intro d hd
  rcases mem_append.1 hd with q|q
  ·exact hT d q
  ·exact hel d q
 have hlen':((r.es.take m).drop lo++List.replicate k (z.cells.toList.map AV.val)).length=m-lo+k:=by rw[List.length_append,hTl,length_replicate]
 have grown:∀(olds:List Value) (old:Nat),old<m-lo+k→olds.length=(m-lo) * i.size→aj_ S ((r.es.take m).drop lo) olds →
  (execOp a.eval o).run P w=.ok (.value (.slice (some ⟨w.heap.size,0,none⟩) (m-lo+k) (grownCap w (m-lo+k) old e)))
   (w.drew.alloc (.cells (olds.toArray++Builtin.zeroCells z.cells k++Builtin.zeroCells z.cells (grownCap w (m-lo+k) old e-(m-lo+k))) e)) →
  o.wp P a w next Q:=by
  intro olds old ho hol hor hrun
  have hge:=grownCap_ge w (m-lo+k) old e
  have hcm:=grownCap_le_maxLen w (m-lo+k) old e (by simp[maxLen];omega)
  have hoz:olds.length=((r.es.take m).drop lo).length * i.size:=by rw[hol,hTl]
  have hg:=ab_.new (w':=w.drew.alloc (.cells (olds.toArray++Builtin.zeroCells z.cells k++Builtin.zeroCells z.cells (grownCap w (m-lo+k) old e-(m-lo+k))) e)) hm (E:=e) (sz:=i.size) (es:=(r.es.take m).drop lo++List.replicate k (z.cells.toList.map .val))
   (cap:=grownCap w (m-lo+k) old e) (c:=olds.toArray++Builtin.zeroCells z.cells k++Builtin.zeroCells z.cells (grownCap w (m-lo+k) old e-(m-lo+k)))
   (by
     have:=es_ (Builtin.zeroCells z.cells (grownCap w (m-lo+k) old e-(m-lo+k))).toList hh1 (c6_ (sz:=i.size) hT hel hoz hor hzr)
     simpa using this)
   hh1
   (by
     simp only[Array.size_append,size_toArray,size_zeroCells,←hzs,hol,←Nat.add_mul]
     congr 1
     omega)
   (by rw[hlen'];omega) hcm rfl rfl rfl rfl
  rw[hlen']at hg
  refine a2_ hrun (hh _ _ _ _ _ hg.2 hg.1 ?_ hk)
  rw[←hm.len]
  exact dj_ S _ _ _ _ _
 have hk48:k * i.bytes≤281474976710656:=by
  have:k * i.bytes≤(m+k) * i.bytes:=Nat.mul_le_mul_right _ (by omega)
  omega
 rcases hxv with ⟨hb,p,hxv⟩|⟨b,off,hb,hxv,hoff⟩
 ·rw[hb]at k4
  have hn0:n=0:=by rw[←g1,k4.1];rfl
  have hm0:m=0:=by omega
  have hl0:lo=0:=by omega
  subst hn0 hm0 hl0
  refine grown [] 0 (by omega) (by simp) (by simp[aj_]) ?_
  have hold:(Builtin.firstCells i.size 0 (.slice p 0 0)).run P w.drew=.ok ([]:List Value).toArray w.drew:=by
   cases p<;>simp[Builtin.firstCells,loadCells,loadCellsFrom]
  have hr2:=Lib.run_append_grow_zeros (P:=P) w ty tn o.type e i z kq kn hu hn hi hz p 0 0 [] hold k hcnt hpos (by omega) (by omega) hk48 (growslice_fits (by omega) g4)
  rw[hexec,hxv,ry,hr2];rfl
 ·rw[hb]at k4
  obtain⟨E',cc,hE',⟨fr,j2,hfr⟩,j3,j4,j5,j6⟩:=k4.2.cells (.inr (by omega))
  have hcap:inf.cap=n:=by
   rcases hE' with (q|q)|⟨q,q2⟩
   ·rw[g2]at q;cases q
   ·rw[g2]at q;cases q
   ·omega
  have hcs:cc.size=n * i.size:=by rw[j4,k2,g3,hcap]
  have hm4:(m-lo+k) * i.bytes≤140737488355328:=Nat.le_trans (Nat.mul_le_mul_right _ (by omega)) g4
  have hcl:(cc.toList).length=n * i.size:=by rw[Array.length_toList,hcs]
  have hlm2:lo * i.size+(m-lo) * i.size≤n * i.size:=by rw[←Nat.add_mul];exact Nat.mul_le_mul_right _ (by omega)
  have hd:=aj_.drop (aj_.take (k:=m) j3) (sz:=i.size) (k:=lo) (fun x hx=>by rw[←g3];exact k3 x (mem_of_mem_take hx))
  have hol:((cc.toList.drop (lo * i.size)).take ((m-lo) * i.size)).length=(m-lo) * i.size:=by simp only[length_take,length_drop,hcl];omega
  have h3:aj_ S ((r.es.take m).drop lo) ((cc.toList.drop (lo * i.size)).take ((m-lo) * i.size)):=cp_ hT hd (by rw[hTl];exact Nat.le_refl _)
  have holds:∀j u,((cc.toList.drop (lo * i.size)).take ((m-lo) * i.size))[j]?=some u→w.drew.cell? ((⟨b,off,none⟩:Addr).add j)=some u:=by
   intro j u hj
   rw[getElem?_take]at hj
   split at hj
   ·rename_i hjm
    have hm0:0<m-lo:=by
     rcases Nat.eq_zero_or_pos (m-lo)with q|q
     ·rw[q]at hjm;simp at hjm
     ·exact q
    rw[b1_,hoff (by omega),k2,g3]
    have:cc[lo * i.size+j]?=some u:=by
     rw[getElem?_drop]at hj;simpa using hj
    have j2':w.drew.heap[b]?=some (.cells cc E' fr):=j2
    simp[World.cell?,j2',this]
   ·simp at hj
  have hold:(Builtin.firstCells i.size (m-lo) (.slice (some ⟨b,off,none⟩) (m-lo) (inf.cap-lo))).run P w.drew=.ok ((cc.toList.drop (lo * i.size)).take ((m-lo) * i.size)).toArray w.drew:=by
   have:=run_loadCells_list (P:=P) w.drew ⟨b,off,none⟩ _ holds
   rw[hol]at this
   simpa[Builtin.firstCells]using this
  have hr2:=Lib.run_append_grow_zeros (P:=P) w ty tn o.type e i z kq kn hu hn hi hz (some ⟨b,off,none⟩) (m-lo) (inf.cap-lo) _ hold k hcnt hpos (by omega) (by omega) hk48 (growslice_fits (by omega) hm4)
  refine grown _ (inf.cap-lo) (by omega) hol h3 ?_
  rw[hexec,hxv,ry,hr2];rfl
theorem uA_{ty:TypeId}(hop:o.op=.makeMap ty none)(hm:ab_ S h w)(hk:K (.mp h.length) (h++[⟨.map [],0,[]⟩]))(hh:bI_ S w a o K next):o.wp P a w next Q:=by
 have hrun:(execOp a.eval o).run P w=.ok (.value (.map (some w.heap.size))) (w.alloc (.map #[] 0)):=by
  simp[execOp,hop,Instr.makeMap,newObj,Sem.run]
 have hnew:=ab_.newRow (w':=w.alloc (.map #[] 0)) hm (E:=.map []) (sz:=0) (cap:=0) (es:=[]) (by simp) ⟨rfl,rfl,#[],0,by show(w.heap.push _)[w.heap.size]?=_;simp,rfl⟩ rfl rfl rfl rfl
 refine a2_ hrun (hh _ _ _ _ _ hnew.2 hnew.1 ?_ hk)
 rw[←hm.len]
 simp only[Rep]
 exact⟨⟨_,rfl⟩,⟨0,some w.heap.size,0,0⟩,by simp,fun _=>⟨_,rfl,rfl⟩⟩
theorem s4_{ty kt et:TypeId}{m k v:Operand}{l:Nat}{n:Int}{u:Value}{r:Row}{ents:List (Int×Value)}(hop:o.op=.mapUpdate ty m k v)(hu:P.underlying ty=some (.map kt et))(hkt:P.underlying kt=some (.int .i64))(hm:ab_ S h w)(hr:Rel S N t a)
 (h1:ag_ N m=true) (h2:ag_ N k=true) (h3:ag_ N v=true) (e1:ah_ t m=.mp l) (e2:ah_ t k=.val (.int .i64 n)) (e3:ah_ t v=.val u) (e4:h[l]?=some r) (hE:r.E=.map ents)
 (hk:K (.val Go.undef) (h.set l ⟨.map (ew_ ents n u),0,[]⟩)) (hh:bI_ S w a o K next):o.wp P a w next Q:=by
 have r1:=hr.eval h1
 have r2:=hr.eval h2
 have r3:=hr.eval h3
 rw[e1]at r1;rw[e2]at r2;rw[e3]at r3
 simp only[Rep]at r1 r2 r3
 obtain⟨_,inf,q1,q3⟩:=r1
 obtain⟨k1,k2,k3,k4⟩:=hm.rows l inf r q1 e4
 have hes:r.es=[]:=by
  cases hb:inf.blk with
  | none=>rw[hb]at k4;exact k4.1
  | some b=>rw[hb]at k4;have:=k4.2;unfold ax_ at this;rw[hE]at this;exact this.1
 obtain⟨b,hb,hxx⟩:=q3 (by rw[k1,hes];rfl)
 rw[hb]at k4
 have hst:=k4.2
 unfold ax_ at hst
 rw[hE]at hst
 obtain⟨_,hsz0,arr,clock,hw,hents⟩:=hst
 obtain⟨f,f1,f2,f3⟩:=iA_ arr.toList ents n 0 hents
 have hg:(getObj b).run P w=.ok (.map arr clock) w:=by simp[getObj,Sem.run,hw]
 have hck:(Instr.checkKey false 10000 kt (.int .i64 n)).run P w=.ok () w:=fP_ hkt false 9999 n
 have hfk:(Instr.findKey kt (.int .i64 n) arr.toList).run P w=.ok f w:=by simp[Instr.findKey,run_underlying hkt,f1]
 have hset:∀ob,(setObj b ob).run P w=.ok () { w with heap:=w.heap.setIfInBounds b ob }:=by intro ob;simp[setObj,Sem.run,hw]
 have key:∀(arr':Array MapEntry) (clock':Nat),(execOp a.eval o).run P w=.ok .skip { w with heap:=w.heap.setIfInBounds b (.map arr' clock') }→arr'.toList.map (fun e=>(e.key,e.val))=(ew_ ents n u).map (fun p=>(Value.int .i64 p.1,p.2))→o.wp P a w next Q:=by
  intro arr' clock' hrun hl
  have hlt:=(Array.getElem?_eq_some_iff.1 hw).1
  have hput:=ab_.putRow (w':={ w with heap:=w.heap.setIfInBounds b (.map arr' clock') }) (r':=⟨.map (ew_ ents n u),0,[]⟩) hm q1 e4 hb (by rw[hes]) hsz0.symm (by simp)
   ⟨rfl,rfl,arr',clock',by simp[hlt],hl⟩ (fun q hq=>by simp[Array.getElem?_setIfInBounds,Ne.symm hq]) (by simp) rfl rfl rfl
  exact hb_ hrun (hh _ _ _ _ _ hput.2 hput.1 (by simp[Rep]) hk)
 cases f with
 | none =>
  simp only[Option.map_none]at f2
  refine key (arr.push { key:=.int .i64 n,val:=u,born:=clock }) (clock+1) ?_ ?_
  ·simp[execOp,hop,Instr.mapUpdate,run_underlying hu,hxx,r2,r3,hg,hck,hfk,hset]
  ·simp only[Array.toList_push,map_append,map_cons,map_nil,hents]
   have:∀(l:List (Int×Value)),l.lookup n=none→ew_ l n u=l++[(n,u)]:=by
    intro l
    induction l with
    | nil=>intro _;rfl
    | cons p l ih =>
     obtain⟨c,d⟩:=p
     intro hl
     simp only[List.lookup]at hl
     split at hl
     ·simp at hl
     ·rename_i hne
      have:¬ c=n:=by intro e;subst e;simp at hne
      simp[ew_,this,ih hl]
   rw[this ents f2.symm];simp
 | some p =>
  obtain⟨j,d⟩:=p
  obtain⟨c,e',c1,c2,c3,c4⟩:=f3 j d rfl
  have hj:j=c:=by omega
  subst hj
  refine key (arr.modify j fun e=>{ e with key:=.int .i64 n,val:=u }) clock ?_ ?_
  ·have ha:arr[j]?=some e':=by simpa using c2
   have hks:(Instr.keyThatStays (.int .i64 n) (.int .i64 n)).run P w=.ok (.int .i64 n) w:=by
    have:Instr.sameBits 10000 (.int .i64 n) (.int .i64 n)=true:=by simp[Instr.sameBits]
    simp[Instr.keyThatStays,this]
   simp[execOp,hop,Instr.mapUpdate,run_underlying hu,hxx,r2,r3,hg,hck,hfk,ha,c3,hks,hset]
  ·rw[Array.toList_modify];exact c4 u
theorem sN_{op:BinOp}{ty ty' e:TypeId}{x y:Operand}{neg:Bool}{p:Option Addr}{n c:Nat}(hop:o.op=.binOp op ty x y ty')(hy:y=.const (.slice none 0 0))(hu:P.underlying ty=some (.slice e))(ho:(op=.eql∧neg=false)∨(op=.neq∧neg=true))(hx:a.eval x=.slice p n c) :
 (execOp a.eval o).run P w=.ok (.value (.bool (p.isNone != neg))) w:=by
 subst hy
 have hg:∀op,(eqGuard op ty x (.const (.slice none 0 0)) (.slice p n c) (.slice none 0 0)).run P w=.ok () w:=by
  intro op;unfold eqGuard;cases op<;>rfl
 have he:(Op.equal ty (.slice p n c) (.slice none 0 0)).run P w=.ok p.isNone w:=by
  unfold Op.equal
  obtain⟨d,hd⟩:∃d,Op.maxDepth=d+1:=⟨_,rfl⟩
  rw[hd]
  unfold Op.equalIn
  cases p with
  | none=>simp[run_underlying hu]
  | some q=>simp[run_underlying hu]
 rcases ho with ⟨rfl,rfl⟩|⟨rfl,rfl⟩
 ·simp[execOp,hop,hx,show a.eval (.const (.slice none 0 0))=.slice none 0 0 from rfl,hg,binOp,he]
 ·simp[execOp,hop,hx,show a.eval (.const (.slice none 0 0))=.slice none 0 0 from rfl,hg,binOp,he]
theorem u4_{op:BinOp}{ty ty':TypeId}{x y:Operand}{neg:Bool}(hop:o.op=.binOp op ty x y ty')(hn:mE_ P op ty y=some neg)(hm:ab_ S h w)(hr:Rel S N t a)(hxo:ag_ N x=true)(hw:aX_ P t h K (.isNil neg x))(hh:bI_ S w a o K next):o.wp P a w next Q:=by
 obtain⟨hy,⟨e,hu⟩,ho⟩:=qM_ hn
 have rx:=hr.eval hxo
 have fin:∀(p:Option Addr) (n c:Nat),a.eval x=.slice p n c→K (.val (.bool (p.isNone != neg))) h→o.wp P a w next Q:=fun p n c hx hk =>
  a2_ (sN_ hop hy hu ho hx) (hh _ _ S h w (a0_.refl _ _) hm (by simp[Rep]) hk)
 simp only[aX_]at hw
 split at hw
 ·rename_i tk sz es q1
  rw[q1]at rx
  simp only[Rep]at rx
  rcases rx with ⟨h1,_,p,c,q⟩|⟨b,off,cap,cc,q,_⟩
  ·exact fin _ _ _ q (hw _ fun _=>h1)
  ·exact fin _ _ _ q (hw _ fun hb=>by simp at hb)
 ·rename_i l n q1
  rw[q1]at rx
  simp only[Rep]at rx
  obtain⟨_,i,e1,e2,e3⟩:=rx
  split at hw
  ·rename_i r q2
   obtain⟨k1,k2,k3,k4⟩:=hm.rows l i r e1 q2
   have hlen:n=i.len:=by rw[k1,hw.1]
   rcases e3 hlen with q|⟨hb,p,q⟩
   ·unfold sliceAt at q
    cases hblk:i.blk with
    | none =>
     rw[hblk]at q k4
     exact fin _ _ _ q (hw.2 _ fun _=>by rw[←hw.1,k4.1];rfl)
    | some b =>
     rw[hblk]at q
     exact fin _ _ _ q (hw.2 _ fun hb=>by simp at hb)
   ·rw[hb]at k4
    exact fin _ _ _ q (hw.2 _ fun _=>by rw[←hw.1,k4.1];rfl)
  ·exact hw.elim
 ·rename_i l n lo hi q1
  rw[q1]at rx
  simp only[Rep]at rx
  obtain⟨_,i,e1,e2,e3⟩:=rx
  split at hw
  ·rename_i r q2
   obtain⟨k1,k2,k3,k4⟩:=hm.rows l i r e1 q2
   have hlen:n=i.len:=by rw[k1,hw.1]
   obtain⟨g1,g2,g3⟩:=e3 hlen
   rcases g3 with ⟨hb,p,q⟩|⟨b,off,hb,q,_⟩
   ·rw[hb]at k4
    have hn0:n=0:=by rw[←hw.1,k4.1];rfl
    exact fin _ _ _ q (hw.2 _ fun _=>by omega)
   ·exact fin _ _ _ q (hw.2 _ fun hb=>by simp at hb)
  ·exact hw.elim
 ·rename_i q1
  rw[q1]at rx
  simp only[Rep]at rx
  exact fin _ _ _ rx (by simpa using hw)
 ·exact hw.elim
theorem qa_{lo:LOp}(hlow:aw_ P o.op=some lo)(hok:fs_ N lo=true)(hm:ab_ S h w)(hgl:cn_ P S)(hr:Rel S N t a)(hw:aX_ P t h K lo)(hh:bI_ S w a o K next):o.wp P a w next Q:=by
 have hmem:=dO_ hok
 have pureCase:(∀(x:Prop),(match ai_ t h lo with|some v=>K v h|none=>False)→o.wp P a w next Q):=by
  intro _ hq
  cases hv:ai_ t h lo with
  | none=>rw[hv]at hq;exact hq.elim
  | some av =>
   rw[hv]at hq
   exact lf_ (mG_ hlow hok hm hr hv) hm hq hh
 cases hop:o.op with
 | alloc E =>
  simp only[hop,aw_,Option.bind_eq_some_iff,Option.map_eq_some_iff]at hlow
  obtain⟨i,h1,z,h2,e⟩:=hlow;subst e
  exact ug_ hop h1 h2 hm hw hh
 | box E x =>
  simp only[hop,aw_,Option.some.injEq]at hlow;subst hlow
  simp only[aX_]at hw
  split at hw
  ·rename_i cs hc
   exact xO_ hop hm hr (hmem x (by simp[LOp.operands])) hc hw hh
  ·exact hw.elim
 | store ty p x =>
  simp only[hop,aw_,Option.map_eq_some_iff]at hlow
  obtain⟨i,hi,e⟩:=hlow;subst e
  simp only[aX_]at hw
  split at hw
  ·rename_i l k j off cs h1 h2
   split at hw
   ·rename_i r h3
    split at hw
    ·rename_i e h4
     obtain⟨h5,h6,h7,h8⟩:=hw
     exact vE_ hop hi hm hr (hmem p (by simp[LOp.operands])) (hmem x (by simp[LOp.operands])) h1 h2 h3 h4 h5 h6 h7 h8 hh
    ·exact hw.elim
   ·exact hw.elim
  ·exact hw.elim
 | makeSlice ty l c =>
  simp only[hop,aw_]at hlow
  split at hlow
  ·rename_i e hu
   simp only[Option.bind_eq_some_iff]at hlow
   obtain⟨i,hi,z,hz,e1⟩:=hlow
   split at e1
   ·rename_i hcond
    simp only[Option.some.injEq]at e1;subst e1
    simp only[aX_]at hw
    split at hw
    ·rename_i k n k' m q1 q2
     obtain⟨w1,w2,w3,w4,w5⟩:=hw
     subst w1
     exact sv_ hop hu hi hz hcond.1 hcond.2 hm hr (hmem l (by simp[LOp.operands])) (hmem c (by simp[LOp.operands])) q1 q2 w2 w3 w4 w5 hh
    ·exact hw.elim
   ·simp at e1
  ·simp at hlow
 | buildSlice ty len parts =>
  simp only[hop,aw_]at hlow
  split at hlow
  ·rename_i e hu
   simp only[Option.bind_eq_some_iff]at hlow
   obtain⟨i,hi,z,hz,e1⟩:=hlow
   split at e1
   ·rename_i hcond
    simp only[Option.some.injEq]at e1;subst e1
    simp only[aX_]at hw
    obtain⟨w1,w2⟩:=hw
    split at w2
    ·rename_i es q1
     exact oz_ hop hu hi hz hcond.1 hcond.2.1 hcond.2.2 hm hr (fun p hp=>hmem p.2 (by simp only[LOp.operands];exact mem_map.2 ⟨p,hp,rfl⟩)) w1 q1 w2.1 w2.2 hh
    ·exact w2.elim
   ·simp at e1
  ·simp at hlow
 | call c =>
  have hlow':=hlow
  simp only[hop,aw_,di_]at hlow
  split at hlow
  ·rename_i f hc
   split at hlow
   ·rename_i hf
    simp only[Option.some.injEq]at hlow;subst hlow
    exact xJ_ hop hc hf hm hgl hr hmem hw hh
   ·split at hlow
    ·rename_i x y ha
     split at hlow
     ·rename_i hv
      simp only[Option.some.injEq]at hlow;subst hlow
      exact zK_ hop hc (bJ_ ha) hv hm hr (hmem x (by simp[LOp.operands])) (hmem y (by simp[LOp.operands])) hw hh
     ·simp at hlow
    ·simp at hlow
  ·rename_i x _ hc
   simp only[Option.some.injEq]at hlow;subst hlow
   simp only[aX_]at hw
   split at hw
   ·rename_i g first caps hg
    exact vs_ hop hc (hmem x (by simp[LOp.operands])) hg hw.1 hm hgl hr (fun y hy=>hmem y (by simp only[LOp.operands];exact mem_cons_of_mem _ hy)) hw.2 hh
   ·exact hw.elim
  ·rename_i hc
   split at hlow
   ·split at hlow
    ·simp only[Option.some.injEq]at hlow;subst hlow
     exact pureCase True hw
    ·simp only[Option.some.injEq]at hlow;subst hlow
     exact pureCase True hw
    ·simp at hlow
   ·simp at hlow
  ·rename_i hc
   split at hlow
   ·rename_i x y ty u ha ht
    split at hlow
    ·rename_i htu
     subst htu
     split at hlow
     ·rename_i e hu
      split at hlow
      ·rename_i i hi
       split at hlow
       ·rename_i z hz
        split at hlow
        ·rename_i hcond
         simp only[Option.some.injEq]at hlow;subst hlow
         simp only[aX_]at hw
         split at hw
         ·rename_i l n es q1 q2
          split at hw
          ·rename_i r q3
           obtain⟨w1,w2,w3,w4,w5,w6,w7⟩:=hw
           exact oK_ hop hc (bJ_ ha) (bJ_ ht) hu hi hz hcond.1 hcond.2 hm hr (hmem x (by simp[LOp.operands])) (hmem y (by simp[LOp.operands])) q1 q2 q3 w1 w2 w3 w4 w5 w6 w7 hh
          ·exact hw.elim
         ·rename_i l n lo m es q1 q2
          split at hw
          ·rename_i r q3
           split at hw
           ·obtain⟨w1,w3,wl,w3',wp,w4,w5,w6,hw⟩:=hw
            split at hw
            ·exact mA_ hop hc (bJ_ ha) (bJ_ ht) hu hi hz hcond.1 hcond.2 hm hr (hmem x (by simp[LOp.operands])) (hmem y (by simp[LOp.operands])) q1 q2 q3 w1 hw.1 w3 wl w3' hw.2.1 w4 w5 w6 hw.2.2 hh
            ·exact ot_ hop hc (bJ_ ha) (bJ_ ht) hu hi hz hcond.1 hcond.2 hm hr (hmem x (by simp[LOp.operands])) (hmem y (by simp[LOp.operands])) q1 q2 q3 w1 hw.1 w3 wl wp hw.2.1 w6 hw.2.2 hh
           split at hw
           ·obtain⟨w0,w1,w2,w3,w3',w3'',w4,w5,w6,w7⟩:=hw
            subst w0
            exact ne_ hop hc (bJ_ ha) (bJ_ ht) hu hi hz hcond.1 hcond.2 hm hr (hmem x (by simp[LOp.operands])) (hmem y (by simp[LOp.operands])) q1 q2 q3 w1 w2 w3 w3' w3'' w4 w5 w6 w7 hh
           obtain⟨w0,w1,w2,w3,w3',w4,w5,w6,w7⟩:=hw
           subst w0
           exact oO_ hop hc (bJ_ ha) (bJ_ ht) hu hi hz hcond.1 hcond.2 hm hr (hmem x (by simp[LOp.operands])) (hmem y (by simp[LOp.operands])) q1 q2 q3 w1 w2 w3 w3' w4 w5 w6 w7 hh
          ·exact hw.elim
         ·rename_i es q1 q2
          obtain⟨w1,w2,w3,w4⟩:=hw
          exact oF_ hop hc (bJ_ ha) (bJ_ ht) hu hi hz hcond.1 hm hr (hmem x (by simp[LOp.operands])) (hmem y (by simp[LOp.operands])) q1 q2 w1 w2 w3 w4 hh
         ·exact hw.elim
        ·simp at hlow
       ·simp at hlow
      ·simp at hlow
     ·simp at hlow
    ·split at hlow
     ·rename_i e kn hu hn
      split at hlow
      ·rename_i i hi
       split at hlow
       ·rename_i z hz
        split at hlow
        ·rename_i hcond
         simp only[Option.some.injEq]at hlow;subst hlow
         simp only[aX_]at hw
         split at hw
         ·rename_i l n lo m kq q q1 q2
          split at hw
          ·rename_i r q3
           split at hw
           ·obtain⟨w1,w2,w3,wl,w4,w5,w6,w7,w8,w9⟩:=hw
            have hq:((q.toNat:Nat):Int)=q:=Int.toNat_of_nonneg w5
            exact lo_ hop hc (bJ_ ha) (bJ_ ht) hu hn hi hz hcond.1 hcond.2 hm hr (hmem x (by simp[LOp.operands])) (hmem y (by simp[LOp.operands])) q1 (by rw[q2,hq]) q3 w1 w2 w3 wl w4 w6 w7 w8 w9 hh
           obtain⟨w0,w1,w2,w3,w4,w5,w6,w7,w8,w9⟩:=hw
           subst w0
           have hq:((q.toNat:Nat):Int)=q:=Int.toNat_of_nonneg w5
           exact l5_ hop hc (bJ_ ha) (bJ_ ht) hu hn hi hz hcond.1 hcond.2 hm hr (hmem x (by simp[LOp.operands])) (hmem y (by simp[LOp.operands])) q1 (by rw[q2,hq]) q3 w1 w2 w3 w4 w6 w7 w8 w9 hh
          ·exact hw.elim
         ·exact hw.elim
        ·simp at hlow
       ·simp at hlow
      ·simp at hlow
     ·rename_i e hu hus
      split at hlow
      ·rename_i i hi
       split at hlow
       ·rename_i z hz
        split at hlow
        ·rename_i hcond
         simp only[Bool.and_eq_true,beq_iff_eq]at hcond
         simp only[Option.some.injEq]at hlow;subst hlow
         simp only[aX_]at hw
         split at hw
         ·rename_i l n s q1 q2
          split at hw
          ·rename_i r q3
           exact hw.elim
          ·exact hw.elim
         ·exact hw.elim
        ·simp at hlow
       ·simp at hlow
      ·simp at hlow
     ·simp at hlow
   ·simp at hlow
  ·rename_i hc
   split at hlow
   ·rename_i x ty ha ht
    split at hlow
    ·rename_i e hu
     split at hlow
     ·rename_i i hi
      split at hlow
      ·rename_i z hz
       split at hlow
       ·rename_i hcond
        obtain⟨hc1,hc2,hc3⟩:=hcond
        simp only[Option.some.injEq]at hlow;subst hlow
        have hz1:∀v∈z.cells.toList,v.oneCell'=true:=by
         intro v hv
         rw[Array.all_eq_true']at hc3
         exact hc3 v (by simpa using hv)
        have hxo:=hr.eval (hmem x (by simp[LOp.operands]))
        simp only[aX_]at hw
        split at hw
        ·rename_i l n q1
         rw[q1]at hxo
         simp only[Rep]at hxo
         obtain⟨_,inf,p1,p2,p3⟩:=hxo
         split at hw
         ·rename_i r q3
          exact hw.elim
         ·exact hw.elim
        ·rename_i l n lo hi' q1
         rw[q1]at hxo
         simp only[Rep]at hxo
         obtain⟨_,inf,p1,p2,p3⟩:=hxo
         split at hw
         ·rename_i r q3
          exact hw.elim
         ·exact hw.elim
        ·exact hw.elim
       ·simp at hlow
      ·simp at hlow
     ·simp at hlow
    ·simp at hlow
   ·simp at hlow
  ·rename_i hc
   split at hlow
   ·rename_i x ty ha ht
    split at hlow
    ·rename_i e hu
     simp only[Option.some.injEq]at hlow;subst hlow
     exact vp_ hop hc (ef_ ha) (ef_ ht) hu hm hr (hmem x (by simp[LOp.operands])) hw hh
    ·simp at hlow
   ·simp at hlow
  ·rename_i hc
   split at hlow
   ·rename_i x y ty u ha ht
    split at hlow
    ·rename_i htu
     subst htu
     split at hlow
     ·rename_i e hu
      split at hlow
      ·rename_i i hi
       simp only[Option.some.injEq]at hlow;subst hlow
       exact sR_ hop hc (bJ_ ha) (bJ_ ht) hu hi hm hr (hmem x (by simp[LOp.operands])) (hmem y (by simp[LOp.operands])) hw hh
      ·simp at hlow
     ·simp at hlow
    ·simp at hlow
   ·simp at hlow
  ·split at hlow
   ·simp only[Option.some.injEq]at hlow;subst hlow
    exact pureCase True hw
   ·simp at hlow
  ·split at hlow
   ·simp only[Option.some.injEq]at hlow;subst hlow
    exact pureCase True hw
   ·simp at hlow
  ·simp at hlow
 | makeMap ty rs =>
  cases rs with
  | some _=>simp[hop,aw_]at hlow
  | none =>
   simp only[hop,aw_]at hlow
   split at hlow
   ·split at hlow
    ·simp only[Option.some.injEq]at hlow;subst hlow
     exact uA_ hop hm hw hh
    ·simp at hlow
   ·simp at hlow
 | lookup ty x k q =>
  simp only[hop,aw_]at hlow
  split at hlow
  ·split at hlow
   ·simp only[Option.bind_eq_some_iff]at hlow
    obtain⟨i,_,z,_,e1⟩:=hlow
    split at e1
    ·simp only[Option.some.injEq]at e1;subst e1
     exact pureCase True hw
    ·simp at e1
   ·simp at hlow
  ·simp at hlow
 | mapUpdate ty m k v =>
  simp only[hop,aw_]at hlow
  split at hlow
  ·rename_i kt et hu
   split at hlow
   ·rename_i hkt
    simp only[Option.some.injEq]at hlow;subst hlow
    simp only[aX_]at hw
    split at hw
    ·rename_i l n u e1 e2 e3
     split at hw
     ·rename_i r e4
      split at hw
      ·rename_i ents hE
       exact s4_ hop hu hkt hm hr (hmem m (by simp[LOp.operands])) (hmem k (by simp[LOp.operands])) (hmem v (by simp[LOp.operands])) e1 e2 e3 e4 hE hw.2 hh
      ·exact hw.elim
     ·exact hw.elim
    ·exact hw.elim
   ·simp at hlow
  ·simp at hlow
 | binOp op ty x y ty' =>
  simp only[hop,aw_]at hlow
  split at hlow
  ·rename_i neg hn
   simp only[Option.some.injEq]at hlow;subst hlow
   exact u4_ hop hn hm hr (hmem x (by simp[LOp.operands])) hw hh
  ·split at hlow
   ·simp only[Option.some.injEq]at hlow;subst hlow
    exact pureCase True hw
   split at hlow
   ·simp only[Option.some.injEq]at hlow;subst hlow
    exact pureCase True hw
   simp only[Option.some.injEq]at hlow;subst hlow
   exact pureCase True hw
 | makeFunc fn first caps =>
  cases fn with
  | func f =>
   simp only[hop,aw_,Option.some.injEq]at hlow;subst hlow
   exact pureCase True hw
  | _=>simp[hop,aw_]at hlow
 | convert s d x =>
  simp only[hop,aw_]at hlow
  split at hlow
  ·simp only[Option.some.injEq]at hlow;subst hlow
   exact pureCase True hw
  ·split at hlow
   ·simp only[Option.some.injEq]at hlow;subst hlow
    exact pureCase True hw
   ·simp at hlow
  ·rename_i e h0 h1
   split at hlow
   ·rename_i he
    simp only[Option.some.injEq]at hlow;subst hlow
    simp only[aX_]at hw
    split at hw
    ·rename_i st hst
     exact rL_ hop h0 h1 (n9_ he) hm hr (hmem x (by simp[LOp.operands])) hst hw hh
    ·exact hw.elim
   ·simp at hlow
  ·simp at hlow
 | slice ty x lo hi mx =>
  cases mx with
  | some mx =>
   cases lo with
   | some lo =>
    cases hi with
    | none=>simp[hop,aw_]at hlow
    | some hi =>
     simp only[hop,aw_]at hlow
     split at hlow
     ·rename_i e hu
      simp only[Option.map_eq_some_iff]at hlow
      obtain⟨j,hj,e⟩:=hlow;subst e
      exact False.elim hw
     ·simp at hlow
   | none =>
    simp only[hop,aw_]at hlow
    split at hlow
    ·rename_i e hu
     split at hlow
     ·rename_i hno
      simp only[Bool.and_eq_true]at hno
      simp only[Option.map_eq_some_iff]at hlow
      obtain⟨j,hj,e⟩:=hlow;subst e
      have hxo:=hr.eval (hmem x (by simp[LOp.operands]))
      simp only[aX_]at hw
      split at hw
      ·rename_i q1
       rw[q1]at hxo
       simp only[Rep]at hxo
       rcases hxo with ⟨_,_,p,cp,q⟩|⟨b,off,cap,cc,q,_⟩
       ·exact hw.elim
       ·exact hw.elim
      ·rename_i q1
       rw[q1]at hxo
       simp only[Rep]at hxo
       obtain⟨⟨p,m,cp,q⟩,_⟩:=hxo
       exact hw.elim
      ·rename_i q1
       rw[q1]at hxo
       simp only[Rep]at hxo
       obtain⟨⟨p,m,cp,q⟩,_⟩:=hxo
       exact hw.elim
      ·rename_i q1
       rw[q1]at hxo
       simp only[Rep]at hxo
       exact hw.elim
      ·exact hw.elim
     ·simp at hlow
    ·simp at hlow
  | none =>
   simp only[hop,aw_]at hlow
   split at hlow
   ·simp only[Option.some.injEq]at hlow;subst hlow
    exact pureCase True hw
   ·simp only[Option.map_eq_some_iff]at hlow
    obtain⟨j,_,e⟩:=hlow;subst e
    exact pureCase True hw
   ·simp at hlow
 | build ty parts =>
  simp only[hop,aw_]at hlow
  split at hlow
  ·split at hlow
   ·simp only[Option.bind_eq_some_iff,Option.map_eq_some_iff]at hlow
    obtain⟨i,_,z,_,e⟩:=hlow;subst e
    exact pureCase True hw
   ·simp at hlow
  ·simp at hlow
 | _ =>
  cases lo<;>first
   | exact pureCase True hw
   | (exfalso;simp only[hop,aw_]at hlow;first|(simp at hlow;done)|(split at hlow<;>first|(simp at hlow;done)|(split at hlow<;>first|(simp at hlow;done)|(simp[Option.bind_eq_some_iff]at hlow;done))))
theorem p8_{lo:LOp}(hlow:aw_ P o.op=some lo)(hok:fs_ N lo=true)(hm:ab_ S h w)(hgl:cn_ P S)(hr:Rel S N t a)(hw:aX_ P t h K lo.asImm)(hh:bI_ S w a o K next):o.wp P a w next Q:=by
 have hmem:=dO_ hok
 cases hop:o.op with
 | buildSlice ty len parts =>
  simp only[hop,aw_]at hlow
  split at hlow
  ·rename_i e hu
   simp only[Option.bind_eq_some_iff]at hlow
   obtain⟨i,hi,z,hz,e1⟩:=hlow
   split at e1
   ·rename_i hcond
    simp only[Option.some.injEq]at e1;subst e1
    simp only[LOp.asImm,aX_]at hw
    obtain⟨w1,w2⟩:=hw
    split at w2
    ·rename_i es q1
     exact qP_ hop hu hi hz hcond.1 hcond.2.1 hcond.2.2 hm hr (fun p hp=>hmem p.2 (by simp only[LOp.operands];exact mem_map.2 ⟨p,hp,rfl⟩)) w1 q1 w2.1 w2.2.1 w2.2.2 hh
    ·exact w2.elim
   ·simp at e1
  ·simp at hlow
 | _ =>
  cases lo with
  | buildSlice E sz z len ps =>
   exfalso
   simp only[hop,aw_,di_]at hlow
   first|(simp at hlow;done)|((repeat' split at hlow)<;>first|(simp at hlow;done)|(simp[Option.bind_eq_some_iff,Option.map_eq_some_iff]at hlow;done)|contradiction|(simp_all;done))
  | _=>exact qa_ hlow hok hm hgl hr hw hh
end
end Go.AW
