/-
 A small program logic over abstract values, proved sound over the model: what a function's code gives for data, without worlds and cells. Nothing of any one program. No conditions.
-/
import Derived.Test.YtlcmlgihlojdmaaGreatDoorAwM
import Derived.Calls
import Derived.Orders
import Derived.Deep.LoopGhost
import Derived.Laws.Cells
import Derived.Laws.CopyRow
import Derived.Laws.AppendOwn
import Derived.Laws.MakeOwn
import Derived.Laws.Entries
import Derived.ChangeKeysEq
import Derived.Lib.ItoaNum
import Derived.Laws.IdiomStrings
import Derived.Laws.StructEq
import Derived.Lib.Overlaps
import Derived.Below
import Derived.Lib.AppendZerosOnto
import Derived.Maps.RangeRun
import Derived.Laws.Strings
import GoSem.ClaimChange
import Derived.ChangeArms
import Derived.Attr
set_option linter.unusedVariables false
set_option linter.unusedSimpArgs false
set_option linter.unusedSectionVars false
namespace Go.AW
open List
open Go.RowKit (Below)
open Go.ChangeMaps (setBlock)
open Go.RowKit
section
variable {P : Program} {S : Sit} {h : List Row} {w : World} {N : Nat} {t : Nat → AV} {a : Act} {o : Oper} {av : AV} {K : AV → List Row → Prop} {next : Act → World → Prop} {Q : Exit → Act → World → Prop}
theorem a8_.snoc:∀{es:List MapEntry} {ps:List (Int×Nat×AV)} {e:MapEntry} {p:Int×Nat×AV},a8_ S es ps→e.key=Value.int .i64 p.1∧e.born=p.2.1∧Rep S p.2.2 e.val→a8_ S (es++[e]) (ps++[p])
 | [],[],_,_,_,q=>⟨q,trivial⟩
 | [],_::_,_,_,h,_=>h.elim
 | _::_,[],_,_,h,_=>h.elim
 | _::_,_::_,_,_,h,q=>⟨h.1,a8_.snoc h.2 q⟩
theorem a8_.mem:∀{es:List MapEntry} {ps:List (Int×Nat×AV)},a8_ S es ps→∀e∈es,∃p∈ps,e.key=Value.int .i64 p.1∧e.born=p.2.1∧Rep S p.2.2 e.val
 | [],[],_,e,he=>by cases he
 | [],_::_,h,_,_=>h.elim
 | _::_,[],h,_,_=>h.elim
 | e::es,p::ps,h,x,hx=>by
  rcases mem_cons.1 hx with q|q
  ·subst q;exact⟨p,by simp,h.1⟩
  ·obtain⟨p',hp,h'⟩:=a8_.mem h.2 x q
   exact⟨p',by simp[hp],h'⟩
theorem a8_.mem':∀{es:List MapEntry} {ps:List (Int×Nat×AV)},a8_ S es ps→∀p∈ps,∃e∈es,e.key=Value.int .i64 p.1∧e.born=p.2.1∧Rep S p.2.2 e.val
 | [],[],_,e,he=>by cases he
 | [],_::_,h,_,_=>h.elim
 | _::_,[],h,_,_=>h.elim
 | e::es,p::ps,h,x,hx=>by
  rcases mem_cons.1 hx with q|q
  ·subst q;exact⟨e,by simp,h.1⟩
  ·obtain⟨p',hp,h'⟩:=a8_.mem' h.2 x q
   exact⟨p',by simp[hp],h'⟩
theorem a8_.find:∀{es:List MapEntry} {ps:List (Int×Nat×AV)} {s:Nat} {p:Int×Nat×AV},a8_ S es ps→ps.find? (fun e=>e.2.1==s)=some p→∃e,es.find? (fun e=>e.born==s)=some e∧e.key=Value.int .i64 p.1∧Rep S p.2.2 e.val
 | [],[],_,_,_,q=>by simp at q
 | [],_::_,_,_,h,_=>h.elim
 | _::_,[],_,_,h,_=>h.elim
 | e::es,p::ps,s,p',h,q=>by
  obtain⟨⟨h1,h2,h3⟩,h4⟩:=h
  rw[find?_cons]at q⊢
  rw[h2]
  by_cases hs:(p.2.1==s)=true
  ·rw[hs]at q⊢
   simp only[Option.some.injEq]at q;subst q
   exact⟨e,rfl,h1,h3⟩
  ·have hs':(p.2.1==s)=false:=by simpa using hs
   rw[hs']at q⊢
   exact a8_.find h4 q
theorem hw_:∀(arr:List MapEntry) (ents:List (Int×Nat×AV)) (n:Int) (j:Nat),a8_ S arr ents →
 (Instr.findNow (.int .i64) (.int .i64 n) arr j=some none∧cP_ ents n=none∧(∀c v,gQ_ ents c n v=ents++[(n,c,v)])∧nA_ ents n=ents) ∨
 (∃k e av,Instr.findNow (.int .i64) (.int .i64 n) arr j=some (some (j+k,e.val))∧arr[k]?=some e∧e.key=.int .i64 n∧cP_ ents n=some av∧Rep S av e.val ∧
   (∀c v' av',Rep S av' v'→a8_ S (arr.modify k fun e=>{ e with key:=.int .i64 n,val:=v' }) (gQ_ ents c n av'))∧a8_ S (arr.eraseIdx k) (nA_ ents n))
 | [],[],n,j,h=>.inl ⟨rfl,rfl,fun _ _=>rfl,rfl⟩
 | [],_::_,_,_,h=>h.elim
 | _::_,[],_,_,h=>h.elim
 | e::arr,p::ents,n,j,h=>by
  obtain⟨⟨h1,h2,h3⟩,h4⟩:=h
  simp only[Instr.findNow,h1,Instr.sameNow,if_true]
  by_cases hk:n=p.1
  ·right
   have hb:(n==p.1)=true:=by simp[hk]
   have hb':(p.1==n)=true:=by simp[hk]
   refine⟨0,e,p.2.2,by simp[hb],rfl,by rw[h1,hk],by simp[cP_,List.find?,hb'],h3,fun c v' av' hr=>?_,?_⟩
   ·simp only[gQ_,hk.symm,if_true]
    exact⟨⟨by simp[hk],h2,hr⟩,h4⟩
   ·simp only[nA_,hk.symm,if_true]
    exact h4
  ·have hb:(n==p.1)=false:=by simpa using hk
   have hk':¬ p.1=n:=fun e=>hk e.symm
   have hb':(p.1==n)=false:=by simpa using hk'
   rcases hw_ arr ents n (j+1) h4 with ⟨f1,f2,f3,f4⟩|⟨k,e',av,f1,f2,f3,f4,f5,f6,f7⟩
   ·left
    refine⟨by simp[hb,f1],by simpa[cP_,List.find?,hb']using f2,fun c v=>?_,?_⟩
    ·simp only[gQ_,if_neg hk',f3,cons_append]
    ·simp only[nA_,if_neg hk',f4]
   ·right
    refine⟨k+1,e',av,by simp[hb,f1];omega,by simpa using f2,f3,by simpa[cP_,List.find?,hb']using f4,f5,fun c v' av' hr=>?_,?_⟩
    ·simp only[gQ_,if_neg hk',modify_succ_cons]
     exact⟨⟨h1,h2,h3⟩,f6 c v' av' hr⟩
    ·simp only[nA_,if_neg hk',eraseIdx_cons_succ]
     exact⟨⟨h1,h2,h3⟩,f7⟩
theorem kO_(hm:ab_ S h w){l:Nat}{x:Value}{r:Row}(rx:Rep S (.mp l) x)(hl:h[l]?=some r)(hes:∀b i,ax_ S w b i r→r.es=[]) :
 ∃b i,S.rows[l]?=some i∧i.blk=some b∧x=.map (some b)∧ax_ S w b i r:=by
 simp only[Rep]at rx
 obtain⟨_,inf,e1,e3⟩:=rx
 obtain⟨k1,k2,k3,k4⟩:=hm.rows l inf r e1 hl
 have he:r.es=[]:=by
  cases hb:inf.blk with
  | none=>rw[hb]at k4;exact k4.1
  | some b=>rw[hb]at k4;exact hes b inf k4.2
 obtain⟨b,hb,hxx⟩:=e3 (by rw[k1,he];rfl)
 rw[hb]at k4
 exact⟨b,inf,e1,hb,hxx,k4.2⟩
theorem wF_(hm:ab_ S h w){l:Nat}{x:Value}{r:Row}(rx:Rep S (.ptr l 0 0 0) x)(hl:h[l]?=some r)(hes:∀b i,ax_ S w b i r→r.es=[]) :
 ∃b i,S.rows[l]?=some i∧i.blk=some b∧x=.pointer (some ⟨b,0,none⟩)∧ax_ S w b i r:=by
 simp only[Rep]at rx
 obtain⟨_,inf,e1,_,e3⟩:=rx
 obtain⟨k1,k2,k3,k4⟩:=hm.rows l inf r e1 hl
 have he:r.es=[]:=by
  cases hb:inf.blk with
  | none=>rw[hb]at k4;exact k4.1
  | some b=>rw[hb]at k4;exact hes b inf k4.2
 obtain⟨b,hb,hxx⟩:=e3 (by rw[k1,he];rfl)
 rw[hb]at k4
 exact⟨b,inf,e1,hb,by simpa using hxx,k4.2⟩
theorem ax_.pmapE{b:Nat}{i:bV_}{r:Row}{ents:List (Int×Nat×AV)}{clock:Nat}(hE:r.E=.pmap ents clock)(q:ax_ S w b i r):r.es=[]∧r.sz=0∧∃(arr:Array MapEntry),w.heap[b]?=some (.map arr clock)∧a8_ S arr.toList ents:=by
 unfold ax_ at q;rw[hE]at q;exact q
theorem ax_.mapE{b:Nat}{i:bV_}{r:Row}{ents:List (Int×Value)}(hE:r.E=.map ents)(q:ax_ S w b i r):r.es=[]∧r.sz=0∧∃(arr:Array MapEntry) (clock:Nat),w.heap[b]?=some (.map arr clock)∧arr.toList.map (fun e=>(e.key,e.val))=ents.map fun p=>(Value.int .i64 p.1,p.2):=by
 unfold ax_ at q;rw[hE]at q;exact q
theorem ax_.iterE{b:Nat}{i:bV_}{r:Row}{m since clk:Nat}{seen:List Nat}(hE:r.E=.iter m since seen clk)(q:ax_ S w b i r):r.es=[]∧r.sz=0∧∃bm,w.heap[b]?=some (.mapIter (some bm) since seen.toArray clk)∧Rep S (.mp m) (.map (some bm)):=by
 unfold ax_ at q;rw[hE]at q;exact q
theorem q2_{ty kt e:TypeId}{x k:Operand}{q:Bool}(hop:o.op=.lookup ty x k q)(hu:P.underlying ty=some (.map kt e))(hk:P.underlying kt=some (.int .i64))(hi:((P.info? e).bind fun i=>i.zero)=some (.pointer none))
 (hm:ab_ S h w) (hr:Rel S N t a) (hx:ag_ N x=true) (hkk:ag_ N k=true) (hv:cY_ t h (.lookP q x k)=some av):ce_ P S w a o av:=by
 have rx:=hr.eval hx
 have rk:=hr.eval hkk
 simp only[cY_]at hv
 split at hv
 case h_2=>simp at hv
 rename_i l n ex ek
 rw[ex]at rx;rw[ek]at rk
 simp only[Rep]at rk
 split at hv
 case h_2=>simp at hv
 rename_i r hl
 split at hv
 case h_2=>simp at hv
 rename_i ents clock hE
 simp only[Option.some.injEq]at hv
 obtain⟨b,inf,_,_,hxx,hst⟩:=kO_ hm rx hl fun _ _ q=>(ax_.pmapE hE q).1
 obtain⟨_,_,arr,hh,hents⟩:=ax_.pmapE hE hst
 simp only[Option.bind_eq_some_iff]at hi
 obtain⟨i,hi,hz⟩:=hi
 have hg:(getObj b).run P w=.ok (.map arr clock) w:=by simp[getObj,Sem.run,hh]
 have hck:∀q,(Instr.checkKey q 10000 kt (.int .i64 n)).run P w=.ok () w:=fun q=>fP_ hk q 9999 n
 have hzz:(zeroValue e).run P w=.ok (.pointer none) w:=by simp[zeroValue,eh_ hi,hz]
 rcases hw_ arr.toList ents n 0 hents with ⟨f1,f2,_⟩|⟨kx,e',av',f1,_,_,f4,f5,_⟩
 ·have hfk:(Instr.findKey kt (.int .i64 n) arr.toList).run P w=.ok none w:=by simp[Instr.findKey,run_underlying hk,f1]
  refine⟨if q then .tuple #[.pointer none,.bool false]else .pointer none,by simp[execOp,hop,Instr.lookup,run_underlying hu,hxx,rk,hg,hck,hfk,hzz],?_⟩
  subst hv
  rw[f2]
  cases q<;>simp[Rep,ae_]
 ·have hfk:(Instr.findKey kt (.int .i64 n) arr.toList).run P w=.ok (some (0+kx,e'.val)) w:=by simp[Instr.findKey,run_underlying hk,f1]
  refine⟨if q then .tuple #[e'.val,.bool true]else e'.val,by simp[execOp,hop,Instr.lookup,run_underlying hu,hxx,rk,hg,hck,hfk],?_⟩
  subst hv
  rw[f4]
  cases q
  ·simpa using f5
  ·simp[Rep,ae_,f5]
theorem sk_{c:Call}{x:Operand}{ty kt e:TypeId}(hop:o.op=.call c)(hc:c.callee=.builtin .len)(ha:c.args=#[x])(ht:c.argTypes=#[ty])(hu:P.underlying ty=some (.map kt e))(hm:ab_ S h w)(hr:Rel S N t a)
 (hxo:ag_ N x=true) (hv:cY_ t h (.lenM x)=some av):ce_ P S w a o av:=by
 have rx:=hr.eval hxo
 simp only[cY_]at hv
 split at hv
 case h_2=>simp at hv
 rename_i l ex
 rw[ex]at rx
 split at hv
 case h_2=>simp at hv
 rename_i r hl
 split at hv
 case h_2=>simp at hv
 rename_i ents hE
 simp only[Option.some.injEq]at hv
 obtain⟨b,inf,_,_,hxx,hst⟩:=kO_ hm rx hl fun _ _ q=>(ax_.mapE hE q).1
 obtain⟨_,_,arr,clock,hh,hents⟩:=ax_.mapE hE hst
 have hlen:arr.size=ents.length:=by
  have:=congrArg List.length hents
  simpa using this
 have hg:(getObj b).run P w=.ok (.map arr clock) w:=by simp[getObj,Sem.run,hh]
 subst hv
 refine⟨.int .i64 ents.length,?_,by simp[Rep]⟩
 simp[execOp,hop,resolve,hc,ha,ht,invoke,builtin,Builtin.len_,run_underlying hu,hxx,hg,goInt,hlen]
theorem sW_{x:Operand}(hop:o.op=.entry x)(hm:ab_ S h w)(hr:Rel S N t a)(hxo:ag_ N x=true)(hv:cY_ t h (.ent x)=some av):ce_ P S w a o av:=by
 have rx:=hr.eval hxo
 simp only[cY_]at hv
 split at hv
 case h_2=>simp at hv
 rename_i l n i oo ex
 rw[ex]at rx
 split at hv
 case h_2=>simp at hv
 rename_i r hl
 split at hv
 case h_2=>simp at hv
 rename_i m since seen clk hE
 split at hv
 case h_2=>simp at hv
 rename_i rm hlm
 split at hv
 case h_2=>simp at hv
 rename_i ents clock s hEm hs
 split at hv
 case isFalse=>simp at hv
 rename_i hcond
 obtain⟨rfl,rfl,rfl,rfl⟩:=hcond
 simp only[Option.map_eq_some_iff]at hv
 obtain⟨p,hf,rfl⟩:=hv
 obtain⟨b,inf,_,_,hxx,hst⟩:=wF_ hm rx hl fun _ _ q=>(ax_.iterE hE q).1
 obtain⟨_,_,bm,hit,hmp⟩:=ax_.iterE hE hst
 obtain⟨b',inf',_,_,hbb,hst'⟩:=kO_ hm hmp hlm fun _ _ q=>(ax_.pmapE hEm q).1
 simp only[Value.map.injEq,Option.some.injEq]at hbb
 subst hbb
 obtain⟨_,_,arr,hh,hents⟩:=ax_.pmapE hEm hst'
 obtain⟨e,he,hkey,hrep⟩:=hents.find hf
 have hg:(getObj b).run P w=.ok (.mapIter (some bm) since seen.toArray clk) w:=by simp[getObj,Sem.run,hit]
 have hg2:(getObj bm).run P w=.ok (.map arr clk) w:=by simp[getObj,Sem.run,hh]
 have hback:seen.toArray.back?=some s:=by simpa using hs
 have hfa:arr.find? (fun e=>e.born==s)=some e:=by rw[←Array.find?_toList];exact he
 refine⟨.tuple #[e.key,e.val],?_,?_⟩
 ·simp[execOp,hop,hxx,Instr.entry,hg,hg2,hback,hfa]
 ·simp only[Rep]
  refine⟨#[e.key,e.val],rfl,?_⟩
  simp only[ae_]
  exact⟨_,_,rfl,by simp[Rep,hkey],_,_,rfl,hrep,rfl⟩
theorem yj_{ty:TypeId}(hop:o.op=.makeMap ty none)(hm:ab_ S h w)(hk:K (.mp h.length) (h++[⟨.pmap [] 0,0,[]⟩]))(hh:bI_ S w a o K next):o.wp P a w next Q:=by
 have hrun:(execOp a.eval o).run P w=.ok (.value (.map (some w.heap.size))) (w.alloc (.map #[] 0)):=by
  simp[execOp,hop,Instr.makeMap,newObj,Sem.run]
 have hnew:=ab_.newRow (w':=w.alloc (.map #[] 0)) hm (E:=.pmap [] 0) (sz:=0) (cap:=0) (es:=[]) (by simp) ⟨rfl,rfl,#[],by show(w.heap.push _)[w.heap.size]?=_;simp,trivial⟩ rfl rfl rfl rfl
 refine a2_ hrun (hh _ _ _ _ _ hnew.2 hnew.1 ?_ hk)
 rw[←hm.len]
 simp only[Rep]
 exact⟨⟨_,rfl⟩,⟨0,some w.heap.size,0,0⟩,by simp,fun _=>⟨_,rfl,rfl⟩⟩
theorem ab_.putObj{l b:Nat}{i:bV_}{r:Row}{T:Tag}{w1:World}{ob:Obj}(hm:ab_ S h w)(q1:S.rows[l]?=some i)(hl:h[l]?=some r)(hb:i.blk=some b)(hes:r.es=[])(hsz:r.sz=0)(hw1:w1=w∨w1=w.drew)
 (hst:ax_ S (setBlock w1 b ob) b i ⟨T,0,[]⟩):ab_ S (h.set l ⟨T,0,[]⟩) (setBlock w1 b ob)∧a0_ S w S (setBlock w1 b ob):=by
 have hh:w1.heap=w.heap:=by rcases hw1 with rfl|rfl<;>rfl
 refine ab_.putRow (r':=⟨T,0,[]⟩) hm q1 hl hb (by rw[hes]) hsz.symm (by simp) hst (fun q hq=>?_) ?_ ?_ ?_ ?_
 ·simp[setBlock,hh,Array.getElem?_setIfInBounds,Ne.symm hq]
 ·simp[setBlock,hh]
 ·rcases hw1 with rfl|rfl<;>rfl
 ·rcases hw1 with rfl|rfl<;>rfl
 ·rcases hw1 with rfl|rfl<;>rfl
theorem wQ_{ty kt et:TypeId}{m k v:Operand}{l:Nat}{n:Int}{r:Row}{ents:List (Int×Nat×AV)}{clock:Nat}(hop:o.op=.mapUpdate ty m k v)(hu:P.underlying ty=some (.map kt et))(hkt:P.underlying kt=some (.int .i64))(hm:ab_ S h w)(hr:Rel S N t a)
 (h1:ag_ N m=true) (h2:ag_ N k=true) (h3:ag_ N v=true) (e1:ah_ t m=.mp l) (e2:ah_ t k=.val (.int .i64 n)) (e4:h[l]?=some r) (hE:r.E=.pmap ents clock)
 (hk:K (.val Go.undef) (h.set l ⟨.pmap (gQ_ ents clock n (ah_ t v)) (hK_ ents clock n),0,[]⟩)) (hh:bI_ S w a o K next):o.wp P a w next Q:=by
 have r1:=hr.eval h1
 have r2:=hr.eval h2
 have r3:=hr.eval h3
 rw[e1]at r1;rw[e2]at r2
 simp only[Rep]at r2
 obtain⟨b,inf,q1,hb,hxx,hst⟩:=kO_ hm r1 e4 fun _ _ q=>(ax_.pmapE hE q).1
 obtain⟨hes,hsz0,arr,hw,hents⟩:=ax_.pmapE hE hst
 have hg:(getObj b).run P w=.ok (.map arr clock) w:=by simp[getObj,Sem.run,hw]
 have hck:(Instr.checkKey false 10000 kt (.int .i64 n)).run P w=.ok () w:=fP_ hkt false 9999 n
 have hset:∀ob,(setObj b ob).run P w=.ok () (setBlock w b ob):=by intro ob;simp[setObj,Sem.run,hw,setBlock]
 have hlt:=(Array.getElem?_eq_some_iff.1 hw).1
 have key:∀(arr':Array MapEntry) (clock':Nat),(execOp a.eval o).run P w=.ok .skip (setBlock w b (.map arr' clock'))→clock'=hK_ ents clock n→a8_ S arr'.toList (gQ_ ents clock n (ah_ t v))→o.wp P a w next Q:=by
  intro arr' clock' hrun hc hl
  subst hc
  have hput:=ab_.putObj (T:=.pmap (gQ_ ents clock n (ah_ t v)) (hK_ ents clock n)) (ob:=.map arr' (hK_ ents clock n)) hm q1 e4 hb hes hsz0 (.inl rfl)
   ⟨rfl,rfl,arr',by simp[setBlock,hlt],hl⟩
  exact hb_ hrun (hh _ _ _ _ _ hput.2 hput.1 (by simp[Rep]) hk)
 rcases hw_ arr.toList ents n 0 hents with ⟨f1,f2,f3,_⟩|⟨kx,e',av',f1,f1',f1'',f4,f5,f6,_⟩
 ·have hfk:(Instr.findKey kt (.int .i64 n) arr.toList).run P w=.ok none w:=by simp[Instr.findKey,run_underlying hkt,f1]
  refine key (arr.push { key:=.int .i64 n,val:=a.eval v,born:=clock }) (clock+1) ?_ (by simp[hK_,f2]) ?_
  ·simp[execOp,hop,Instr.mapUpdate,run_underlying hu,hxx,r2,hg,hck,hfk,hset]
  ·rw[f3,Array.toList_push]
   exact hents.snoc ⟨rfl,rfl,r3⟩
 ·have hfk:(Instr.findKey kt (.int .i64 n) arr.toList).run P w=.ok (some (0+kx,e'.val)) w:=by simp[Instr.findKey,run_underlying hkt,f1]
  refine key (arr.modify kx fun e=>{ e with key:=.int .i64 n,val:=a.eval v }) clock ?_ (by simp[hK_,f4]) ?_
  ·have ha:arr[kx]?=some e':=by simpa using f1'
   have hks:(Instr.keyThatStays (.int .i64 n) (.int .i64 n)).run P w=.ok (.int .i64 n) w:=by
    have:Instr.sameBits 10000 (.int .i64 n) (.int .i64 n)=true:=by simp[Instr.sameBits]
    simp[Instr.keyThatStays,this]
   simp[execOp,hop,Instr.mapUpdate,run_underlying hu,hxx,r2,hg,hck,hfk,ha,f1'',hks,hset]
  ·rw[Array.toList_modify];exact f6 clock _ _ r3
theorem zr_{ty kt et:TypeId}{x:Operand}{l:Nat}{r:Row}{ents:List (Int×Nat×AV)}{clock:Nat}(hop:o.op=.range ty x)(hu:P.underlying ty=some (.map kt et))(hm:ab_ S h w)(hr:Rel S N t a)
 (h1:ag_ N x=true) (e1:ah_ t x=.mp l) (e4:h[l]?=some r) (hE:r.E=.pmap ents clock) (hk:K (.ptr h.length 0 0 0) (h++[⟨.iter l clock [] clock,0,[]⟩])) (hh:bI_ S w a o K next):o.wp P a w next Q:=by
 have r1:=hr.eval h1
 rw[e1]at r1
 obtain⟨b,inf,q1,hb,hxx,hst⟩:=kO_ hm r1 e4 fun _ _ q=>(ax_.pmapE hE q).1
 obtain⟨hes,hsz0,arr,hw,hents⟩:=ax_.pmapE hE hst
 have hg:(getObj b).run P w=.ok (.map arr clock) w:=by simp[getObj,Sem.run,hw]
 have hrun:(execOp a.eval o).run P w=.ok (.value (.pointer (some ⟨w.heap.size,0,none⟩))) (w.alloc (.mapIter (some b) clock #[] clock)):=by
  simp[execOp,hop,Instr.range,run_underlying hu,hxx,hg,newObj,Sem.run]
 have hnew:=ab_.newRow (w':=w.alloc (.mapIter (some b) clock #[] clock)) hm (E:=.iter l clock [] clock) (sz:=0) (cap:=0) (es:=[]) (by simp)
  ⟨rfl,rfl,b,by show(w.heap.push _)[w.heap.size]?=_;simp,Rep.up (S.le_push _) _ _ (by rw[hxx]at r1;exact r1)⟩ rfl rfl rfl rfl
 refine a2_ hrun (hh _ _ _ _ _ hnew.2 hnew.1 ?_ hk)
 rw[←hm.len]
 simp only[Rep]
 exact⟨⟨_,rfl⟩,⟨0,some w.heap.size,0,0⟩,by simp,Nat.le_refl _,fun _=>⟨_,rfl,by simp⟩⟩
theorem yw_{x:Operand}{l m since clk:Nat}{seen:List Nat}{r rm:Row}{ents:List (Int×Nat×AV)}{clock:Nat}(hop:o.op=.next x false)(hm:ab_ S h w)(hr:Rel S N t a)
 (h1:ag_ N x=true) (e1:ah_ t x=.ptr l 0 0 0) (e4:h[l]?=some r) (hE:r.E=.iter m since seen clk) (e5:h[m]?=some rm) (hEm:rm.E=.pmap ents clock) (hold:∀e∈ents,e.2.1<since) (hsc:since≤clk)
 (hk0:(∀e∈ents,e.2.1∈seen)→K (.tup [.val (.bool false)]) h)
 (hk:∀e∈ents,e.2.1∉seen→K (.tup [.val (.bool true),.val (.int .i64 e.1),e.2.2]) (h.set l ⟨.iter m since (seen++[e.2.1]) clock,0,[]⟩)) (hh:bI_ S w a o K next):o.wp P a w next Q:=by
 have r1:=hr.eval h1
 rw[e1]at r1
 obtain⟨b,inf,q1,hb,hxx,hst⟩:=wF_ hm r1 e4 fun _ _ q=>(ax_.iterE hE q).1
 obtain⟨hes,hsz0,bm,hit,hmp⟩:=ax_.iterE hE hst
 obtain⟨b',inf',_,_,hbb,hst'⟩:=kO_ hm hmp e5 fun _ _ q=>(ax_.pmapE hEm q).1
 simp only[Value.map.injEq,Option.some.injEq]at hbb
 subst hbb
 obtain⟨_,_,arr,harr,hents⟩:=ax_.pmapE hEm hst'
 have hold':∀x∈arr.toList,x.born<since:=by
  intro x hx
  obtain⟨p,hp,_,q2,_⟩:=hents.mem x hx
  rw[q2];exact hold p hp
 have hexec:∀R,(Instr.next (.pointer (some ⟨b,0,none⟩)) false o.type).run P w=R→(execOp a.eval o).run P w=R.andThen fun v w'=>.ok (.value v) w':=by
  intro R hR
  simp[execOp,hop,hxx,hR]
 rcases run_next_at (P:=P) w o.type b bm since clk seen.toArray arr clock hit harr hold' hsc with ⟨q,hrun⟩|⟨e,he,w1,hw1,hrun⟩
 ·refine a2_ (hexec _ hrun) (hh _ _ S h w (a0_.refl _ _) hm ?_ (hk0 ?_))
  ·simp[Rep,ae_]
  ·intro p hp
   obtain⟨e,he,_,q2,_⟩:=hents.mem' p hp
   rw[←q2]
   have hz:leftOf arr seen.toArray=#[]:=Array.eq_empty_of_size_eq_zero q
   unfold leftOf at hz
   rw[Array.filter_eq_empty_iff]at hz
   have:=hz e (by simpa using he)
   simpa using this
 ·have he2:e∈arr.toList∧e.born∉seen:=by
   unfold leftOf at he
   simp at he
   exact⟨by simpa using he.1,he.2⟩
  obtain⟨p,hp,k1,k2,k3⟩:=hents.mem e he2.1
  have hlt:=(Array.getElem?_eq_some_iff.1 hit).1
  have hh1:w1.heap=w.heap:=by rcases hw1 with rfl|rfl<;>rfl
  have hput:=ab_.putObj (T:=.iter m since (seen++[p.2.1]) clock) (ob:=.mapIter (some bm) since (seen.toArray.push e.born) clock) hm q1 e4 hb hes hsz0 hw1
   ⟨rfl,rfl,bm,by simp[setBlock,hh1,hlt,k2],hmp⟩
  refine a2_ (hexec _ hrun) (hh _ _ _ _ _ hput.2 hput.1 ?_ (hk p hp (by rw[←k2];exact he2.2)))
  simp only[Rep]
  refine⟨#[.bool true,e.key,e.val],rfl,?_⟩
  simp only[ae_]
  exact⟨_,_,rfl,by simp[Rep],_,_,rfl,by simp[Rep,k1],_,_,rfl,k3,rfl⟩
theorem lS_{x:XOp}(hlow:cj_ P o.op=some x)(hok:∀y∈x.operands,ag_ N y=true)(hm:ab_ S h w)(hr:Rel S N t a)(hv:cY_ t h x=some av):ce_ P S w a o av:=by
 cases hop:o.op with
 | makeMap ty r =>
  cases r with
  | some _=>simp[hop,cj_]at hlow
  | none =>
   simp only[hop,cj_]at hlow
   split at hlow
   ·split at hlow
    ·simp only[Option.some.injEq]at hlow;subst hlow;simp[cY_]at hv
    ·simp only[Option.some.injEq]at hlow;subst hlow;simp[cY_]at hv
    ·simp at hlow
   ·simp at hlow
 | lookup ty m k q =>
  simp only[hop,cj_]at hlow
  split at hlow
  ·rename_i kt e hu
   split at hlow
   ·rename_i pe hk he
    split at hlow
    ·rename_i hi
     simp only[Option.some.injEq]at hlow;subst hlow
     exact q2_ hop hu hk hi hm hr (hok m (by simp[XOp.operands])) (hok k (by simp[XOp.operands])) hv
    ·simp at hlow
   ·rename_i hk
    simp only[Option.bind_eq_some_iff]at hlow
    obtain⟨i,hi,z,hz,e1⟩:=hlow
    split at e1
    ·simp only[Option.some.injEq]at e1;subst e1
     simp only[cY_]at hv;(repeat' split at hv)<;>cases hv
    ·simp at e1
   ·simp at hlow
  ·simp at hlow
 | mapUpdate ty m k v =>
  simp only[hop,cj_]at hlow
  split at hlow
  ·split at hlow
   ·simp only[Option.some.injEq]at hlow;subst hlow;simp[cY_]at hv
   ·simp only[Option.some.injEq]at hlow;subst hlow;simp[cY_]at hv
   ·simp at hlow
  ·simp at hlow
 | range ty x =>
  simp only[hop,cj_]at hlow
  split at hlow
  ·simp only[Option.some.injEq]at hlow;subst hlow;simp[cY_]at hv
  ·simp at hlow
 | next x q =>
  cases q
  ·simp only[hop,cj_,Option.some.injEq]at hlow;subst hlow;simp[cY_]at hv
  ·simp[hop,cj_]at hlow
 | entry x =>
  simp only[hop,cj_,Option.some.injEq]at hlow;subst hlow
  exact sW_ hop hm hr (hok x (by simp[XOp.operands])) hv
 | call c =>
  simp only[hop,cj_]at hlow
  split at hlow
  ·rename_i hc
   split at hlow
   ·rename_i x ty ha ht
    split at hlow
    ·rename_i kt e hu
     simp only[Option.some.injEq]at hlow;subst hlow
     exact sk_ hop hc (ef_ ha) (ef_ ht) hu hm hr (hok x (by simp[XOp.operands])) hv
    ·simp at hlow
   ·simp at hlow
  ·split at hlow
   ·split at hlow
    ·split at hlow
     ·simp only[Option.some.injEq]at hlow;subst hlow;simp[cY_]at hv
     ·simp at hlow
    ·simp at hlow
   ·simp at hlow
  ·simp at hlow
 | _=>simp[hop,cj_]at hlow
theorem n5_{x:XOp}(hlow:cj_ P o.op=some x)(hok:∀y∈x.operands,ag_ N y=true)(hm:ab_ S h w)(hr:Rel S N t a)(hw:xWp t h K x)(hh:bI_ S w a o K next):o.wp P a w next Q:=by
 have pureCase:(match cY_ t h x with|some v=>K v h|none=>False)→o.wp P a w next Q:=by
  intro hq
  cases hv:cY_ t h x with
  | none=>rw[hv]at hq;exact hq.elim
  | some av =>
   rw[hv]at hq
   exact lf_ (lS_ hlow hok hm hr hv) hm hq hh
 cases hop:o.op with
 | makeMap ty r =>
  cases r with
  | some _=>simp[hop,cj_]at hlow
  | none =>
   simp only[hop,cj_]at hlow
   split at hlow
   ·split at hlow
    ·simp only[Option.some.injEq]at hlow;subst hlow;exact yj_ hop hm hw hh
    ·simp only[Option.some.injEq]at hlow;subst hlow;exact hw.elim
    ·simp at hlow
   ·simp at hlow
 | lookup ty m k q =>
  have hl:=hlow
  simp only[hop,cj_]at hlow
  split at hlow
  ·split at hlow
   ·split at hlow
    ·simp only[Option.some.injEq]at hlow;subst hlow
     exact pureCase hw
    ·simp at hlow
   ·simp only[Option.bind_eq_some_iff]at hlow
    obtain⟨i,hi,z,hz,e1⟩:=hlow
    split at e1
    ·simp only[Option.some.injEq]at e1;subst e1
     exact pureCase hw
    ·simp at e1
   ·simp at hlow
  ·simp at hlow
 | mapUpdate ty m k v =>
  simp only[hop,cj_]at hlow
  split at hlow
  ·rename_i kt et hu
   split at hlow
   ·rename_i pe hk he
    simp only[Option.some.injEq]at hlow;subst hlow
    simp only[xWp]at hw
    split at hw
    ·rename_i l n e1 e2
     split at hw
     ·rename_i r e4
      split at hw
      ·rename_i ents clock hE
       exact wQ_ hop hu hk hm hr (hok m (by simp[XOp.operands])) (hok k (by simp[XOp.operands])) (hok v (by simp[XOp.operands])) e1 e2 e4 hE hw hh
      ·exact hw.elim
     ·exact hw.elim
    ·exact hw.elim
   ·rename_i hk
    simp only[Option.some.injEq]at hlow;subst hlow
    simp only[xWp]at hw
    split at hw
    ·rename_i l n u e1 e2 e3
     split at hw
     ·rename_i r e4
      split at hw
      ·rename_i ents hE
       exact hw.elim
      ·exact hw.elim
     ·exact hw.elim
    ·exact hw.elim
   ·simp at hlow
  ·simp at hlow
 | range ty x =>
  simp only[hop,cj_]at hlow
  split at hlow
  ·rename_i kt et hu
   simp only[Option.some.injEq]at hlow;subst hlow
   simp only[xWp]at hw
   split at hw
   ·rename_i l e1
    split at hw
    ·rename_i r e4
     split at hw
     ·rename_i ents clock hE
      exact zr_ hop hu hm hr (hok x (by simp[XOp.operands])) e1 e4 hE hw hh
     ·exact hw.elim
    ·exact hw.elim
   ·exact hw.elim
  ·simp at hlow
 | next x q =>
  cases q
  ·simp only[hop,cj_,Option.some.injEq]at hlow;subst hlow
   simp only[xWp]at hw
   split at hw
   ·rename_i l n i oo e1
    split at hw
    ·rename_i r e4
     split at hw
     ·rename_i m since seen clk hE
      split at hw
      ·rename_i rm e5
       split at hw
       ·rename_i ents clock hEm
        obtain⟨⟨rfl,rfl,rfl⟩,w2,w3,w4,w5⟩:=hw
        exact yw_ hop hm hr (hok x (by simp[XOp.operands])) e1 e4 hE e5 hEm w2 w3 w4 w5 hh
       ·exact hw.elim
      ·exact hw.elim
     ·exact hw.elim
    ·exact hw.elim
   ·exact hw.elim
  ·simp[hop,cj_]at hlow
 | entry x =>
  simp only[hop,cj_,Option.some.injEq]at hlow;subst hlow
  exact pureCase hw
 | call c =>
  simp only[hop,cj_]at hlow
  split at hlow
  ·split at hlow
   ·split at hlow
    ·simp only[Option.some.injEq]at hlow;subst hlow
     exact pureCase hw
    ·simp at hlow
   ·simp at hlow
  ·rename_i hc
   split at hlow
   ·rename_i m k ty ts ha ht
    split at hlow
    ·rename_i kt et hu
     split at hlow
     ·rename_i hk
      simp only[Option.some.injEq]at hlow;subst hlow
      simp only[xWp]at hw
      split at hw
      ·rename_i l n e1 e2
       split at hw
       ·rename_i r e4
        split at hw
        ·rename_i ents clock hE
         exact hw.elim
        ·exact hw.elim
       ·exact hw.elim
      ·exact hw.elim
     ·simp at hlow
    ·simp at hlow
   ·simp at hlow
  ·simp at hlow
 | _=>simp[hop,cj_]at hlow
theorem sj_{lo:LOp}(hlow:ex_ P o.op=some lo)(hok:fs_ N lo=true)(hm:ab_ S h w)(hr:Rel S N t a)(hv:ai_ t h lo=some av):ce_ P S w a o av:=by
 unfold ex_ at hlow
 split at hlow
 ·rename_i e he
  simp only[Option.some.injEq]at hlow;subst hlow
  exact lS_ he (dO_ hok) hm hr hv
 ·exact mG_ hlow hok hm hr hv
theorem j1_{lo:LOp}(hlow:ex_ P o.op=some lo)(hok:fs_ N lo=true)(hm:ab_ S h w)(hgl:cn_ P S)(hr:Rel S N t a)(hw:aX_ P t h K lo)(hh:bI_ S w a o K next):o.wp P a w next Q:=by
 unfold ex_ at hlow
 split at hlow
 ·rename_i e he
  simp only[Option.some.injEq]at hlow;subst hlow
  exact n5_ he (dO_ hok) hm hr hw hh
 ·exact qa_ hlow hok hm hgl hr hw hh
theorem gP_{lo:LOp}(hlow:ex_ P o.op=some lo)(hok:fs_ N lo=true)(hm:ab_ S h w)(hgl:cn_ P S)(hr:Rel S N t a)(hw:aX_ P t h K lo.asImm)(hh:bI_ S w a o K next):o.wp P a w next Q:=by
 unfold ex_ at hlow
 split at hlow
 ·rename_i e he
  simp only[Option.some.injEq]at hlow;subst hlow
  exact n5_ he (dO_ hok) hm hr hw hh
 ·exact p8_ hlow hok hm hgl hr hw hh
theorem fb_{op:Op}{lo:LOp}(hlow:ex_ P op=some lo)(hne:∀e,lo≠.ext e):aw_ P op=some lo:=by
 unfold ex_ at hlow
 split at hlow
 ·simp only[Option.some.injEq]at hlow;exact absurd hlow.symm (hne _)
 ·exact hlow
end
inductive LC where
 | skip
 | ops (l:List LI)
 | dops (l:List LI)
 | gops (pre:List LI) (chain:List (LI×List LI))
 | pops (a:List LI) (c:LI) (b:List LI)
 | alts (l:List (List LI×List (LI×List LI)))
 | seq (a b:LC)
 | cond (c:Operand) (a b:LC)
 | block (id:Nat) (b:LC)
 | loop (b:LC)
 | exit (id:Nat)
 | ret
 | ghost (b:LC)
def LC.k(c:Nat)(a b:LC):LC:=.cond (.tmp c) a b
def LC.o(l:List LI):LC:=.ops l
def LC.q:List LC→LC
  | []=>.skip
  | [a]=>a
  | a::b::l=>.seq a (LC.q (b::l))
theorem LC.q1(a:LC):LC.q [a]=a:=rfl
theorem LC.q2(a b:LC)(l:List LC):LC.q (a::b::l)=.seq a (LC.q (b::l)):=rfl
inductive LE where
 | normal
 | exit (id:Nat)
 | ret
def ws_(N:Nat):Option Nat→Bool
 | some d=>decide (d<N)
 | none=>true
def bk_(P:Program)(N:Nat)(ops:Array Oper)(o:Oper):Option LI :=
 (ex_ P o.op).bind fun lo =>
  if fs_ N lo&&ws_ N o.dst then
   match o.guard with
   | none=>some ⟨o.dst,none,lo⟩
   | some (j,want) =>
    match(ops[j]?).bind (·.dst)with
    | some d=>if d<N then some ⟨o.dst,some (d,want),lo⟩else none
    | none=>none
  else none
def LI.asImm(x:LI):LI:={ x with op:=x.op.asImm }
def LI.reads(i:LI):List Nat :=
 (i.op.operands.filterMap fun|.tmp k=>some k|_=>none)++(match i.guard with|some (d,_)=>[d]|none=>[])
def XOp.looks:XOp→Bool
 | .lookP _ _ _|.lookS _ _ _ _|.lenM _|.ent _=>true
 | _=>false
def LOp.quiet:LOp→Bool
 | .ext e=>e.looks
 | .clip0 _ _ _|.clear _ _ _ _|.mkMap|.mapUpd _ _ _|.isNil _ _|.slice3 _ _ _ _|.capSl _|.copySl _ _ _|.ovl _ _|.appendZ _ _ _ _ _ _|.appendS _ _ _=>false
 | .alloc _ _|.box _ _|.store _ _ _|.mkSlice _ _ _ _ _ _|.buildSlice _ _ _ _ _|.append _ _ _ _ _=>false
 | _=>true
def bP_(ops:Array Oper)(i k:Nat):Bool :=
 match ops[i]? with
 | some o=>o.after.any fun e=>Region.binds .any e&&e.on==k
 | none=>false
def eH_(ops:Array Oper)(i k:Nat)(x y:LI):Bool :=
 match y.dst with
 | some d=>if x.reads.contains d then(if k<i then bP_ ops i k else bP_ ops k i)else true
 | none=>false
def iI_(ops:Array Oper)(l:List LI):Bool :=
 l.length==ops.size &&
 (l.zipIdx.all fun(x,i) =>
   x.op.quiet &&
   (match x.dst with|some d=>!x.reads.contains d|none=>false) &&
   (match ops[i]? with|some o=>o.after.all fun e=>!Region.binds .any e||decide (e.on<i)|none=>false) &&
   (l.zipIdx.all fun(y,k)=>k==i||(eH_ ops i k x y&&!(x.dst==y.dst))))
def LOp.calm:LOp→Bool
 | .ext e=>e.looks
 | .alloc _ _|.box _ _|.store _ _ _|.mkSlice _ _ _ _ _ _|.buildSlice _ _ _ _ _|.buildImm _ _ _ _ _|.append _ _ _ _ _=>false
 | .isNil _ _|.slice3 _ _ _ _|.capSl _|.copySl _ _ _|.ovl _ _|.appendZ _ _ _ _ _ _|.appendS _ _ _=>false
 | .toBytes _ _|.clip0 _ _ _|.clear _ _ _ _|.mkMap|.mapUpd _ _ _|.call _ _|.callv _ _=>false
 | _=>true
def LI.none:LI:=⟨Option.none,Option.none,.mov (.tmp 0)⟩
def gat(l:List LI)(k:Nat):LI:=l.getD k LI.none
def cA_(ops:Array Oper):Nat→Nat→Nat→Bool
 | 0,_,_=>false
 | f+1,i,k=>bP_ ops i k||(List.range i).any fun m=>bP_ ops i m&&cA_ ops f m k
def bZ_(ops:Array Oper)(l:List LI)(i:Nat):Bool :=
 !(gat l i).op.calm||(List.range i).any fun k=>!(gat l k).op.calm&&cA_ ops l.length i k
def o0_(ops:Array Oper)(l:List LI):List Nat:=(List.range l.length).filter fun i=>!bZ_ ops l i
def chB(ops:Array Oper)(l:List LI):List Nat:=(List.range l.length).filter fun i=>bZ_ ops l i
def sZ_(l:List LI)(i:Nat):Bool :=
 match(gat l i).op,(gat l i).dst with
 | .buildSlice _ _ _ 0 [],some _=>true
 | _,_=>false
def Ay_(ops:Array Oper)(l:List LI)(f:Nat):Nat:=((List.range l.length).filter fun i=>bP_ ops i f).headD l.length
def chC(ops:Array Oper)(l:List LI):List Nat:=(List.range (l.length+1)).flatMap fun i=>((chB ops l).filter fun f=>sZ_ l f&&Ay_ ops l f==i)++(chB ops l).filter fun c=>c==i&&!sZ_ l c
def mx_:List Nat→Bool
 | []=>true
 | a::l=>!l.contains a&&mx_ l
def sE_(R:Nat→Nat→Bool):List Nat→Bool
 | []=>true
 | a::l=>l.all (R a)&&sE_ R l
def go_(a b:List Nat):Bool:=mx_ a&&a.all (fun x=>b.contains x)&&b.all (fun x=>a.contains x)
def chI(ops:Array Oper)(l:List LI):List Nat:=if go_ (chC ops l) (chB ops l)then chC ops l else chB ops l
def dw_(l:List LI)(i:Nat):Bool :=
 match(gat l i).op,(gat l i).dst with
 | .alloc _ _,some _=>true
 | .buildSlice _ _ _ 0 [],some _=>true
 | _,_=>false
def LOp.slot:LOp→Bool
 | .mov _|.pick _ _ _|.extract _ _|.bin _ _ _ _|.un _ _|.lenStr _|.indexStr _ _|.field _ _ _|.mkFunc _ _ _|.convInt _ _|.sliceStr _ _ _|.build _ _ _=>true
 | _=>false
def fg_(ops:Array Oper)(l:List LI)(c:Nat):Bool :=
 (gat l c).op.slot&&(match(gat l c).dst with
  | some d=>(List.range l.length).all fun i=>!(gat l i).reads.contains d||(decide (c<i)&&bZ_ ops l i)
  | none=>false)
def gO_(ops:Array Oper)(l:List LI):Bool :=
 l.length==ops.size &&
 ((List.range l.length).all fun i =>
   (gat l i).guard.isNone &&
   (match ops[i]? with|some o=>o.after.all fun e=>!Region.binds .any e||decide (e.on<i)|none=>false) &&
   (bZ_ ops l i||(gat l i).dst.isSome) &&
   ((List.range l.length).all fun k => match (gat l k).dst with
     | some d=>(k==i||!((gat l i).dst==some d))&&(!(gat l i).reads.contains d||(decide (k<i)&&bP_ ops i k)||(decide (i<k)&&bZ_ ops l k&&bP_ ops k i))
     | none=>true)) &&
 sE_ (fun c' c=>(cA_ ops l.length c c'||dw_ l c||fg_ ops l c')&&!bP_ ops c' c) (chI ops l)
def l6_(ops:Array Oper)(l:List LI)(c:Nat):List Nat:=(o0_ ops l).filter fun p=>!cA_ ops l.length c p
def lH_(ops:Array Oper)(l:List LI):List LI:=(o0_ ops l).map (gat l)
def hL_(ops:Array Oper)(l:List LI):List (LI×List LI):=(chI ops l).map fun c=>(gat l c,(l6_ ops l c).map (gat l))
def yP_:LI→Bool
 | ⟨_,_,.call _ _⟩=>true
 | _=>false
def kP_(l:List LI):Nat:=(l.findIdx? yP_).getD l.length
def km_(ops:Array Oper)(l:List LI)(c:Nat):Bool :=
 l.length==ops.size&&decide (c<l.length)&&(gat l c).guard.isNone &&
 ((List.range l.length).all fun k=>k==c||(if k<c then cA_ ops l.length c k else cA_ ops l.length k c)) &&
 (l.zipIdx.all fun(x,i) =>
   (i==c||x.op.quiet) &&
   (match x.dst with|some d=>!x.reads.contains d|none=>false) &&
   (match ops[i]? with|some o=>o.after.all fun e=>!Region.binds .any e||decide (e.on<i)|none=>false) &&
   (l.zipIdx.all fun(y,k)=>k==i||(eH_ ops i k x y&&!(x.dst==y.dst))))
def ct_(ops:Array Oper)(i k:Nat):Array Oper:=ops.modify i fun o=>{ o with after:=o.after.push ⟨k,.data⟩ }
def AP_(ops:Array Oper)(l:List LI)(c' c:Nat):Bool:=(cA_ ops l.length c c'||dw_ l c||fg_ ops l c')&&!bP_ ops c' c
def ru_:List Nat→List (Nat×Nat)
 | []=>[]
 | a::r=>r.map (fun b=>(a,b))++ru_ r
def vJ_(ops:Array Oper)(l:List LI):Option (Nat×Nat):=(ru_ (chI ops l)).find? fun p=>!AP_ ops l p.1 p.2
def d8_(ops:Array Oper)(n a c:Nat):List Nat :=
 ((List.range n).filter fun m=>decide (m<a))++(((List.range n).filter fun m=>decide (a≤m)&&(m==c||cA_ ops n c m))++((List.range n).filter fun m=>decide (a≤m)&&!(m==c||cA_ ops n c m)))
def dZ_(σ:List Nat)(ops:Array Oper):Array Oper:=(σ.map fun i=>match ops[i]? with
 | some o=>{ o with after:=o.after.map fun e=>{ e with on:=σ.idxOf e.on } }
 | none=>default).toArray
def gN_:Nat→Array Oper→List LI→Option (List (List LI×List (LI×List LI)))
 | 0,_,_=>none
 | f+1,ops,l=>if gO_ ops l then some [(lH_ ops l,hL_ ops l)]else
  match vJ_ ops l with
  | none=>none
  | some (a,c) =>
   if decide (a<c)&&decide (c<l.length)&&go_ (d8_ ops l.length a c) (List.range l.length)then
    match gN_ f (ct_ ops c a) l,gN_ f (dZ_ (d8_ ops l.length a c) (ct_ ops a c)) ((d8_ ops l.length a c).map (gat l))with
    | some x,some y=>some (x++y)
    | _,_=>none
   else none
def aS_(P:Program)(N:Nat)(pf:Bool):Code→Option LC
 | .skip=>some .skip
 | .region _ ops draw =>
  match ops.toList.mapM (bk_ P N ops)with
  | some l=>if draw then(if pf&&gO_ ops l then some (.gops (lH_ ops l) (hL_ ops l))else if pf&&km_ ops (l.map LI.asImm) (kP_ l)then some (.pops ((l.map LI.asImm).take (kP_ l)) (gat (l.map LI.asImm) (kP_ l)) ((l.map LI.asImm).drop (kP_ l+1)))else if iI_ ops (l.map LI.asImm)then some (.dops (l.map LI.asImm))else if gO_ ops l then some (.gops (lH_ ops l) (hL_ ops l))else if l.all (fun x=>x.guard.isNone)then(gN_ 8 ops l).map .alts else none)else some (.ops l)
  | none=>none
 | .seq a b =>
  match aS_ P N pf a,aS_ P N pf b with
  | some x,some y=>some (.seq x y)
  | _,_=>none
 | .cond c a b =>
  match aS_ P N pf a,aS_ P N pf b with
  | some x,some y=>if ag_ N c then some (.cond c x y)else none
  | _,_=>none
 | .block id b=>(aS_ P N pf b).map (.block id)
 | .loop b=>(aS_ P N pf b).map .loop
 | .exit id=>some (.exit id)
 | .ret=>some .ret
 | _=>none
def LC.erase:LC→LC
 | .seq a b=>.seq a.erase b.erase
 | .cond c a b=>.cond c a.erase b.erase
 | .block id b=>.block id b.erase
 | .loop b=>.loop b.erase
 | .ghost b=>b.erase
 | c=>c
def g8_(N:Nat)(t:Nat→AV)(h:List Row)(t':Nat→AV)(h':List Row):Prop :=
 ∀(S:Sit) (w:World) (a:Act),ab_ S h w→Rel S N t a→∃S',a0_ S w S' w∧ab_ S' h' w∧Rel S' N t' a
def o4_(N:Nat)(t:Nat→AV)(h:List Row)(G:(Nat→AV)→List Row→Prop):Prop :=
 ∀(S:Sit) (w:World) (a:Act),ab_ S h w→Rel S N t a→∃S' t' h',G t' h'∧a0_ S w S' w∧ab_ S' h' w∧Rel S' N t' a
def cb_(t:Nat→AV)(g:Option (Nat×Bool)):Option Bool :=
 match g with
 | none=>some true
 | some (d,want) =>
  match t d with
  | .val (.bool b)=>some (b==want)
  | .val (.tuple _)=>some false
  | _=>none
def f1_(P:Program):List LI→(Nat→AV)→List Row→((Nat→AV)→List Row→Prop)→Prop
 | [],t,h,K=>K t h
 | i::rest,t,h,K =>
  match cb_ t i.guard with
  | some true=>aX_ P t h (fun v h'=>f1_ P rest (put t i.dst v) h' K) i.op
  | some false=>f1_ P rest (put t i.dst (.val Go.undef)) h K
  | none=>False
def PureCall(P:Program)(f:FuncId)(args:List AV)(h:List Row)(r:AV):Prop:=∀K:AV→List Row→Prop,K r h→callSem P f args h K
def qWp(P:Program)(t:Nat→AV)(h:List Row)(K:AV→Prop):LOp→Prop
 | .call f args=>∃r,PureCall P f (args.map (ah_ t)) h r∧K r
 | .callv f args =>
  match ah_ t f with
  | .fn g first caps=>cB_ P g=true∧∃r,PureCall P g (first++args.map (ah_ t)++caps) h r∧K r
  | _=>False
 | .toBytes _ x =>
  match ah_ t x with
  | .val (.string s)=>K (.list 0 1 (aY_ s.data.toList))
  | _=>False
 | .buildImm _ sz _ len parts =>
  parts.map (·.1)=List.range len ∧
   match cv_ t parts with
   | some es=>(∀e∈es,e.length=sz)∧(∀e∈es,e.all AV.flat=true)∧K (.list 0 sz es)
   | none=>False
 | op =>
  match ai_ t h op with
  | some v=>K v
  | none=>False
def d3_(P:Program)(h:List Row):List LI→(Nat→AV)→((Nat→AV)→Prop)→Prop
 | [],t,K=>K t
 | i::rest,t,K =>
  match cb_ t i.guard with
  | some true=>qWp P t h (fun v=>d3_ P h rest (put t i.dst v) K) i.op
  | some false=>d3_ P h rest (put t i.dst (.val Go.undef)) K
  | none=>False
def holds(T:Nat→AV)(h:List Row):List LI→Prop
 | []=>True
 | i::r=>(match i.dst with|some d=>ai_ T h i.op=some (T d)|Option.none=>False)∧holds T h r
def hn_(h:List Row):List LI→(Nat→AV)→((Nat→AV)→Prop)→Prop
 | [],t,K=>K t
 | i::r,t,K=>match ai_ t h i.op with|some v=>hn_ h r (put t i.dst v) K|Option.none=>False
def gV_(P:Program):List (LI×List LI)→(Nat→AV)→List Row→((Nat→AV)→List Row→Prop)→Prop
 | [],T,h,K=>K T h
 | (c,loose)::r,T,h,K=>aX_ P T h (fun v h'=>holds (put T c.dst v) h' loose∧gV_ P r (put T c.dst v) h' K) c.op
def gWp(P:Program)(pre:List LI)(chain:List (LI×List LI))(t:Nat→AV)(h:List Row)(K:(Nat→AV)→List Row→Prop):Prop :=
 hn_ h pre t fun T=>holds T h pre∧gV_ P chain T h K
def awp(P:Program)(N:Nat):LC→(LE→(Nat→AV)→List Row→Prop)→(Nat→AV)→List Row→Prop
 | .skip,Q,t,h=>Q .normal t h
 | .ops l,Q,t,h=>f1_ P l t h (Q .normal)
 | .dops l,Q,t,h=>d3_ P h l t (fun t'=>Q .normal t' h)
 | .gops pre chain,Q,t,h=>gWp P pre chain t h (Q .normal)
 | .pops a c b,Q,t,h=>d3_ P h a t fun t1=>aX_ P t1 h (fun v h'=>d3_ P h' b (put t1 c.dst v) fun t2=>Q .normal t2 h') c.op
 | .alts l,Q,t,h=>∀p∈l,gWp P p.1 p.2 t h (Q .normal)
 | .seq a b,Q,t,h=>awp P N a (fun e t h=>match e with|.normal=>awp P N b Q t h|e=>Q e t h) t h
 | .cond c a b,Q,t,h =>
  match ah_ t c with
  | .val (.bool q)=>(q=true→awp P N a Q t h)∧(q=false→awp P N b Q t h)
  | _=>False
 | .block id b,Q,t,h=>awp P N b (fun e t h=>match e with|.exit k=>if k=id then Q .normal t h else Q (.exit k) t h|e=>Q e t h) t h
 | .loop b,Q,t,h=>∃(I:Nat→(Nat→AV)→List Row→Prop) (n:Nat),I n t h∧∀n t h,I n t h→awp P N b (fun e t' h'=>match e with|.normal=>∃m,m<n∧I m t' h'|e=>Q e t' h') t h
 | .exit id,Q,t,h=>Q (.exit id) t h
 | .ret,Q,t,h=>Q .ret t h
 | .ghost b,Q,t,h=>∃G,o4_ N t h G∧∀t' h',G t' h'→awp P N b Q t' h'
theorem eI_{t t':Nat→AV}{h:List Row}(op:LOp)(e:∀x∈op.operands,ah_ t x=ah_ t' x):ai_ t h op=ai_ t' h op:=by
 have bo:∀(x:Option Operand) (d:Nat),(∀y∈x,ah_ t y=ah_ t' y)→b0_ t x d=b0_ t' x d:=by
  intro x d hx
  cases x with
  | none=>rfl
  | some y=>simp only[b0_,hx y rfl]
 cases op with
 | mov x=>simp only[ai_,e x (by simp[LOp.operands])]
 | pick c a b=>simp only[ai_,e c (by simp[LOp.operands]),e a (by simp[LOp.operands]),e b (by simp[LOp.operands])]
 | load n x=>simp only[ai_,e x (by simp[LOp.operands])]
 | fieldAddr n x=>simp only[ai_,e x (by simp[LOp.operands])]
 | field n m x=>simp only[ai_,e x (by simp[LOp.operands])]
 | indexAddr n x i=>simp only[ai_,e x (by simp[LOp.operands]),e i (by simp[LOp.operands])]
 | indexStr x i=>simp only[ai_,e x (by simp[LOp.operands]),e i (by simp[LOp.operands])]
 | bin o q x y=>simp only[ai_,e x (by simp[LOp.operands]),e y (by simp[LOp.operands])]
 | un o x=>simp only[ai_,e x (by simp[LOp.operands])]
 | eqSt k l x y=>simp only[ai_,e x (by simp[LOp.operands]),e y (by simp[LOp.operands])]
 | mm k x y=>simp only[ai_,e x (by simp[LOp.operands]),e y (by simp[LOp.operands])]
 | lenStr x=>simp only[ai_,e x (by simp[LOp.operands])]
 | lenSl x=>simp only[ai_,e x (by simp[LOp.operands])]
 | extract x i=>simp only[ai_,e x (by simp[LOp.operands])]
 | nilCheck x=>simp only[ai_,e x (by simp[LOp.operands])]
 | convInt k x=>simp only[ai_,e x (by simp[LOp.operands])]
 | isNilP k x=>rfl
 | toStr x=>simp only[ai_,e x (by simp[LOp.operands])]
 | ext x =>
  simp only[ai_]
  cases x<;>simp only[cY_]<;>simp only[LOp.operands,XOp.operands,mem_cons,not_mem_nil,or_false,forall_eq_or_imp,forall_eq]at e<;>simp only[e]
 | lookup z q m k=>simp only[ai_,e m (by simp[LOp.operands]),e k (by simp[LOp.operands])]
 | mkFunc f a b =>
  simp only[ai_]
  rw[map_congr_left (fun x hx=>e x (by simp[LOp.operands,hx])),map_congr_left (l:=b) (fun x hx=>e x (by simp[LOp.operands,hx]))]
 | sliceStr x lo hi =>
  simp only[ai_,e x (by simp[LOp.operands]),bo lo 0 (fun y hy=>e y (by simp at hy;simp[LOp.operands,hy])),fun d=>bo hi d (fun y hy=>e y (by simp at hy;simp[LOp.operands,hy]))]
 | sliceSl n x lo hi =>
  simp only[ai_,e x (by simp[LOp.operands]),bo lo 0 (fun y hy=>e y (by simp at hy;simp[LOp.operands,hy])),fun d=>bo hi d (fun y hy=>e y (by simp at hy;simp[LOp.operands,hy]))]
 | build z pl parts =>
  simp only[ai_,gi_]
  rw[map_congr_left (l:=parts) (fun p hp=>by rw[e p.2 (by simp only[LOp.operands];exact mem_map.2 ⟨p,hp,rfl⟩)])]
 | _=>rfl
theorem qU_{t t':Nat→AV}{x:Operand}(e:∀k,x=.tmp k→t k=t' k):ah_ t x=ah_ t' x:=by
 cases x with
 | tmp k=>exact e k rfl
 | _=>rfl
theorem nU_{P:Program}{t t':Nat→AV}{h:List Row}{K:AV→Prop}(op:LOp)(e:∀x∈op.operands,ah_ t x=ah_ t' x)(q:qWp P t h K op):qWp P t' h K op:=by
 cases op with
 | call f args =>
  simp only[qWp]at q⊢
  rw[←map_congr_left (l:=args) (fun x hx=>e x (by simpa[LOp.operands]using hx))];exact q
 | callv f args =>
  simp only[qWp]at q⊢
  rw[←e f (by simp[LOp.operands]),←map_congr_left (l:=args) (fun x hx=>e x (by simp[LOp.operands,hx]))];exact q
 | toBytes E x =>
  simp only[qWp]at q⊢
  rw[←e x (by simp[LOp.operands])];exact q
 | buildImm E sz z len parts =>
  simp only[qWp]at q⊢
  have:cv_ t' parts=cv_ t parts:=by
   unfold cv_
   have h0:∀p∈parts,ah_ t p.2=ah_ t' p.2:=fun p hp=>e p.2 (by simp only[LOp.operands];exact mem_map.2 ⟨p,hp,rfl⟩)
   clear q e
   induction parts with
   | nil=>rfl
   | cons p ps ih=>rw[mapM_cons,mapM_cons,h0 p (by simp),ih (fun p hp=>h0 p (by simp[hp]))]
  rw[this];exact q
 | _ =>
  simp only[qWp]at q⊢
  rw[←eI_ _ e];exact q
theorem dm_{i:LI}{t t':Nat→AV}(e:∀s∈i.reads,t s=t' s):∀x∈i.op.operands,ah_ t x=ah_ t' x:=by
 intro x hx
 refine qU_ fun k hk=>e k ?_
 subst hk
 simp only[LI.reads,mem_append,mem_filterMap]
 exact .inl ⟨_,hx,rfl⟩
theorem iw_{i:LI}{t t':Nat→AV}(e:∀s∈i.reads,t s=t' s):cb_ t i.guard=cb_ t' i.guard:=by
 cases hg:i.guard with
 | none=>rfl
 | some g =>
  obtain⟨d,want⟩:=g
  simp only[cb_]
  rw[e d (by simp[LI.reads,hg])]
theorem tu_{P:Program}{t:Nat→AV}{h:List Row}{K:AV→Prop}{op:LOp}(q:qWp P t h K op):∃v,qWp P t h (fun u=>u=v) op∧K v:=by
 cases op with
 | call f args =>
  simp only[qWp]at q⊢
  obtain⟨r,h1,h2⟩:=q
  exact⟨r,⟨r,h1,rfl⟩,h2⟩
 | callv f args =>
  simp only[qWp]at q⊢
  split at q
  ·rename_i g first caps e
   obtain⟨h0,r,h1,h2⟩:=q
   exact⟨r,⟨h0,r,h1,rfl⟩,h2⟩
  ·exact q.elim
 | toBytes E x =>
  simp only[qWp]at q⊢
  split at q
  ·exact⟨_,rfl,q⟩
  ·exact q.elim
 | buildImm E sz z len parts =>
  simp only[qWp]at q⊢
  obtain⟨h0,q⟩:=q
  split at q
  ·exact⟨_,⟨h0,q.1,q.2.1,rfl⟩,q.2.2⟩
  ·exact q.elim
 | _ =>
  simp only[qWp]at q⊢
  split at q
  ·rename_i v _
   exact⟨v,rfl,q⟩
  ·exact q.elim
def tAt(l:List LI)(t:Nat→AV)(vs:Nat→AV):Nat→(Nat→AV)
 | 0=>t
 | i+1=>match l[i]? with
  | some x=>put (tAt l t vs i) x.dst (vs i)
  | none=>tAt l t vs i
theorem jx_{P:Program}{h:List Row}{K:(Nat→AV)→Prop}:∀(n:Nat) (l:List LI) (i:Nat) (t0:Nat→AV) (vs0:Nat→AV),n+i=l.length→d3_ P h (l.drop i) (tAt l t0 vs0 i) K →
 ∃vs:Nat→AV,(∀k,k<i→vs k=vs0 k)∧K (tAt l t0 vs l.length)∧∀k x,i≤k→l[k]?=some x →
  match cb_ (tAt l t0 vs k) x.guard with
  | some true=>qWp P (tAt l t0 vs k) h (fun v=>v=vs k) x.op
  | some false=>vs k=.val Go.undef
  | none=>False
 | 0,l,i,t0,vs0,hn,ha=>by
  have:l.drop i=[]:=drop_eq_nil_of_le (by omega)
  rw[this]at ha
  refine⟨vs0,fun _ _=>rfl,?_,fun k x hk hx=>?_⟩
  ·have:i=l.length:=by omega
   subst this;exact ha
  ·have:k<l.length:=by rcases List.getElem?_eq_some_iff.1 hx with ⟨q,_⟩;exact q
   omega
 | n+1,l,i,t0,vs0,hn,ha=>by
  have hi:i<l.length:=by omega
  have hd:l.drop i=l[i]::l.drop (i+1):=drop_eq_getElem_cons hi
  rw[hd]at ha
  have tcongr:∀(vs vs':Nat→AV) (j:Nat),(∀k,k<j→vs k=vs' k)→tAt l t0 vs j=tAt l t0 vs' j:=by
   intro vs vs' j
   induction j with
   | zero=>intro _;rfl
   | succ j ih =>
    intro hk
    simp only[tAt]
    rw[ih (fun k hk'=>hk k (by omega)),hk j (by omega)]
  have key:∀v,d3_ P h (l.drop (i+1)) (put (tAt l t0 vs0 i) l[i].dst v) K→(match cb_ (tAt l t0 vs0 i) l[i].guard with
   | some true=>qWp P (tAt l t0 vs0 i) h (fun u=>u=v) l[i].op
   | some false=>v=.val Go.undef
   | none=>False)→∃vs:Nat→AV,(∀k,k<i→vs k=vs0 k)∧K (tAt l t0 vs l.length)∧∀k x,i≤k→l[k]?=some x →
   match cb_ (tAt l t0 vs k) x.guard with
   | some true=>qWp P (tAt l t0 vs k) h (fun v=>v=vs k) x.op
   | some false=>vs k=.val Go.undef
   | none=>False:=by
   intro v hv hm
   have e1:tAt l t0 (fun k=>if k=i then v else vs0 k) i=tAt l t0 vs0 i:=tcongr _ _ i (fun k hk=>by simp[Nat.ne_of_lt hk])
   have hstep:tAt l t0 (fun k=>if k=i then v else vs0 k) (i+1)=put (tAt l t0 vs0 i) l[i].dst v:=by
    simp only[tAt,getElem?_eq_getElem hi,e1]
    simp
   obtain⟨vs,h1,h2,h3⟩:=jx_ n l (i+1) t0 (fun k=>if k=i then v else vs0 k) (by omega) (by rw[hstep];exact hv)
   refine⟨vs,fun k hk=>by rw[h1 k (by omega)];simp[Nat.ne_of_lt hk],h2,fun k x hk hx=>?_⟩
   by_cases hki:k=i
   ·subst hki
    rw[getElem?_eq_getElem hi]at hx
    simp at hx;subst hx
    have e2:tAt l t0 vs k=tAt l t0 vs0 k:=tcongr _ _ k (fun j hj=>by rw[h1 j (by omega)];simp[Nat.ne_of_lt hj])
    have e3:vs k=v:=by rw[h1 k (by omega)];simp
    rw[e2,e3];exact hm
   ·exact h3 k x (by omega) hx
  simp only[d3_]at ha
  split at ha
  ·rename_i hw
   obtain⟨v,hv1,hv2⟩:=tu_ ha
   exact key v hv2 (by rw[hw];exact hv1)
  ·rename_i hw
   exact key _ ha (by rw[hw])
  ·exact ha.elim
theorem tE_{P:Program}{t:Nat→AV}{h:List Row}{u:AV}{op:LOp}(hq:op.quiet=true)(q:qWp P t h (fun v=>v=u) op):aX_ P t h (fun v h'=>v=u∧h'=h) op:=by
 cases op with
 | call f args =>
  simp only[qWp,aX_]at q⊢
  obtain⟨r,h1,h2⟩:=q
  exact h1 _ ⟨h2,rfl⟩
 | callv f args =>
  simp only[qWp,aX_]at q⊢
  split at q
  ·rename_i g first caps e
   rw[e]
   obtain⟨h0,r,h1,h2⟩:=q
   exact⟨h0,h1 _ ⟨h2,rfl⟩⟩
  ·exact q.elim
 | alloc _ _=>simp[LOp.quiet]at hq
 | box _ _=>simp[LOp.quiet]at hq
 | store _ _ _=>simp[LOp.quiet]at hq
 | mkSlice _ _ _ _ _ _=>simp[LOp.quiet]at hq
 | buildSlice _ _ _ _ _=>simp[LOp.quiet]at hq
 | append _ _ _ _ _=>simp[LOp.quiet]at hq
 | clip0 _ _ _=>simp[LOp.quiet]at hq
 | clear _ _ _ _=>simp[LOp.quiet]at hq
 | mkMap=>simp[LOp.quiet]at hq
 | mapUpd _ _ _=>simp[LOp.quiet]at hq
 | ext x =>
  simp only[LOp.quiet]at hq
  simp only[qWp,ai_,aX_]at q⊢
  cases x<;>simp only[XOp.looks,Bool.false_eq_true]at hq<;>simp only[xWp]<;>(split at q<;>first|exact q.elim|(rename_i v ev;simp only[ev];first|exact⟨q,rfl⟩|exact⟨q,trivial⟩))
 | toBytes E x =>
  simp only[qWp,aX_]at q⊢
  split at q
  ·rename_i s e
   rw[e];first|exact⟨.inl ⟨q,rfl⟩⟩|exact⟨.inl ⟨q,trivial⟩⟩
  ·exact q.elim
 | buildImm E sz z len parts =>
  simp only[qWp,aX_]at q⊢
  refine⟨q.1,?_⟩
  have q2:=q.2
  split at q2
  ·rename_i es e
   rw[e];first|exact⟨q2.1,q2.2.1,q2.2.2,rfl⟩|exact⟨q2.1,q2.2.1,q2.2.2,trivial⟩
  ·exact q2.elim
 | isNil neg x=>simp[qWp,ai_]at q
 | slice3 x lo hi mx=>simp[qWp,ai_]at q
 | capSl x=>simp[qWp,ai_]at q
 | copySl sz x y=>simp[qWp,ai_]at q
 | ovl x y=>simp[qWp,ai_]at q
 | appendZ E sz b z x k=>simp[qWp,ai_]at q
 | appendS E x y=>simp[qWp,ai_]at q
 | _ =>
  simp only[qWp]at q
  unfold aX_
  split at q
  ·rename_i v e
   simp only[e]
   first|exact⟨q,rfl⟩|exact⟨q,trivial⟩
  ·exact q.elim
theorem cW_{P:Program}{N:Nat}{ops:Array Oper}{o:Oper}{x:LI}(h:bk_ P N ops o=some x):ex_ P o.op=some x.op∧fs_ N x.op=true∧o.dst=x.dst∧(∀d,x.dst=some d→d<N) ∧
 ((o.guard=none∧x.guard=none)∨∃j want d,o.guard=some (j,want)∧(ops[j]?).bind (·.dst)=some d∧d<N∧x.guard=some (d,want)):=by
 simp only[bk_,Option.bind_eq_some_iff]at h
 obtain⟨lo,h1,h2⟩:=h
 split at h2
 ·rename_i hc
  simp only[Bool.and_eq_true]at hc
  have hd:∀d,o.dst=some d→d<N:=by
   intro d hd
   have:=hc.2
   rw[hd]at this
   simpa[ws_]using this
  split at h2
  ·rename_i hg
   simp only[Option.some.injEq]at h2;subst h2
   exact⟨h1,hc.1,rfl,hd,.inl ⟨hg,rfl⟩⟩
  ·rename_i j want hg
   split at h2
   ·rename_i d hj
    split at h2
    ·rename_i hdN
     simp only[Option.some.injEq]at h2;subst h2
     exact⟨h1,hc.1,rfl,hd,.inr ⟨j,want,d,hg,hj,hdN,rfl⟩⟩
    ·simp at h2
   ·simp at h2
 ·simp at h2
theorem du_{P:Program}{S:Sit}{N:Nat}{t:Nat→AV}{a:Act}{ops:Array Oper}{o:Oper}{x:LI}(hl:bk_ P N ops o=some x)(hr:Rel S N t a){q:Bool}(hw:cb_ t x.guard=some q) :
 Region.wanted o (yielded ops a.tmps)=q:=by
 obtain⟨_,_,_,_,hg⟩:=cW_ hl
 rcases hg with ⟨g1,g2⟩|⟨j,want,d,g1,g2,g3,g4⟩
 ·rw[g2]at hw
  simp[cb_]at hw;subst hw
  simp[Region.wanted,g1]
 ·rw[g4]at hw
  have rd:=hr.2.2 d g3
  have hdlt:d<a.tmps.size:=by rw[hr.1];exact g3
  simp only[cb_]at hw
  split at hw
  ·rename_i b e
   simp only[Option.some.injEq]at hw;subst hw
   rw[e]at rd
   simp only[Rep]at rd
   have:a.tmps[d]?=some (.bool b):=by
    rw[Array.getD_eq_getD_getElem?,Array.getElem?_eq_getElem hdlt]at rd
    rw[Array.getElem?_eq_getElem hdlt]
    simpa using rd
   simp[Region.wanted,g1,yielded,g2,this]
  ·rename_i vs e
   simp only[Option.some.injEq]at hw;subst hw
   rw[e]at rd
   simp only[Rep]at rd
   have:a.tmps[d]?=some (.tuple vs):=by
    rw[Array.getD_eq_getD_getElem?,Array.getElem?_eq_getElem hdlt]at rd
    rw[Array.getElem?_eq_getElem hdlt]
    simpa using rd
   simp[Region.wanted,g1,yielded,g2,this]
  ·simp at hw
section
variable {l : List LI} {t : Nat → AV} {vs : Nat → AV}
def cC_(l:List LI)(t:Nat→AV)(vs:Nat→AV)(listed:Array Bool)(s:Nat):AV :=
 match(List.range l.length).find? (fun k=>listed.getD k false&&((l[k]?).bind (·.dst))==some s)with
 | some k=>vs k
 | none=>t s
theorem ci_(hd:∀(i k:Nat) (d:Nat),(l[i]?).bind (·.dst)=some d→(l[k]?).bind (·.dst)=some d→i=k){listed:Array Bool}{k s:Nat}(hk:k<l.length)(h1:listed.getD k false=true)(h2:(l[k]?).bind (·.dst)=some s):cC_ l t vs listed s=vs k:=by
 unfold cC_
 cases hf:(List.range l.length).find? (fun k=>listed.getD k false&&((l[k]?).bind (·.dst))==some s)with
 | none =>
  have:=find?_eq_none.1 hf k (mem_range.2 hk)
  simp only[h1,h2]at this
  simp at this
 | some j =>
  have hj:=find?_some hf
  simp only[Bool.and_eq_true,beq_iff_eq]at hj
  rw[hd j k s hj.2 h2]
theorem bX_{listed:Array Bool}{s:Nat}(h:∀k,listed.getD k false=true→(l[k]?).bind (·.dst)≠some s):cC_ l t vs listed s=t s:=by
 unfold cC_
 cases hf:(List.range l.length).find? (fun k=>listed.getD k false&&((l[k]?).bind (·.dst))==some s)with
 | none=>rfl
 | some j =>
  have hj:=find?_some hf
  simp only[Bool.and_eq_true,beq_iff_eq]at hj
  exact absurd hj.2 (h j hj.1)
theorem fD_(hd:∀(i k:Nat) (d:Nat),(l[i]?).bind (·.dst)=some d→(l[k]?).bind (·.dst)=some d→i=k){k s:Nat}(h2:(l[k]?).bind (·.dst)=some s):∀{i:Nat},k<i→tAt l t vs i s=vs k
 | 0,h=>by omega
 | i+1,h=>by
  simp only[tAt]
  by_cases e:k=i
  ·subst e
   cases hx:l[k]? with
   | none=>simp[hx]at h2
   | some x =>
    simp only[hx,Option.bind_some]at h2
    simp[put,h2,upd]
  ·have ih:=fD_ hd h2 (show k<i by omega)
   cases hx:l[i]? with
   | none=>exact ih
   | some x =>
    cases hdst:x.dst with
    | none=>simpa[put,hdst]using ih
    | some d =>
     have:s≠d:=fun q=>by
      subst q
      exact e (hd k i s h2 (by simp[hx,hdst]))
     simp only[put,hdst,upd,this,if_false];exact ih
theorem dT_{s:Nat}:∀{i:Nat},(∀k,k<i→(l[k]?).bind (·.dst)≠some s)→tAt l t vs i s=t s
 | 0,_=>rfl
 | i+1,h=>by
  simp only[tAt]
  have ih:=dT_ (fun k hk=>h k (by omega)) (i:=i)
  cases hx:l[i]? with
  | none=>exact ih
  | some x =>
   cases hdst:x.dst with
   | none=>simpa[put,hdst]using ih
   | some d =>
    have:s≠d:=fun q=>by
     subst q
     exact h i (by omega) (by simp[hx,hdst])
    simp only[put,hdst,upd,this,if_false];exact ih
end
structure mQ_(ops:Array Oper)(l:List LI):Prop where
 len:l.length=ops.size
 quiet:∀(i:Nat) (x:LI),l[i]?=some x→x.op.quiet=true
 dst:∀(i:Nat) (x:LI),l[i]?=some x→∃d,x.dst=some d
 back:∀(i:Nat) (o:Oper) (e:Edge),ops[i]?=some o→e∈o.after→Region.binds .any e=true→e.on<i
 one:∀(i k:Nat) (d:Nat),(l[i]?).bind (·.dst)=some d→(l[k]?).bind (·.dst)=some d→i=k
 before:∀(i k:Nat) (x:LI) (d:Nat),l[i]?=some x→(l[k]?).bind (·.dst)=some d→d∈x.reads→k<i→bP_ ops i k=true
 behind:∀(i k:Nat) (x:LI) (d:Nat),l[i]?=some x→(l[k]?).bind (·.dst)=some d→d∈x.reads→¬ k<i→k≠i∧bP_ ops k i=true
theorem k4_{ops:Array Oper}{l:List LI}(h:iI_ ops l=true):mQ_ ops l:=by
 simp only[iI_,Bool.and_eq_true,beq_iff_eq,all_eq_true]at h
 obtain⟨h0,h1⟩:=h
 have hz:∀{i:Nat} {x:LI},l[i]?=some x→(x,i)∈l.zipIdx:=by
  intro i x hx
  exact mem_iff_getElem?.2 ⟨i,by simp[hx]⟩
 have bd:∀{k:Nat} {d:Nat},(l[k]?).bind (·.dst)=some d→∃y,l[k]?=some y∧y.dst=some d:=by
  intro k d hk
  cases hy:l[k]? with
  | none=>simp[hy]at hk
  | some y=>exact⟨y,rfl,by simpa[hy]using hk⟩
 have pair:∀{i k:Nat} {x y:LI},l[i]?=some x→l[k]?=some y→k≠i→eH_ ops i k x y=true∧¬ x.dst=y.dst:=by
  intro i k x y hx hy hki
  have:=(h1 (x,i) (hz hx)).2 (y,k) (hz hy)
  simp only[Bool.or_eq_true,beq_iff_eq,Bool.and_eq_true,Bool.not_eq_true']at this
  rcases this with q|q
  ·exact absurd q hki
  ·exact⟨q.1,by simpa using q.2⟩
 refine⟨h0,fun i x hx=>(h1 (x,i) (hz hx)).1.1.1,fun i x hx=>?_,fun i o e ho he hb=>?_,fun i k d hi hk=>?_,fun i k x d hx hk hd hlt=>?_,fun i k x d hx hk hd hlt=>?_⟩
 ·have:=(h1 (x,i) (hz hx)).1.1.2
  simp only at this
  split at this
  ·rename_i d hd;exact⟨d,hd⟩
  ·simp at this
 ·have hi:i<l.length:=by
   rw[h0];rcases Array.getElem?_eq_some_iff.1 ho with ⟨q,_⟩;exact q
  have:=(h1 (l[i],i) (hz (getElem?_eq_getElem hi))).1.2
  simp only[ho]at this
  rw[Array.all_eq_true]at this
  obtain⟨j,hj,e2⟩:=Array.mem_iff_getElem.1 he
  have:=this j hj
  rw[e2,hb]at this
  simpa using this
 ·obtain⟨x,hx,hxd⟩:=bd hi
  obtain⟨y,hy,hyd⟩:=bd hk
  by_cases e:i=k
  ·exact e
  ·exact absurd (by rw[hxd,hyd]) (pair hx hy (fun q=>e q.symm)).2
 ·obtain⟨y,hy,hyd⟩:=bd hk
  have:=(pair hx hy (by omega)).1
  simp only[eH_,hyd]at this
  simpa[hd,hlt]using this
 ·obtain⟨y,hy,hyd⟩:=bd hk
  have hne:k≠i:=by
   intro e
   subst e
   rw[hx]at hy;simp at hy;subst hy
   have:=(h1 (x,k) (hz hx)).1.1.2
   simp only[hyd]at this
   simp[hd]at this
  have:=(pair hx hy hne).1
  simp only[eH_,hyd]at this
  exact⟨hne,by simpa[hd,hlt]using this⟩
theorem dk_{ops:Array Oper}{listed:Array Bool}{i:Nat}(h:i∈Region.ready .any ops listed):i<ops.size∧listed.getD i true=false∧∀o e,ops[i]?=some o→e∈o.after→Region.binds .any e=true→listed.getD e.on false=true:=by
 simp only[Region.ready,mem_filter,mem_range,Bool.and_eq_true,Bool.not_eq_true']at h
 obtain⟨h1,h2,h3⟩:=h
 refine⟨h1,h2,fun o e ho he hb=>?_⟩
 rw[ho]at h3
 simp only[Option.map_some,Option.getD_some]at h3
 rw[Array.all_eq_true]at h3
 obtain⟨j,hj,e2⟩:=Array.mem_iff_getElem.1 he
 have:=h3 j hj
 rw[e2,hb]at this
 simpa using this
theorem nM_{ops:Array Oper}{l:List LI}(hd:mQ_ ops l){listed:Array Bool}(hs:listed.size=ops.size)(h:Region.ready .any ops listed=[]):∀i,i<ops.size→listed.getD i false=true:=by
 intro i
 induction i using Nat.strongRecOn with
 | _ i ih =>
  intro hi
  cases hq:listed.getD i false with
  | true=>rfl
  | false =>
   have:i∈Region.ready .any ops listed:=by
    simp only[Region.ready,mem_filter,mem_range,Bool.and_eq_true,Bool.not_eq_true']
    refine⟨hi,?_,?_⟩
    ·rw[Array.getD_eq_getD_getElem?,Array.getElem?_eq_getElem (by omega)]at hq⊢
     simpa using hq
    ·have ho:=Array.getElem?_eq_getElem hi
     rw[ho]
     simp only[Option.map_some,Option.getD_some]
     rw[Array.all_eq_true]
     intro j hj
     cases hb:Region.binds .any ops[i].after[j]with
     | false=>simp
     | true =>
      have hlt:=hd.back i _ ops[i].after[j] ho (Array.getElem_mem hj) hb
      simp[ih _ hlt (by omega)]
   rw[h]at this
   simp at this
theorem fB_{P:Program}{N:Nat}{ops:Array Oper}:∀{os:List Oper} {l:List LI},os.mapM (bk_ P N ops)=some l→∀(i:Nat) (o:Oper),os[i]?=some o→∃x,l[i]?=some x∧bk_ P N ops o=some x
 | [],l,_,i,o,hi=>by simp at hi
 | o0::os,l,h,i,o,hi=>by
  rw[mapM_cons]at h
  cases h1:bk_ P N ops o0 with
  | none=>simp[h1]at h
  | some x0 =>
   cases h2:os.mapM (bk_ P N ops)with
   | none=>simp[h1,h2]at h
   | some l' =>
    simp[h1,h2]at h
    subst h
    cases i with
    | zero=>simp at hi;subst hi;exact⟨x0,rfl,h1⟩
    | succ i =>
     simp at hi
     simpa using fB_ h2 i o hi
theorem bO_{ops:Array Oper}{i k:Nat}(h:bP_ ops i k=true):∃o e,ops[i]?=some o∧e∈o.after∧Region.binds .any e=true∧e.on=k:=by
 unfold bP_ at h
 split at h
 ·rename_i o ho
  rw[Array.any_eq_true]at h
  obtain⟨j,hj,h1⟩:=h
  simp only[Bool.and_eq_true,beq_iff_eq]at h1
  exact⟨o,o.after[j],ho,Array.getElem_mem hj,h1.1,h1.2⟩
 ·simp at h
theorem cu_{listed:Array Bool}{i k:Nat}(hi:i<listed.size):(listed.setIfInBounds i true).getD k false=if k=i then true else listed.getD k false:=by
 rw[Array.getD_eq_getD_getElem?,Array.getElem?_setIfInBounds]
 by_cases e:i=k
 ·subst e;simp[hi]
 ·have:¬ k=i:=fun q=>e q.symm
  simp[e,this,Array.getD_eq_getD_getElem?]
section
variable {P : Program} {N : Nat} {ops : Array Oper} {l : List LI} {t : Nat → AV} {vs : Nat → AV} {h : List Row} {S0 : Sit} {w0 : World} {Q : Exit → Act → World → Prop}
theorem tC_{l0:List LI}(hgl:cn_ P S0)(hl:ops.toList.mapM (bk_ P N ops)=some l0)(hl0:l=l0.map LI.asImm)(hd:mQ_ ops l)
 (hrun:∀(k:Nat) (x:LI),l[k]?=some x→match cb_ (tAt l t vs k) x.guard with
   | some true=>qWp P (tAt l t vs k) h (fun v=>v=vs k) x.op
   | some false=>vs k=.val Go.undef
   | none=>False)
 (hQ:∀S a w,a0_ S0 w0 S w→ab_ S h w→Rel S N (tAt l t vs l.length) a→Q .normal a w) :
 ∀(fuel:Nat) (listed:Array Bool) (S:Sit) (a:Act) (w:World),listed.toList.countP (fun b=>!b)≤fuel→listed.size=ops.size →
  (∀k o e,listed.getD k false=true→ops[k]?=some o→e∈o.after→Region.binds .any e=true→listed.getD e.on false=true) →
  a0_ S0 w0 S w→ab_ S h w→Rel S N (cC_ l t vs listed) a→wpAny P .any ops Q fuel listed a w:=by
 have fin:∀(listed:Array Bool) (S:Sit) (a:Act) (w:World),listed.size=ops.size→Region.ready .any ops listed=[]→a0_ S0 w0 S w→ab_ S h w→Rel S N (cC_ l t vs listed) a→Q .normal a w:=by
  intro listed S a w hs hn st hm hr
  have hall:=nM_ hd hs hn
  have e:cC_ l t vs listed=tAt l t vs l.length:=by
   funext s
   by_cases q:∃k:Nat,(l[k]?).bind (fun y:LI=>y.dst)=some s
   ·obtain⟨k,hk⟩:=q
    have hk':k<l.length:=by
     cases hx:l[k]? with
     | none=>simp[hx]at hk
     | some x=>rcases List.getElem?_eq_some_iff.1 hx with ⟨q,_⟩;exact q
    rw[ci_ hd.one hk' (hall k (by rw[←hd.len];exact hk')) hk,fD_ hd.one hk hk']
   ·rw[bX_ (fun k _ e=>q ⟨k,e⟩),dT_ (fun k _ e=>q ⟨k,e⟩)]
  rw[e]at hr
  exact hQ S a w st hm hr
 intro fuel
 induction fuel with
 | zero =>
  intro listed S a w hc hs hcl st hm hr
  have hno:Region.ready .any ops listed=[]:=by
   rcases eq_nil_or_concat (Region.ready .any ops listed)with q|⟨ys,y,q⟩
   ·exact q
   ·exfalso
    have hy:y∈Region.ready .any ops listed:=by rw[q];simp
    obtain⟨h1,h2,_⟩:=dk_ hy
    have:listed.toList.countP (fun b=>!b)=0:=by omega
    rw[countP_eq_zero]at this
    have hmem:listed.getD y true∈listed.toList:=by
     rw[Array.getD_eq_getD_getElem?,Array.getElem?_eq_getElem (by omega)]
     simp
    have:=this _ hmem
    rw[h2]at this
    simp at this
  exact⟨hno,fin listed S a w hs hno st hm hr⟩
 | succ fuel ih =>
  intro listed S a w hc hs hcl st hm hr
  refine⟨fun hno=>fin listed S a w hs hno st hm hr,fun i hi=>?_⟩
  obtain⟨i1,i2,i3⟩:=dk_ hi
  have ho:ops[i]?=some ops[i]:=Array.getElem?_eq_getElem i1
  obtain⟨x0,hx0,hlow⟩:=fB_ hl i ops[i] (by simp)
  obtain⟨low1,low2,low3',low4,_⟩:=cW_ hlow
  obtain⟨x,hxe⟩:∃x,x=x0.asImm:=⟨_,rfl⟩
  have hx:l[i]?=some x:=by rw[hl0,getElem?_map,hx0,hxe];rfl
  have low3:ops[i].dst=x.dst:=by rw[hxe];exact low3'
  have hxg:x.guard=x0.guard:=by rw[hxe];rfl
  have hxo:x.op=x0.op.asImm:=by rw[hxe];rfl
  obtain⟨d,hxd⟩:=hd.dst i x hx
  have hil:i<l.length:=by rw[hd.len];exact i1
  have hi2:listed.getD i false=false:=by
   rw[Array.getD_eq_getD_getElem?,Array.getElem?_eq_getElem (by omega)]at i2⊢
   simpa using i2
  have hreads:∀s∈x.reads,cC_ l t vs listed s=tAt l t vs i s:=by
   intro s hsr
   by_cases q:∃k:Nat,(l[k]?).bind (fun y:LI=>y.dst)=some s
   ·obtain⟨k,hk⟩:=q
    have hk':k<l.length:=by
     cases hx:l[k]? with
     | none=>simp[hx]at hk
     | some x=>rcases List.getElem?_eq_some_iff.1 hx with ⟨q,_⟩;exact q
    by_cases hki:k<i
    ·obtain⟨o,e,ho',he,hb,hon⟩:=bO_ (hd.before i k x s hx hk hsr hki)
     have hkl:=i3 o e ho' he hb
     rw[hon]at hkl
     rw[ci_ hd.one hk' hkl hk,fD_ hd.one hk hki]
    ·obtain⟨hne,hedge⟩:=hd.behind i k x s hx hk hsr hki
     obtain⟨o,e,ho',he,hb,hon⟩:=bO_ hedge
     have hkn:listed.getD k false≠true:=by
      intro hkl
      have:=hcl k o e hkl ho' he hb
      rw[hon,hi2]at this
      simp at this
     rw[bX_,dT_]
     ·intro k' hk' e
      have:=hd.one k k' s hk e
      omega
     ·intro k' hk'' e
      have:=hd.one k k' s hk e
      subst this
      exact hkn hk''
   ·rw[bX_ (fun k _ e=>q ⟨k,e⟩),dT_ (fun k _ e=>q ⟨k,e⟩)]
  have hcurset:cC_ l t vs (listed.setIfInBounds i true)=put (cC_ l t vs listed) x.dst (vs i):=by
   funext s
   rw[hxd]
   simp only[put,upd]
   have hdi:(l[i]?).bind (·.dst)=some d:=by simp[hx,hxd]
   by_cases e:s=d
   ·subst e
    rw[if_pos rfl,ci_ hd.one hil (by rw[cu_ (by omega)];simp) hdi]
   ·rw[if_neg e]
    by_cases q:∃k,listed.getD k false=true∧(l[k]?).bind (·.dst)=some s
    ·obtain⟨k,hk1,hk⟩:=q
     have hk':k<l.length:=by
      cases hx:l[k]? with
      | none=>simp[hx]at hk
      | some x=>rcases List.getElem?_eq_some_iff.1 hx with ⟨q,_⟩;exact q
     rw[ci_ hd.one hk' (by rw[cu_ (by omega)];split<;>simp_all) hk,ci_ hd.one hk' hk1 hk]
    ·rw[bX_ (fun k hk e'=>q ⟨k,hk,e'⟩),bX_]
     intro k hk e'
     rw[cu_ (by omega)]at hk
     split at hk
     ·rename_i eki
      subst eki
      rw[hdi]at e'
      simp at e'
      exact e e'.symm
     ·exact q ⟨k,hk,e'⟩
  have hcl':∀k o e,(listed.setIfInBounds i true).getD k false=true→ops[k]?=some o→e∈o.after→Region.binds .any e=true→(listed.setIfInBounds i true).getD e.on false=true:=by
   intro k o e hk ho' he hb
   rw[cu_ (by omega)]at hk⊢
   split at hk
   ·rename_i eki
    subst eki
    have:=i3 o e ho' he hb
    split
    ·rfl
    ·exact this
   ·have:=hcl k o e hk ho' he hb
    split
    ·rfl
    ·exact this
  have hcnt:(listed.setIfInBounds i true).toList.countP (fun b=>!b)≤fuel:=by
   have hlt:i<listed.toList.length:=by simp;omega
   have hv:listed.toList[i]=false:=by
    rw[Array.getD_eq_getD_getElem?,Array.getElem?_eq_getElem (by omega)]at hi2
    simpa using hi2
   rw[Array.toList_setIfInBounds,countP_set hlt,hv]
   simp only[Bool.not_false,Bool.not_true,if_true,Bool.false_eq_true,if_false]
   omega
  have next:∀v S' w',a0_ S w S' w'→ab_ S' h w'→Rep S' (vs i) v→wpAny P .any ops Q fuel (listed.setIfInBounds i true) (a.put ops[i].dst v) w':=by
   intro v S' w' st' hm' rv
   refine ih _ S' _ w' hcnt (by simp[hs]) hcl' (st.trans st') hm' ?_
   rw[hcurset,low3]
   exact(hr.up st'.le).put rv
  have hrun':=hrun i x hx
  rw[←iw_ hreads]at hrun'
  simp only[wpOp,ho]
  cases hw:cb_ (cC_ l t vs listed) x.guard with
  | none=>rw[hw]at hrun';exact hrun'.elim
  | some q =>
   rw[hw]at hrun'
   rw[du_ hlow hr (hxg▸hw)]
   cases q with
   | true =>
    simp only[if_true]
    left
    have hq:=nU_ x.op (fun y hy=>(dm_ hreads y hy).symm) hrun'
    refine gP_ (Q:=Q) low1 low2 hm (hgl.up st.le) hr (hxo▸tE_ (hd.quiet i x hx) hq) ?_
    rintro v av S' h' w' st' hm' rv ⟨e1,e2⟩
    subst e1 e2
    exact next v S' w' st' hm' rv
   | false =>
    simp only[Bool.false_eq_true,if_false]
    refine next _ S w (a0_.refl _ _) hm ?_
    rw[hrun']
    simp[Rep]
theorem r6_{id:Nat}{S:Sit}{w:World}{a:Act}{K:(Nat→AV)→Prop}(hmx:P.follows .mixedOrders=true){l0:List LI}(hl:ops.toList.mapM (bk_ P N ops)=some l0)(hl0:l=l0.map LI.asImm)(hok:iI_ ops l=true)(hw:d3_ P h l t K)(hm:ab_ S h w)(hgl:cn_ P S)(hr:Rel S N t a)
 (hQ:∀S' t' a' w',a0_ S w S' w'→ab_ S' h w'→Rel S' N t' a'→K t'→Q .normal a' w'):(Code.region id ops true).wp P Q a w:=by
 have hd:=k4_ hok
 obtain⟨vs,_,h2,h3⟩:=jx_ l.length l 0 t (fun _=>.undef) (by omega) (by simpa[tAt]using hw)
 refine wp_region_any hmx ?_
 have hcur:cC_ l t vs (Array.replicate ops.size false)=t:=by
  funext s
  refine bX_ fun k hk=>?_
  exfalso
  rw[Array.getD_eq_getD_getElem?]at hk
  by_cases q:k<ops.size
  ·rw[Array.getElem?_eq_getElem (by simpa using q)]at hk;simp at hk
  ·rw[Array.getElem?_eq_none (by simpa using q)]at hk;simp at hk
 have hm':ab_ S h { w with drawn:=w.drawn+1 }:=hm.moved rfl
 have hst:a0_ S w S { w with drawn:=w.drawn+1 }:=⟨.refl S,rfl,rfl,rfl,Nat.le_refl _,fun _ _ _=>rfl,fun _ q=>.inl q,fun _ _ q=>.inl q⟩
 refine tC_ (S0:=S) (w0:=w) hgl hl hl0 hd (fun k x hx=>h3 k x (Nat.zero_le _) hx) (fun S' a' w' st hm' hr'=>hQ S' _ a' w' st hm' hr' h2) ops.size _ S a _ ?_ (by simp) ?_ hst hm' (by rw[hcur];exact hr)
 ·have:=countP_le_length (p:=fun b:Bool=>!b) (l:=(Array.replicate ops.size false).toList)
  simpa using this
 ·intro k o e hk
  exfalso
  rw[Array.getD_eq_getD_getElem?]at hk
  by_cases q:k<ops.size
  ·rw[Array.getElem?_eq_getElem (by simpa using q)]at hk;simp at hk
  ·rw[Array.getElem?_eq_none (by simpa using q)]at hk;simp at hk
end
theorem hW_{T:Nat→AV}{h:List Row}:∀{l:List LI} {x:LI},holds T h l→x∈l→∃d,x.dst=some d∧ai_ T h x.op=some (T d)
 | [],x,_,hx=>by simp at hx
 | i::r,x,hh,hx=>by
  unfold holds at hh
  rcases mem_cons.1 hx with e|e
  ·subst e
   have:=hh.1
   cases hd:x.dst with
   | none=>rw[hd]at this;exact this.elim
   | some d=>rw[hd]at this;exact⟨d,rfl,this⟩
  ·exact hW_ hh.2 e
theorem s2_{P:Program}{t:Nat→AV}{h:List Row}{K:AV→List Row→Prop}{op:LOp}(hc:op.calm=true){v:AV}(he:ai_ t h op=some v)(hk:K v h):aX_ P t h K op:=by
 cases op with
 | ext x =>
  simp only[ai_]at he
  simp only[LOp.calm]at hc
  simp only[aX_]
  cases x<;>simp only[XOp.looks,Bool.false_eq_true]at hc<;>simp only[xWp,he]<;>exact hk
 | _=>simp only[LOp.calm,Bool.false_eq_true]at hc<;>simp only[aX_,he]<;>exact hk
theorem r2_{P:Program}{t t':Nat→AV}{h:List Row}{K:AV→List Row→Prop}(op:LOp)(e:∀x∈op.operands,ah_ t x=ah_ t' x)(q:aX_ P t h K op):aX_ P t' h K op:=by
 have hev:=eI_ (h:=h) op e
 have parts_eq:∀(parts:List (Nat×Operand)),(∀p∈parts,ah_ t p.2=ah_ t' p.2)→cv_ t' parts=cv_ t parts:=by
  intro parts h0
  unfold cv_
  induction parts with
  | nil=>rfl
  | cons p ps ih=>rw[mapM_cons,mapM_cons,h0 p (by simp),ih (fun p hp=>h0 p (by simp[hp]))]
 cases op with
 | call f args =>
  simp only[aX_]at q⊢
  rw[←map_congr_left (l:=args) (fun x hx=>e x (by simpa[LOp.operands]using hx))];exact q
 | callv f args =>
  simp only[aX_]at q⊢
  rw[←e f (by simp[LOp.operands]),←map_congr_left (l:=args) (fun x hx=>e x (by simp[LOp.operands,hx]))];exact q
 | alloc E z=>simpa only[aX_]using q
 | mkMap=>simpa only[aX_]using q
 | box E x=>simp only[aX_]at q⊢;rw[←e x (by simp[LOp.operands])];exact q
 | toBytes E x=>simp only[aX_]at q⊢;rw[←e x (by simp[LOp.operands])];exact q
 | clip0 E sz x=>simp only[aX_]at q⊢;rw[←e x (by simp[LOp.operands])];exact q
 | isNil neg x=>simp only[aX_]at q⊢;rw[←e x (by simp[LOp.operands])];exact q
 | slice3 x lo hi mx=>exact False.elim q
 | capSl x=>simp only[aX_]at q⊢;rw[←e x (by simp[LOp.operands])];exact q
 | copySl sz x y=>simp only[aX_]at q⊢;rw[←e x (by simp[LOp.operands]),←e y (by simp[LOp.operands])];exact q
 | ovl x y=>simp only[aX_]at q⊢;rw[←e x (by simp[LOp.operands]),←e y (by simp[LOp.operands])];exact q
 | appendZ E sz b z x k=>simp only[aX_]at q⊢;rw[←e x (by simp[LOp.operands]),←e k (by simp[LOp.operands])];exact q
 | appendS E x y=>simp only[aX_]at q⊢;rw[←e x (by simp[LOp.operands]),←e y (by simp[LOp.operands])];exact q
 | clear E sz z x=>simp only[aX_]at q⊢;rw[←e x (by simp[LOp.operands])];exact q
 | store n a x=>simp only[aX_]at q⊢;rw[←e a (by simp[LOp.operands]),←e x (by simp[LOp.operands])];exact q
 | mkSlice E sz b z l c=>simp only[aX_]at q⊢;rw[←e l (by simp[LOp.operands]),←e c (by simp[LOp.operands])];exact q
 | append E sz b x y=>simp only[aX_]at q⊢;rw[←e x (by simp[LOp.operands]),←e y (by simp[LOp.operands])];exact q
 | ext x =>
  simp only[ai_]at hev
  simp only[aX_]at q⊢
  simp only[LOp.operands]at e
  cases x with
  | lookP ok m k=>simp only[xWp]at q⊢;rw[←hev];exact q
  | lookS z ok m k=>simp only[xWp]at q⊢;rw[←hev];exact q
  | lenM x=>simp only[xWp]at q⊢;rw[←hev];exact q
  | ent x=>simp only[xWp]at q⊢;rw[←hev];exact q
  | mkP=>exact q
  | mkS=>exact q
  | updP m k v=>simp only[xWp]at q⊢;rw[←e m (by simp[XOp.operands]),←e k (by simp[XOp.operands]),←e v (by simp[XOp.operands])];exact q
  | updS m k v=>simp only[xWp]at q⊢;rw[←e m (by simp[XOp.operands]),←e k (by simp[XOp.operands]),←e v (by simp[XOp.operands])];exact q
  | delP m k=>simp only[xWp]at q⊢;rw[←e m (by simp[XOp.operands]),←e k (by simp[XOp.operands])];exact q
  | rng x=>simp only[xWp]at q⊢;rw[←e x (by simp[XOp.operands])];exact q
  | nxt x=>simp only[xWp]at q⊢;rw[←e x (by simp[XOp.operands])];exact q
 | mapUpd m k v=>simp only[aX_]at q⊢;rw[←e m (by simp[LOp.operands]),←e k (by simp[LOp.operands]),←e v (by simp[LOp.operands])];exact q
 | buildSlice E sz z len parts =>
  simp only[aX_]at q⊢
  rw[parts_eq parts (fun p hp=>e p.2 (by simp only[LOp.operands];exact mem_map.2 ⟨p,hp,rfl⟩))];exact q
 | buildImm E sz z len parts =>
  simp only[aX_]at q⊢
  rw[parts_eq parts (fun p hp=>e p.2 (by simp only[LOp.operands];exact mem_map.2 ⟨p,hp,rfl⟩))];exact q
 | _ =>
  simp only[aX_]at q⊢
  rw[←hev];exact q
structure iL_(ops:Array Oper)(l:List LI):Prop where
 len:l.length=ops.size
 grd:∀i,i<l.length→(gat l i).guard=Option.none
 back:∀(i:Nat) (o:Oper) (e:Edge),ops[i]?=some o→e∈o.after→Region.binds .any e=true→e.on<i
 pdst:∀i,i<l.length→bZ_ ops l i=false→∃d,(gat l i).dst=some d
 one:∀(i k d:Nat),i<l.length→k<l.length→(gat l i).dst=some d→(gat l k).dst=some d→i=k
 rd:∀(i k d:Nat),i<l.length→k<l.length→(gat l k).dst=some d→d∈(gat l i).reads→(k<i∧bP_ ops i k=true)∨(i<k∧bZ_ ops l k=true∧bP_ ops k i=true)
 chn:∀(q q' c c':Nat),(chI ops l)[q]?=some c→(chI ops l)[q']?=some c'→q'<q→dw_ l c=false→fg_ ops l c'=false→cA_ ops l.length c c'=true
 edg:∀(q q' c c':Nat),(chI ops l)[q]?=some c→(chI ops l)[q']?=some c'→q'<q→bP_ ops c' c=false
theorem nj_{R:Nat→Nat→Bool}:∀{l:List Nat},sE_ R l=true→∀(q q' c c':Nat),l[q]?=some c→l[q']?=some c'→q'<q→R c' c=true
 | [],_,q,q',c,c',h,_,_=>by simp at h
 | a::l,h,q,q',c,c',h1,h2,hlt=>by
  rw[sE_,Bool.and_eq_true,all_eq_true]at h
  cases q with
  | zero=>omega
  | succ q =>
   rw[getElem?_cons_succ]at h1
   cases q' with
   | zero =>
    rw[getElem?_cons_zero,Option.some.injEq]at h2
    subst h2
    exact h.1 c (mem_of_getElem? h1)
   | succ q' =>
    rw[getElem?_cons_succ]at h2
    exact nj_ h.2 q q' c c' h1 h2 (by omega)
theorem j3_:∀{l:List Nat},mx_ l=true→l.Nodup
 | [],_=>nodup_nil
 | a::l,h=>by
  rw[mx_,Bool.and_eq_true]at h
  exact nodup_cons.2 ⟨by simpa using h.1,j3_ h.2⟩
theorem nt_{ops:Array Oper}{l:List LI}{c:Nat}:c∈chI ops l↔c<l.length∧bZ_ ops l c=true:=by
 have hb:c∈chB ops l↔c<l.length∧bZ_ ops l c=true:=by
  unfold chB
  rw[mem_filter,mem_range]
 unfold chI
 split
 ·rename_i h
  simp only[go_,Bool.and_eq_true,all_eq_true]at h
  rw[←hb]
  exact⟨fun q=>by simpa using h.1.2 c q,fun q=>by simpa using h.2 c q⟩
 ·exact hb
theorem td_{ops:Array Oper}{l:List LI}:(chI ops l).Nodup:=by
 unfold chI
 split
 ·rename_i h
  simp only[go_,Bool.and_eq_true]at h
  exact j3_ h.1.1
 ·exact List.Pairwise.filter _ nodup_range
theorem qK_{ops:Array Oper}{l:List LI}(h:gO_ ops l=true):iL_ ops l:=by
 simp only[gO_,Bool.and_eq_true,beq_iff_eq,all_eq_true,mem_range]at h
 obtain⟨⟨h0,h1⟩,h2⟩:=h
 refine⟨h0,fun i hi=>?_,fun i o e ho he hb=>?_,fun i hi hc=>?_,fun i k d hi hk h3 h4=>?_,fun i k d hi hk h3 h4=>?_,fun q q' c c' h3 h4 hlt hfl hsl=>?_,fun q q' c c' h3 h4 hlt=>?_⟩
 ·have:=(h1 i hi).1.1.1
  simpa using this
 ·have hi:i<l.length:=by rw[h0];exact(Array.getElem?_eq_some_iff.1 ho).1
  have:=(h1 i hi).1.1.2
  rw[ho]at this
  simp only at this
  rw[Array.all_eq_true]at this
  obtain⟨j,hj,e2⟩:=Array.mem_iff_getElem.1 he
  have:=this j hj
  rw[e2,hb]at this
  simpa using this
 ·have:=(h1 i hi).1.2
  rw[hc,Bool.false_or]at this
  exact Option.isSome_iff_exists.1 this
 ·have:=(h1 i hi).2 k hk
  rw[h4]at this
  simp only[Bool.and_eq_true,Bool.or_eq_true,beq_iff_eq,Bool.not_eq_true']at this
  rcases this.1 with q|q
  ·exact q.symm
  ·rw[h3]at q;simp at q
 ·have:=(h1 i hi).2 k hk
  rw[h3]at this
  simp only[Bool.and_eq_true,Bool.or_eq_true,beq_iff_eq,Bool.not_eq_true',decide_eq_true_eq]at this
  rcases this.2 with (q|q)|q
  ·have:(gat l i).reads.contains d=true:=by simpa using h4
   rw[this]at q;cases q
  ·exact .inl q
  ·exact .inr ⟨q.1.1,q.1.2,q.2⟩
 ·have:=nj_ h2 q q' c c' h3 h4 hlt
  rw[Bool.and_eq_true]at this
  simpa[hfl,hsl]using this.1
 ·have:=nj_ h2 q q' c c' h3 h4 hlt
  rw[Bool.and_eq_true]at this
  simpa using this.2
section
variable {P : Program} {N : Nat} {ops : Array Oper} {l : List LI} {t0 : Nat → AV} {S0 : Sit} {w0 : World} {Q : Exit → Act → World → Prop} {K : (Nat → AV) → List Row → Prop}
def en_(l:List LI)(t0 T:Nat→AV)(A W:Nat→Bool)(s:Nat):AV :=
 if(List.range l.length).any (fun k=>W k&&(gat l k).dst==some s)then .undef
 else if(List.range l.length).any (fun k=>A k&&(gat l k).dst==some s)then T s else t0 s
theorem gw_{A:Nat→Bool}{s:Nat}:(List.range l.length).any (fun k=>A k&&(gat l k).dst==some s)=true↔∃k,k<l.length∧A k=true∧(gat l k).dst=some s:=by
 rw[any_eq_true]
 constructor
 ·rintro⟨k,h1,h2⟩
  simp only[Bool.and_eq_true,beq_iff_eq]at h2
  exact⟨k,mem_range.1 h1,h2.1,h2.2⟩
 ·rintro⟨k,h1,h2,h3⟩
  exact⟨k,mem_range.2 h1,by rw[h2,h3];simp⟩
theorem gG_{A W:Nat→Bool}{T:Nat→AV}{k s:Nat}(h1:k<l.length)(h2:W k=true)(h3:(gat l k).dst=some s):en_ l t0 T A W s=.undef :=
 if_pos (gw_.2 ⟨k,h1,h2,h3⟩)
theorem fF_{A W:Nat→Bool}{T:Nat→AV}{k s:Nat}(h1:k<l.length)(h2:A k=true)(h3:(gat l k).dst=some s)(h4:∀k,k<l.length→W k=true→(gat l k).dst≠some s):en_ l t0 T A W s=T s:=by
 unfold en_
 rw[if_neg (fun q=>by obtain⟨k,q1,q2,q3⟩:=gw_.1 q;exact h4 k q1 q2 q3),if_pos (gw_.2 ⟨k,h1,h2,h3⟩)]
theorem fM_{A W:Nat→Bool}{T:Nat→AV}{s:Nat}(h:∀k,k<l.length→A k=true→(gat l k).dst≠some s)(h4:∀k,k<l.length→W k=true→(gat l k).dst≠some s):en_ l t0 T A W s=t0 s:=by
 unfold en_
 rw[if_neg (fun q=>by obtain⟨k,q1,q2,q3⟩:=gw_.1 q;exact h4 k q1 q2 q3),if_neg (fun q=>by obtain⟨k,q1,q2,q3⟩:=gw_.1 q;exact h k q1 q2 q3)]
def gH_(ops:Array Oper)(L:Array Bool)(i:Nat):Prop:=∀o e,ops[i]?=some o→e∈o.after→Region.binds .any e=true→L.getD e.on false=true
theorem f6_{L:Array Bool}(hcl:∀k,L.getD k false=true→gH_ ops L k):∀(f i k:Nat),gH_ ops L i→cA_ ops f i k=true→L.getD k false=true
 | 0,i,k,_,h=>by simp[cA_]at h
 | f+1,i,k,hi,h=>by
  rw[cA_,Bool.or_eq_true]at h
  have edge:∀m,bP_ ops i m=true→L.getD m false=true:=by
   intro m hm
   obtain⟨o,e,h1,h2,h3,h4⟩:=bO_ hm
   have:=hi o e h1 h2 h3
   rwa [h4]at this
  rcases h with h|h
  ·exact edge k h
  ·obtain⟨m,_,h2⟩:=any_eq_true.1 h
   rw[Bool.and_eq_true]at h2
   exact f6_ hcl f m k (hcl m (edge m h2.1)) h2.2
def bc_(ops:Array Oper)(l:List LI)(L:Array Bool)(j k:Nat):Bool:=L.getD k false&&dw_ l k&&!((chI ops l).take j).contains k
def aW_(ops:Array Oper)(l:List LI)(L:Array Bool)(j k:Nat):Bool:=L.getD k false&&!(dw_ l k&&!((chI ops l).take j).contains k)
structure Gm(P:Program)(ops:Array Oper)(l:List LI)(t0:Nat→AV)(K:(Nat→AV)→List Row→Prop)(L:Array Bool)(j:Nat)(T:Nat→AV)(h:List Row):Prop where
 ch:∀q c,(chI ops l)[q]?=some c→(q<j→fg_ ops l c=false→L.getD c false=true)∧(dw_ l c=false→L.getD c false=true→q<j)
 pre:∀p,p∈o0_ ops l→L.getD p false=false→∃d,(gat l p).dst=some d∧ai_ T h (gat l p).op=some (T d)
 sl:∀q p,(chI ops l)[q]?=some p→q<j→fg_ ops l p=true→L.getD p false=false→∃d,(gat l p).dst=some d∧ai_ T h (gat l p).op=some (T d)
 old:∀q c d,(chI ops l)[q]?=some c→(gat l c).dst=some d→j≤q→T d=t0 d
 oth:∀s,(∀c,c<l.length→(gat l c).dst≠some s)→T s=t0 s
 run:gV_ P ((chI ops l).drop j |>.map fun c=>(gat l c,(l6_ ops l c).map (gat l))) T h K
def FlV(op:LOp)(E:TypeId)(c:Array Value)(v:Value)(b:Nat):Prop :=
 (∃z,op=.alloc E z∧c=z.cells∧v=.pointer (some ⟨b,0,none⟩))∨∃sz z,op=.buildSlice E sz z 0 []∧c=#[]∧v=.slice (some ⟨b,0,none⟩) 0 0
structure Pn(ops:Array Oper)(l:List LI)(w0:World)(L:Array Bool)(j:Nat)(S:Sit)(a:Act)(w:World)(B:Nat→Nat):Prop where
 blk:∀f,f<l.length→bc_ ops l L j f=true→∃E c v d,FlV (gat l f).op E c v (B f)∧(gat l f).dst=some d∧a.tmps.getD d Go.undef=v ∧
  w.heap[B f]?=some (.cells c E (0,0))∧¬ S.owns (B f)∧S.imm (B f)=none∧w0.heap.size≤B f
 ne:∀f f',f<l.length→f'<l.length→bc_ ops l L j f=true→bc_ ops l L j f'=true→f≠f'→B f≠B f'
structure Inv(P:Program)(N:Nat)(ops:Array Oper)(l:List LI)(t0:Nat→AV)(S0:Sit)(w0:World)(K:(Nat→AV)→List Row→Prop)(L:Array Bool)(j:Nat)(T:Nat→AV)(h:List Row)(S:Sit)(a:Act)(w:World)(B:Nat→Nat):Prop where
 st:a0_ S0 w0 S w
 hm:ab_ S h w
 hr:Rel S N (en_ l t0 T (aW_ ops l L j) (bc_ ops l L j)) a
 G:Gm P ops l t0 K L j T h
 pn:Pn ops l w0 L j S a w B
theorem rY_(g:iL_ ops l){L:Array Bool}(hs:L.size=ops.size)(h:Region.ready .any ops L=[]):∀i,i<ops.size→L.getD i false=true:=by
 intro i
 induction i using Nat.strongRecOn with
 | _ i ih =>
  intro hi
  cases hq:L.getD i false with
  | true=>rfl
  | false =>
   have:i∈Region.ready .any ops L:=by
    simp only[Region.ready,mem_filter,mem_range,Bool.and_eq_true,Bool.not_eq_true']
    refine⟨hi,?_,?_⟩
    ·rw[Array.getD_eq_getD_getElem?,Array.getElem?_eq_getElem (by omega)]at hq⊢
     simpa using hq
    ·have ho:=Array.getElem?_eq_getElem hi
     rw[ho]
     simp only[Option.map_some,Option.getD_some]
     rw[Array.all_eq_true]
     intro j hj
     cases hb:Region.binds .any ops[i].after[j]with
     | false=>simp
     | true =>
      have hlt:=g.back i _ ops[i].after[j] ho (Array.getElem_mem hj) hb
      simp[ih _ hlt (by omega)]
   rw[h]at this
   simp at this
theorem wL_{k:Nat}(h:k<l.length):l[k]?=some (gat l k):=by rw[gat,getD_eq_getElem?_getD,getElem?_eq_getElem h];rfl
theorem qc_{c:Nat}(h:c<l.length)(hc:bZ_ ops l c=true):∃q:Nat,(chI ops l)[q]?=some c:=by
 obtain⟨q,hq,e⟩:=mem_iff_getElem.1 (nt_.2 ⟨h,hc⟩)
 exact⟨q,by rw[getElem?_eq_getElem hq,e]⟩
theorem ev_{q c:Nat}(h:(chI ops l)[q]?=some c):c<l.length∧bZ_ ops l c=true:=nt_.1 (mem_of_getElem? h)
theorem cR_{T:Nat→AV}{dst:Option Nat}{v:AV}{s:Nat}(h:dst≠some s):put T dst v s=T s:=by
 cases dst with
 | none=>rfl
 | some d =>
  simp only[put,upd]
  rw[if_neg (fun e=>h (by rw[e]))]
theorem iE_{T:Nat→AV}{v:AV}{s:Nat}:put T (some s) v s=v:=by simp[put,upd]
theorem ve_{T:Nat→AV}{d:Nat}:put T (some d) (T d)=T:=by
 funext s
 by_cases e:s=d
 ·subst e;exact iE_
 ·exact cR_ (fun q=>e (Option.some.inj q).symm)
theorem lg_{A A' W W':Nat→Bool}{i:Nat}(hone:∀(i k d:Nat),i<l.length→k<l.length→(gat l i).dst=some d→(gat l k).dst=some d→i=k)(hi:i<l.length)(hA:∀k,A' k=if k=i then true else A k)(hW:∀k,W' k=if k=i then false else W k)(T:Nat→AV)(v:AV) :
 en_ l t0 (put T (gat l i).dst v) A' W'=put (en_ l t0 T A W) (gat l i).dst v:=by
 funext s
 by_cases e:(gat l i).dst=some s
 ·have hw:∀k,k<l.length→W' k=true→(gat l k).dst≠some s:=fun k hk hkW hd=>by
   have:=hone i k s hi hk e hd;subst this
   rw[hW,if_pos rfl]at hkW;cases hkW
  rw[fF_ (k:=i) hi (by rw[hA,if_pos rfl]) e hw,e,iE_,iE_]
 ·rw[cR_ e]
  by_cases qw:∃k,k<l.length∧W k=true∧(gat l k).dst=some s
  ·obtain⟨k,h1,h2,h3⟩:=qw
   have hki:k≠i:=fun z=>e (by rw[←z];exact h3)
   rw[gG_ h1 h2 h3,gG_ h1 (by rw[hW,if_neg hki];exact h2) h3]
  ·have hw:∀k,k<l.length→W k=true→(gat l k).dst≠some s:=fun k h1 h2 h3=>qw ⟨k,h1,h2,h3⟩
   have hw':∀k,k<l.length→W' k=true→(gat l k).dst≠some s:=fun k h1 h2 h3=>by
    rw[hW]at h2
    split at h2
    ·cases h2
    ·exact qw ⟨k,h1,h2,h3⟩
   by_cases q:∃k,k<l.length∧A k=true∧(gat l k).dst=some s
   ·obtain⟨k,h1,h2,h3⟩:=q
    rw[fF_ h1 h2 h3 hw,fF_ h1 (by rw[hA];split<;>simp_all) h3 hw',cR_ e]
   ·rw[fM_ (A:=A) (fun k h1 h2 h3=>q ⟨k,h1,h2,h3⟩) hw,fM_ _ hw']
    intro k h1 h2 h3
    rw[hA]at h2
    split at h2
    ·rename_i z;subst z;exact e h3
    ·exact q ⟨k,h1,h2,h3⟩
theorem rI_{A W W':Nat→Bool}{i:Nat}(hi:i<l.length)(hA:∀k,k<l.length→A k=true→k≠i)(hone:∀(i k d:Nat),i<l.length→k<l.length→(gat l i).dst=some d→(gat l k).dst=some d→i=k)(hW:∀k,W' k=if k=i then true else W k)(T:Nat→AV) :
 en_ l t0 T A W'=put (en_ l t0 T A W) (gat l i).dst .undef:=by
 funext s
 by_cases e:(gat l i).dst=some s
 ·rw[gG_ hi (by rw[hW,if_pos rfl]) e,e,iE_]
 ·rw[cR_ e]
  by_cases qw:∃k,k<l.length∧W k=true∧(gat l k).dst=some s
  ·obtain⟨k,h1,h2,h3⟩:=qw
   rw[gG_ h1 h2 h3,gG_ h1 (by rw[hW];split<;>simp_all) h3]
  ·have hw:∀k,k<l.length→W k=true→(gat l k).dst≠some s:=fun k h1 h2 h3=>qw ⟨k,h1,h2,h3⟩
   have hw':∀k,k<l.length→W' k=true→(gat l k).dst≠some s:=fun k h1 h2 h3=>by
    rw[hW]at h2
    split at h2
    ·rename_i z;subst z;exact e h3
    ·exact qw ⟨k,h1,h2,h3⟩
   by_cases q:∃k,k<l.length∧A k=true∧(gat l k).dst=some s
   ·obtain⟨k,h1,h2,h3⟩:=q
    rw[fF_ h1 h2 h3 hw,fF_ h1 h2 h3 hw']
   ·rw[fM_ (A:=A) (fun k h1 h2 h3=>q ⟨k,h1,h2,h3⟩) hw,fM_ (fun k h1 h2 h3=>q ⟨k,h1,h2,h3⟩) hw']
theorem eA_{q q' c:Nat}(h:(chI ops l)[q]?=some c)(h':(chI ops l)[q']?=some c):q=q':=by
 obtain⟨h1,e1⟩:=List.getElem?_eq_some_iff.1 h
 obtain⟨h2,e2⟩:=List.getElem?_eq_some_iff.1 h'
 have hp:=pairwise_iff_getElem.1 (td_ (ops:=ops) (l:=l))
 by_cases z:q<q'
 ·exact absurd (e1.trans e2.symm) (hp q q' h1 h2 z)
 ·by_cases z':q'<q
  ·exact absurd (e2.trans e1.symm) (hp q' q h2 h1 z')
  ·omega
theorem ab_.adopt{S:Sit}{h:List Row}{w:World}(m:ab_ S h w){b:Nat}{E:TypeId}{c:Array Value}{n sz:Nat}{es:List (List AV)}(hb:w.heap[b]?=some (.cells c E (0,0)))(ho:¬ S.owns b)(hi:S.imm b=none)(hn:n=es.length)(hwd:∀e∈es,e.length=sz)(hre:∀S':Sit,aj_ S' es c.toList)(hcs:c.size=n * sz)(hmx:n≤maxLen) :
 ab_ { imm:=S.imm,rows:=S.rows++[⟨n,some b,n,sz⟩] } (h++[⟨.ty E,sz,es⟩]) w:=by
 have hle:=S.le_push ⟨n,some b,n,sz⟩
 have hrow:∀(l:Nat) (i:bV_),(S.rows++[⟨n,some b,n,sz⟩])[l]?=some i→S.rows[l]?=some i∨(l=S.rows.length∧i=⟨n,some b,n,sz⟩):=by
  intro l i q
  by_cases hl:l<S.rows.length
  ·rw[getElem?_append_left hl]at q;exact .inl q
  ·rw[getElem?_append_right (by omega)]at q
   have:l-S.rows.length=0:=by
    by_cases z:l-S.rows.length=0
    ·exact z
    ·obtain⟨k,hk⟩:=Nat.exists_eq_succ_of_ne_zero z
     rw[hk]at q;simp at q
   rw[this]at q
   simp at q
   exact .inr ⟨by omega,q.symm⟩
 refine⟨m.imm,by simp[m.len],fun l i r h1 h2=>?_,fun l l' i i' b' h1 h2 h3 h4=>?_⟩
 ·rcases hrow l i h1 with q|⟨q1,q2⟩
  ·have hl:l<h.length:=by
    rw[←m.len];rcases List.getElem?_eq_some_iff.1 q with ⟨q,_⟩;exact q
   rw[getElem?_append_left hl]at h2
   obtain⟨k1,k2,k3,k4⟩:=m.rows l i r q h2
   refine⟨k1,k2,k3,?_⟩
   cases hb':i.blk with
   | none=>rw[hb']at k4;exact k4
   | some b=>rw[hb']at k4;exact⟨k4.1,k4.2.le hle rfl⟩
  ·subst q1 q2
   rw[m.len,getElem?_append_right (Nat.le_refl _)]at h2
   simp at h2
   subst h2
   refine⟨hn,rfl,hwd,hi,?_⟩
   rw[ax_.ty rfl]
   exact⟨c,hb,hre _,hcs,Nat.le_refl _,hmx⟩
 ·rcases hrow l i h1 with q|⟨q1,q2⟩<;>rcases hrow l' i' h2 with q'|⟨q1',q2'⟩
  ·exact m.one l l' i i' b' q q' h3 h4
  ·subst q2';simp at h4;subst h4;exact absurd ⟨l,i,q,h3⟩ ho
  ·subst q2;simp at h3;subst h3;exact absurd ⟨l',i',q',h4⟩ ho
  ·omega
theorem sF_{P:Program}{S:Sit}{h:List Row}{w:World}{op:LOp}{E:TypeId}{c:Array Value}{v:Value}{b:Nat}(hf:FlV op E c v b)(m:ab_ S h w)(hb:w.heap[b]?=some (.cells c E (0,0)))(ho:¬ S.owns b)(hi:S.imm b=none) :
 ∃(av:AV) (row:Row) (info:bV_),info.blk=some b∧(∀(T:Nat→AV) (K:AV→List Row→Prop),aX_ P T h K op→K av (h++[row]))∧ab_ { imm:=S.imm,rows:=S.rows++[info] } (h++[row]) w∧Rep { imm:=S.imm,rows:=S.rows++[info] } av v:=by
 rcases hf with ⟨z,rfl,rfl,rfl⟩|⟨sz,z,rfl,rfl,rfl⟩
 ·exact⟨.ptr h.length 1 0 0,_,⟨1,some b,1,z.cells.size⟩,rfl,fun T K hk=>hk,ab_.adopt m hb ho hi rfl (by simp) (fun _=>by simp only[aj_];exact⟨el_ (fL_ _ _),trivial⟩) (by simp) (by simp[maxLen]),by rw[←m.len];exact io_ S 1 _ _ _ _⟩
 ·exact⟨.own h.length 0,⟨.ty E,sz,[]⟩,⟨0,some b,0,sz⟩,rfl,fun T K hk=>hk.2.2,ab_.adopt m hb ho hi rfl (by simp) (fun _=>by simp[aj_]) (by simp) (by simp),by rw[←m.len];exact dj_ S 0 _ _ _ _⟩
theorem Rel.reput{S:Sit}{t:Nat→AV}{a:Act}(r:Rel S N t a){d:Nat}{v:AV}(hx:Rep S v (a.tmps.getD d Go.undef)):Rel S N (AW.put t (some d) v) a:=by
 refine⟨r.1,r.2.1,fun k hk=>?_⟩
 by_cases e:k=d
 ·subst e;rw[iE_];exact hx
 ·rw[cR_ (fun q=>e (Option.some.inj q).symm)];exact r.2.2 k hk
theorem gq_{j f:Nat}(hf:(chI ops l)[j]?=some f)(k:Nat):((chI ops l).take (j+1)).contains k=if k=f then true else((chI ops l).take j).contains k:=by
 obtain⟨hj,e⟩:=List.getElem?_eq_some_iff.1 hf
 rw[take_succ_eq_append_getElem hj,e]
 by_cases q:k=f
 ·subst q;simp
 ·simp[q]
theorem ub_{j f:Nat}(hf:(chI ops l)[j]?=some f):((chI ops l).take j).contains f=false:=by
 cases q:((chI ops l).take j).contains f with
 | false=>rfl
 | true =>
  have hm:f∈(chI ops l).take j:=by simpa using q
  obtain⟨i,hi,e⟩:=mem_iff_getElem.1 hm
  have h1:(chI ops l)[i]?=some f:=by
   rw[getElem_take]at e
   rw[length_take]at hi
   rw[getElem?_eq_getElem (by omega),e]
  have:=eA_ h1 hf
  rw[length_take]at hi
  omega
theorem h8_{f:Nat}(h:dw_ l f=true):((∃E z,(gat l f).op=.alloc E z)∨∃E sz z,(gat l f).op=.buildSlice E sz z 0 [])∧∃d,(gat l f).dst=some d:=by
 unfold dw_ at h
 split at h
 ·rename_i E z d e1 e2;exact⟨.inl ⟨E,z,e1⟩,d,e2⟩
 ·rename_i E sz z d e1 e2;exact⟨.inr ⟨E,sz,z,e1⟩,d,e2⟩
 ·cases h
theorem iW_{f:Nat}(h:dw_ l f=true)(h2:f<l.length):bZ_ ops l f=true:=by
 unfold bZ_
 rcases(h8_ h).1 with ⟨E,z,e⟩|⟨E,sz,z,e⟩<;>(rw[e];rfl)
theorem kg_{op:LOp}(hs:op.slot=true)(t:Nat→AV)(h h':List Row):ai_ t h op=ai_ t h' op:=by
 cases op<;>first|(simp[LOp.slot]at hs;done)|rfl
theorem xA_{P:Program}{T:Nat→AV}{h:List Row}{K:AV→List Row→Prop}{op:LOp}(hs:op.slot=true):aX_ P T h K op=match ai_ T h op with|some v=>K v h|none=>False:=by
 cases op<;>first|(simp[LOp.slot]at hs;done)|rfl
theorem tO_{op:LOp}(hs:op.slot=true):op.calm=true:=by
 cases op<;>first|(simp[LOp.slot]at hs;done)|rfl
theorem eK_{f:Nat}(h:fg_ ops l f=true):(gat l f).op.slot=true∧∃d,(gat l f).dst=some d∧∀i,i<l.length→d∈(gat l i).reads→f<i∧bZ_ ops l i=true:=by
 unfold fg_ at h
 rw[Bool.and_eq_true]at h
 refine⟨h.1,?_⟩
 have h2:=h.2
 split at h2
 ·rename_i d hd
  refine⟨d,hd,fun i hi hr=>?_⟩
  rw[all_eq_true]at h2
  have:=h2 i (mem_range.2 hi)
  have hc:(gat l i).reads.contains d=true:=by simpa using hr
  rw[hc]at this
  simpa using this
 ·cases h2
theorem ia_{f:Nat}(h:fg_ ops l f=true):dw_ l f=false:=by
 cases z:dw_ l f with
 | false=>rfl
 | true =>
  have:=(eK_ h).1
  rcases(h8_ z).1 with ⟨E,q,e⟩|⟨E,sz,q,e⟩<;>(rw[e]at this;cases this)
theorem pf_{j q c:Nat}(h:(chI ops l)[q]?=some c):((chI ops l).take j).contains c=decide (q<j):=by
 obtain⟨h1,e1⟩:=List.getElem?_eq_some_iff.1 h
 by_cases z:q<j
 ·rw[decide_eq_true z]
  have:c∈(chI ops l).take j:=mem_iff_getElem.2 ⟨q,by rw[length_take];omega,by rw[getElem_take,e1]⟩
  simpa using this
 ·rw[decide_eq_false z]
  cases z1:((chI ops l).take j).contains c with
  | false=>rfl
  | true =>
   have hm1:c∈(chI ops l).take j:=by simpa using z1
   obtain⟨q',hq',e'⟩:=mem_iff_getElem.1 hm1
   rw[getElem_take]at e'
   rw[length_take]at hq'
   have h1:(chI ops l)[q']?=some c:=by rw[getElem?_eq_getElem (by omega),e']
   have:=eA_ h1 h
   omega
theorem hR_{T:Nat→AV}{h:List Row}{x:LI}{d:Nat}{v:AV}(hd:d∉x.reads):ai_ (put T (some d) v) h x.op=ai_ T h x.op :=
 (eI_ _ (dm_ (fun s hs=>(cR_ (fun e=>hd (by rw[Option.some.inj e];exact hs))).symm))).symm
theorem rZ_(g:iL_ ops l){L:Array Bool}{j:Nat}{T:Nat→AV}{h:List Row}{S:Sit}{a:Act}{w:World}{B:Nat→Nat}{f:Nat}(I:Inv P N ops l t0 S0 w0 K L j T h S a w B)(hcl:∀k,L.getD k false=true→gH_ ops L k)
 (hf:(chI ops l)[j]?=some f) (hfl:dw_ l f=true) (hL:L.getD f false=true):∃T' h' S',Inv P N ops l t0 S0 w0 K L (j+1) T' h' S' a w B:=by
 obtain⟨hfn,hfc⟩:=ev_ hf
 have hnt:=ub_ hf
 have hw:bc_ ops l L j f=true:=by simp only[bc_,hL,hfl,hnt];rfl
 obtain⟨E,c0,v0,d,hop,hd,ha,hb,ho,hi,hsz⟩:=I.pn.blk f hfn hw
 obtain⟨av,row,info,hblk,hwp,had,hrp⟩:=sF_ (P:=P) hop I.hm hb ho hi
 have hrun:=I.G.run
 have hdrop:(chI ops l).drop j=f::(chI ops l).drop (j+1):=by
  obtain⟨hql,e⟩:=List.getElem?_eq_some_iff.1 hf
  rw[drop_eq_getElem_cons hql,e]
 rw[hdrop,map_cons,gV_]at hrun
 have hrun:=hwp _ _ hrun
 simp only[hd]at hrun
 obtain⟨hloose,hrest⟩:=hrun
 have hA:∀k,aW_ ops l L (j+1) k=if k=f then true else aW_ ops l L j k:=by
  intro k
  unfold aW_
  rw[gq_ hf]
  by_cases e:k=f
  ·subst e;simp only[if_pos,hL,hfl];rfl
  ·simp only[if_neg e]
 have hW:∀k,bc_ ops l L (j+1) k=if k=f then false else bc_ ops l L j k:=by
  intro k
  unfold bc_
  rw[gq_ hf]
  by_cases e:k=f
  ·subst e;simp
  ·simp only[if_neg e]
 have hown:∀b,({ imm:=S.imm,rows:=S.rows++[info] }:Sit).owns b→S.owns b∨b=B f:=by
  rintro b ⟨k,i,q1,q2⟩
  by_cases hk:k<S.rows.length
  ·have q1':(S.rows++[info])[k]?=some i:=q1
   rw[getElem?_append_left hk]at q1'
   exact .inl ⟨k,i,q1',q2⟩
  ·have q1':(S.rows++[info])[k]?=some i:=q1
   rw[getElem?_append_right (by omega)]at q1'
   have:=mem_of_getElem? q1'
   simp only[mem_singleton]at this
   subst this
   rw[hblk,Option.some.injEq]at q2
   exact .inr q2.symm
 have hle:=S.le_push info
 refine⟨put T (some d) av,h++[row],{ imm:=S.imm,rows:=S.rows++[info] },?_⟩
 refine⟨⟨I.st.le.trans hle,I.st.os,I.st.tape,I.st.output,I.st.size,I.st.block,fun b q=>?_,I.st.immNew⟩,had,?_,⟨fun q c hc=>⟨fun hq hqs=>?_,fun h1 h2=>Nat.lt_succ_of_lt ((I.G.ch q c hc).2 h1 h2)⟩,fun p hp hpl=>?_,fun q p hq hqj hps hpl=>?_,fun q c d' hc hd' hjq=>?_,fun s hs=>?_,hrest⟩,⟨fun k hk hkw=>?_,fun k k' hk hk' h1 h2 hne=>?_⟩⟩
 ·rcases hown b q with q|q
  ·exact I.st.ownNew b q
  ·exact .inr (by rw[q];exact hsz)
 ·have e:=lg_ (t0:=t0) g.one hfn hA hW T av
  rw[hd]at e
  rw[e]
  refine(I.hr.up hle).reput ?_
  rw[ha]
  exact hrp
 ·by_cases e:q=j
  ·subst e;rw[hf]at hc;cases hc;exact hL
  ·exact(I.G.ch q c hc).1 (by omega) hqs
 ·have hnr:cA_ ops l.length f p=false:=by
   cases hz:cA_ ops l.length f p with
   | false=>rfl
   | true=>have:=f6_ hcl _ f p (hcl f hL) hz;rw[hpl]at this;cases this
  exact hW_ hloose (mem_map.2 ⟨p,mem_filter.2 ⟨hp,by rw[hnr];rfl⟩,rfl⟩)
 ·have hqj':q<j:=by
   by_cases z:q=j
   ·subst z;rw[hf]at hq;cases hq
    rw[ia_ hps]at hfl;cases hfl
   ·omega
  obtain⟨d2,e1,e2⟩:=I.G.sl q p hq hqj' hps hpl
  have hpn:=(ev_ hq).1
  refine⟨d2,e1,?_⟩
  have hnd:d∉(gat l p).reads:=by
   intro hr
   rcases g.rd p f d hpn hfn hd hr with ⟨h1,h2⟩|⟨_,_,hed⟩
   ·have:=g.edg j q f p hf hq (by omega);rw[h2]at this;cases this
   ·obtain⟨o,e,q1,q2,q3,q4⟩:=bO_ hed
    have:=hcl f hL o e q1 q2 q3
    rw[q4,hpl]at this;cases this
  rw[hR_ hnd,kg_ (eK_ hps).1 T _ h,e2,cR_ (fun z=>by
   have:=g.one p f d2 hpn hfn e1 (by rw[hd];exact z)
   subst this
   rw[ia_ hps]at hfl;cases hfl)]
 ·have hne:c≠f:=by rintro rfl;have:=eA_ hc hf;omega
  rw[cR_ (fun z=>hne (g.one c f d' (ev_ hc).1 hfn hd' (by rw[hd];exact z)))]
  exact I.G.old q c d' hc hd' (by omega)
 ·rw[cR_ (by rw[←hd];exact hs f hfn)]
  exact I.G.oth s hs
 ·rw[hW]at hkw
  split at hkw
  ·cases hkw
  ·rename_i hne
   obtain⟨E',c',v',d',q1,q2,q3,q4,q5,q6,q7⟩:=I.pn.blk k hk hkw
   refine⟨E',c',v',d',q1,q2,q3,q4,fun q=>?_,q6,q7⟩
   rcases hown _ q with q|q
   ·exact q5 q
   ·exact I.pn.ne k f hk hfn hkw hw hne q
 ·rw[hW]at h1 h2
  split at h1
  ·cases h1
  ·split at h2
   ·cases h2
   ·exact I.pn.ne k k' hk hk' h1 h2 hne
theorem pN_(g:iL_ ops l){L:Array Bool}{j:Nat}{T:Nat→AV}{h:List Row}{S:Sit}{a:Act}{w:World}{B:Nat→Nat}{f:Nat}(I:Inv P N ops l t0 S0 w0 K L j T h S a w B)
 (hf:(chI ops l)[j]?=some f) (hfs:fg_ ops l f=true):∃T' h' S',Inv P N ops l t0 S0 w0 K L (j+1) T' h' S' a w B:=by
 obtain⟨hfn,hfc⟩:=ev_ hf
 have hfl:=ia_ hfs
 obtain⟨hslot,d,hd,hrd⟩:=eK_ hfs
 have hLf:L.getD f false=false:=by
  cases z:L.getD f false with
  | false=>rfl
  | true=>have:=(I.G.ch j f hf).2 hfl z;omega
 have hrun:=I.G.run
 have hdrop:(chI ops l).drop j=f::(chI ops l).drop (j+1):=by
  obtain⟨hql,e⟩:=List.getElem?_eq_some_iff.1 hf
  rw[drop_eq_getElem_cons hql,e]
 rw[hdrop,map_cons,gV_]at hrun
 rw[xA_ hslot]at hrun
 obtain⟨v,hv⟩:∃v,ai_ T h (gat l f).op=some v:=by
  cases z:ai_ T h (gat l f).op with
  | some v=>exact⟨v,rfl⟩
  | none=>rw[z]at hrun;exact hrun.elim
 rw[hv]at hrun
 have hcont:holds (put T (gat l f).dst v) h ((l6_ ops l f).map (gat l))∧gV_ P (((chI ops l).drop (j+1)).map fun c=>(gat l c,(l6_ ops l c).map (gat l))) (put T (gat l f).dst v) h K:=hrun
 rw[hd]at hcont
 have hself:d∉(gat l f).reads:=fun hr=>by have:=(hrd f hfn hr).1;omega
 have hW:∀k,bc_ ops l L (j+1) k=bc_ ops l L j k:=by
  intro k
  unfold bc_
  rw[gq_ hf]
  by_cases e:k=f
  ·subst e;simp[hLf]
  ·simp only[if_neg e]
 have hA:∀k,aW_ ops l L (j+1) k=aW_ ops l L j k:=by
  intro k
  unfold aW_
  rw[gq_ hf]
  by_cases e:k=f
  ·subst e;simp[hLf]
  ·simp only[if_neg e]
 refine⟨put T (some d) v,h,S,I.st,I.hm,?_,⟨fun q c hc=>⟨fun hq hqs=>?_,fun h1 h2=>Nat.lt_succ_of_lt ((I.G.ch q c hc).2 h1 h2)⟩,fun p hp hpl=>?_,fun q p hq hqj hps hpl=>?_,fun q c d' hc hd' hjq=>?_,fun s hs=>?_,hcont.2⟩,⟨fun k hk hkw=>I.pn.blk k hk (by rw[←hW];exact hkw),fun k k' hk hk' h1 h2 hne=>I.pn.ne k k' hk hk' (by rw[←hW];exact h1) (by rw[←hW];exact h2) hne⟩⟩
 ·have e:en_ l t0 (put T (some d) v) (aW_ ops l L (j+1)) (bc_ ops l L (j+1))=en_ l t0 T (aW_ ops l L j) (bc_ ops l L j):=by
   rw[show aW_ ops l L (j+1)=aW_ ops l L j from funext hA,show bc_ ops l L (j+1)=bc_ ops l L j from funext hW]
   funext s
   unfold en_
   split
   ·rfl
   ·split
    ·rename_i _ h2
     obtain⟨k,h3,h4,h5⟩:=gw_.1 h2
     rw[cR_]
     intro z
     have:=g.one k f s h3 hfn h5 (by rw[hd];exact z)
     subst this
     unfold aW_ at h4
     rw[hLf]at h4;cases h4
    ·rfl
  rw[e];exact I.hr
 ·by_cases e:q=j
  ·subst e;rw[hf]at hc;cases hc;rw[hfs]at hqs;cases hqs
  ·exact(I.G.ch q c hc).1 (by omega) hqs
 ·obtain⟨d2,e1,e2⟩:=I.G.pre p hp hpl
  have hpm:=mem_filter.1 hp
  have hpn:p<l.length:=mem_range.1 hpm.1
  have hpc:bZ_ ops l p=false:=by simpa using hpm.2
  refine⟨d2,e1,?_⟩
  rw[hR_ (fun hr=>by have:=(hrd p hpn hr).2;rw[hpc]at this;cases this),e2,cR_ (fun z=>by
   have:=g.one p f d2 hpn hfn e1 (by rw[hd];exact z)
   subst this
   rw[hfc]at hpc;cases hpc)]
 ·by_cases e:q=j
  ·subst e;rw[hf]at hq;cases hq
   refine⟨d,hd,?_⟩
   rw[hR_ hself,hv,iE_]
  ·obtain⟨d2,e1,e2⟩:=I.G.sl q p hq (by omega) hps hpl
   have hpn:=(ev_ hq).1
   refine⟨d2,e1,?_⟩
   rw[hR_ (fun hr=>by
    have h3:=(hrd p hpn hr).1
    rcases g.rd p f d hpn hfn hd hr with ⟨_,h2⟩|⟨h1,_⟩
    ·have:=g.edg j q f p hf hq (by omega);rw[h2]at this;cases this
    ·omega),e2,cR_ (fun z=>by
    have:=g.one p f d2 hpn hfn e1 (by rw[hd];exact z)
    subst this
    exact e (eA_ hq hf))]
 ·have hne:c≠f:=by rintro rfl;have:=eA_ hc hf;omega
  rw[cR_ (fun z=>hne (g.one c f d' (ev_ hc).1 hfn hd' (by rw[hd];exact z)))]
  exact I.G.old q c d' hc hd' (by omega)
 ·rw[cR_ (by rw[←hd];exact hs f hfn)]
  exact I.G.oth s hs
theorem h5_(g:iL_ ops l){L:Array Bool}{S':Sit}{a:Act}{w:World}{B:Nat→Nat}(hcl:∀k,L.getD k false=true→gH_ ops L k) :
 ∀(n j:Nat) (T:Nat→AV) (h:List Row) (S:Sit),Inv P N ops l t0 S0 w0 K L j T h S a w B→(∀q,j≤q→q<j+n→∃f,(chI ops l)[q]?=some f∧((dw_ l f=true∧L.getD f false=true)∨fg_ ops l f=true))→∃T' h' S',Inv P N ops l t0 S0 w0 K L (j+n) T' h' S' a w B
 | 0,j,T,h,S,I,_=>⟨T,h,S,I⟩
 | n+1,j,T,h,S,I,hall=>by
  obtain⟨f,hf,hk⟩:=hall j (Nat.le_refl _) (by omega)
  obtain⟨T1,h1,S1,I1⟩:∃T1 h1 S1,Inv P N ops l t0 S0 w0 K L (j+1) T1 h1 S1 a w B:=by
   rcases hk with ⟨hfl,hL⟩|hfs
   ·exact rZ_ g I hcl hf hfl hL
   ·exact pN_ g I hf hfs
  obtain⟨T2,h2,S2,I2⟩:=h5_ g (S':=S') hcl n (j+1) T1 h1 S1 I1 (fun q q1 q2=>hall q (by omega) (by omega))
  exact⟨T2,h2,S2,by rw[show j+(n+1)=j+1+n by omega];exact I2⟩
theorem uL_(hgl:cn_ P S0)(hl:ops.toList.mapM (bk_ P N ops)=some l)(g:iL_ ops l)
 (hQ:∀S T h a w,a0_ S0 w0 S w→ab_ S h w→Rel S N T a→K T h→Q .normal a w) :
 ∀(fuel:Nat) (L:Array Bool) (j:Nat) (T:Nat→AV) (h:List Row) (S:Sit) (a:Act) (w:World) (B:Nat→Nat),L.toList.countP (fun b=>!b)≤fuel→L.size=ops.size →
  (∀k,L.getD k false=true→gH_ ops L k)→Inv P N ops l t0 S0 w0 K L j T h S a w B→wpAny P .any ops Q fuel L a w:=by
 have fin:∀(L:Array Bool) (j:Nat) (T:Nat→AV) (h:List Row) (S:Sit) (a:Act) (w:World) (B:Nat→Nat),L.size=ops.size→(∀k,L.getD k false=true→gH_ ops L k)→Region.ready .any ops L=[]→Inv P N ops l t0 S0 w0 K L j T h S a w B→Q .normal a w:=by
  intro L j T h S a w B hs hcl hn I
  have hall:=rY_ g hs hn
  obtain⟨T',h',S',I'⟩:=h5_ g (S':=S) hcl ((chI ops l).length-j) j T h S I (fun q q1 q2=>by
   have hq:q<(chI ops l).length:=by omega
   have hc:=getElem?_eq_getElem hq
   refine⟨_,hc,.inl ⟨?_,hall _ (by rw[←g.len];exact(ev_ hc).1)⟩⟩
   cases z:dw_ l (chI ops l)[q]with
   | true=>rfl
   | false=>have:=(I.G.ch q _ hc).2 z (hall _ (by rw[←g.len];exact(ev_ hc).1));omega)
  have hj:(chI ops l).length≤j+((chI ops l).length-j):=by omega
  have htk:(chI ops l).take (j+((chI ops l).length-j))=chI ops l:=take_of_length_le hj
  have hfloat:∀k,k<l.length→dw_ l k=true→k∈chI ops l:=by
   intro k hk hfl
   exact nt_.2 ⟨hk,iW_ hfl hk⟩
  have hnow:∀k,k<l.length→bc_ ops l L (j+((chI ops l).length-j)) k=false:=by
   intro k hk
   unfold bc_
   cases hfl:dw_ l k with
   | false=>simp
   | true =>
    have:((chI ops l).take (j+((chI ops l).length-j))).contains k=true:=by rw[htk];simpa using hfloat k hk hfl
    rw[this];simp
  have hrec:∀k,k<l.length→aW_ ops l L (j+((chI ops l).length-j)) k=true:=by
   intro k hk
   have h1:=hall k (by rw[←g.len];exact hk)
   have h2:=hnow k hk
   unfold bc_ at h2
   unfold aW_
   rw[h1,Bool.true_and]at h2⊢
   rw[h2];rfl
  have e:en_ l t0 T' (aW_ ops l L (j+((chI ops l).length-j))) (bc_ ops l L (j+((chI ops l).length-j)))=T':=by
   funext s
   have hw:∀k,k<l.length→bc_ ops l L (j+((chI ops l).length-j)) k=true→(gat l k).dst≠some s:=fun k hk hkw=>by rw[hnow k hk]at hkw;cases hkw
   by_cases q:∃k,k<l.length∧(gat l k).dst=some s
   ·obtain⟨k,hk,hd⟩:=q
    exact fF_ hk (hrec k hk) hd hw
   ·rw[fM_ (fun k hk _ hd=>q ⟨k,hk,hd⟩) hw,I'.G.oth s (fun c hc hd=>q ⟨c,hc,hd⟩)]
  have hr:=I'.hr
  rw[e]at hr
  have hrun:=I'.G.run
  rw[drop_eq_nil_of_le hj]at hrun
  exact hQ S' T' h' a w I'.st I'.hm hr hrun
 intro fuel
 induction fuel with
 | zero =>
  intro L j T h S a w B hc hs hcl I
  have hno:Region.ready .any ops L=[]:=by
   rcases eq_nil_or_concat (Region.ready .any ops L)with q|⟨ys,y,q⟩
   ·exact q
   ·exfalso
    have hy:y∈Region.ready .any ops L:=by rw[q];simp
    obtain⟨h1,h2,_⟩:=dk_ hy
    have:L.toList.countP (fun b=>!b)=0:=by omega
    rw[countP_eq_zero]at this
    have hmem:L.getD y true∈L.toList:=by
     rw[Array.getD_eq_getD_getElem?,Array.getElem?_eq_getElem (by omega)]
     simp
    have:=this _ hmem
    rw[h2]at this
    simp at this
  exact⟨hno,fin L j T h S a w B hs hcl hno I⟩
 | succ fuel ih =>
  intro L j T h S a w B hc hs hcl I
  refine⟨fun hno=>fin L j T h S a w B hs hcl hno I,fun i hi=>?_⟩
  obtain⟨i1,i2,i3⟩:=dk_ hi
  have ho:ops[i]?=some ops[i]:=Array.getElem?_eq_getElem i1
  obtain⟨x,hx,hlow⟩:=fB_ hl i ops[i] (by simp)
  have hil:i<l.length:=by rw[g.len];exact i1
  have hxg:gat l i=x:=by have:=wL_ (l:=l) hil;rw[hx]at this;exact(Option.some.inj this).symm
  obtain⟨low1,low2,low3,low4,_⟩:=cW_ hlow
  have hi2:L.getD i false=false:=by
   rw[Array.getD_eq_getD_getElem?,Array.getElem?_eq_getElem (by omega)]at i2⊢
   simpa using i2
  have hshut:gH_ ops L i:=fun o e h1 h2 h3=>i3 o e h1 h2 h3
  have hcl':∀k,(L.setIfInBounds i true).getD k false=true→gH_ ops (L.setIfInBounds i true) k:=by
   intro k hk o e ho' he hb
   rw[cu_ (by omega)]at hk⊢
   split at hk
   ·rename_i eki
    subst eki
    have:=i3 o e ho' he hb
    split
    ·rfl
    ·exact this
   ·have:=hcl k hk o e ho' he hb
    split
    ·rfl
    ·exact this
  have hcnt:(L.setIfInBounds i true).toList.countP (fun b=>!b)≤fuel:=by
   have hlt:i<L.toList.length:=by simp;omega
   have hv:L.toList[i]=false:=by
    rw[Array.getD_eq_getD_getElem?,Array.getElem?_eq_getElem (by omega)]at hi2
    simpa using hi2
   rw[Array.toList_setIfInBounds,countP_set hlt,hv]
   simp only[Bool.not_false,Bool.not_true,if_true,Bool.false_eq_true,if_false]
   omega
  have hset:∀k,(L.setIfInBounds i true).getD k false=if k=i then true else L.getD k false:=fun k=>cu_ (by omega)
  have hgd:x.guard=Option.none:=by rw[←hxg];exact g.grd i hil
  have hreadsOf:∀(j:Nat) (T:Nat→AV) (h:List Row) (S:Sit),Inv P N ops l t0 S0 w0 K L j T h S a w B→(∀k,k<i→bP_ ops i k=true→bc_ ops l L j k=false)→∀s∈x.reads,T s=en_ l t0 T (aW_ ops l L j) (bc_ ops l L j) s:=by
   intro j T h S I hnw s hsr
   by_cases q:∃k,k<l.length∧(gat l k).dst=some s
   ·obtain⟨k,hk,hd⟩:=q
    rcases g.rd i k s hil hk hd (by rw[hxg];exact hsr)with ⟨hki,hed⟩|⟨hik,hch,hed⟩
    ·obtain⟨o,e,q1,q2,q3,q4⟩:=bO_ hed
     have hLk:=i3 o e q1 q2 q3
     rw[q4]at hLk
     have hwk:=hnw k hki hed
     have hrk:aW_ ops l L j k=true:=by
      unfold bc_ at hwk
      unfold aW_
      rw[hLk,Bool.true_and]at hwk⊢
      rw[hwk];rfl
     rw[fF_ hk hrk hd (fun k' hk' hw' hd'=>by
      have:=g.one k k' s hk hk' hd hd'
      subst this
      rw[hwk]at hw';cases hw')]
    ·have hkn:L.getD k false=false:=by
      cases hq:L.getD k false with
      | false=>rfl
      | true =>
       obtain⟨o,e,q1,q2,q3,q4⟩:=bO_ hed
       have:=hcl k hq o e q1 q2 q3
       rw[q4,hi2]at this;cases this
     have hrk:aW_ ops l L j k=false:=by unfold aW_;rw[hkn];rfl
     have hwk:bc_ ops l L j k=false:=by unfold bc_;rw[hkn];rfl
     obtain⟨qk,hqk⟩:=qc_ (ops:=ops) hk hch
     have hjq:j≤qk:=by
      by_cases z:qk<j
      ·exfalso
       cases zs:fg_ ops l k with
       | false=>have:=(I.G.ch qk k hqk).1 z zs;rw[hkn]at this;cases this
       | true =>
        obtain⟨_,d',hd',hrd'⟩:=eK_ zs
        rw[hd]at hd';cases hd'
        have:=(hrd' i hil (by rw[hxg];exact hsr)).1
        omega
      ·omega
     rw[I.G.old qk k s hqk hd hjq,fM_]
     ·intro k' hk' hl' hd'
      have:=g.one k k' s hk hk' hd hd'
      subst this
      rw[hrk]at hl';cases hl'
     ·intro k' hk' hl' hd'
      have:=g.one k k' s hk hk' hd hd'
      subst this
      rw[hwk]at hl';cases hl'
   ·rw[I.G.oth s (fun c hc hd=>q ⟨c,hc,hd⟩),fM_ (fun k hk _ hd=>q ⟨k,hk,hd⟩) (fun k hk _ hd=>q ⟨k,hk,hd⟩)]
  have hpnOf:∀{j j':Nat} {T:Nat→AV} {h:List Row} {S S':Sit} {w':World} {v:Value},Inv P N ops l t0 S0 w0 K L j T h S a w B→dw_ l i=false→(∀k,bc_ ops l (L.setIfInBounds i true) j' k=true→bc_ ops l L j k=true)→a0_ S w S' w' →
   Pn ops l w0 (L.setIfInBounds i true) j' S' (a.put (ops[i]).dst v) w' B:=by
   intro j j' T h S S' w' v I hni hsub st'
   refine⟨fun k hk hkw=>?_,fun k k' hk hk' h1 h2 hne=>I.pn.ne k k' hk hk' (hsub k h1) (hsub k' h2) hne⟩
   obtain⟨E',c',v',d',q1,q2,q3,q4,q5,q6,q7⟩:=I.pn.blk k hk (hsub k hkw)
   have hlt:B k<w.heap.size:=(Array.getElem?_eq_some_iff.1 q4).1
   refine⟨E',c',v',d',q1,q2,?_,by rw[st'.block _ hlt q5];exact q4,fun q=>?_,?_,q7⟩
   ·have hki:k≠i:=by
     rintro rfl
     have:=hsub k hkw
     unfold bc_ at this
     rw[hi2]at this;cases this
    have hdne:(ops[i]).dst≠some d':=fun z=>hki (g.one k i d' hk hil q2 (by rw[hxg,←low3];exact z))
    rw[←q3]
    cases hdd:(ops[i]).dst with
    | none=>rfl
    | some e =>
     rw[hdd]at hdne
     have hne:e≠d':=fun z=>hdne (by rw[z])
     simp only[Act.put,Array.getD_eq_getD_getElem?,Array.getElem?_setIfInBounds,if_neg hne]
   ·rcases st'.ownNew _ q with q|q
    ·exact q5 q
    ·omega
   ·cases z:S'.imm (B k)with
    | none=>rfl
    | some c =>
     rcases st'.immNew _ c z with q|q|q
     ·rw[q6]at q;cases q
     ·exact absurd q q5
     ·omega
  simp only[wpOp,ho]
  have hwant:∀{S:Sit} {t:Nat→AV},Rel S N t a→Region.wanted ops[i] (yielded ops a.tmps)=true:=fun hr=>du_ hlow hr (q:=true) (by rw[hgd];rfl)
  rw[hwant I.hr]
  simp only[if_true]
  left
  have hni_edge:dw_ l i=false→∀(j:Nat) (T:Nat→AV) (h:List Row) (S:Sit),Inv P N ops l t0 S0 w0 K L j T h S a w B→(∃d,x.dst=some d∧ai_ T h x.op=some (T d))→x.op.calm=true →
   (∀k,k<i→bP_ ops i k=true→bc_ ops l L j k=false)→(∀q,(chI ops l)[q]?=some i→q<j)→(ops[i]).wp P a w (fun a' w'=>wpAny P .any ops Q fuel (L.setIfInBounds i true) a' w') Q:=by
   intro hni j T h S I hval hcalm hnw hpos
   have hreads:=hreadsOf j T h S I hnw
   obtain⟨d,hd,hev⟩:=hval
   have hev':ai_ (en_ l t0 T (aW_ ops l L j) (bc_ ops l L j)) h x.op=some (T d):=by rw[←hev];exact(eI_ _ (dm_ hreads)).symm
   have hW:∀k,bc_ ops l (L.setIfInBounds i true) j k=if k=i then false else bc_ ops l L j k:=by
    intro k
    unfold bc_
    rw[hset]
    by_cases e:k=i
    ·subst e;simp only[if_pos,hni];simp
    ·simp only[if_neg e]
   have hA:∀k,aW_ ops l (L.setIfInBounds i true) j k=if k=i then true else aW_ ops l L j k:=by
    intro k
    unfold aW_
    rw[hset]
    by_cases e:k=i
    ·subst e;simp only[if_pos,hni];simp
    ·simp only[if_neg e]
   refine j1_ (Q:=Q) (K:=fun v h'=>v=T d∧h'=h) low1 low2 I.hm (hgl.up I.st.le) I.hr (s2_ hcalm hev' ⟨rfl,rfl⟩) ?_
   rintro v av S' h' w' st' hm' rv ⟨rfl,rfl⟩
   refine ih _ j T h' S' _ w' B hcnt (by simp[hs]) hcl' ⟨I.st.trans st',hm',?_,⟨fun q' c hc'=>⟨fun hq' hqs=>?_,fun h1 h2=>?_⟩,fun p hp hpl=>?_,fun q' p hq' hqj' hps hpl=>?_,I.G.old,I.G.oth,I.G.run⟩,
    hpnOf I hni (fun k hk=>by rw[hW]at hk;split at hk;cases hk;exact hk) st'⟩
   ·have e:=lg_ (t0:=t0) g.one hil hA hW T (T d)
    rw[hxg,hd,ve_]at e
    rw[e,←hd,low3]
    rw[hd]
    exact(I.hr.up st'.le).put rv
   ·rw[hset]
    split
    ·rfl
    ·exact(I.G.ch q' c hc').1 hq' hqs
   ·rw[hset]at h2
    split at h2
    ·rename_i e;subst e;exact hpos q' hc'
    ·exact(I.G.ch q' c hc').2 h1 h2
   ·rw[hset]at hpl
    split at hpl
    ·cases hpl
    ·exact I.G.pre p hp hpl
   ·rw[hset]at hpl
    split at hpl
    ·cases hpl
    ·exact I.G.sl q' p hq' hqj' hps hpl
  by_cases hch:bZ_ ops l i=true
  ·obtain⟨q,hq⟩:=qc_ (ops:=ops) hil hch
   cases hfl:dw_ l i with
   | true =>
    have hqj:j≤q:=by
     by_cases z:q<j
     ·have hsl:fg_ ops l i=false:=by
       cases zs:fg_ ops l i with
       | false=>rfl
       | true=>rw[ia_ zs]at hfl;cases hfl
      have:=(I.G.ch q i hq).1 z hsl;rw[hi2]at this;cases this
     ·omega
    obtain⟨hops,d,hd⟩:=h8_ hfl
    rw[hxg]at hops hd
    have hex:∃(E:TypeId) (c:Array Value) (v:Value),FlV x.op E c v w.heap.size∧(execOp a.eval ops[i]).run P w=.ok (.value v) (w.alloc (.cells c E)):=by
     rcases hops with ⟨E,z,hop⟩|⟨E,sz,z,hop⟩
     ·rw[hop]at low1
      have low1:=fb_ low1 (by simp)
      have hal:∃(E':TypeId) (ti:TypeInfo),(ops[i]).op=.alloc E'∧P.info? E'=some ti∧ti.zero=some z∧E'=E:=by
       cases ho1:(ops[i]).op<;>rw[ho1]at low1<;>first
        | (simp only [aw_, Option.bind_eq_some_iff, Option.map_eq_some_iff] at low1
           obtain⟨ti,h1,z',h2,e⟩:=low1
           simp only[LOp.alloc.injEq]at e
           obtain⟨e1,e2⟩:=e
           subst e1 e2
           exact⟨_,ti,rfl,h1,h2,rfl⟩)
        | (exfalso;simp only[aw_,di_]at low1;first|(simp at low1;done)|((repeat' split at low1)<;>first|(simp at low1;done)|(simp[Option.bind_eq_some_iff,Option.map_eq_some_iff]at low1;done)|contradiction|(simp_all;done)))
      obtain⟨E',ti,ho1,ho2,ho3,rfl⟩:=hal
      exact⟨E',z.cells,_,.inl ⟨z,hop,rfl,rfl⟩,by simp[execOp,ho1,Instr.alloc,zeroValue,eh_ ho2,ho3,newVar,newRow]⟩
     ·rw[hop]at low1
      have low1:=fb_ low1 (by simp)
      have hal:∃(ty:TypeId) (parts:Array (Nat×Operand)) (ti:TypeInfo),(ops[i]).op=.buildSlice ty 0 parts∧parts.toList=[]∧P.underlying ty=some (.slice E)∧P.info? E=some ti∧ti.zero=some z∧ti.size=z.cells.size∧0<ti.size:=by
       cases ho1:(ops[i]).op<;>rw[ho1]at low1<;>first
        | (simp only [aw_] at low1
           split at low1
           ·rename_i e1 hu
            simp only[Option.bind_eq_some_iff]at low1
            obtain⟨ti,h1,z',h2,e⟩:=low1
            split at e
            ·rename_i hc
             simp only[Option.some.injEq,LOp.buildSlice.injEq]at e
             obtain⟨e1,e2,e3,e4,e5⟩:=e
             subst e1 e3 e4
             exact⟨_,_,ti,rfl,e5,hu,h1,h2,hc.1,hc.2.1⟩
            ·cases e
           ·cases low1)
        | (exfalso;simp only[aw_,di_]at low1;first|(simp at low1;done)|((repeat' split at low1)<;>first|(simp at low1;done)|(simp[Option.bind_eq_some_iff,Option.map_eq_some_iff]at low1;done)|contradiction|(simp_all;done)))
      obtain⟨ty,parts,ti,ho1,hp0,hu,ho2,ho3,hzs,hpos⟩:=hal
      obtain⟨c',h1,_,h3,_⟩:=gt_ (es:=[]) (a:=a) ho1 hu ho2 ho3 hzs hpos (by simp) I.hm I.hr (fun p hp=>by rw[hp0]at hp;simp at hp) (by rw[hp0];rfl) (by rw[hp0];rfl) (by simp)
      have h4:c'=#[]:=by apply Array.eq_empty_of_size_eq_zero;simpa using h3
      subst h4
      exact⟨E,#[],_,.inr ⟨sz,z,hop,rfl,rfl⟩,h1⟩
    obtain⟨E',c0,v0,hFl,hrun⟩:=hex
    refine a2_ hrun ?_
    have hold:∀b,b<w.heap.size→(w.alloc (.cells c0 E')).heap[b]?=w.heap[b]?:=fun b hb=>tQ_ w _ b hb
    have hst:a0_ S w S (w.alloc (.cells c0 E')):=⟨.refl S,rfl,rfl,rfl,by simp,fun b hb _=>hold b hb,fun _ q=>.inl q,fun _ _ q=>.inl q⟩
    have hm':ab_ S h (w.alloc (.cells c0 E')):=by
     refine⟨fun b c hb=>by rw[hold b (I.hm.immLt hb)];exact I.hm.imm b c hb,I.hm.len,fun k r rw' q1 q2=>?_,I.hm.one⟩
     obtain⟨k1,k2,k3,k4⟩:=I.hm.rows k r rw' q1 q2
     refine⟨k1,k2,k3,?_⟩
     cases hb':r.blk with
     | none=>rw[hb']at k4;exact k4
     | some b=>rw[hb']at k4;exact⟨k4.1,k4.2.le (.refl S) (hold b (I.hm.ownLt ⟨k,r,q1,hb'⟩))⟩
    have hnt:((chI ops l).take j).contains i=false:=by rw[pf_ hq];exact decide_eq_false (by omega)
    have hW:∀k,bc_ ops l (L.setIfInBounds i true) j k=if k=i then true else bc_ ops l L j k:=by
     intro k
     unfold bc_
     rw[hset]
     by_cases e:k=i
     ·subst e;simp only[if_pos,hfl,hnt];rfl
     ·simp only[if_neg e]
    have hA:∀k,aW_ ops l (L.setIfInBounds i true) j k=aW_ ops l L j k:=by
     intro k
     unfold aW_
     rw[hset]
     by_cases e:k=i
     ·subst e;simp only[if_pos,hfl,hnt,hi2];rfl
     ·simp only[if_neg e]
    have hAi:aW_ ops l L j i=false:=by unfold aW_;rw[hi2];rfl
    have hd':(ops[i]).dst=some d:=by rw[low3];exact hd
    refine ih _ j T h S _ _ (fun k=>if k=i then w.heap.size else B k) hcnt (by simp[hs]) hcl' ⟨I.st.trans hst,hm',?_,⟨fun q' c hc'=>⟨fun hq' hqs=>?_,fun h1 h2=>?_⟩,fun p hp hpl=>?_,fun q' p hq' hqj' hps hpl=>?_,I.G.old,I.G.oth,I.G.run⟩,⟨fun k hk hkw=>?_,fun k k' hk hk' h1 h2 hne=>?_⟩⟩
    ·have e:en_ l t0 T (aW_ ops l (L.setIfInBounds i true) j) (bc_ ops l (L.setIfInBounds i true) j)=put (en_ l t0 T (aW_ ops l L j) (bc_ ops l L j)) (gat l i).dst .undef:=by
      rw[show aW_ ops l (L.setIfInBounds i true) j=aW_ ops l L j from funext hA]
      exact rI_ hil (fun k _ hk=>by rintro rfl;rw[hAi]at hk;cases hk) g.one hW T
     rw[e,hxg,←low3]
     exact I.hr.put (by simp[Rep])
    ·rw[hset]
     split
     ·rfl
     ·exact(I.G.ch q' c hc').1 hq' hqs
    ·rw[hset]at h2
     split at h2
     ·rename_i e;subst e;rw[hfl]at h1;cases h1
     ·exact(I.G.ch q' c hc').2 h1 h2
    ·rw[hset]at hpl
     split at hpl
     ·cases hpl
     ·exact I.G.pre p hp hpl
    ·rw[hset]at hpl
     split at hpl
     ·cases hpl
     ·exact I.G.sl q' p hq' hqj' hps hpl
    ·rw[hW]at hkw
     by_cases e:k=i
     ·subst e
      refine⟨E',c0,v0,d,by rw[hxg];simp only[if_pos];exact hFl,by rw[hxg];exact hd,?_,by simp only[if_pos];exact heap_alloc_new w _,?_,?_,?_⟩
      ·have hdN:d<a.tmps.size:=by
        rw[I.hr.1]
        exact low4 d hd
       rw[hd']
       simp only[Act.put,Array.getD_eq_getD_getElem?,Array.getElem?_setIfInBounds,if_pos,hdN,if_true,Option.getD_some]
      ·simp only[if_pos]
       intro q
       have:=I.hm.ownLt q
       omega
      ·simp only[if_pos]
       cases z1:S.imm w.heap.size with
       | none=>rfl
       | some c=>have:=I.hm.immLt z1;omega
      ·simp only[if_pos];exact I.st.size
     ·rw[if_neg e]at hkw
      obtain⟨E2,c2,v2,d2,q1,q2,q3,q4,q5,q6,q7⟩:=I.pn.blk k hk hkw
      have hlt:B k<w.heap.size:=(Array.getElem?_eq_some_iff.1 q4).1
      simp only[if_neg e]
      refine⟨E2,c2,v2,d2,q1,q2,?_,by rw[hold _ hlt];exact q4,q5,q6,q7⟩
      have hdne:d≠d2:=fun z=>e (g.one k i d2 hk hil q2 (by rw[hxg,hd,z]))
      rw[←q3,hd']
      simp only[Act.put,Array.getD_eq_getD_getElem?,Array.getElem?_setIfInBounds,if_neg hdne]
    ·rw[hW]at h1 h2
     by_cases e:k=i
     ·subst e
      rw[if_neg (fun z=>hne z.symm)]at h2
      simp only[if_pos,if_neg (fun z:k'=k=>hne z.symm)]
      obtain⟨_,_,_,_,_,_,_,q4,_⟩:=I.pn.blk k' hk' h2
      have:=(Array.getElem?_eq_some_iff.1 q4).1
      omega
     ·rw[if_neg e]at h1
      by_cases e':k'=i
      ·subst e'
       simp only[if_pos,if_neg e]
       obtain⟨_,_,_,_,_,_,_,q4,_⟩:=I.pn.blk k hk h1
       have:=(Array.getElem?_eq_some_iff.1 q4).1
       omega
      ·rw[if_neg e']at h2
       simp only[if_neg e,if_neg e']
       exact I.pn.ne k k' hk hk' h1 h2 hne
   | false =>
    have hbelow:∀q',j≤q'→q'<j+(q-j)→∃f,(chI ops l)[q']?=some f∧((dw_ l f=true∧L.getD f false=true)∨fg_ ops l f=true):=by
     intro q' h1 h2
     have hql:=(List.getElem?_eq_some_iff.1 hq).1
     have hq'l:q'<(chI ops l).length:=by omega
     have hc:=getElem?_eq_getElem hq'l
     refine⟨_,hc,?_⟩
     cases zs:fg_ ops l (chI ops l)[q']with
     | true=>exact .inr rfl
     | false =>
      have hr2:=g.chn q q' i _ hq hc (by omega) hfl zs
      have hL:=f6_ hcl _ i _ hshut hr2
      refine .inl ⟨?_,hL⟩
      cases z:dw_ l (chI ops l)[q']with
      | true=>rfl
      | false=>have:=(I.G.ch q' _ hc).2 z hL;omega
    have hnwAt:∀j',q≤j'→∀k,k<i→bP_ ops i k=true→bc_ ops l L j' k=false:=by
     intro j' hj' k hki hed7
     cases hw:bc_ ops l L j' k with
     | false=>rfl
     | true =>
      exfalso
      unfold bc_ at hw
      simp only[Bool.and_eq_true,Bool.not_eq_true']at hw
      obtain⟨⟨_,h2⟩,h3⟩:=hw
      have hkl:k<l.length:=by omega
      have hkc:bZ_ ops l k=true:=by
       exact iW_ h2 hkl
      obtain⟨q',hq'⟩:=qc_ (ops:=ops) hkl hkc
      have hlt:q'<q:=by
       by_cases z:q'<q
       ·exact z
       ·exfalso
        by_cases z':q'=q
        ·subst z';rw[hq]at hq';have:=Option.some.inj hq';omega
        ·have:=g.edg q' q k i hq' hq (by omega);rw[hed7]at this;cases this
      rw[pf_ hq',decide_eq_true (by omega)]at h3
      cases h3
    cases hsl:fg_ ops l i with
    | true =>
     have hcalm:x.op.calm=true:=by rw[←hxg];exact tO_ (eK_ hsl).1
     by_cases hqj:q<j
     ·refine hni_edge hfl j T h S I ?_ hcalm (hnwAt j (by omega)) (fun q' hq'=>by have:=eA_ hq hq';omega)
      have:=I.G.sl q i hq hqj hsl hi2
      rwa [hxg]at this
     ·obtain⟨T1,h1,S1,I1⟩:=h5_ g (S':=S) hcl (q-j) j T h S I hbelow
      rw[show j+(q-j)=q by omega]at I1
      obtain⟨T2,h2,S2,I2⟩:=pN_ g I1 hq hsl
      refine hni_edge hfl (q+1) T2 h2 S2 I2 ?_ hcalm (hnwAt (q+1) (by omega)) (fun q' hq'=>by have:=eA_ hq hq';omega)
      have:=I2.G.sl q i hq (by omega) hsl hi2
      rwa [hxg]at this
    | false =>
    have hqj:j≤q:=by
     by_cases z:q<j
     ·have:=(I.G.ch q i hq).1 z hsl;rw[hi2]at this;cases this
     ·omega
    obtain⟨T',h',S',I'⟩:=h5_ g (S':=S) hcl (q-j) j T h S I hbelow
    rw[show j+(q-j)=q by omega]at I'
    have hreads:=hreadsOf q T' h' S' I' (hnwAt q (Nat.le_refl _))
    have hrun:=I'.G.run
    have hdrop:(chI ops l).drop q=i::(chI ops l).drop (q+1):=by
     have hql:=(List.getElem?_eq_some_iff.1 hq).1
     rw[drop_eq_getElem_cons hql,(List.getElem?_eq_some_iff.1 hq).2]
    rw[hdrop,map_cons,gV_]at hrun
    rw[hxg]at hrun
    have hw:=r2_ x.op (dm_ hreads) hrun
    have hW:∀k,bc_ ops l (L.setIfInBounds i true) (q+1) k=if k=i then false else bc_ ops l L q k:=by
     intro k
     unfold bc_
     rw[hset,gq_ hq]
     by_cases e:k=i
     ·subst e;simp only[if_pos,hfl];simp
     ·simp only[if_neg e]
    have hA:∀k,aW_ ops l (L.setIfInBounds i true) (q+1) k=if k=i then true else aW_ ops l L q k:=by
     intro k
     unfold aW_
     rw[hset,gq_ hq]
     by_cases e:k=i
     ·subst e;simp only[if_pos,hfl];simp
     ·simp only[if_neg e]
    refine j1_ (Q:=Q) low1 low2 I'.hm (hgl.up I'.st.le) I'.hr hw ?_
    rintro v av S'' h'' w'' st' hm' rv ⟨hloose,hrest⟩
    refine ih _ (q+1) (put T' x.dst av) h'' S'' _ w'' B hcnt (by simp[hs]) hcl' ⟨I'.st.trans st',hm',?_,⟨fun q' c hc'=>⟨fun hq' hqs=>?_,fun h1 h2=>?_⟩,fun p hp hpl=>?_,fun q' p hq' hqj' hps hpl=>?_,fun q' c d hc' hd hjq=>?_,fun s hs'=>?_,hrest⟩,
     hpnOf I' hfl (fun k hk=>by rw[hW]at hk;split at hk;cases hk;exact hk) st'⟩
    ·have e:=lg_ (t0:=t0) g.one hil hA hW T' av
     rw[hxg]at e
     rw[e,low3]
     exact(I'.hr.up st'.le).put rv
    ·rw[hset]
     split
     ·rfl
     ·rename_i e
      refine(I'.G.ch q' c hc').1 ?_ hqs
      have hne:q'≠q:=by rintro rfl;rw[hq]at hc';exact e (Option.some.inj hc').symm
      omega
    ·rw[hset]at h2
     split at h2
     ·rename_i e
      subst e
      have:=eA_ hq hc'
      omega
     ·have:=(I'.G.ch q' c hc').2 h1 h2
      omega
    ·rw[hset]at hpl
     split at hpl
     ·cases hpl
     ·have hnr:cA_ ops l.length i p=false:=by
       cases hz:cA_ ops l.length i p with
       | false=>rfl
       | true=>have:=f6_ hcl _ i p hshut hz;rw[hpl]at this;cases this
      exact hW_ hloose (mem_map.2 ⟨p,mem_filter.2 ⟨hp,by rw[hnr];rfl⟩,rfl⟩)
    ·rw[hset]at hpl
     split at hpl
     ·cases hpl
     ·rename_i hpi
      have hq'q:q'<q:=by
       have:q'≠q:=by rintro rfl;rw[hq]at hq';exact hpi (Option.some.inj hq').symm
       omega
      obtain⟨d2,e1,e2⟩:=I'.G.sl q' p hq' hq'q hps hpl
      have hpn:=(ev_ hq').1
      have hpi':p≠i:=by rintro rfl;have:=eA_ hq' hq;omega
      refine⟨d2,e1,?_⟩
      cases hxd:x.dst with
      | none =>
       rw[kg_ (eK_ hps).1 _ _ h']
       exact e2
      | some dx =>
       have hnd:dx∉(gat l p).reads:=by
        intro hr
        rcases g.rd p i dx hpn hil (by rw[hxg];exact hxd) hr with ⟨_,h2⟩|⟨_,_,hed⟩
        ·have:=g.edg q q' i p hq hq' hq'q;rw[h2]at this;cases this
        ·obtain⟨o,e,q1,q2,q3,q4⟩:=bO_ hed
         have:=i3 o e q1 q2 q3
         rw[q4]at this
         rw[this]at hpl;cases hpl
       rw[hR_ hnd,kg_ (eK_ hps).1 _ _ h',e2,cR_ (fun z=>by
        exact hpi' (g.one p i d2 hpn hil e1 (by rw[hxg,hxd];exact z)))]
    ·have hne:c≠i:=by rintro rfl;have:=eA_ hc' hq;omega
     rw[cR_ (fun z=>hne (g.one c i d (ev_ hc').1 hil hd (by rw[hxg];exact z)))]
     exact I'.G.old q' c d hc' hd (by omega)
    ·rw[cR_ (by rw[←hxg];exact hs' i hil)]
     exact I'.G.oth s hs'
  ·-- one that only looks
   have hch':bZ_ ops l i=false:=by simpa using hch
   have hip:i∈o0_ ops l:=mem_filter.2 ⟨mem_range.2 hil,by rw[hch'];rfl⟩
   have hni:dw_ l i=false:=by
    cases z:dw_ l i with
    | false=>rfl
    | true =>
     rw[iW_ z hil]at hch';cases hch'
   have hnw:∀k,k<i→bP_ ops i k=true→bc_ ops l L j k=false:=by
    intro k hki hed
    cases hw:bc_ ops l L j k with
    | false=>rfl
    | true =>
     exfalso
     unfold bc_ at hw
     simp only[Bool.and_eq_true]at hw
     have h1:(gat l k).op.calm=false:=by
      rcases(h8_ hw.1.2).1 with ⟨E,z,e⟩|⟨E,sz,z,e⟩<;>(rw[e];rfl)
     have:bZ_ ops l i=true:=by
      unfold bZ_
      rw[Bool.or_eq_true]
      right
      rw[any_eq_true]
      refine⟨k,mem_range.2 hki,?_⟩
      rw[Bool.and_eq_true]
      refine⟨by rw[h1];rfl,?_⟩
      obtain⟨n,hn⟩:∃n,l.length=n+1:=⟨l.length-1,by omega⟩
      rw[hn,cA_,hed];rfl
     rw[hch']at this;cases this
   obtain⟨d,hd,hev⟩:=I.G.pre i hip hi2
   rw[hxg]at hd hev
   have hcalm:x.op.calm=true:=by
    have:=hch'
    rw[bZ_,Bool.or_eq_false_iff,hxg]at this
    simpa using this.1
   exact hni_edge hni j T h S I ⟨d,hd,hev⟩ hcalm hnw (fun q hq=>by rw[(ev_ hq).2]at hch';cases hch')
theorem oc_{h:List Row}{Kp:(Nat→AV)→Prop}:∀{pre:List LI} {t:Nat→AV},hn_ h pre t Kp→∃T,(∀s,(∀x∈pre,x.dst≠some s)→T s=t s)∧Kp T
 | [],t,q=>⟨t,fun _ _=>rfl,q⟩
 | i::r,t,q=>by
  unfold hn_ at q
  split at q
  ·rename_i v hv
   obtain⟨T,h1,h2⟩:=oc_ q
   exact⟨T,fun s hs=>by rw[h1 s (fun x hx=>hs x (by simp[hx])),cR_ (hs i (by simp))],h2⟩
  ·exact q.elim
theorem lN_{S:Sit}{w:World}{a:Act}{t:Nat→AV}{h:List Row}(hl:ops.toList.mapM (bk_ P N ops)=some l)(hok:gO_ ops l=true)(hw:gWp P (lH_ ops l) (hL_ ops l) t h K)(hm:ab_ S h w)(hgl:cn_ P S)(hr:Rel S N t a)
 (hQ:∀S' t' h' a' w',a0_ S w S' w'→ab_ S' h' w'→Rel S' N t' a'→K t' h'→Q .normal a' w'):wpAny P .any ops Q ops.size (Array.replicate ops.size false) a { w with drawn:=w.drawn+1 }:=by
 have g:=qK_ hok
 obtain⟨T,h1,h2,h3⟩:=oc_ hw
 have hL:∀k,(Array.replicate ops.size false).getD k false=false:=by
  intro k
  rw[Array.getD_eq_getD_getElem?]
  by_cases q:k<ops.size
  ·rw[Array.getElem?_eq_getElem (by simpa using q)];simp
  ·rw[Array.getElem?_eq_none (by simpa using q)];rfl
 have hA0:∀k,aW_ ops l (Array.replicate ops.size false) 0 k=false:=fun k=>by unfold aW_;rw[hL];rfl
 have hW0:∀k,bc_ ops l (Array.replicate ops.size false) 0 k=false:=fun k=>by unfold bc_;rw[hL];rfl
 have hcur:en_ l t T (aW_ ops l (Array.replicate ops.size false) 0) (bc_ ops l (Array.replicate ops.size false) 0)=t:=by
  funext s
  refine fM_ (fun k _ hk=>?_) (fun k _ hk=>?_)
  ·rw[hA0]at hk;cases hk
  ·rw[hW0]at hk;cases hk
 have hm':ab_ S h { w with drawn:=w.drawn+1 }:=hm.moved rfl
 have hst:a0_ S w S { w with drawn:=w.drawn+1 }:=⟨.refl S,rfl,rfl,rfl,Nat.le_refl _,fun _ _ _=>rfl,fun _ q=>.inl q,fun _ _ q=>.inl q⟩
 have inPre:∀x∈lH_ ops l,∃p,p∈o0_ ops l∧p<l.length∧bZ_ ops l p=false∧gat l p=x:=by
  intro x hx
  obtain⟨p,hp,e⟩:=mem_map.1 hx
  have:=mem_filter.1 hp
  exact⟨p,hp,mem_range.1 this.1,by simpa using this.2,e⟩
 have G:Gm P ops l t K (Array.replicate ops.size false) 0 T h:=by
  refine⟨fun q c _=>⟨fun q=>by omega,fun _ q=>by rw[hL]at q;cases q⟩,fun p hp _=>hW_ h2 (mem_map.2 ⟨p,hp,rfl⟩),fun q p _ hq=>by omega,fun q c d hc0 hd _=>?_,fun s hs=>?_,by simpa[hL_]using h3⟩
  ·obtain⟨hc,hcc⟩:=ev_ hc0
   refine h1 d fun x hx hxd=>?_
   obtain⟨p,_,hpl,hpc,e⟩:=inPre x hx
   have:=g.one p c d hpl hc (by rw[e];exact hxd) hd
   subst this
   rw[hcc]at hpc;cases hpc
  ·refine h1 s fun x hx hxd=>?_
   obtain⟨p,_,hpl,_,e⟩:=inPre x hx
   exact hs p hpl (by rw[e];exact hxd)
 refine uL_ (S0:=S) (w0:=w) (K:=K) (t0:=t) hgl hl g (fun S' T' h' a' w' st hm' hr' hk=>hQ S' T' h' a' w' st hm' hr' hk) ops.size _ 0 T h S a _ (fun _=>0) ?_ (by simp) ?_ ⟨hst,hm',by rw[hcur];exact hr,G,⟨fun k _ hk=>absurd hk (by rw[hW0];simp),fun k _ _ _ hk=>absurd hk (by rw[hW0];simp)⟩⟩
 ·have:=countP_le_length (p:=fun b:Bool=>!b) (l:=(Array.replicate ops.size false).toList)
  simpa using this
 ·intro k hk
  rw[hL]at hk;cases hk
theorem ry_{id:Nat}{S:Sit}{w:World}{a:Act}{t:Nat→AV}{h:List Row}(hmx:P.follows .mixedOrders=true)(hl:ops.toList.mapM (bk_ P N ops)=some l)(hok:gO_ ops l=true)(hw:gWp P (lH_ ops l) (hL_ ops l) t h K)(hm:ab_ S h w)(hgl:cn_ P S)(hr:Rel S N t a)
 (hQ:∀S' t' h' a' w',a0_ S w S' w'→ab_ S' h' w'→Rel S' N t' a'→K t' h'→Q .normal a' w'):(Code.region id ops true).wp P Q a w :=
 wp_region_any hmx (lN_ hl hok hw hm hgl hr hQ)
end
section
variable {P : Program} {N : Nat} {Q : Exit → Act → World → Prop} {ops : Array Oper}
theorem cL_(i k:Nat):(ct_ ops i k).size=ops.size:=by simp[ct_]
theorem eT_(i k j:Nat):(ct_ ops i k)[j]?=(ops[j]?).map fun o=>if i=j then { o with after:=o.after.push ⟨k,.data⟩ } else o:=by
 unfold ct_
 rw[Array.getElem?_modify]
 split
 ·rfl
 ·cases ops[j]?<;>rfl
theorem pg_(i k:Nat)(tmps:Array Value):yielded (ct_ ops i k) tmps=yielded ops tmps:=by
 funext j
 unfold yielded
 rw[eT_]
 cases ops[j]? with
 | none=>rfl
 | some o =>
  by_cases e:i=j
  ·simp only[Option.map_some,if_pos e];rfl
  ·simp only[Option.map_some,if_neg e]
theorem tL_(i k j:Nat)(K:Act→World→Prop)(a:Act)(w:World):wpOp P (ct_ ops i k) Q j K a w=wpOp P ops Q j K a w:=by
 unfold wpOp
 rw[eT_,pg_]
 cases ops[j]? with
 | none=>rfl
 | some o =>
  simp only[Option.map_some]
  split<;>rfl
theorem nq_(i k:Nat)(L:Array Bool):∀j∈Region.ready .any (ct_ ops i k) L,j∈Region.ready .any ops L:=by
 intro j hj
 unfold Region.ready at hj⊢
 rw[mem_filter]at hj⊢
 rw[cL_]at hj
 refine⟨hj.1,?_⟩
 have h2:=hj.2
 rw[eT_]at h2
 rw[Bool.and_eq_true]at h2⊢
 refine⟨h2.1,?_⟩
 have h3:=h2.2
 cases ho:ops[j]? with
 | none=>rw[ho]at h3;simp at h3
 | some o =>
  rw[ho]at h3
  simp only[Option.map_some,Option.getD_some]at h3⊢
  split at h3
  ·rw[Array.all_push,Bool.and_eq_true]at h3
   exact h3.1
  ·exact h3
theorem if_(i k:Nat)(L:Array Bool)(hk:L.getD k false=true):Region.ready .any (ct_ ops i k) L=Region.ready .any ops L:=by
 unfold Region.ready
 rw[cL_]
 refine filter_congr fun j _=>?_
 rw[eT_]
 cases ops[j]? with
 | none=>rfl
 | some o =>
  simp only[Option.map_some,Option.getD_some]
  split
  ·rw[Array.all_push,hk,Bool.or_true,Bool.and_true]
  ·rfl
theorem fw_(i k j:Nat)(L:Array Bool)(hj:j≠i)(h:j∈Region.ready .any ops L):j∈Region.ready .any (ct_ ops i k) L:=by
 unfold Region.ready at h⊢
 rw[mem_filter]at h⊢
 rw[cL_]
 refine⟨h.1,?_⟩
 have h2:=h.2
 rw[eT_]
 cases ho:ops[j]? with
 | none=>rw[ho]at h2;exact h2
 | some o =>
  rw[ho]at h2
  simp only[Option.map_some,Option.getD_some]at h2⊢
  rw[if_neg (Ne.symm hj)]
  exact h2
theorem vB_{L:Array Bool}{i k:Nat}(h:L.getD k false=true):(L.setIfInBounds i true).getD k false=true:=by
 rw[Array.getD_eq_getD_getElem?]at h⊢
 rw[Array.getElem?_setIfInBounds]
 split
 ·split
  ·rfl
  ·rename_i e1 e2
   subst e1
   rw[Array.getElem?_eq_none (by omega)]at h;cases h
 ·exact h
def fa_(ops:Array Oper):Array Bool→List Nat→Prop
 | L,[]=>Region.ready .any ops L=[]
 | L,i::r=>i∈Region.ready .any ops L∧fa_ ops (L.setIfInBounds i true) r
theorem k8_:∀(o:List Nat) (fuel:Nat) (L:Array Bool) (a:Act) (w:World),fa_ ops L o→wpAny P .any ops Q fuel L a w→wpOps P ops Q o a w
 | [],0,L,a,w,_,h=>h.2
 | [],fuel+1,L,a,w,ho,h=>h.1 ho
 | i::r,0,L,a,w,ho,h=>by
  have:=ho.1
  rw[h.1]at this;cases this
 | i::r,fuel+1,L,a,w,ho,h=>by
  rw[wpOps_cons]
  exact wpOp_mono (fun a' w' q=>k8_ r fuel _ a' w' ho.2 q) (h.2 i ho.1)
theorem e7_{L:Array Bool}{j:Nat}(h:j∈Region.ready .any ops L):j<ops.size∧L.getD j true=false:=by
 unfold Region.ready at h
 rw[mem_filter,mem_range,Bool.and_eq_true,Bool.not_eq_true']at h
 exact⟨h.1,h.2.1⟩
theorem pH_:∀(fuel t:Nat) (L:Array Bool),L.size=ops.size→L.toList.countP (fun b=>!b)≤fuel→fa_ ops L (Region.linearise.go .any ops fuel t L [])
 | 0,t,L,hs,hc=>by
  show Region.ready .any ops L=[]
  cases hr:Region.ready .any ops L with
  | nil=>rfl
  | cons y r =>
   exfalso
   obtain⟨h1,h2⟩:=e7_ (ops:=ops) (L:=L) (j:=y) (by rw[hr];exact mem_cons_self)
   have h0:L.toList.countP (fun b=>!b)=0:=by omega
   rw[countP_eq_zero]at h0
   have hmem:L.getD y true∈L.toList:=by
    rw[Array.getD_eq_getD_getElem?,Array.getElem?_eq_getElem (by omega)]
    simp
   have:=h0 _ hmem
   rw[h2]at this
   simp at this
 | fuel+1,t,L,hs,hc=>by
  simp only[Region.linearise.go]
  change fa_ ops L (match(Region.ready .any ops L)[t % (Region.ready .any ops L).length]? with
   | some i=>Region.linearise.go .any ops fuel (t / (Region.ready .any ops L).length) (L.setIfInBounds i true) [i]
   | none=>[].reverse)
  cases hi:(Region.ready .any ops L)[t % (Region.ready .any ops L).length]? with
  | none =>
   show Region.ready .any ops L=[]
   rw[getElem?_eq_none_iff]at hi
   by_cases hz:(Region.ready .any ops L).length=0
   ·exact eq_nil_of_length_eq_zero hz
   ·have:=Nat.mod_lt t (Nat.pos_of_ne_zero hz)
    omega
  | some i =>
   have hm:=mem_of_getElem? hi
   obtain⟨h1,h2⟩:=e7_ hm
   simp only
   rw[linearise_go_acc]
   refine⟨hm,pH_ fuel _ _ (by simp[hs]) ?_⟩
   have hlt:i<L.toList.length:=by simp;omega
   have hv:L.toList[i]=false:=by
    rw[Array.getD_eq_getD_getElem?,Array.getElem?_eq_getElem (by omega)]at h2
    simpa using h2
   rw[Array.toList_setIfInBounds,countP_set hlt,hv]
   simp only[Bool.not_false,Bool.not_true,if_true,Bool.false_eq_true,if_false]
   omega
theorem jT_{L:Array Bool}{j:Nat}(h:L.getD j true=false):(L.setIfInBounds j true).getD j false=true:=by
 have hlt:j<L.size:=by
  by_cases q:j<L.size
  ·exact q
  ·rw[Array.getD_eq_getD_getElem?,Array.getElem?_eq_none (by omega)]at h;cases h
 rw[Array.getD_eq_getD_getElem?,Array.getElem?_setIfInBounds,if_pos rfl,if_pos hlt];rfl
theorem jw_(i k:Nat):∀(o:List Nat) (L:Array Bool),L.getD k false=true→fa_ ops L o→fa_ (ct_ ops i k) L o
 | [],L,hk,h=>by
  show Region.ready .any (ct_ ops i k) L=[]
  rw[if_ i k L hk];exact h
 | j::r,L,hk,h=>⟨by rw[if_ i k L hk];exact h.1,jw_ i k r _ (vB_ hk) h.2⟩
theorem kX_(i k:Nat)(hik:i≠k):∀(o:List Nat) (L:Array Bool),fa_ ops L o→fa_ (ct_ ops i k) L o∨fa_ (ct_ ops k i) L o
 | [],L,h=>by
  left
  show Region.ready .any (ct_ ops i k) L=[]
  have h0:Region.ready .any ops L=[]:=h
  cases hr:Region.ready .any (ct_ ops i k) L with
  | nil=>rfl
  | cons j r =>
   have:=nq_ i k L j (by rw[hr];exact mem_cons_self)
   rw[h0]at this;cases this
 | j::r,L,h=>by
  obtain⟨hj,hr⟩:=h
  obtain⟨_,hjL⟩:=e7_ hj
  by_cases e:j=i
  ·subst e
   exact .inr ⟨fw_ k j j L hik hj,jw_ k j r _ (jT_ hjL) hr⟩
  ·by_cases e2:j=k
   ·subst e2
    exact .inl ⟨fw_ i j j L e hj,jw_ i j r _ (jT_ hjL) hr⟩
   ·rcases kX_ i k hik r _ hr with q|q
    ·exact .inl ⟨fw_ i k j L e hj,q⟩
    ·exact .inr ⟨fw_ k i j L e2 hj,q⟩
theorem iS_(i k:Nat):∀(o:List Nat) (a:Act) (w:World),wpOps P (ct_ ops i k) Q o a w=wpOps P ops Q o a w
 | [],a,w=>rfl
 | j::r,a,w=>by
  rw[wpOps_cons,wpOps_cons,tL_]
  congr 1
  funext a' w'
  exact iS_ i k r a' w'
section
variable {σ : List Nat}
theorem oa_(p:Nat)(hp:p<σ.length):(dZ_ σ ops)[p]?=some (match ops[σ[p]]? with
 | some o=>{ o with after:=o.after.map fun e=>{ e with on:=σ.idxOf e.on } }
 | none=>default):=by
 unfold dZ_
 rw[getElem?_toArray,getElem?_map,getElem?_eq_getElem hp];rfl
theorem e8_:(dZ_ σ ops).size=σ.length:=by simp[dZ_]
structure qf_(σ:List Nat)(n:Nat):Prop where
 nd:σ.Nodup
 mem:∀i,i∈σ↔i<n
 len:σ.length=n
theorem qC_{σ:List Nat}{n:Nat}(h:go_ σ (List.range n)=true):qf_ σ n:=by
 simp only[go_,Bool.and_eq_true,all_eq_true]at h
 have nd:=j3_ h.1.1
 have h1:∀i,i∈σ↔i<n:=fun i=>⟨fun q=>by have:=h.1.2 i q;simpa using this,fun q=>by have:=h.2 i (mem_range.2 q);simpa using this⟩
 refine⟨nd,h1,?_⟩
 have a1:σ.length≤(List.range n).length:=by
  refine List.Nodup.length_le_of_subset nd ?_
  intro i hi
  exact mem_range.2 ((h1 i).1 hi)
 have a2:(List.range n).length≤σ.length:=by
  refine List.Nodup.length_le_of_subset nodup_range ?_
  intro i hi
  exact(h1 i).2 (mem_range.1 hi)
 rw[length_range]at a1 a2
 omega
variable (hp : qf_ σ ops.size) (hg : ∀ (i : Nat) (o : Oper), ops[i]? = some o → o.guard = none)
include hp
theorem kq_{i:Nat}(h:i<ops.size):σ.idxOf i<σ.length:=idxOf_lt_length_of_mem ((hp.mem i).2 h)
theorem m5_{i:Nat}(h:i<ops.size):σ[σ.idxOf i]'(kq_ hp h)=i:=getElem_idxOf _
theorem w8_{p:Nat}(h:p<σ.length):σ.idxOf σ[p]=p:=hp.nd.idxOf_getElem p h
theorem pu_{i:Nat}{o:Oper}(h:ops[i]?=some o):(dZ_ σ ops)[σ.idxOf i]?=some { o with after:=o.after.map fun e=>{ e with on:=σ.idxOf e.on } }:=by
 have hi:i<ops.size:=(Array.getElem?_eq_some_iff.1 h).1
 rw[oa_ _ (kq_ hp hi),m5_ hp hi,h]
def kR_(σ:List Nat)(n:Nat)(L L':Array Bool):Prop:=L.size=n∧L'.size=n∧∀i,i<n→L'.getD (σ.idxOf i) false=L.getD i false
omit hp in
theorem ok_{L:Array Bool}{i:Nat}(h:i<L.size)(b c:Bool):L.getD i b=L.getD i c:=by
 rw[Array.getD_eq_getD_getElem?,Array.getD_eq_getD_getElem?,Array.getElem?_eq_getElem h];rfl
theorem tl_{L L':Array Bool}(hL:kR_ σ ops.size L L')(i:Nat):L'.getD (σ.idxOf i) false=L.getD i false:=by
 by_cases h:i<ops.size
 ·exact hL.2.2 i h
 ·have h1:i∉σ:=fun q=>h ((hp.mem i).1 q)
  rw[idxOf_eq_length h1,Array.getD_eq_getD_getElem?,Array.getD_eq_getD_getElem?,Array.getElem?_eq_none (by rw[hL.2.1,hp.len];exact Nat.le_refl _),Array.getElem?_eq_none (by rw[hL.1];omega)]
theorem lU_{L L':Array Bool}(hL:kR_ σ ops.size L L'){i:Nat}(hi:i<ops.size):(i∈Region.ready .any ops L↔σ.idxOf i∈Region.ready .any (dZ_ σ ops) L'):=by
 unfold Region.ready
 rw[mem_filter,mem_filter,mem_range,mem_range,e8_,pu_ hp (Array.getElem?_eq_getElem hi),Array.getElem?_eq_getElem hi]
 have e1:L'.getD (σ.idxOf i) true=L.getD i true:=by
  rw[ok_ (by rw[hL.2.1,←hp.len];exact kq_ hp hi) true false,ok_ (by rw[hL.1];exact hi) true false]
  exact hL.2.2 i hi
 rw[e1]
 simp only[hi,kq_ hp hi,true_and,Option.map_some,Option.getD_some,Bool.and_eq_true]
 have e2:((ops[i].after.map fun e=>({ e with on:=σ.idxOf e.on }:Edge)).all fun e=>!Region.binds .any e||L'.getD e.on false)=ops[i].after.all fun e=>!Region.binds .any e||L.getD e.on false:=by
  rw[Array.all_map]
  congr 1
  funext e
  show(!Region.binds .any ({ e with on:=σ.idxOf e.on }:Edge)||L'.getD (σ.idxOf e.on) false)=_
  rw[tl_ hp hL]
  rfl
 rw[e2]
theorem tU_{L L':Array Bool}(hL:kR_ σ ops.size L L'){i:Nat}(hi:i<ops.size):kR_ σ ops.size (L.setIfInBounds i true) (L'.setIfInBounds (σ.idxOf i) true):=by
 refine⟨by simp[hL.1],by simp[hL.2.1],fun k hk=>?_⟩
 rw[Array.getD_eq_getD_getElem?,Array.getD_eq_getD_getElem?,Array.getElem?_setIfInBounds,Array.getElem?_setIfInBounds]
 have h1:=kq_ hp hi
 have hb:=hL.2.2 k hk
 rw[Array.getD_eq_getD_getElem?,Array.getD_eq_getD_getElem?]at hb
 by_cases e:i=k
 ·subst e
  rw[if_pos rfl,if_pos rfl,if_pos (by rw[hL.2.1,←hp.len];exact h1),if_pos (by rw[hL.1];exact hi)]
 ·have hne:σ.idxOf i≠σ.idxOf k:=fun q=>e (by
   have h2:=m5_ hp hi
   have h3:=m5_ hp hk
   simp only[q]at h2
   exact h2.symm.trans h3)
  rw[if_neg hne,if_neg e]
  exact hb
theorem mf_:∀(o:List Nat) (L L':Array Bool),kR_ σ ops.size L L'→fa_ ops L o→fa_ (dZ_ σ ops) L' (o.map σ.idxOf)
 | [],L,L',hL,h=>by
  show Region.ready .any (dZ_ σ ops) L'=[]
  have h0:Region.ready .any ops L=[]:=h
  cases hr:Region.ready .any (dZ_ σ ops) L' with
  | nil=>rfl
  | cons p r =>
   exfalso
   have hm:p∈Region.ready .any (dZ_ σ ops) L':=by rw[hr];exact mem_cons_self
   have hpl:=(e7_ hm).1
   rw[e8_]at hpl
   have hlt:σ[p]<ops.size:=(hp.mem _).1 (getElem_mem hpl)
   rw[←w8_ hp hpl]at hm
   have:=(lU_ hp hL hlt).2 hm
   rw[h0]at this;cases this
 | i::r,L,L',hL,h=>by
  have hi:=(e7_ h.1).1
  exact⟨(lU_ hp hL hi).1 h.1,mf_ r _ _ (tU_ hp hL hi) h.2⟩
include hg
theorem l4_:∀(o:List Nat) (L:Array Bool) (a:Act) (w:World),fa_ ops L o→wpOps P (dZ_ σ ops) Q (o.map σ.idxOf) a w→wpOps P ops Q o a w
 | [],L,a,w,_,h=>h
 | i::r,L,a,w,ho,h=>by
  have hi:=(e7_ ho.1).1
  rw[map_cons,wpOps_cons]at h
  rw[wpOps_cons]
  have hgi:=hg i _ (Array.getElem?_eq_getElem hi)
  unfold wpOp at h⊢
  rw[pu_ hp (Array.getElem?_eq_getElem hi)]at h
  rw[Array.getElem?_eq_getElem hi]
  have w1:∀y,Region.wanted ops[i] y=true:=fun y=>by unfold Region.wanted;rw[hgi]
  have w2:∀y,Region.wanted ({ ops[i]with after:=ops[i].after.map fun e=>({ e with on:=σ.idxOf e.on }:Edge) }:Oper) y=true:=fun y=>by unfold Region.wanted;simp only[hgi]
  simp only[w1,w2,if_true]at h⊢
  exact h.imp (Oper.wp_mono (o:=ops[i]) fun a' w' q=>l4_ r _ a' w' ho.2 q) id
end
end
theorem g5_{P:Program}{N:Nat}{ops ops':Array Oper}{o:Oper}{af:Array Edge}(hg:o.guard=none):bk_ P N ops' { o with after:=af }=bk_ P N ops o:=by
 unfold bk_
 simp only[hg]
theorem m2_{α β:Type}{f:α→Option β}:∀{xs:List α} {ys:List β},xs.length=ys.length→(∀i (h:i<xs.length) (h':i<ys.length),f xs[i]=some ys[i])→xs.mapM f=some ys
 | [],[],_,_=>rfl
 | [],_::_,h,_=>by simp at h
 | _::_,[],h,_=>by simp at h
 | x::xs,y::ys,h,hf=>by
  have h0:f x=some y:=hf 0 (by simp) (by simp)
  rw[mapM_cons,h0,m2_ (xs:=xs) (ys:=ys) (by simpa using h) (fun i h1 h2=>by have:=hf (i+1) (by simpa using h1) (by simpa using h2);simpa using this)]
  rfl
theorem pU_{α β:Type}{f:α→Option β}:∀{xs:List α} {ys:List β},xs.mapM f=some ys→xs.length=ys.length
 | [],ys,h=>by cases h;rfl
 | x::xs,ys,h=>by
  rw[mapM_cons]at h
  cases h1:f x with
  | none=>rw[h1]at h;cases h
  | some y =>
   cases h2:xs.mapM f with
   | none=>rw[h1,h2]at h;cases h
   | some zs =>
    rw[h1,h2]at h
    have:=Option.some.inj h
    subst this
    rw[List.length_cons,List.length_cons,pU_ h2]
section
variable {P : Program} {N : Nat} {Q : Exit → Act → World → Prop} {K : (Nat → AV) → List Row → Prop}
theorem jz_{S:Sit}{w:World}{a:Act}{t:Nat→AV}{h:List Row}(hm:ab_ S h w)(hgl:cn_ P S)(hr:Rel S N t a)
 (hQ:∀S' t' h' a' w',a0_ S w S' w'→ab_ S' h' w'→Rel S' N t' a'→K t' h'→Q .normal a' w') :
 ∀(f:Nat) (ops:Array Oper) (l:List LI) (as:List (List LI×List (LI×List LI))),ops.toList.mapM (bk_ P N ops)=some l→(l.all fun x=>x.guard.isNone)=true→gN_ f ops l=some as→(∀p∈as,gWp P p.1 p.2 t h K) →
  ∀o,fa_ ops (Array.replicate ops.size false) o→wpOps P ops Q o a { w with drawn:=w.drawn+1 }
 | 0,ops,l,as,_,_,ha,_=>by simp[gN_]at ha
 | f+1,ops,l,as,hl,hg,ha,hw=>by
  intro o ho
  rw[gN_]at ha
  split at ha
  ·rename_i hok
   have:=Option.some.inj ha
   subst this
   exact k8_ o _ _ a _ ho (lN_ hl hok (hw _ mem_cons_self) hm hgl hr hQ)
  ·split at ha
   ·cases ha
   ·rename_i ia ic hb
    split at ha
    ·rename_i hc
     simp only[Bool.and_eq_true,decide_eq_true_eq]at hc
     obtain⟨⟨c1,c2⟩,c3⟩:=hc
     split at ha
     ·rename_i x y hx hy
      have:=Option.some.inj ha
      subst this
      have hll:=pU_ hl
      have hlen:l.length=ops.size:=by rw[←hll];simp
      have hpt:∀i (h1:i<ops.size),bk_ P N ops ops[i]=some (gat l i):=by
       intro i h1
       obtain⟨x,hx,hlow⟩:=fB_ hl i ops[i] (by simp)
       rw[hlow]
       congr 1
       rw[gat,getD_eq_getElem?_getD,hx];rfl
      have hgd:∀(i:Nat) (o:Oper),ops[i]?=some o→o.guard=none:=by
       intro i o ho
       obtain⟨h1,e⟩:=Array.getElem?_eq_some_iff.1 ho
       have h2:=hpt i h1
       rw[e]at h2
       obtain⟨_,_,_,_,h3⟩:=cW_ h2
       rcases h3 with h3|⟨j,wt,d,h3,_,_,h4⟩
       ·exact h3.1
       ·exfalso
        rw[all_eq_true]at hg
        have hmem:gat l i∈l:=by
         rw[gat,getD_eq_getElem?_getD,getElem?_eq_getElem (by omega)]
         exact getElem_mem _
        have:=hg _ hmem
        rw[h4]at this;simp at this
      have lowAdd:∀i k,(ct_ ops i k).toList.mapM (bk_ P N (ct_ ops i k))=some l:=by
       intro i k
       refine m2_ (by simp[cL_,hlen]) fun j h1 h2=>?_
       have h3:j<ops.size:=by omega
       have e:=eT_ (ops:=ops) i k j
       rw[Array.getElem?_eq_getElem h3]at e
       have e2:(ct_ ops i k).toList[j]=if i=j then { ops[j]with after:=ops[j].after.push ⟨k,.data⟩ } else ops[j]:=by
        rw[Array.getElem_toList]
        have h4:j<(ct_ ops i k).size:=by rw[cL_];exact h3
        rw[Array.getElem?_eq_getElem h4]at e
        exact Option.some.inj e
       rw[e2]
       have e3:l[j]=gat l j:=by rw[gat,getD_eq_getElem?_getD,getElem?_eq_getElem h2];rfl
       rw[e3,←hpt j h3]
       have hgj:=hgd j _ (Array.getElem?_eq_getElem h3)
       split
       ·exact g5_ hgj
       ·exact g5_ (af:=ops[j].after) hgj
      rcases kX_ ic ia (by omega) o _ ho with q|q
      ·have h1:=jz_ hm hgl hr hQ f (ct_ ops ic ia) l x (lowAdd ic ia) hg hx (fun p hp=>hw p (mem_append_left _ hp)) o (by rw[cL_];exact q)
       rw[iS_]at h1
       exact h1
      ·have hp:qf_ (d8_ ops l.length ia ic) (ct_ ops ia ic).size:=by rw[cL_,←hlen];exact qC_ c3
       have hgd2:∀(i:Nat) (o:Oper),(ct_ ops ia ic)[i]?=some o→o.guard=none:=by
        intro i o ho
        rw[eT_]at ho
        cases h0:ops[i]? with
        | none=>rw[h0]at ho;cases ho
        | some o0 =>
         rw[h0]at ho
         have:=Option.some.inj ho
         have hz:=hgd i o0 h0
         subst this
         show(if ia=i then _ else _:Oper).guard=none
         split<;>exact hz
       have hlow:(dZ_ (d8_ ops l.length ia ic) (ct_ ops ia ic)).toList.mapM (bk_ P N (dZ_ (d8_ ops l.length ia ic) (ct_ ops ia ic)))=some ((d8_ ops l.length ia ic).map (gat l)):=by
        refine m2_ (by rw[Array.length_toList,e8_,length_map]) fun j h1 h2=>?_
        rw[Array.length_toList,e8_]at h1
        have hlt:=(hp.mem _).1 (getElem_mem h1)
        have e:=oa_ (ops:=ct_ ops ia ic) (σ:=d8_ ops l.length ia ic) j h1
        have h5:j<(dZ_ (d8_ ops l.length ia ic) (ct_ ops ia ic)).size:=by rw[e8_];exact h1
        rw[Array.getElem?_eq_getElem h5,Array.getElem?_eq_getElem hlt]at e
        have e:=Option.some.inj e
        simp only at e
        rw[Array.getElem_toList,e,getElem_map]
        rw[cL_]at hlt
        have hgj:=hgd2 _ _ (Array.getElem?_eq_getElem (by rw[cL_];exact hlt))
        rw[g5_ (ops:=ops) hgj,←hpt _ hlt]
        have e6:=eT_ (ops:=ops) ia ic (d8_ ops l.length ia ic)[j]
        rw[Array.getElem?_eq_getElem hlt,Array.getElem?_eq_getElem (by rw[cL_];exact hlt)]at e6
        have e6:=Option.some.inj e6
        rw[e6]
        have hgk:=hgd _ _ (Array.getElem?_eq_getElem hlt)
        split
        ·exact g5_ hgk
        ·rfl
       have hg2:(((d8_ ops l.length ia ic).map (gat l)).all fun x=>x.guard.isNone)=true:=by
        rw[all_map,all_eq_true]
        intro i hi
        rw[all_eq_true]at hg
        have h6:=(hp.mem i).1 hi
        rw[cL_,←hlen]at h6
        refine hg _ ?_
        rw[gat,getD_eq_getElem?_getD,getElem?_eq_getElem h6]
        exact getElem_mem _
       have hsame:kR_ (d8_ ops l.length ia ic) (ct_ ops ia ic).size (Array.replicate ops.size false) (Array.replicate (dZ_ (d8_ ops l.length ia ic) (ct_ ops ia ic)).size false):=by
        refine⟨by simp[cL_],by simp[e8_,hp.len],fun i hi=>?_⟩
        rw[Array.getD_eq_getD_getElem?,Array.getD_eq_getD_getElem?,Array.getElem?_replicate,Array.getElem?_replicate]
        split<;>split<;>rfl
       have hal:=mf_ hp o _ _ hsame q
       have h1:=jz_ hm hgl hr hQ f _ _ y hlow hg2 hy (fun p hp=>hw p (mem_append_right _ hp)) _ hal
       have h2:=l4_ hp hgd2 o _ a _ q h1
       rw[iS_]at h2
       exact h2
     ·cases ha
    ·cases ha
theorem r5_{id:Nat}{ops:Array Oper}{l:List LI}{as:List (List LI×List (LI×List LI))}{S:Sit}{w:World}{a:Act}{t:Nat→AV}{h:List Row}(hmx:P.follows .mixedOrders=true)(hl:ops.toList.mapM (bk_ P N ops)=some l)(hg:(l.all fun x=>x.guard.isNone)=true)(ha:gN_ 8 ops l=some as)
 (hw:∀p∈as,gWp P p.1 p.2 t h K) (hm:ab_ S h w) (hgl:cn_ P S) (hr:Rel S N t a)
 (hQ:∀S' t' h' a' w',a0_ S w S' w'→ab_ S' h' w'→Rel S' N t' a'→K t' h'→Q .normal a' w'):(Code.region id ops true).wp P Q a w:=by
 refine wp_region_draw fun n=>?_
 simp only[Region.schedule,hmx,Bool.true_or,if_true]
 exact jz_ hm hgl hr hQ 8 ops l as hl hg ha hw _ (pH_ ops.size n _ (by simp) (by
  have:=countP_le_length (p:=fun b:Bool=>!b) (l:=(Array.replicate ops.size false).toList)
  simpa using this))
end
structure rW_(ops:Array Oper)(l:List LI)(c:Nat):Prop where
 len:l.length=ops.size
 lt:c<l.length
 free:(gat l c).guard=none
 cmp:∀k,k<l.length→k≠c→(k<c→cA_ ops l.length c k=true)∧(¬ k<c→cA_ ops l.length k c=true)
 quiet:∀(i:Nat) (x:LI),l[i]?=some x→i≠c→x.op.quiet=true
 dst:∀(i:Nat) (x:LI),l[i]?=some x→∃d,x.dst=some d
 back:∀(i:Nat) (o:Oper) (e:Edge),ops[i]?=some o→e∈o.after→Region.binds .any e=true→e.on<i
 one:∀(i k:Nat) (d:Nat),(l[i]?).bind (·.dst)=some d→(l[k]?).bind (·.dst)=some d→i=k
 before:∀(i k:Nat) (x:LI) (d:Nat),l[i]?=some x→(l[k]?).bind (·.dst)=some d→d∈x.reads→k<i→bP_ ops i k=true
 behind:∀(i k:Nat) (x:LI) (d:Nat),l[i]?=some x→(l[k]?).bind (·.dst)=some d→d∈x.reads→¬ k<i→k≠i∧bP_ ops k i=true
theorem q0_{ops:Array Oper}{l:List LI}{c:Nat}(h:km_ ops l c=true):rW_ ops l c:=by
 simp only[km_,Bool.and_eq_true,beq_iff_eq,all_eq_true]at h
 obtain⟨⟨⟨⟨h0,hlt⟩,hfr⟩,hcm⟩,h1⟩:=h
 have hz:∀{i:Nat} {x:LI},l[i]?=some x→(x,i)∈l.zipIdx:=by
  intro i x hx
  exact mem_iff_getElem?.2 ⟨i,by simp[hx]⟩
 have bd:∀{k:Nat} {d:Nat},(l[k]?).bind (·.dst)=some d→∃y,l[k]?=some y∧y.dst=some d:=by
  intro k d hk
  cases hy:l[k]? with
  | none=>simp[hy]at hk
  | some y=>exact⟨y,rfl,by simpa[hy]using hk⟩
 have pair:∀{i k:Nat} {x y:LI},l[i]?=some x→l[k]?=some y→k≠i→eH_ ops i k x y=true∧¬ x.dst=y.dst:=by
  intro i k x y hx hy hki
  have:=(h1 (x,i) (hz hx)).2 (y,k) (hz hy)
  simp only[Bool.or_eq_true,beq_iff_eq,Bool.and_eq_true,Bool.not_eq_true']at this
  rcases this with q|q
  ·exact absurd q hki
  ·exact⟨q.1,by simpa using q.2⟩
 refine⟨h0,of_decide_eq_true hlt,by simpa using hfr,fun k hk hne=>?_,fun i x hx hne=>?_,fun i x hx=>?_,fun i o e ho he hb=>?_,fun i k d hi hk=>?_,fun i k x d hx hk hd hlt=>?_,fun i k x d hx hk hd hlt=>?_⟩
 ·have:=hcm k (mem_range.2 hk)
  simp only[Bool.or_eq_true,beq_iff_eq,hne,false_or]at this
  constructor
  ·intro q;rw[if_pos q]at this;exact this
  ·intro q;rw[if_neg q]at this;exact this
 ·have:=(h1 (x,i) (hz hx)).1.1.1
  simpa[hne]using this
 ·have:=(h1 (x,i) (hz hx)).1.1.2
  simp only at this
  split at this
  ·rename_i d hd;exact⟨d,hd⟩
  ·simp at this
 ·have hi:i<l.length:=by
   rw[h0];rcases Array.getElem?_eq_some_iff.1 ho with ⟨q,_⟩;exact q
  have:=(h1 (l[i],i) (hz (getElem?_eq_getElem hi))).1.2
  simp only[ho]at this
  rw[Array.all_eq_true]at this
  obtain⟨j,hj,e2⟩:=Array.mem_iff_getElem.1 he
  have:=this j hj
  rw[e2,hb]at this
  simpa using this
 ·obtain⟨x,hx,hxd⟩:=bd hi
  obtain⟨y,hy,hyd⟩:=bd hk
  by_cases e:i=k
  ·exact e
  ·exact absurd (by rw[hxd,hyd]) (pair hx hy (fun q=>e q.symm)).2
 ·obtain⟨y,hy,hyd⟩:=bd hk
  have:=(pair hx hy (by omega)).1
  simp only[eH_,hyd]at this
  simpa[hd,hlt]using this
 ·obtain⟨y,hy,hyd⟩:=bd hk
  have hne:k≠i:=by
   intro e
   subst e
   rw[hx]at hy;simp at hy;subst hy
   have:=(h1 (x,k) (hz hx)).1.1.2
   simp only[hyd]at this
   simp[hd]at this
  have:=(pair hx hy hne).1
  simp only[eH_,hyd]at this
  exact⟨hne,by simpa[hd,hlt]using this⟩
section
variable {P : Program} {N : Nat} {ops : Array Oper} {l : List LI} {t : Nat → AV} {vs : Nat → AV} {h : List Row} {S0 : Sit} {w0 : World} {Q : Exit → Act → World → Prop}
theorem mI_{l0:List LI}{c:Nat}{S0:Sit}{w0:World}{vs:Nat→AV}{h:List Row}(hgl:cn_ P S0)(hl:ops.toList.mapM (bk_ P N ops)=some l0)(hl0:l=l0.map LI.asImm)(hd:rW_ ops l c)(ok:Nat→Prop)[DecidablePred ok](Inv:Array Bool→Prop)(hokc:∀i,ok i→i≠c)
 (hinv:∀(listed:Array Bool) (i:Nat),ok i→Inv listed→Inv (listed.setIfInBounds i true))
 (hrun:∀(k:Nat) (x:LI),l[k]?=some x→ok k→match cb_ (tAt l t vs k) x.guard with
   | some true=>qWp P (tAt l t vs k) h (fun v=>v=vs k) x.op
   | some false=>vs k=.val Go.undef
   | none=>False)
 (fin:∀(listed:Array Bool) (S:Sit) (a:Act) (w:World),Inv listed→listed.size=ops.size→Region.ready .any ops listed=[]→a0_ S0 w0 S w→ab_ S h w→Rel S N (cC_ l t vs listed) a→Q .normal a w)
 (hnot:∀(fuel:Nat) (listed:Array Bool) (S:Sit) (a:Act) (w:World) (i:Nat),Inv listed→listed.toList.countP (fun b=>!b)≤fuel+1→listed.size=ops.size →
   (∀k o e,listed.getD k false=true→ops[k]?=some o→e∈o.after→Region.binds .any e=true→listed.getD e.on false=true) →
   a0_ S0 w0 S w→ab_ S h w→Rel S N (cC_ l t vs listed) a→i∈Region.ready .any ops listed→¬ ok i→wpOp P ops Q i (wpAny P .any ops Q fuel (listed.setIfInBounds i true)) a w) :
 ∀(fuel:Nat) (listed:Array Bool) (S:Sit) (a:Act) (w:World),Inv listed→listed.toList.countP (fun b=>!b)≤fuel→listed.size=ops.size →
  (∀k o e,listed.getD k false=true→ops[k]?=some o→e∈o.after→Region.binds .any e=true→listed.getD e.on false=true) →
  a0_ S0 w0 S w→ab_ S h w→Rel S N (cC_ l t vs listed) a→wpAny P .any ops Q fuel listed a w:=by
 intro fuel
 induction fuel with
 | zero =>
  intro listed S a w hI hc hs hcl st hm hr
  have hno:Region.ready .any ops listed=[]:=by
   rcases eq_nil_or_concat (Region.ready .any ops listed)with q|⟨ys,y,q⟩
   ·exact q
   ·exfalso
    have hy:y∈Region.ready .any ops listed:=by rw[q];simp
    obtain⟨h1,h2,_⟩:=dk_ hy
    have:listed.toList.countP (fun b=>!b)=0:=by omega
    rw[countP_eq_zero]at this
    have hmem:listed.getD y true∈listed.toList:=by
     rw[Array.getD_eq_getD_getElem?,Array.getElem?_eq_getElem (by omega)]
     simp
    have:=this _ hmem
    rw[h2]at this
    simp at this
  exact⟨hno,fin listed S a w hI hs hno st hm hr⟩
 | succ fuel ih =>
  intro listed S a w hI hc hs hcl st hm hr
  refine⟨fun hno=>fin listed S a w hI hs hno st hm hr,fun i hi=>?_⟩
  by_cases hok:ok i
  case neg=>exact hnot fuel listed S a w i hI hc hs hcl st hm hr hi hok
  obtain⟨i1,i2,i3⟩:=dk_ hi
  have ho:ops[i]?=some ops[i]:=Array.getElem?_eq_getElem i1
  obtain⟨x0,hx0,hlow⟩:=fB_ hl i ops[i] (by simp)
  obtain⟨low1,low2,low3',low4,_⟩:=cW_ hlow
  obtain⟨x,hxe⟩:∃x,x=x0.asImm:=⟨_,rfl⟩
  have hx:l[i]?=some x:=by rw[hl0,getElem?_map,hx0,hxe];rfl
  have low3:ops[i].dst=x.dst:=by rw[hxe];exact low3'
  have hxg:x.guard=x0.guard:=by rw[hxe];rfl
  have hxo:x.op=x0.op.asImm:=by rw[hxe];rfl
  obtain⟨d,hxd⟩:=hd.dst i x hx
  have hil:i<l.length:=by rw[hd.len];exact i1
  have hi2:listed.getD i false=false:=by
   rw[Array.getD_eq_getD_getElem?,Array.getElem?_eq_getElem (by omega)]at i2⊢
   simpa using i2
  have hreads:∀s∈x.reads,cC_ l t vs listed s=tAt l t vs i s:=by
   intro s hsr
   by_cases q:∃k:Nat,(l[k]?).bind (fun y:LI=>y.dst)=some s
   ·obtain⟨k,hk⟩:=q
    have hk':k<l.length:=by
     cases hx:l[k]? with
     | none=>simp[hx]at hk
     | some x=>rcases List.getElem?_eq_some_iff.1 hx with ⟨q,_⟩;exact q
    by_cases hki:k<i
    ·obtain⟨o,e,ho',he,hb,hon⟩:=bO_ (hd.before i k x s hx hk hsr hki)
     have hkl:=i3 o e ho' he hb
     rw[hon]at hkl
     rw[ci_ hd.one hk' hkl hk,fD_ hd.one hk hki]
    ·obtain⟨hne,hedge⟩:=hd.behind i k x s hx hk hsr hki
     obtain⟨o,e,ho',he,hb,hon⟩:=bO_ hedge
     have hkn:listed.getD k false≠true:=by
      intro hkl
      have:=hcl k o e hkl ho' he hb
      rw[hon,hi2]at this
      simp at this
     rw[bX_,dT_]
     ·intro k' hk' e
      have:=hd.one k k' s hk e
      omega
     ·intro k' hk'' e
      have:=hd.one k k' s hk e
      subst this
      exact hkn hk''
   ·rw[bX_ (fun k _ e=>q ⟨k,e⟩),dT_ (fun k _ e=>q ⟨k,e⟩)]
  have hcurset:cC_ l t vs (listed.setIfInBounds i true)=put (cC_ l t vs listed) x.dst (vs i):=by
   funext s
   rw[hxd]
   simp only[put,upd]
   have hdi:(l[i]?).bind (·.dst)=some d:=by simp[hx,hxd]
   by_cases e:s=d
   ·subst e
    rw[if_pos rfl,ci_ hd.one hil (by rw[cu_ (by omega)];simp) hdi]
   ·rw[if_neg e]
    by_cases q:∃k,listed.getD k false=true∧(l[k]?).bind (·.dst)=some s
    ·obtain⟨k,hk1,hk⟩:=q
     have hk':k<l.length:=by
      cases hx:l[k]? with
      | none=>simp[hx]at hk
      | some x=>rcases List.getElem?_eq_some_iff.1 hx with ⟨q,_⟩;exact q
     rw[ci_ hd.one hk' (by rw[cu_ (by omega)];split<;>simp_all) hk,ci_ hd.one hk' hk1 hk]
    ·rw[bX_ (fun k hk e'=>q ⟨k,hk,e'⟩),bX_]
     intro k hk e'
     rw[cu_ (by omega)]at hk
     split at hk
     ·rename_i eki
      subst eki
      rw[hdi]at e'
      simp at e'
      exact e e'.symm
     ·exact q ⟨k,hk,e'⟩
  have hcl':∀k o e,(listed.setIfInBounds i true).getD k false=true→ops[k]?=some o→e∈o.after→Region.binds .any e=true→(listed.setIfInBounds i true).getD e.on false=true:=by
   intro k o e hk ho' he hb
   rw[cu_ (by omega)]at hk⊢
   split at hk
   ·rename_i eki
    subst eki
    have:=i3 o e ho' he hb
    split
    ·rfl
    ·exact this
   ·have:=hcl k o e hk ho' he hb
    split
    ·rfl
    ·exact this
  have hcnt:(listed.setIfInBounds i true).toList.countP (fun b=>!b)≤fuel:=by
   have hlt:i<listed.toList.length:=by simp;omega
   have hv:listed.toList[i]=false:=by
    rw[Array.getD_eq_getD_getElem?,Array.getElem?_eq_getElem (by omega)]at hi2
    simpa using hi2
   rw[Array.toList_setIfInBounds,countP_set hlt,hv]
   simp only[Bool.not_false,Bool.not_true,if_true,Bool.false_eq_true,if_false]
   omega
  have next:∀v S' w',a0_ S w S' w'→ab_ S' h w'→Rep S' (vs i) v→wpAny P .any ops Q fuel (listed.setIfInBounds i true) (a.put ops[i].dst v) w':=by
   intro v S' w' st' hm' rv
   refine ih _ S' _ w' (hinv _ _ hok hI) hcnt (by simp[hs]) hcl' (st.trans st') hm' ?_
   rw[hcurset,low3]
   exact(hr.up st'.le).put rv
  have hrun':=hrun i x hx hok
  rw[←iw_ hreads]at hrun'
  simp only[wpOp,ho]
  cases hw:cb_ (cC_ l t vs listed) x.guard with
  | none=>rw[hw]at hrun';exact hrun'.elim
  | some q =>
   rw[hw]at hrun'
   rw[du_ hlow hr (hxg▸hw)]
   cases q with
   | true =>
    simp only[if_true]
    left
    have hq:=nU_ x.op (fun y hy=>(dm_ hreads y hy).symm) hrun'
    refine gP_ (Q:=Q) low1 low2 hm (hgl.up st.le) hr (hxo▸tE_ (hd.quiet i x hx (hokc i hok)) hq) ?_
    rintro v av S' h' w' st' hm' rv ⟨e1,e2⟩
    subst e1 e2
    exact next v S' w' st' hm' rv
   | false =>
    simp only[Bool.false_eq_true,if_false]
    refine next _ S w (a0_.refl _ _) hm ?_
    rw[hrun']
    simp[Rep]
theorem fT_{listed:Array Bool}(hcl:∀k o e,listed.getD k false=true→ops[k]?=some o→e∈o.after→Region.binds .any e=true→listed.getD e.on false=true) :
 ∀(f i k:Nat),cA_ ops f i k=true→(∀o e,ops[i]?=some o→e∈o.after→Region.binds .any e=true→listed.getD e.on false=true)→listed.getD k false=true
 | 0,_,_,h,_=>by simp[cA_]at h
 | f+1,i,k,h,hi=>by
  simp only[cA_,Bool.or_eq_true,any_eq_true,Bool.and_eq_true]at h
  rcases h with h|⟨m,_,h1,h2⟩
  ·obtain⟨o,e,a1,a2,a3,a4⟩:=bO_ h
   rw[←a4];exact hi o e a1 a2 a3
  ·obtain⟨o,e,a1,a2,a3,a4⟩:=bO_ h1
   have hm:=hi o e a1 a2 a3
   rw[a4]at hm
   exact fT_ hcl f m k h2 fun o e b1 b2 b3=>hcl m o e hm b1 b2 b3
theorem my_{ops:Array Oper}{l:List LI}{c:Nat}(hd:rW_ ops l c){listed:Array Bool}(hs:listed.size=ops.size)(h:Region.ready .any ops listed=[]):∀i,i<ops.size→listed.getD i false=true:=by
 intro i
 induction i using Nat.strongRecOn with
 | _ i ih =>
  intro hi
  cases hq:listed.getD i false with
  | true=>rfl
  | false =>
   have:i∈Region.ready .any ops listed:=by
    simp only[Region.ready,mem_filter,mem_range,Bool.and_eq_true,Bool.not_eq_true']
    refine⟨hi,?_,?_⟩
    ·rw[Array.getD_eq_getD_getElem?,Array.getElem?_eq_getElem (by omega)]at hq⊢
     simpa using hq
    ·have ho:=Array.getElem?_eq_getElem hi
     rw[ho]
     simp only[Option.map_some,Option.getD_some]
     rw[Array.all_eq_true]
     intro j hj
     cases hb:Region.binds .any ops[i].after[j]with
     | false=>simp
     | true =>
      have hlt:=hd.back i _ ops[i].after[j] ho (Array.getElem_mem hj) hb
      simp[ih _ hlt (by omega)]
   rw[h]at this
   simp at this
theorem jk_(one:∀(i k:Nat) (d:Nat),(l[i]?).bind (·.dst)=some d→(l[k]?).bind (·.dst)=some d→i=k){listed:Array Bool}{i:Nat}(h1:∀k,k<l.length→k<i→listed.getD k false=true)(h2:∀k,k<l.length→¬ k<i→listed.getD k false=false):cC_ l t vs listed=tAt l t vs i:=by
 funext s
 have hlt:∀k:Nat,(l[k]?).bind (fun y:LI=>y.dst)=some s→k<l.length:=by
  intro k hk
  cases hx:l[k]? with
  | none=>simp[hx]at hk
  | some x=>exact(List.getElem?_eq_some_iff.1 hx).1
 by_cases q:∃k:Nat,k<i∧(l[k]?).bind (fun y:LI=>y.dst)=some s
 ·obtain⟨k,hki,hk⟩:=q
  rw[ci_ one (hlt k hk) (h1 k (hlt k hk) hki) hk,fD_ one hk hki]
 ·rw[bX_,dT_ fun k hk e=>q ⟨k,hk,e⟩]
  intro k hk e
  by_cases hki:k<i
  ·exact q ⟨k,hki,e⟩
  ·rw[h2 k (hlt k e) hki]at hk;cases hk
theorem lI_:∀{i c:Nat},i≤c→tAt (l.take c) t vs i=tAt l t vs i
 | 0,_,_=>rfl
 | i+1,c,h=>by
  simp only[tAt]
  rw[lI_ (by omega),getElem?_take,if_pos (by omega)]
theorem j6_{vs':Nat→AV}:∀{i:Nat},(∀k,k<i→vs k=vs' k)→tAt l t vs i=tAt l t vs' i
 | 0,_=>rfl
 | i+1,h=>by
  simp only[tAt]
  rw[j6_ fun k hk=>h k (by omega),h i (by omega)]
theorem sD_{id c:Nat}{S:Sit}{w:World}{a:Act}{K:(Nat→AV)→List Row→Prop}(hmx:P.follows .mixedOrders=true){l0:List LI}(hl:ops.toList.mapM (bk_ P N ops)=some l0)(hl0:l=l0.map LI.asImm)(hok:km_ ops l c=true)
 (hw:d3_ P h (l.take c) t fun t1=>aX_ P t1 h (fun v h'=>d3_ P h' (l.drop (c+1)) (put t1 (gat l c).dst v) fun t2=>K t2 h') (gat l c).op) (hm:ab_ S h w) (hgl:cn_ P S) (hr:Rel S N t a)
 (hQ:∀S' t' h' a' w',a0_ S w S' w'→ab_ S' h' w'→Rel S' N t' a'→K t' h'→Q .normal a' w'):(Code.region id ops true).wp P Q a w:=by
 have hd:=q0_ hok
 have hlt:=hd.lt
 have htl:(l.take c).length=c:=by rw[length_take];omega
 obtain⟨vs,_,h2,h3⟩:=jx_ c (l.take c) 0 t (fun _=>.undef) (by omega) (by simpa[tAt]using hw)
 rw[htl,lI_ (Nat.le_refl _)]at h2
 have hm':ab_ S h { w with drawn:=w.drawn+1 }:=hm.moved rfl
 have hst:a0_ S w S { w with drawn:=w.drawn+1 }:=⟨.refl S,rfl,rfl,rfl,Nat.le_refl _,fun _ _ _=>rfl,fun _ q=>.inl q,fun _ _ q=>.inl q⟩
 have hlc:l[c]?=some (gat l c):=by rw[gat,getD_eq_getElem?_getD,getElem?_eq_getElem hlt];rfl
 have hopl:ops.size=l.length:=hd.len.symm
 have hnone:∀k:Nat,(Array.replicate ops.size false).getD k false=false:=by
  intro k
  rw[Array.getD_eq_getD_getElem?]
  by_cases q:k<ops.size
  ·rw[Array.getElem?_eq_getElem (by simpa using q)];simp
  ·rw[Array.getElem?_eq_none (by simpa using q)];rfl
 refine wp_region_any hmx ?_
 refine mI_ (S0:=S) (w0:=w) (vs:=vs) (h:=h) (t:=t) hgl hl hl0 hd (fun k=>k<c) (fun listed=>listed.getD c false=false) (fun i hi=>by omega) ?_ ?_ ?_ ?_ ops.size _ S a _ (hnone c) ?_ (by simp) ?_ hst hm' (by
  rw[jk_ (i:=0) hd.one (fun k _ q=>absurd q (Nat.not_lt_zero k)) (fun k _ _=>hnone k)];exact hr)
 ·intro listed i hi hI
  rw[Array.getD_eq_getD_getElem?,Array.getElem?_setIfInBounds]at *
  rw[if_neg (by omega)];exact hI
 ·intro k x hx hk
  have:=h3 k x (Nat.zero_le _) (by rw[getElem?_take,if_pos hk];exact hx)
  rw[lI_ (by omega)]at this
  exact this
 ·intro listed S' a' w' hI hs hn st' hm2 hr2
  exfalso
  have hall:=my_ hd hs hn
  rw[hall c (by omega)]at hI;cases hI
 ·intro fuel listed S' a' w' i hI hc hs hcl st' hm2 hr2 hi hnk
  obtain⟨i1,i2,i3⟩:=dk_ hi
  have hic:i=c:=by
   by_cases q:i=c
   ·exact q
   ·exfalso
    have:=fT_ hcl _ i c ((hd.cmp i (by omega) q).2 hnk) i3
    rw[hI]at this;cases this
  subst hic
  have hbef:∀k,k<l.length→k<i→listed.getD k false=true:=fun k hk hki=>fT_ hcl _ i k ((hd.cmp k hk (by omega)).1 hki) i3
  have haft:∀k,k<l.length→¬ k<i→listed.getD k false=false:=by
   intro k hk hki
   by_cases q:k=i
   ·subst q;exact hI
   ·cases hv:listed.getD k false with
    | false=>rfl
    | true =>
     have:=fT_ hcl _ k i ((hd.cmp k hk q).2 hki) (fun o e h1 h2 h3=>hcl k o e hv h1 h2 h3)
     rw[hI]at this;cases this
  rw[jk_ hd.one hbef haft]at hr2
  have ho:ops[i]?=some ops[i]:=Array.getElem?_eq_getElem i1
  obtain⟨x0,hx0,hlow⟩:=fB_ hl i ops[i] (by simp)
  obtain⟨low1,low2,low3',low4,_⟩:=cW_ hlow
  have hxe:gat l i=x0.asImm:=by
   have:l[i]?=some x0.asImm:=by rw[hl0,getElem?_map,hx0];rfl
   rw[hlc]at this;exact Option.some.inj this
  have low3:ops[i].dst=(gat l i).dst:=by rw[hxe];exact low3'
  have hxg:x0.guard=none:=by have:=hd.free;rw[hxe]at this;exact this
  have hxo:(gat l i).op=x0.op.asImm:=by rw[hxe];rfl
  simp only[wpOp,ho]
  rw[du_ hlow hr2 (q:=true) (by rw[hxg];rfl)]
  simp only[if_true]
  left
  refine gP_ (Q:=Q) low1 low2 hm2 (hgl.up st'.le) hr2 (hxo▸h2) ?_
  intro v av S2 h' w2 st2 hm3 rv hK
  obtain⟨vs0,hvs0⟩:∃vs0:Nat→AV,vs0=fun k=>if k=i then av else vs k:=⟨_,rfl⟩
  have ht0:tAt l t vs0 i=tAt l t vs i:=j6_ fun k hk=>by rw[hvs0];simp[Nat.ne_of_lt hk]
  have ht1:tAt l t vs0 (i+1)=put (tAt l t vs i) (gat l i).dst av:=by
   have hv:vs0 i=av:=by rw[hvs0];simp
   simp only[tAt,hlc]
   rw[ht0,hv]
  obtain⟨vs1,e1,e2,e3⟩:=jx_ (l.length-(i+1)) l (i+1) t vs0 (by omega) (by rw[ht1];exact hK)
  have ht2:tAt l t vs1 (i+1)=put (tAt l t vs i) (gat l i).dst av:=by rw[←ht1];exact j6_ e1
  have hset:∀k,(listed.setIfInBounds i true).getD k false=if k=i then true else listed.getD k false:=fun k=>cu_ (by omega)
  have stt:=st'.trans st2
  refine mI_ (S0:=S) (w0:=w) (vs:=vs1) (h:=h') (t:=t) hgl hl hl0 hd (fun k=>i<k) (fun listed=>∀k,k≤i→listed.getD k false=true) (fun k hk=>by omega) ?_ (fun k x hx hk=>e3 k x (by omega) hx) ?_ ?_ fuel _ S2 _ w2 ?_ ?_ (by simp[hs]) ?_ stt hm3 ?_
  ·intro listed k hk hI2 q hq
   rw[Array.getD_eq_getD_getElem?,Array.getElem?_setIfInBounds,if_neg (by omega),←Array.getD_eq_getD_getElem?]
   exact hI2 q hq
  ·intro listed S3 a3 w3 hI2 hs2 hn st3 hm4 hr4
   have hall:=my_ hd hs2 hn
   rw[jk_ (i:=l.length) hd.one (fun k hk _=>hall k (by omega)) (fun k hk q=>absurd hk q)]at hr4
   exact hQ S3 _ h' a3 w3 st3 hm4 hr4 e2
  ·intro fuel listed S3 a3 w3 k hI2 _ hs2 _ _ _ _ hk2 hnk2
   exfalso
   obtain⟨q1,q2,_⟩:=dk_ hk2
   have:=hI2 k (by omega)
   rw[Array.getD_eq_getD_getElem?,Array.getElem?_eq_getElem (by omega)]at this q2
   simp at this q2
   rw[this]at q2;cases q2
  ·intro k hk
   rw[hset]
   split
   ·rfl
   ·exact hbef k (by omega) (by omega)
  ·have hlt2:i<listed.toList.length:=by simp;omega
   have hv:listed.toList[i]=false:=by
    rw[Array.getD_eq_getD_getElem?,Array.getElem?_eq_getElem (by omega)]at i2
    simpa using i2
   rw[Array.toList_setIfInBounds,countP_set hlt2,hv]
   simp only[Bool.not_false,Bool.not_true,if_true,Bool.false_eq_true,if_false]
   omega
  ·intro k o e hk ho' he hb
   rw[hset]at hk⊢
   split at hk
   ·rename_i eki
    subst eki
    have:=i3 o e ho' he hb
    split
    ·rfl
    ·exact this
   ·have:=hcl k o e hk ho' he hb
    split
    ·rfl
    ·exact this
  ·have:cC_ l t vs1 (listed.setIfInBounds i true)=tAt l t vs1 (i+1):=by
    refine jk_ hd.one (fun k hk hki=>?_) (fun k hk hki=>?_)
    ·rw[hset];split
     ·rfl
     ·exact hbef k hk (by omega)
    ·rw[hset,if_neg (by omega)];exact haft k hk (by omega)
   rw[this,ht2,low3]
   exact(hr2.up st2.le).put rv
 ·have:=countP_le_length (p:=fun b:Bool=>!b) (l:=(Array.replicate ops.size false).toList)
  simpa using this
 ·intro k o e hk
  rw[hnone k]at hk;cases hk
end
section
variable {P : Program} {N : Nat} {pf : Bool}
def kF_(N:Nat)(S:Sit)(w:World)(Q:LE→(Nat→AV)→List Row→Prop)(e:Exit)(a':Act)(w':World):Prop :=
 ∃S' t' h',a0_ S w S' w'∧ab_ S' h' w'∧Rel S' N t' a' ∧
  match e with
  | .normal=>Q .normal t' h'
  | .exit id=>Q (.exit id) t' h'
  | .ret=>Q .ret t' h'
  | _=>False
theorem jW_{ops:Array Oper}{S0:Sit}{w0:World}{K:(Nat→AV)→List Row→Prop}{Q:Exit→Act→World→Prop}(hgl:cn_ P S0)
 (hQ:∀S t h a w,a0_ S0 w0 S w→ab_ S h w→Rel S N t a→K t h→Q .normal a w):∀(os:List Oper) (j:Nat) (l:List LI) (t:Nat→AV) (h:List Row) (S:Sit) (a:Act) (w:World),
 os=ops.toList.drop j→os.mapM (bk_ P N ops)=some l→f1_ P l t h K→a0_ S0 w0 S w→ab_ S h w→Rel S N t a→wpOps P ops Q (List.range' j os.length) a w
 | [],j,l,t,h,S,a,w,_,hl,hw,st,hm,hr=>by
  simp at hl;subst hl
  simp only[List.length_nil,range'_zero,wpOps]
  exact hQ S t h a w st hm hr hw
 | o::os,j,l,t,h,S,a,w,ho,hl,hw,st,hm,hr=>by
  rw[mapM_cons]at hl
  cases h1:bk_ P N ops o with
  | none=>simp[h1]at hl
  | some x =>
   cases h2:os.mapM (bk_ P N ops)with
   | none=>simp[h1,h2]at hl
   | some l' =>
    simp[h1,h2]at hl
    subst hl
    have hget:ops[j]?=some o:=by
     have:(ops.toList.drop j)[0]?=some o:=by rw[←ho];rfl
     simpa using this
    have hrest:os=ops.toList.drop (j+1):=by
     have:(ops.toList.drop j).drop 1=os:=by rw[←ho];rfl
     rw[drop_drop]at this
     exact this.symm
    obtain⟨low1,low2,low3,low4,_⟩:=cW_ h1
    simp only[List.length_cons,range'_succ]
    rw[wpOps_cons]
    simp only[wpOp,hget]
    simp only[f1_]at hw
    cases hq:cb_ t x.guard with
    | none=>rw[hq]at hw;exact hw.elim
    | some q =>
     rw[hq]at hw
     rw[du_ h1 hr hq]
     cases q with
     | true =>
      simp only[if_true]
      left
      refine j1_ (Q:=Q) low1 low2 hm (hgl.up st.le) hr hw ?_
      intro v av S' h' w' st' hm' rv hk
      refine jW_ hgl hQ os (j+1) l' _ h' S' _ w' hrest h2 hk (st.trans st') hm' ?_
      rw[low3]
      exact(hr.up st'.le).put rv
     | false =>
      simp only[Bool.false_eq_true,if_false]
      refine jW_ hgl hQ os (j+1) l' _ h S _ w hrest h2 hw st hm ?_
      rw[low3]
      exact hr.put (by simp[Rep])
theorem pe_{code:Code}(h:aS_ P N pf code=some .skip):code=.skip:=by
 cases code<;>simp only[aS_]at h<;>first|rfl|(repeat' split at h)<;>simp_all
theorem pj_{code:Code}{id:Nat}(h:aS_ P N pf code=some (.exit id)):code=.exit id:=by
 cases code<;>simp only[aS_]at h<;>first|(simp at h;subst h;rfl)|(repeat' split at h)<;>simp_all
theorem rm_{code:Code}(h:aS_ P N pf code=some .ret):code=.ret:=by
 cases code<;>simp only[aS_]at h<;>first|rfl|(repeat' split at h)<;>simp_all
theorem q5_{code:Code}{l:List LI}(h:aS_ P N pf code=some (.ops l)):∃id ops,code=.region id ops false∧ops.toList.mapM (bk_ P N ops)=some l:=by
 cases code with
 | region id ops draw =>
  simp only[aS_]at h
  split at h
  ·rename_i l' hl
   cases draw with
   | true =>
    simp only[if_true]at h
    (repeat' split at h)<;>simp at h
   | false =>
    simp at h;subst h
    exact⟨id,ops,rfl,hl⟩
  ·simp at h
 | _=>simp only[aS_]at h<;>(repeat' split at h)<;>simp_all
theorem o5_{code:Code}{l:List LI}(h:aS_ P N pf code=some (.dops l)):∃id ops l0,code=.region id ops true∧ops.toList.mapM (bk_ P N ops)=some l0∧l=l0.map LI.asImm∧iI_ ops l=true:=by
 cases code with
 | region id ops draw =>
  simp only[aS_]at h
  split at h
  ·rename_i l' hl
   cases draw with
   | true =>
    simp only[if_true]at h
    split at h
    ·simp at h
    ·split at h
     ·simp at h
     ·split at h
      ·rename_i hk
       simp at h;subst h
       exact⟨id,ops,l',rfl,hl,rfl,hk⟩
      ·split at h<;>simp at h
   | false=>simp at h
  ·simp at h
 | _=>simp only[aS_]at h<;>(repeat' split at h)<;>simp_all
theorem t1_{code:Code}{pre:List LI}{chain:List (LI×List LI)}(h:aS_ P N pf code=some (.gops pre chain)):∃id ops l,code=.region id ops true∧ops.toList.mapM (bk_ P N ops)=some l∧lH_ ops l=pre∧hL_ ops l=chain∧gO_ ops l=true:=by
 cases code with
 | region id ops draw =>
  simp only[aS_]at h
  split at h
  ·rename_i l' hl
   cases draw with
   | true =>
    simp only[if_true]at h
    split at h
    ·rename_i hk
     simp only[Bool.and_eq_true]at hk
     simp at h
     exact⟨id,ops,l',rfl,hl,h.1,h.2,hk.2⟩
    ·split at h
     ·simp at h
     ·split at h
      ·simp at h
      ·split at h
       ·rename_i hk
        simp at h
        exact⟨id,ops,l',rfl,hl,h.1,h.2,hk⟩
       ·simp at h
   | false=>simp at h
  ·simp at h
 | _=>simp only[aS_]at h<;>(repeat' split at h)<;>simp_all
theorem vc_{code:Code}{x:List (List LI×List (LI×List LI))}(h:aS_ P N pf code=some (.alts x)):∃id ops l,code=.region id ops true∧ops.toList.mapM (bk_ P N ops)=some l∧(l.all fun x=>x.guard.isNone)=true∧gN_ 8 ops l=some x:=by
 cases code with
 | region id ops draw =>
  simp only[aS_]at h
  split at h
  ·rename_i l' hl
   cases draw with
   | true =>
    simp only[if_true]at h
    split at h
    ·simp at h
    ·split at h
     ·simp at h
     ·split at h
      ·simp at h
      ·split at h
       ·simp at h
       ·split at h
        ·rename_i hk
         simp only[Option.map_eq_some_iff]at h
         obtain⟨y,h1,h2⟩:=h
         simp only[LC.alts.injEq]at h2
         subst h2
         exact⟨id,ops,l',rfl,hl,hk,h1⟩
        ·simp at h
   | false=>simp at h
  ·simp at h
 | _=>simp only[aS_]at h<;>(repeat' split at h)<;>simp_all
theorem u1_{code:Code}{a b:List LI}{c:LI}(h:aS_ P N pf code=some (.pops a c b)):∃id ops l0 p,code=.region id ops true∧ops.toList.mapM (bk_ P N ops)=some l0∧km_ ops (l0.map LI.asImm) p=true ∧
 a=(l0.map LI.asImm).take p∧c=gat (l0.map LI.asImm) p∧b=(l0.map LI.asImm).drop (p+1):=by
 cases code with
 | region id ops draw =>
  simp only[aS_]at h
  split at h
  ·rename_i l' hl
   cases draw with
   | true =>
    simp only[if_true]at h
    split at h
    ·simp at h
    ·split at h
     ·rename_i hk
      simp only[Bool.and_eq_true]at hk
      simp only[Option.some.injEq,LC.pops.injEq]at h
      exact⟨id,ops,l',_,rfl,hl,hk.2,h.1.symm,h.2.1.symm,h.2.2.symm⟩
     ·split at h
      ·simp at h
      ·split at h<;>simp at h
   | false=>simp at h
  ·simp at h
 | _=>simp only[aS_]at h<;>(repeat' split at h)<;>simp_all
theorem ri_{code:Code}{x y:LC}(h:aS_ P N pf code=some (.seq x y)):∃a b,code=.seq a b∧aS_ P N pf a=some x∧aS_ P N pf b=some y:=by
 cases code with
 | seq a b =>
  simp only[aS_]at h
  split at h
  ·rename_i x' y' hx hy
   simp at h
   exact⟨a,b,rfl,by rw[hx,h.1],by rw[hy,h.2]⟩
  ·simp at h
 | _=>simp only[aS_]at h<;>(repeat' split at h)<;>simp_all
theorem p0_{code:Code}{c:Operand}{x y:LC}(h:aS_ P N pf code=some (.cond c x y)):∃a b,code=.cond c a b∧aS_ P N pf a=some x∧aS_ P N pf b=some y∧ag_ N c=true:=by
 cases code with
 | cond c' a b =>
  simp only[aS_]at h
  split at h
  ·rename_i x' y' hx hy
   split at h
   ·rename_i hc
    simp at h
    obtain⟨h1,h2,h3⟩:=h
    subst h1
    exact⟨a,b,rfl,by rw[hx,h2],by rw[hy,h3],hc⟩
   ·simp at h
  ·simp at h
 | _=>simp only[aS_]at h<;>(repeat' split at h)<;>simp_all
theorem nQ_{code:Code}{id:Nat}{x:LC}(h:aS_ P N pf code=some (.block id x)):∃a,code=.block id a∧aS_ P N pf a=some x:=by
 cases code with
 | block id' a =>
  simp only[aS_,Option.map_eq_some_iff]at h
  obtain⟨x',hx,e⟩:=h
  simp at e
  obtain⟨e1,e2⟩:=e
  subst e1 e2
  exact⟨a,rfl,hx⟩
 | _=>simp only[aS_]at h<;>(repeat' split at h)<;>simp_all
theorem qo_{code:Code}{x:LC}(h:aS_ P N pf code=some (.loop x)):∃a,code=.loop a∧aS_ P N pf a=some x:=by
 cases code with
 | loop a =>
  simp only[aS_,Option.map_eq_some_iff]at h
  obtain⟨x',hx,e⟩:=h
  simp at e
  subst e
  exact⟨a,rfl,hx⟩
 | _=>simp only[aS_]at h<;>(repeat' split at h)<;>simp_all
theorem kF_.step{S S1:Sit}{w w1:World}{Q:LE→(Nat→AV)→List Row→Prop}{e:Exit}{a:Act}{w':World}(st:a0_ S w S1 w1)(h:kF_ N S1 w1 Q e a w'):kF_ N S w Q e a w':=by
 obtain⟨S',t',h',h1,h2,h3,h4⟩:=h
 exact⟨S',t',h',st.trans h1,h2,h3,h4⟩
theorem s0_(hmx:P.follows .mixedOrders=true):∀(lc:LC) (code:Code) (Q:LE→(Nat→AV)→List Row→Prop) (t:Nat→AV) (h:List Row) (S:Sit) (a:Act) (w:World),
 aS_ P N pf code=some lc.erase→awp P N lc Q t h→ab_ S h w→cn_ P S→Rel S N t a→code.wp P (kF_ N S w Q) a w:=by
 intro lc
 induction lc with
 | skip =>
  intro code Q t h S a w hl hw hm hgl hr
  have:=pe_ hl;subst this
  exact wp_skip ⟨S,t,h,a0_.refl _ _,hm,hr,hw⟩
 | exit id =>
  intro code Q t h S a w hl hw hm hgl hr
  have:=pj_ hl;subst this
  exact wp_exit ⟨S,t,h,a0_.refl _ _,hm,hr,hw⟩
 | ret =>
  intro code Q t h S a w hl hw hm hgl hr
  have:=rm_ hl;subst this
  exact wp_ret ⟨S,t,h,a0_.refl _ _,hm,hr,hw⟩
 | ops l =>
  intro code Q t h S a w hl hw hm hgl hr
  obtain⟨id,ops,e,h1⟩:=q5_ hl
  subst e
  refine wp_region ?_
  have:=jW_ hgl (Q:=kF_ N S w Q) (K:=Q .normal) (S0:=S) (w0:=w) (fun S' t' h' a' w' st hm' hr' hk=>⟨S',t',h',st,hm',hr',hk⟩) ops.toList 0 l t h S a w (by simp) h1 hw (a0_.refl _ _) hm hr
  simpa[range_eq_range']using this
 | dops l =>
  intro code Q t h S a w hl hw hm hgl hr
  obtain⟨id,ops,l0,e,h1,h0,h2⟩:=o5_ hl
  subst e
  exact r6_ hmx h1 h0 h2 hw hm hgl hr (fun S' t' a' w' st hm' hr' hk=>⟨S',t',h,st,hm',hr',hk⟩)
 | gops pre chain =>
  intro code Q t h S a w hl hw hm hgl hr
  obtain⟨id,ops,l,e,h1,e1,e2,h2⟩:=t1_ hl
  subst e e1 e2
  exact ry_ hmx h1 h2 hw hm hgl hr (fun S' t' h' a' w' st hm' hr' hk=>⟨S',t',h',st,hm',hr',hk⟩)
 | alts x =>
  intro code Q t h S a w hl hw hm hgl hr
  obtain⟨id,ops,l,e,h1,h2,h3⟩:=vc_ hl
  subst e
  exact r5_ hmx h1 h2 h3 hw hm hgl hr (fun S' t' h' a' w' st hm' hr' hk=>⟨S',t',h',st,hm',hr',hk⟩)
 | pops x y z =>
  intro code Q t h S a w hl hw hm hgl hr
  obtain⟨id,ops,l0,p,e,h1,h2,e1,e2,e3⟩:=u1_ hl
  subst e e1 e2 e3
  exact sD_ hmx h1 rfl h2 hw hm hgl hr (fun S' t' h' a' w' st hm' hr' hk=>⟨S',t',h',st,hm',hr',hk⟩)
 | seq x y ihx ihy =>
  intro code Q t h S a w hl hw hm hgl hr
  obtain⟨ca,cb,e,h1,h2⟩:=ri_ hl
  subst e
  refine wp_seq (wp_mono (ihx ca _ t h S a w h1 hw hm hgl hr) ?_)
  intro e a' w' hp
  obtain⟨S',t',h',st,hm',hr',hq⟩:=hp
  cases e with
  | normal=>exact wp_mono (ihy cb Q t' h' S' a' w' h2 hq hm' (hgl.up st.le) hr') fun e a'' w'' hp=>hp.step st
  | exit id=>exact⟨S',t',h',st,hm',hr',hq⟩
  | ret=>exact⟨S',t',h',st,hm',hr',hq⟩
  | goto l=>exact hq.elim
  | panic c=>exact hq.elim
  | outgrown=>exact hq.elim
 | cond c x y ihx ihy =>
  intro code Q t h S a w hl hw hm hgl hr
  obtain⟨ca,cb,e,h1,h2,h3⟩:=p0_ hl
  subst e
  have rc:=hr.eval h3
  simp only[awp]at hw
  split at hw
  ·rename_i q e
   rw[e]at rc
   simp only[Rep]at rc
   exact wp_cond_split rc (fun hq=>ihx ca Q t h S a w h1 (hw.1 hq) hm hgl hr) (fun hq=>ihy cb Q t h S a w h2 (hw.2 hq) hm hgl hr)
  ·exact hw.elim
 | block id x ih =>
  intro code Q t h S a w hl hw hm hgl hr
  obtain⟨ca,e,h1⟩:=nQ_ hl
  subst e
  refine wp_block (wp_mono (ih ca _ t h S a w h1 hw hm hgl hr) ?_)
  intro e a' w' hp
  obtain⟨S',t',h',st,hm',hr',hq⟩:=hp
  cases e with
  | normal=>exact⟨S',t',h',st,hm',hr',hq⟩
  | exit k =>
   simp only[Exit.inBlock]
   split
   ·rename_i ek
    simp only[ek,if_true]at hq
    exact⟨S',t',h',st,hm',hr',hq⟩
   ·rename_i ek
    simp only[ek,if_false]at hq
    exact⟨S',t',h',st,hm',hr',hq⟩
  | ret=>exact⟨S',t',h',st,hm',hr',hq⟩
  | goto l=>exact hq.elim
  | panic c=>exact hq.elim
  | outgrown=>exact hq.elim
 | loop x ih =>
  intro code Q t h S a w hl hw hm hgl hr
  obtain⟨ca,e,h1⟩:=qo_ hl
  subst e
  obtain⟨I,n,h0,hround⟩:=hw
  refine wp_loop_ghost (fun n a' w'=>∃S' t' h',a0_ S w S' w'∧ab_ S' h' w'∧Rel S' N t' a'∧I n t' h') n ⟨S,t,h,a0_.refl _ _,hm,hr,h0⟩ ?_
  intro n a1 w1 ⟨S1,t1,h1',st1,hm1,hr1,hI⟩
  refine wp_mono (ih ca _ t1 h1' S1 a1 w1 h1 (hround n t1 h1' hI) hm1 (hgl.up st1.le) hr1) ?_
  intro e a' w' hp
  obtain⟨S',t',h',st,hm',hr',hq⟩:=hp
  cases e with
  | normal =>
   obtain⟨m,hlt,hI'⟩:=hq
   exact⟨m,hlt,S',t',h',st1.trans st,hm',hr',hI'⟩
  | exit id=>exact⟨S',t',h',st1.trans st,hm',hr',hq⟩
  | ret=>exact⟨S',t',h',st1.trans st,hm',hr',hq⟩
  | goto l=>exact hq.elim
  | panic c=>exact hq.elim
  | outgrown=>exact hq.elim
 | ghost x ih =>
  intro code Q t h S a w hl hw hm hgl hr
  obtain⟨G,hg,hw'⟩:=hw
  obtain⟨S',t',h',hG,st,hm',hr'⟩:=hg S w a hm hr
  exact wp_mono (ih code Q t' h' S' a w hl (hw' t' h' hG) hm' (hgl.up st.le) hr') fun e a'' w'' hp=>hp.step st
end
inductive LRes where
 | tmp (t:Nat)
 | cell (a:Nat) (n:Option Nat)
structure LF where
 np:Nat
 N:Nat
 body:LC
 res:List LRes
def da_(P:Program)(N:Nat):ResultVar→Option LRes
 | .tmp t=>if t<N then some (.tmp t)else none
 | .cell a ty=>if a<N then(eC_ P ty).map (.cell a)else none
def gD_(args:List AV)(k:Nat):AV:=args.getD k (.val Go.undef)
def dA_(t:Nat→AV)(h:List Row):LRes→Option AV
 | .tmp s=>some (t s)
 | .cell a n=>ai_ t h (.load n (.tmp a))
def cO_:List AV→AV
 | [a]=>a
 | as=>.tup as
structure aC_(P:Program)(fn:Func)(lf:LF):Prop where
 N:fn.ntmps=lf.N
 body:∃c pf,fn.body=some c∧aS_ P lf.N pf c=some lf.body.erase
 res:fn.results.toList.mapM (da_ P lf.N)=some lf.res
 np:lf.np≤lf.N
theorem aC_.mkP(pf:Bool){P:Program}{fn:Func}{lf:LF}(h1:fn.ntmps=lf.N)(h2:fn.body.bind (aS_ P lf.N pf)=some lf.body.erase)(h3:fn.results.toList.mapM (da_ P lf.N)=some lf.res)(h4:lf.np≤lf.N):aC_ P fn lf:=by
 refine⟨h1,?_,h3,h4⟩
 simp only[Option.bind_eq_some_iff]at h2
 obtain⟨c,e1,e2⟩:=h2
 exact⟨c,pf,e1,e2⟩
theorem aC_.mk'{P:Program}{fn:Func}{lf:LF}(h1:fn.ntmps=lf.N)(h2:fn.body.bind (aS_ P lf.N false)=some lf.body.erase)(h3:fn.results.toList.mapM (da_ P lf.N)=some lf.res)(h4:lf.np≤lf.N):aC_ P fn lf:=aC_.mkP false h1 h2 h3 h4
theorem az_{P:Program}{fn:Func}{lf:LF}(h1:fn.ntmps=lf.N:=by kernel_rfl)(h2:fn.body.bind (aS_ P lf.N false)=some lf.body.erase:=by kernel_rfl)(h3:fn.results.toList.mapM (da_ P lf.N)=some lf.res:=by kernel_rfl)(h4:lf.np≤lf.N:=by decide):aC_ P fn lf:=aC_.mk' h1 h2 h3 h4
theorem aC_.mkG{P:Program}{fn:Func}{lf:LF}(h1:fn.ntmps=lf.N)(h2:fn.body.bind (aS_ P lf.N true)=some lf.body.erase)(h3:fn.results.toList.mapM (da_ P lf.N)=some lf.res)(h4:lf.np≤lf.N):aC_ P fn lf:=aC_.mkP true h1 h2 h3 h4
theorem do_{P:Program}{fn:Func}{lf:LF}(h1:fn.ntmps=lf.N:=by kernel_rfl)(h2:fn.body.bind (aS_ P lf.N true)=some lf.body.erase:=by kernel_rfl)(h3:fn.results.toList.mapM (da_ P lf.N)=some lf.res:=by kernel_rfl)(h4:lf.np≤lf.N:=by decide):aC_ P fn lf:=aC_.mkG h1 h2 h3 h4
def cD_(res:List LRes)(K:AV→List Row→Prop)(e:LE)(t:Nat→AV)(h:List Row):Prop :=
 match e with
 | .exit _=>False
 | _=>∃avs,res.mapM (dA_ t h)=some avs∧K (cO_ avs) h
def xY_(P:Program)(lf:LF)(args:List AV)(h:List Row)(K:AV→List Row→Prop):Prop :=
 args.length=lf.np∧awp P lf.N lf.body (cD_ lf.res K) (gD_ args) h
theorem Rel.init{S:Sit}{N:Nat}{args:List AV}{vals:Array Value}(hr:ae_ S args vals.toList)(hn:args.length≤N) :
 Rel S N (gD_ args) { tmps:=vals++Array.replicate (N-vals.size) Go.undef,defers:=[] }:=by
 have hl:=ae_.length hr
 simp only[Array.length_toList]at hl
 refine⟨by simp;omega,rfl,fun k hk=>?_⟩
 simp only[gD_,getD_eq_getElem?_getD,Array.getD_eq_getD_getElem?]
 by_cases q:k<args.length
 ·obtain⟨v,hv,r⟩:=ae_.get hr (getElem?_eq_getElem q)
  rw[Array.getElem?_append_left (by omega),getElem?_eq_getElem q]
  have:vals[k]?=some v:=by simpa using hv
  rw[this]
  exact r
 ·rw[Array.getElem?_append_right (by omega),getElem?_eq_none (by omega)]
  have:k-vals.size<N-vals.size:=by omega
  simp[this,Rep]
def mT_(tmps:Array Value):ResultVar→Sem Value
 | .tmp t=>pure (tmps.getD t Go.undef)
 | .cell x ty=>do loadVar ty (←asAddr (tmps.getD x Go.undef))
theorem mM_(fn:Func)(tmps:Array Value):results fn tmps=(fn.results.mapM (mT_ tmps)) >>= fun vs=>pure (if h:vs.size=1 then vs[0]else .tuple vs):=by
 unfold results
 congr 1
theorem xs_{P:Program}{S:Sit}{h:List Row}{w:World}{N:Nat}{t:Nat→AV}{a:Act}{rv:ResultVar}{lr:LRes}{av:AV}(hl:da_ P N rv=some lr)(hm:ab_ S h w)(hr:Rel S N t a)(hv:dA_ t h lr=some av) :
 ∃v,(mT_ a.tmps rv).run P w=.ok v w∧Rep S av v:=by
 cases rv with
 | tmp s =>
  simp only[da_]at hl
  split at hl
  ·rename_i hs
   simp at hl;subst hl
   simp only[dA_,Option.some.injEq]at hv;subst hv
   exact⟨_,rfl,hr.2.2 s hs⟩
  ·simp at hl
 | cell x ty =>
  simp only[da_]at hl
  split at hl
  ·rename_i hs
   simp only[Option.map_eq_some_iff]at hl
   obtain⟨n,hn,e⟩:=hl;subst e
   simp only[dA_]at hv
   obtain⟨v,h1,h2⟩:=mo_ (P:=P) (o:={ dst:=none,op:=.load ty (.tmp x),type:=0,pos := "",after:=#[],guard:=none }) rfl hn hm hr (x:=.tmp x) (by simpa[ag_]using hs) hv
   refine⟨v,?_,h2⟩
   simp only[execOp,Instr.loadAt,Act.eval,Sem.run_bind]at h1
   cases hp:a.tmps.getD x Go.undef with
   | pointer p =>
    rw[hp]at h1
    cases p with
    | none=>simp[Instr.sureAddr,stuck]at h1
    | some ad =>
     simp only[Instr.sureAddr,Sem.run_pure,Result.andThen_ok]at h1
     simp only[mT_,hp,asAddr,Sem.run_bind,Sem.run_pure,Result.andThen_ok]
     cases hq:(loadVar ty ad).run P w with
     | ok u w1 =>
      rw[hq]at h1
      simp at h1
      rw[h1.1,h1.2]
     | halt q w1=>rw[hq]at h1;simp at h1
   | _=>rw[hp]at h1;simp[Instr.sureAddr,stuck]at h1
  ·simp at hl
theorem it_{P:Program}{S:Sit}{h:List Row}{w:World}{N:Nat}{t:Nat→AV}{a:Act}:∀{rvs:List ResultVar} {lrs:List LRes} {avs:List AV},rvs.mapM (da_ P N)=some lrs→ab_ S h w→Rel S N t a→lrs.mapM (dA_ t h)=some avs →
 ∃vs,(rvs.mapM (mT_ a.tmps)).run P w=.ok vs w∧ae_ S avs vs
 | [],lrs,avs,hl,_,_,hv=>by
  simp at hl;subst hl
  simp at hv;subst hv
  exact⟨[],rfl,by simp[ae_]⟩
 | rv::rvs,lrs,avs,hl,hm,hr,hv=>by
  rw[mapM_cons]at hl
  cases h1:da_ P N rv with
  | none=>simp[h1]at hl
  | some lr =>
   cases h2:rvs.mapM (da_ P N)with
   | none=>simp[h1,h2]at hl
   | some lrs' =>
    simp[h1,h2]at hl
    subst hl
    rw[mapM_cons]at hv
    cases h3:dA_ t h lr with
    | none=>simp[h3]at hv
    | some av =>
     cases h4:lrs'.mapM (dA_ t h)with
     | none=>simp[h3,h4]at hv
     | some avs' =>
      simp[h3,h4]at hv
      subst hv
      obtain⟨v,r1,r2⟩:=xs_ h1 hm hr h3
      obtain⟨vs,r3,r4⟩:=it_ h2 hm hr h4
      refine⟨v::vs,?_,by simp only[ae_];exact⟨v,vs,rfl,r2,r4⟩⟩
      rw[mapM_cons]
      simp only[Sem.run_bind]
      rw[r1]
      simp only[Result.andThen_ok]
      rw[r3]
      rfl
theorem aO_{P:Program}{f:FuncId}{fn:Func}{lf:LF}{args:List AV}{h:List Row}{K:AV→List Row→Prop}(hmx:P.follows .mixedOrders=true)(hf:P.funcs[f]?=some fn)(hl:aC_ P fn lf)(hw:xY_ P lf args h K):callSem P f args h K:=by
 obtain⟨hnp,hw⟩:=hw
 intro S w vals hm hgl hr
 obtain⟨c,pf,hb,hc⟩:=hl.body
 refine calls_of_wp hf hb ?_
 rw[hl.N]
 refine wp_mono (s0_ hmx lf.body c _ _ h S _ w hc hw hm hgl (Rel.init hr (by rw[hnp];exact hl.np))) ?_
 intro e a' w' hp
 obtain⟨S',t',h',st,hm',hr',hq⟩:=hp
 have fin:(∃avs,lf.res.mapM (dA_ t' h')=some avs∧K (cO_ avs) h')→a'.defers=[]∧∃v,(results fn a'.tmps).run P w'=.ok v w'∧(∃v_1 av S'_1 h'_1,Ending.returned v=.returned v_1∧a0_ S w S'_1 w'∧ab_ S'_1 h'_1 w'∧Rep S'_1 av v_1∧K av h'_1):=by
  rintro⟨avs,h1,h2⟩
  refine⟨hr'.2.1,?_⟩
  obtain⟨vs,r1,r2⟩:=it_ hl.res hm' hr' h1
  have hlen:=ae_.length r2
  have hrun:(results fn a'.tmps).run P w'=.ok (if h:vs.toArray.size=1 then vs.toArray[0]else .tuple vs.toArray) w':=by
   rw[mM_,Sem.run_bind,Array.mapM_eq_mapM_toList,Sem.run_map,r1]
   rfl
  refine⟨_,hrun,_,cO_ avs,S',h',rfl,st,hm',?_,h2⟩
  cases avs with
  | nil =>
   simp[ae_]at r2;subst r2
   simp[cO_,Rep,ae_]
  | cons av rest =>
   cases rest with
   | nil =>
    simp only[ae_]at r2
    obtain⟨v,r,e,r2,r3⟩:=r2
    subst r3 e
    simpa[cO_]using r2
   | cons av2 rest =>
    have:¬ vs.toArray.size=1:=by simp[hlen]
    simp only[this,dif_neg,not_false_eq_true,cO_,Rep]
    exact⟨_,rfl,by simpa using r2⟩
 cases e with
 | normal=>exact fin hq
 | ret=>exact fin hq
 | exit id=>exact hq.elim
 | goto l=>exact hq.elim
 | panic c=>exact hq.elim
 | outgrown=>exact hq.elim
def AV.plain:AV→Bool
 | .val _|.list _ _ _|.iptr _=>true
 | .agg cs=>cs.all AV.flat
 | .fn _ a b=>a.all AV.flat&&b.all AV.flat
 | _=>false
theorem iv_{S:Sit}{a:AV}{x:Value}(h:a.plain=true)(r:Rep S a x):Rep S.still a x:=by
 cases a with
 | val v=>exact f2_ rfl r
 | list tk sz es=>exact f2_ rfl r
 | iptr cs=>exact f2_ rfl r
 | agg cs =>
  simp only[Rep]at r⊢
  obtain⟨vs,e,r⟩:=r
  exact⟨vs,e,fn_ h r⟩
 | fn f p q =>
  simp only[AV.plain,Bool.and_eq_true]at h
  simp only[Rep]at r⊢
  obtain⟨vs,us,e,r1,r2⟩:=r
  exact⟨vs,us,e,fn_ h.1 r1,fn_ h.2 r2⟩
 | _=>simp[AV.plain]at h
theorem fY_{S:Sit}:∀{as:List AV} {xs:List Value},as.all AV.plain=true→ae_ S as xs→ae_ S.still as xs
 | [],xs,_,r=>by simpa[ae_]using r
 | a::as,xs,h,r=>by
  simp only[all_cons,Bool.and_eq_true]at h
  simp only[ae_]at r⊢
  obtain⟨v,r',e,r1,r2⟩:=r
  exact⟨v,r',e,iv_ h.1 r1,fY_ h.2 r2⟩
def resolve(h:List Row):Nat→AV→Option AV
 | 0,_=>none
 | n+1,a =>
  match a with
  | .val v=>some (.val v)
  | .list tk s es=>some (.list tk s es)
  | .iptr cs=>some (.iptr cs)
  | .own l k =>
   match h[l]? with
   | some r=>if r.es.length=k then(r.es.mapM fun(e:List AV)=>e.mapM (resolve h n)).map (.list 0 r.sz)else none
   | none=>none
  | .sub l k lo hi =>
   match h[l]? with
   | some r=>if r.es.length=k then(((r.es.take hi).drop lo).mapM fun(e:List AV)=>e.mapM (resolve h n)).map (.list 0 r.sz)else none
   | none=>none
  | .ptr l k i off =>
   match h[l]? with
   | some r=>if r.es.length=k then(match r.es[i]? with|some e=>if off<e.length then((e.drop off).mapM (resolve h n)).map .iptr else none|none=>none)else none
   | none=>none
  | .fn f p q =>
   match p.mapM (resolve h n),q.mapM (resolve h n)with
   | some p',some q'=>some (.fn f p' q')
   | _,_=>none
  | .agg cs=>(cs.mapM (resolve h n)).map .agg
  | .tup cs=>(cs.mapM (resolve h n)).map .tup
  | _=>none
def Sit.ownsB(S:Sit)(b:Nat):Bool:=S.rows.any fun i=>i.blk==some b
theorem dL_{S:Sit}{b:Nat}:S.ownsB b=true↔S.owns b:=by
 simp only[Sit.ownsB,any_eq_true,beq_iff_eq,Sit.owns]
 constructor
 ·rintro⟨i,hi,hb⟩
  obtain⟨l,hl⟩:=mem_iff_getElem?.1 hi
  exact⟨l,i,hl,hb⟩
 ·rintro⟨l,i,hl,hb⟩
  exact⟨i,mem_of_getElem? hl,hb⟩
def Sit.shut(S:Sit)(w:World):Sit :=
 { imm:=fun b=>if S.ownsB b then(match w.heap[b]? with|some (.cells c _ _)=>some c|_=>none)else S.imm b,rows:=[] }
theorem hv_{S:Sit}{h:List Row}{w:World}(m:ab_ S h w):S.still.le (S.shut w):=by
 refine⟨fun b c e=>?_,by simp[Sit.still]⟩
 have hn:S.ownsB b=false:=by
  cases q:S.ownsB b with
  | false=>rfl
  | true =>
   have:=m.ownNotImm (dL_.1 q)
   simp only[Sit.still]at e
   rw[this]at e;cases e
 simp only[Sit.shut,hn]
 exact e
theorem d9_{h:List Row}{n:Nat}{S S':Sit}(hone:∀a x r,Rep S a x→resolve h n a=some r→Rep S' r x):∀{as:List AV} {xs:List Value} {rs:List AV},ae_ S as xs→as.mapM (resolve h n)=some rs→ae_ S' rs xs
 | [],xs,rs,r,e=>by
  simp at e;subst e
  simpa[ae_]using r
 | a::as,xs,rs,r,e=>by
  rw[mapM_cons]at e
  cases h1:resolve h n a with
  | none=>simp[h1]at e
  | some r1 =>
   cases h2:as.mapM (resolve h n)with
   | none=>simp[h1,h2]at e
   | some rs' =>
    simp[h1,h2]at e
    subst e
    simp only[ae_]at r⊢
    obtain⟨v,q,e,r2,r3⟩:=r
    exact⟨v,q,e,hone a v r1 r2 h1,d9_ hone r3 h2⟩
theorem fS_{h:List Row}{n:Nat}{S S':Sit}(hone:∀a x r,Rep S a x→resolve h n a=some r→Rep S' r x):∀{as:List AV} {xs:List Value} {rs:List AV},an_ S as xs→as.mapM (resolve h n)=some rs→an_ S' rs xs∧rs.length=as.length
 | [],xs,rs,r,e=>by
  simp at e;subst e
  simp[an_]
 | a::as,xs,rs,r,e=>by
  rw[mapM_cons]at e
  cases h1:resolve h n a with
  | none=>simp[h1]at e
  | some r1 =>
   cases h2:as.mapM (resolve h n)with
   | none=>simp[h1,h2]at e
   | some rs' =>
    simp[h1,h2]at e
    subst e
    simp only[an_]at r⊢
    obtain⟨v,q,e,r2,r3⟩:=r
    have:=fS_ hone r3 h2
    exact⟨⟨v,q,e,hone a v r1 r2 h1,this.1⟩,by simp[this.2]⟩
theorem gn_{h:List Row}{n:Nat}{S S':Sit}(hone:∀a x r,Rep S a x→resolve h n a=some r→Rep S' r x):∀{es:List (List AV)} {xs:List Value} {rs:List (List AV)},aj_ S es xs→(es.mapM fun e=>e.mapM (resolve h n))=some rs →
 aj_ S' rs xs∧rs.length=es.length∧∀sz,(∀e∈es,e.length=sz)→∀e∈rs,e.length=sz
 | [],xs,rs,r,e=>by
  simp at e;subst e
  simp[aj_]
 | d::es,xs,rs,r,e=>by
  rw[mapM_cons]at e
  cases h1:d.mapM (resolve h n)with
  | none=>simp[h1]at e
  | some r1 =>
   cases h2:(es.mapM fun e=>e.mapM (resolve h n))with
   | none=>simp[h1,h2]at e
   | some rs' =>
    simp[h1,h2]at e
    subst e
    simp only[aj_]at r⊢
    have p1:=fS_ hone r.1 h1
    have p2:=gn_ hone r.2 h2
    refine⟨⟨p1.1,by rw[p1.2];exact p2.1⟩,by simp[p2.2.1],fun sz hsz e he=>?_⟩
    rcases mem_cons.1 he with q|q
    ·subst q;rw[p1.2];exact hsz d (by simp)
    ·exact p2.2.2 sz (fun e he=>hsz e (by simp[he])) e q
theorem ip_{S:Sit}{h:List Row}{w:World}(m:ab_ S h w):∀(n:Nat) (a:AV) (x:Value) (r:AV),Rep S a x→resolve h n a=some r→Rep (S.shut w) r x:=by
 intro n
 induction n with
 | zero=>intro a x r _ e;simp[resolve]at e
 | succ n ih =>
  intro a x r hr e
  have hflat:a.flat=true→r=a→Rep (S.shut w) r x:=fun hf he=>by
   subst he
   exact Rep.up (hv_ m) _ _ (f2_ hf hr)
  cases a with
  | val v=>simp only[resolve,Option.some.injEq]at e;exact hflat rfl e.symm
  | list tk s es=>simp only[resolve,Option.some.injEq]at e;exact hflat rfl e.symm
  | iptr cs=>simp only[resolve,Option.some.injEq]at e;exact hflat rfl e.symm
  | agg cs =>
   simp only[resolve,Option.map_eq_some_iff]at e
   obtain⟨rs,e1,e2⟩:=e
   subst e2
   simp only[Rep]at hr⊢
   obtain⟨vs,e3,hr⟩:=hr
   exact⟨vs,e3,d9_ ih hr e1⟩
  | tup cs =>
   simp only[resolve,Option.map_eq_some_iff]at e
   obtain⟨rs,e1,e2⟩:=e
   subst e2
   simp only[Rep]at hr⊢
   obtain⟨vs,e3,hr⟩:=hr
   exact⟨vs,e3,d9_ ih hr e1⟩
  | own l k =>
   simp only[resolve]at e
   split at e
   ·rename_i row hl
    split at e
    ·rename_i hlen
     simp only[Option.map_eq_some_iff]at e
     obtain⟨rs,e1,e2⟩:=e
     subst e2
     simp only[Rep]at hr
     obtain⟨_,i,q1,q2,q3⟩:=hr
     obtain⟨k1,k2,k3,k4⟩:=m.rows l i row q1 hl
     have hx:=q3 (by omega)
     cases hb:i.blk with
     | none =>
      rw[hb]at k4
      simp only[sliceAt,hb]at hx
      rw[k4.1]at e1
      simp at e1;subst e1
      simp only[Rep]
      rcases hx with hx|⟨_,p,hx⟩
      ·exact .inl ⟨trivial,trivial,_,_,hx⟩
      ·exact .inl ⟨trivial,trivial,_,_,hx⟩
     | some b =>
      rw[hb]at k4
      simp only[sliceAt,hb,reduceCtorEq,false_and,or_false]at hx
      by_cases hne:row.es=[]
      ·rw[hne]at e1 k1
       simp at e1;subst e1
       simp only[Rep]
       rw[k1]at hx
       exact .inl ⟨trivial,trivial,_,_,hx⟩
      obtain⟨_,c,_,⟨_,j2,_⟩,j3,j4,j5,j6⟩:=k4.2.cells (.inl hne)
      have p:=gn_ ih j3 e1
      simp only[Rep]
      right
      have hown:S.ownsB b=true:=dL_.2 ⟨l,i,q1,hb⟩
      refine⟨b,0,i.cap,c,by rw[hx,p.2.1,k1],by rw[p.2.1,←k1];exact j5,?_,p.2.2 _ k3,.inl trivial,?_,by simpa[Sit.shut,Sit.still]using p.1⟩
      ·simp[Sit.shut,hown,j2]
      ·rw[p.2.1,j4,←k1,←k2]
       simpa using Nat.mul_le_mul_right _ j5
    ·simp at e
   ·simp at e
  | fn f p q =>
   simp only[resolve]at e
   split at e
   ·rename_i p' q' e1 e2
    simp only[Option.some.injEq]at e;subst e
    simp only[Rep]at hr⊢
    obtain⟨vs,us,e3,r1,r2⟩:=hr
    exact⟨vs,us,e3,d9_ ih r1 e1,d9_ ih r2 e2⟩
   ·simp at e
  | ptr l k j off =>
   simp only[resolve]at e
   split at e
   ·rename_i row hl
    split at e
    ·rename_i hlen
     split at e
     ·rename_i el hel
      split at e
      case isFalse=>simp at e
      rename_i hoff
      simp only[Option.map_eq_some_iff]at e
      obtain⟨rs,e1,e2⟩:=e
      subst e2
      simp only[Rep]at hr
      obtain⟨_,i,q1,q2,q3⟩:=hr
      obtain⟨k1,k2,k3,k4⟩:=m.rows l i row q1 hl
      obtain⟨b,hb,hx⟩:=q3 (by omega)
      rw[hb]at k4
      obtain⟨_,c,_,⟨_,j2,_⟩,j3,j4,j5,j6⟩:=k4.2.cells (.inl (by intro q;rw[q]at hel;simp at hel))
      have h1:=aj_.get j3 k3 hel
      have h2:=an_.drop (k:=off) h1
      rw[drop_drop]at h2
      have hle:=an_.length h2
      have p:=fS_ ih h2 e1
      have hjl:j<row.es.length:=(List.getElem?_eq_some_iff.1 hel).1
      have hell:el.length=row.sz:=k3 el (mem_of_getElem? hel)
      have hown:S.ownsB b=true:=dL_.2 ⟨l,i,q1,hb⟩
      simp only[Rep]
      refine⟨b,j * i.sz+off,c,hx,by simp[Sit.shut,hown,j2],?_,by rw[k2];simpa[Sit.shut,Sit.still]using p.1⟩
      rw[p.2,k2]
      simp only[length_drop,Array.length_toList]at hle
      simp only[length_drop]
      omega
     ·simp at e
    ·simp at e
   ·simp at e
  | sub l k lo hi =>
   simp only[resolve]at e
   split at e
   ·rename_i row hl
    split at e
    ·rename_i hlen
     simp only[Option.map_eq_some_iff]at e
     obtain⟨rs,e1,e2⟩:=e
     subst e2
     have hs:dy_ h row.sz (.sub l k lo hi)=some ((row.es.take hi).drop lo):=by simp[dy_,hl,hlen]
     obtain⟨s1,s2⟩:=ej_ m hs hr
     simp only[Rep]at hr
     obtain⟨_,i,q1,q2,q3⟩:=hr
     obtain⟨k1,k2,k3,k4⟩:=m.rows l i row q1 hl
     obtain⟨g1,g2,g3⟩:=q3 (by omega)
     have hlen2:((row.es.take hi).drop lo).length=hi-lo:=by simp;omega
     by_cases hz:hi-lo=0
     ·have hnil:(row.es.take hi).drop lo=[]:=eq_nil_of_length_eq_zero (by omega)
      rw[hnil]at e1
      simp at e1;subst e1
      simp only[Rep]
      rcases g3 with ⟨_,p,q⟩|⟨b,off,_,q,_⟩
      ·exact .inl ⟨trivial,trivial,_,_,q⟩
      ·rw[hz]at q;exact .inl ⟨trivial,trivial,_,_,q⟩
     ·have hne:row.es≠[]:=by intro q;rw[q]at hlen;simp at hlen;omega
      rcases g3 with ⟨hb,p,q⟩|⟨b,off,hb,q,hoff⟩
      ·rw[hb]at k4;exact absurd k4.1 hne
      ·rw[hb]at k4
       obtain⟨_,c,_,⟨_,j2,_⟩,j3,j4,j5,j6⟩:=k4.2.cells (.inl hne)
       rw[hoff (by omega)]at q
       have hd:=aj_.drop (aj_.take (k:=hi) j3) (sz:=row.sz) (k:=lo) (fun x hx=>k3 x (mem_of_mem_take hx))
       have p:=gn_ ih hd e1
       simp only[Rep]
       right
       have hown:S.ownsB b=true:=dL_.2 ⟨l,i,q1,hb⟩
       refine⟨b,lo * i.sz,i.cap-lo,c,by rw[q,p.2.1,hlen2],by rw[p.2.1,hlen2];omega,?_,p.2.2 _ s1,.inl trivial,?_,?_⟩
       ·simp[Sit.shut,hown,j2]
       ·rw[p.2.1,hlen2,j4,←k2,←Nat.add_mul]
        exact Nat.mul_le_mul_right _ (by omega)
       ·rw[k2];simpa[Sit.shut,Sit.still]using p.1
    ·simp at e
   ·simp at e
  | _=>simp[resolve]at e
theorem jZ_{P:Program}{f:FuncId}{args:List AV}{R:AV→Prop}(hp:args.all AV.plain=true)(hw:callSem P f args [] fun av h'=>∃n r,resolve h' n av=some r∧R r)(h:List Row)(K:AV→List Row→Prop)(hk:∀r,R r→K r h):callSem P f args h K:=by
 intro S w vals hm hgl hr
 have hm0:ab_ S.still [] w:=⟨hm.imm,rfl,by simp[Sit.still],by simp[Sit.still]⟩
 refine(hw S.still w vals hm0 hgl (fY_ hp hr)).mono ?_
 rintro e w' ⟨v,av,S1,h1,rfl,st,hm1,rv,n,r,hres,hR⟩
 have rr:=ip_ hm1 n av v r rv hres
 have hnone:∀b,¬ S.still.owns b:=by
  rintro b ⟨l,i,q,_⟩
  simp[Sit.still]at q
 have hblk:∀b,b<w.heap.size→w'.heap[b]?=w.heap[b]?:=fun b hb=>st.block b hb (hnone b)
 have hown1:∀b,S1.owns b→w.heap.size≤b:=fun b hb=>by
  rcases st.ownNew b hb with q|q
  ·exact absurd q (hnone b)
  ·exact q
 have himm1:∀b c,S1.imm b=some c→S.imm b=some c∨w.heap.size≤b:=fun b c hb=>by
  rcases st.immNew b c hb with q|q|q
  ·exact .inl q
  ·exact absurd q (hnone b)
  ·exact .inr q
 have hshut:∀b c,(S1.shut w').imm b=some c→S.imm b=some c∨w.heap.size≤b:=by
  intro b c hb
  simp only[Sit.shut]at hb
  split at hb
  ·rename_i hq
   exact .inr (hown1 b (dL_.1 hq))
  ·exact himm1 b c hb
 have hle:S.le { imm:=(S1.shut w').imm,rows:=S.rows }:=by
  refine⟨fun b c e=>?_,fun l i e=>⟨i,e,Nat.le_refl _,fun _=>rfl⟩⟩
  exact(hv_ hm1).imm b c (st.le.imm b c e)
 refine⟨v,r,{ imm:=(S1.shut w').imm,rows:=S.rows },h,rfl,⟨hle,st.os,st.tape,st.output,st.size,fun b hb _=>hblk b hb,fun b q=>.inl q,fun b c q=>?_⟩,⟨fun b c q=>?_,hm.len,fun l i rw q1 q2=>?_,hm.one⟩,?_,hk r hR⟩
 ·rcases hshut b c q with q|q
  ·exact .inl q
  ·exact .inr (.inr q)
 ·simp only[Sit.shut]at q
  split at q
  ·split at q
   ·rename_i c' E fr hb
    simp at q;subst q
    exact⟨E,fr,hb⟩
   ·simp at q
  ·exact hm1.imm b c q
 ·obtain⟨k1,k2,k3,k4⟩:=hm.rows l i rw q1 q2
  refine⟨k1,k2,k3,?_⟩
  cases hb:i.blk with
  | none=>rw[hb]at k4;exact k4
  | some b =>
   rw[hb]at k4
   have j1:=k4.1
   have hlt:=hm.ownLt ⟨l,i,q1,hb⟩
   refine⟨?_,k4.2.le hle (hblk b hlt)⟩
   cases q:(S1.shut w').imm b with
   | none=>rfl
   | some d =>
    rcases hshut b d q with q'|q'
    ·rw[j1]at q';cases q'
    ·omega
 ·have hl2:(S1.shut w').le { imm:=(S1.shut w').imm,rows:=S.rows }:=⟨fun _ _ e=>e,by simp[Sit.shut]⟩
  exact Rep.up hl2 _ _ rr
theorem wI_(q:Bool)(a b:Int):bd_ .add q (.val (.int .i64 a)) (.val (.int .i64 b))=some (.val (.int .i64 (IntKind.i64.wrap (a+b)))):=rfl
theorem xK_(q:Bool)(a b:Int):bd_ .sub q (.val (.int .i64 a)) (.val (.int .i64 b))=some (.val (.int .i64 (IntKind.i64.wrap (a-b)))):=rfl
theorem ng_(q:Bool)(a b:Int):bd_ .mul q (.val (.int .i64 a)) (.val (.int .i64 b))=some (.val (.int .i64 (IntKind.i64.wrap (a * b)))):=rfl
theorem wZ_(q:Bool)(k:IntKind)(a b:Int):bd_ .lss q (.val (.int k a)) (.val (.int k b))=some (.val (.bool (decide (a<b)))):=by cases k<;>rfl
theorem xo_(q:Bool)(k:IntKind)(a b:Int):bd_ .leq q (.val (.int k a)) (.val (.int k b))=some (.val (.bool (decide (a≤b)))):=by cases k<;>rfl
theorem xq_(q:Bool)(k:IntKind)(a b:Int):bd_ .gtr q (.val (.int k a)) (.val (.int k b))=some (.val (.bool (decide (b<a)))):=by cases k<;>rfl
theorem xj_(q:Bool)(k:IntKind)(a b:Int):bd_ .geq q (.val (.int k a)) (.val (.int k b))=some (.val (.bool (decide (b≤a)))):=by cases k<;>rfl
theorem w4_(q:Bool)(k:IntKind)(a b:Int):bd_ .eql q (.val (.int k a)) (.val (.int k b))=some (.val (.bool (decide (a=b)))):=by cases k<;>rfl
theorem xl_(q:Bool)(k:IntKind)(a b:Int):bd_ .neq q (.val (.int k a)) (.val (.int k b))=some (.val (.bool (!decide (a=b)))):=by cases k<;>rfl
theorem dU_(a:ByteArray):a.toList=a.data.toList:=ByteArray.toList_eq a
theorem lA_(a b:ByteArray):(a.toList==b.toList)=decide (a=b):=by
 rw[dU_,dU_,Bool.eq_iff_iff]
 simp only[beq_iff_eq,decide_eq_true_eq]
 constructor
 ·intro h
  cases a;cases b
  simp at h
  simp[h]
 ·intro h;rw[h]
theorem u9_(q:Bool)(a b:ByteArray):bd_ .eql q (.val (.string a)) (.val (.string b))=some (.val (.bool (decide (a=b)))):=by
 rw[←lA_];rfl
theorem up_(q:Bool)(a b:ByteArray):bd_ .neq q (.val (.string a)) (.val (.string b))=some (.val (.bool (!decide (a=b)))):=by
 rw[←lA_];rfl
theorem vI_(q:Bool)(a b:ByteArray):bd_ .lss q (.val (.string a)) (.val (.string b))=some (.val (.bool (Op.bytesLess a.toList b.toList))):=rfl
theorem uP_(a b:Bool):bd_ .eql true (.val (.bool a)) (.val (.bool b))=some (.val (.bool (decide (a=b)))):=rfl
theorem ut_(a b:Bool):bd_ .neq true (.val (.bool a)) (.val (.bool b))=some (.val (.bool (!decide (a=b)))):=rfl
theorem xh_(k:IntKind)(a b:Int):hC_ 0 (.val (.int k a)) (.val (.int k b))=some (decide (a=b)):=by
 simp only[hC_,if_true];rfl
theorem xp_(a b:ByteArray):hC_ 1 (.val (.string a)) (.val (.string b))=some (decide (a=b)):=by
 rw[←lA_];rfl
theorem vw_(a b:Bool):hC_ 2 (.val (.bool a)) (.val (.bool b))=some (decide (a=b)):=by
 cases a<;>cases b<;>rfl
theorem qV_(as bs:List AV):ea_ [] as bs=some true:=by cases as<;>cases bs<;>rfl
theorem pA_(k:Nat)(ks:List Nat)(a b:AV)(as bs:List AV):ea_ (k::ks) (a::as) (b::bs)=match hC_ k a b,ea_ ks as bs with|some p,some q=>some (p&&q)|_,_=>none:=rfl
theorem qu_(v:Value):ey_ (Pure.pure v)=some (.val v):=rfl
theorem z6_(b:Bool):ey_ (Op.unary .not (.bool b))=some (.val (.bool (!b))):=rfl
theorem yL_(a:Int):ey_ (Op.unary .neg (.int .i64 a))=some (.val (.int .i64 (IntKind.i64.wrap (0-a)))):=rfl
theorem aA_{n:Int}(h1 : -9223372036854775808≤n)(h2:n≤9223372036854775807):IntKind.i64.wrap n=n:=by
 rw[IntKind.wrap_i64];omega
theorem AM_:((-1:Int)<0)=True:=by simp
theorem ui_{α:Type}{xs:List α}{k:Nat}(h:k<xs.length):xs[k]?=some xs[k]:=getElem?_eq_getElem h
inductive Fr where
 | seq (b:LC)
 | blk (id:Nat)
 | loop (I:Nat→(Nat→AV)→List Row→Prop) (n:Nat)
abbrev dc_:=LE→(Nat→AV)→List Row→Prop
def exK(P:Program)(N:Nat)(Q:dc_):List Fr→LE→(Nat→AV)→List Row→Prop
 | [],e,t,h=>Q e t h
 | .seq b::k,e,t,h=>match e with|.normal=>awp P N b (exK P N Q k) t h|e=>exK P N Q k e t h
 | .blk id::k,e,t,h=>match e with|.exit j=>if j=id then exK P N Q k .normal t h else exK P N Q k (.exit j) t h|e=>exK P N Q k e t h
 | .loop I n::k,e,t,h=>match e with|.normal=>∃m,m<n∧I m t h|e=>exK P N Q k e t h
structure ExK(P:Program)(N:Nat)(Q:dc_)(k:List Fr)(e:LE)(t:Nat→AV)(h:List Row):Prop where
 out:exK P N Q k e t h
structure Ex(P:Program)(N:Nat)(Q:dc_)(c:LC)(k:List Fr)(t:Nat→AV)(h:List Row):Prop where
 out:awp P N c (exK P N Q k) t h
structure ExO(P:Program)(N:Nat)(Q:dc_)(l:List LI)(k:List Fr)(t:Nat→AV)(h:List Row):Prop where
 out:f1_ P l t h (exK P N Q k .normal)
structure ExD(P:Program)(N:Nat)(Q:dc_)(l:List LI)(k:List Fr)(t:Nat→AV)(h:List Row):Prop where
 out:d3_ P h l t (fun t'=>exK P N Q k .normal t' h)
structure AfO(P:Program)(N:Nat)(Q:dc_)(d:Option Nat)(l:List LI)(k:List Fr)(t:Nat→AV)(v:AV)(h:List Row):Prop where
 out:f1_ P l (put t d v) h (exK P N Q k .normal)
structure AfD(P:Program)(N:Nat)(Q:dc_)(d:Option Nat)(l:List LI)(k:List Fr)(t:Nat→AV)(h:List Row)(v:AV):Prop where
 out:d3_ P h l (put t d v) (fun t'=>exK P N Q k .normal t' h)
structure ExG(P:Program)(N:Nat)(Q:dc_)(w:Option Bool)(d:Option Nat)(op:LOp)(l:List LI)(k:List Fr)(t:Nat→AV)(h:List Row):Prop where
 out:match w with
  | some true=>aX_ P t h (AfO P N Q d l k t) op
  | some false=>f1_ P l (put t d (.val Go.undef)) h (exK P N Q k .normal)
  | none=>False
structure ExH(P:Program)(N:Nat)(Q:dc_)(w:Option Bool)(d:Option Nat)(op:LOp)(l:List LI)(k:List Fr)(t:Nat→AV)(h:List Row):Prop where
 out:match w with
  | some true=>qWp P t h (AfD P N Q d l k t h) op
  | some false=>d3_ P h l (put t d (.val Go.undef)) (fun t'=>exK P N Q k .normal t' h)
  | none=>False
theorem m1_(P:Program)(N:Nat)(Q:dc_)(d:Option Nat)(l:List LI)(k:List Fr)(t:Nat→AV):AfO P N Q d l k t=fun v h=>f1_ P l (put t d v) h (exK P N Q k .normal) :=
 funext fun _=>funext fun _=>propext ⟨fun q=>q.out,fun q=>⟨q⟩⟩
theorem nd_(P:Program)(N:Nat)(Q:dc_)(d:Option Nat)(l:List LI)(k:List Fr)(t:Nat→AV)(h:List Row):AfD P N Q d l k t h=fun v=>d3_ P h l (put t d v) (fun t'=>exK P N Q k .normal t' h) :=
 funext fun _=>propext ⟨fun q=>q.out,fun q=>⟨q⟩⟩
section
variable {P : Program} {N : Nat} {Q : dc_} {k : List Fr} {t : Nat → AV} {h : List Row}
theorem w1_:Ex P N Q .skip k t h=ExK P N Q k .normal t h:=propext ⟨fun q=>⟨q.out⟩,fun q=>⟨q.out⟩⟩
theorem zu_(a b:LC):Ex P N Q (.seq a b) k t h=Ex P N Q a (.seq b::k) t h:=propext ⟨fun q=>⟨q.out⟩,fun q=>⟨q.out⟩⟩
theorem zV_(l:List LI):Ex P N Q (.ops l) k t h=ExO P N Q l k t h:=propext ⟨fun q=>⟨q.out⟩,fun q=>⟨q.out⟩⟩
theorem xE_(l:List LI):Ex P N Q (.dops l) k t h=ExD P N Q l k t h:=propext ⟨fun q=>⟨q.out⟩,fun q=>⟨q.out⟩⟩
theorem qF_:Ex P N Q (.alts []) k t h=True:=propext ⟨fun _=>trivial,fun _=>⟨fun p hp=>by cases hp⟩⟩
theorem qi_(p:List LI)(c:List (LI×List LI))(r:List (List LI×List (LI×List LI))):Ex P N Q (.alts ((p,c)::r)) k t h=(Ex P N Q (.gops p c) k t h∧Ex P N Q (.alts r) k t h) :=
 propext ⟨fun q=>⟨⟨q.out _ mem_cons_self⟩,⟨fun x hx=>q.out x (mem_cons_of_mem _ hx)⟩⟩,fun q=>⟨fun x hx=>by
  rcases mem_cons.1 hx with e|e
  ·rw[e];exact q.1.out
  ·exact q.2.out x e⟩⟩
theorem xf_(a:List LI)(c:LI)(b:List LI):Ex P N Q (.pops a c b) k t h=d3_ P h a t fun t1=>aX_ P t1 h (fun v h'=>ExD P N Q b k (put t1 c.dst v) h') c.op:=by
 have e:(fun(t1:Nat→AV)=>aX_ P t1 h (fun v h'=>ExD P N Q b k (put t1 c.dst v) h') c.op)=fun t1=>aX_ P t1 h (fun v h'=>d3_ P h' b (put t1 c.dst v) fun t2=>exK P N Q k .normal t2 h') c.op :=
  funext fun t1=>congrArg (fun K=>aX_ P t1 h K c.op) (funext fun v=>funext fun h'=>propext ⟨fun q=>q.out,fun q=>⟨q⟩⟩)
 rw[e]
 exact propext ⟨fun q=>q.out,fun q=>⟨q⟩⟩
theorem z3_(c:LC):Ex P N Q c k t h=awp P N c (exK P N Q k) t h:=propext ⟨fun q=>q.out,fun q=>⟨q⟩⟩
theorem bj_(c:Operand)(a b:LC):Ex P N Q (.cond c a b) k t h=match ah_ t c with|.val (.bool q)=>(q=true→Ex P N Q a k t h)∧(q=false→Ex P N Q b k t h)|_=>False:=by
 simp only[z3_]
 rfl
theorem ur_(id:Nat)(b:LC):Ex P N Q (.block id b) k t h=Ex P N Q b (.blk id::k) t h:=propext ⟨fun q=>⟨q.out⟩,fun q=>⟨q.out⟩⟩
theorem xi_(id:Nat):Ex P N Q (.exit id) k t h=ExK P N Q k (.exit id) t h:=propext ⟨fun q=>⟨q.out⟩,fun q=>⟨q.out⟩⟩
theorem zJ_:Ex P N Q .ret k t h=ExK P N Q k .ret t h:=propext ⟨fun q=>⟨q.out⟩,fun q=>⟨q.out⟩⟩
theorem w9_:ExO P N Q [] k t h=ExK P N Q k .normal t h:=propext ⟨fun q=>⟨q.out⟩,fun q=>⟨q.out⟩⟩
theorem um_(d:Option Nat)(op:LOp)(l:List LI):ExO P N Q (⟨d,none,op⟩::l) k t h=aX_ P t h (AfO P N Q d l k t) op:=by
 rw[m1_];exact propext ⟨fun q=>q.out,fun q=>⟨q⟩⟩
theorem tX_(d:Option Nat)(s:Nat)(want:Bool)(op:LOp)(l:List LI):ExO P N Q (⟨d,some (s,want),op⟩::l) k t h=ExG P N Q (cb_ t (some (s,want))) d op l k t h:=by
 refine propext ⟨fun q=>⟨?_⟩,fun q=>⟨?_⟩⟩
 ·have:=q.out;rw[m1_];exact this
 ·have:=q.out;rw[m1_]at this;exact this
theorem vt_(d:Option Nat)(op:LOp)(l:List LI):ExG P N Q (some true) d op l k t h=aX_ P t h (AfO P N Q d l k t) op:=propext ⟨fun q=>q.out,fun q=>⟨q⟩⟩
theorem tR_(d:Option Nat)(op:LOp)(l:List LI):ExG P N Q (some false) d op l k t h=ExO P N Q l k (put t d (.val Go.undef)) h:=propext ⟨fun q=>⟨q.out⟩,fun q=>⟨q.out⟩⟩
theorem xQ_(d:Option Nat)(l:List LI)(v:AV):AfO P N Q d l k t v h=ExO P N Q l k (put t d v) h:=propext ⟨fun q=>⟨q.out⟩,fun q=>⟨q.out⟩⟩
theorem xd_:ExD P N Q [] k t h=ExK P N Q k .normal t h:=propext ⟨fun q=>⟨q.out⟩,fun q=>⟨q.out⟩⟩
theorem vh_(d:Option Nat)(op:LOp)(l:List LI):ExD P N Q (⟨d,none,op⟩::l) k t h=qWp P t h (AfD P N Q d l k t h) op:=by
 rw[nd_];exact propext ⟨fun q=>q.out,fun q=>⟨q⟩⟩
theorem ta_(d:Option Nat)(s:Nat)(want:Bool)(op:LOp)(l:List LI):ExD P N Q (⟨d,some (s,want),op⟩::l) k t h=ExH P N Q (cb_ t (some (s,want))) d op l k t h:=by
 refine propext ⟨fun q=>⟨?_⟩,fun q=>⟨?_⟩⟩
 ·have:=q.out;rw[nd_];exact this
 ·have:=q.out;rw[nd_]at this;exact this
theorem uv_(d:Option Nat)(op:LOp)(l:List LI):ExH P N Q (some true) d op l k t h=qWp P t h (AfD P N Q d l k t h) op:=propext ⟨fun q=>q.out,fun q=>⟨q⟩⟩
theorem tv_(d:Option Nat)(op:LOp)(l:List LI):ExH P N Q (some false) d op l k t h=ExD P N Q l k (put t d (.val Go.undef)) h:=propext ⟨fun q=>⟨q.out⟩,fun q=>⟨q.out⟩⟩
theorem x9_(d:Option Nat)(l:List LI)(v:AV):AfD P N Q d l k t h v=ExD P N Q l k (put t d v) h:=propext ⟨fun q=>⟨q.out⟩,fun q=>⟨q.out⟩⟩
theorem xC_(e:LE):ExK P N Q [] e t h=Q e t h:=propext ⟨fun q=>q.out,fun q=>⟨q⟩⟩
theorem m8_(b:LC):ExK P N Q (.seq b::k) .normal t h=Ex P N Q b k t h:=propext ⟨fun q=>⟨q.out⟩,fun q=>⟨q.out⟩⟩
theorem qB_(b:LC):ExK P N Q (.seq b::k) .ret t h=ExK P N Q k .ret t h:=propext ⟨fun q=>⟨q.out⟩,fun q=>⟨q.out⟩⟩
theorem pr_(b:LC)(i:Nat):ExK P N Q (.seq b::k) (.exit i) t h=ExK P N Q k (.exit i) t h:=propext ⟨fun q=>⟨q.out⟩,fun q=>⟨q.out⟩⟩
theorem nG_(i:Nat):ExK P N Q (.blk i::k) .normal t h=ExK P N Q k .normal t h:=propext ⟨fun q=>⟨q.out⟩,fun q=>⟨q.out⟩⟩
theorem qr_(i:Nat):ExK P N Q (.blk i::k) .ret t h=ExK P N Q k .ret t h:=propext ⟨fun q=>⟨q.out⟩,fun q=>⟨q.out⟩⟩
theorem pQ_(i j:Nat):ExK P N Q (.blk i::k) (.exit j) t h=if j=i then ExK P N Q k .normal t h else ExK P N Q k (.exit j) t h:=by
 refine propext ⟨fun q=>?_,fun q=>⟨?_⟩⟩
 ·have:=q.out
  simp only[exK]at this
  split
  ·rename_i e;rw[if_pos e]at this;exact⟨this⟩
  ·rename_i e;rw[if_neg e]at this;exact⟨this⟩
 ·simp only[exK]
  split
  ·rename_i e;rw[if_pos e]at q;exact q.out
  ·rename_i e;rw[if_neg e]at q;exact q.out
theorem oY_(I:Nat→(Nat→AV)→List Row→Prop)(n:Nat):ExK P N Q (.loop I n::k) .ret t h=ExK P N Q k .ret t h:=propext ⟨fun q=>⟨q.out⟩,fun q=>⟨q.out⟩⟩
theorem oB_(I:Nat→(Nat→AV)→List Row→Prop)(n j:Nat):ExK P N Q (.loop I n::k) (.exit j) t h=ExK P N Q k (.exit j) t h:=propext ⟨fun q=>⟨q.out⟩,fun q=>⟨q.out⟩⟩
theorem lV_(I:Nat→(Nat→AV)→List Row→Prop)(n:Nat):ExK P N Q (.loop I n::k) .normal t h=∃m,m<n∧I m t h:=propext ⟨fun q=>q.out,fun q=>⟨q⟩⟩
theorem a4_{b:LC}(I:Nat→(Nat→AV)→List Row→Prop)(n:Nat)(h0:I n t h)
 (hr:∀(J:Nat→(Nat→AV)→List Row→Prop),(∀m t h,I m t h→J m t h)→∀n t h,I n t h→Ex P N Q b (.loop J n::k) t h):Ex P N Q (.loop b) k t h :=
 ⟨I,n,h0,fun n t h hi=>(hr I (fun _ _ _ q=>q) n t h hi).out⟩
theorem s6_{b:LC}(G:(Nat→AV)→List Row→Prop)(hg:o4_ N t h G)(hb:∀t' h',G t' h'→Ex P N Q b k t' h'):Ex P N Q (.ghost b) k t h:=⟨G,hg,fun t' h' q=>(hb t' h' q).out⟩
theorem g8_.toS{t':Nat→AV}{h':List Row}(hg:g8_ N t h t' h'):o4_ N t h fun x y=>x=t'∧y=h':=fun S w a hm hr=>by
 obtain⟨S',st,hm',hr'⟩:=hg S w a hm hr
 exact⟨S',t',h',⟨rfl,rfl⟩,st,hm',hr'⟩
theorem bv_{b:LC}(t':Nat→AV)(h':List Row)(hg:g8_ N t h t' h')(hb:Ex P N Q b k t' h'):Ex P N Q (.ghost b) k t h :=
 s6_ _ hg.toS fun _ _ ⟨e1,e2⟩=>by subst e1 e2;exact hb
theorem bA_{lf:LF}{args:List AV}{K:AV→List Row→Prop}(hn:args.length=lf.np)(h1:Ex P lf.N (cD_ lf.res K) lf.body [] (gD_ args) h):xY_ P lf args h K:=⟨hn,by
 have e:exK P lf.N (cD_ lf.res K) []=cD_ lf.res K:=rfl
 have:=h1.out
 rw[e]at this
 exact this⟩
theorem tF_(s:Nat)(K:AV→List Row→Prop):cD_ [.tmp s] K .ret t h=K (t s) h:=by
 simp[cD_,dA_,cO_]
theorem sY_(s u:Nat)(K:AV→List Row→Prop):cD_ [.tmp s,.tmp u] K .ret t h=K (.tup [t s,t u]) h:=by
 simp[cD_,dA_,cO_]
theorem tS_(s u v:Nat)(K:AV→List Row→Prop):cD_ [.tmp s,.tmp u,.tmp v] K .ret t h=K (.tup [t s,t u,t v]) h:=by
 simp[cD_,dA_,cO_]
end
theorem w2_(t:Nat→AV)(d:Nat)(v:AV)(x:Nat):upd t d v x=if x=d then v else t x:=rfl
theorem vD_(t:Nat→AV)(d:Nat)(v:AV):put t (some d) v=upd t d v:=rfl
theorem t3_(t:Nat→AV)(v:AV):put t none v=t:=rfl
theorem av_{P:Program}{f:FuncId}{fn:Func}{lf:LF}{args:List AV}{r:AV}(hmx:P.follows .mixedOrders=true)(hf:P.funcs[f]?=some fn)(hl:aC_ P fn lf)(hn:args.length=lf.np)(hp:args.all AV.plain=true)
 (hw:Ex P lf.N (cD_ lf.res fun av h'=>∃n,resolve h' n av=some r) lf.body [] (gD_ args) []) (h:List Row):PureCall P f args h r:=by
 intro K hk
 refine jZ_ (R:=fun x=>x=r) hp ?_ h K (by rintro _ rfl;exact hk)
 refine(aO_ hmx hf hl (bA_ hn hw)).mono ?_
 rintro a h' ⟨n,e⟩
 exact⟨n,r,e,rfl⟩
theorem am_(h:List Row)(v:Value):∃n,resolve h n (.val v)=some (.val v):=⟨1,rfl⟩
theorem tr_{t:Nat→AV}{h:List Row}(a:Nat)(n:Option Nat)(K:AV→List Row→Prop):cD_ [.cell a n] K .ret t h=match ai_ t h (.load n (.tmp a))with|some av=>K av h|none=>False:=by
 simp only[cD_,dA_,mapM_cons,mapM_nil]
 cases ai_ t h (.load n (.tmp a))<;>simp[cO_]
theorem ie_{h:List Row}{n:Nat}:∀{cs:List AV},cs.all AV.flat=true→cs.mapM (resolve h (n+1))=some cs
 | [],_=>rfl
 | c::cs,hc=>by
  simp only[all_cons,Bool.and_eq_true]at hc
  have h1:resolve h (n+1) c=some c:=by
   cases c<;>first|rfl|simp[AV.flat]at hc
  rw[mapM_cons,h1,ie_ hc.2]
  rfl
theorem ho_{h:List Row}{n:Nat}:∀{es:List (List AV)},(∀e∈es,e.all AV.flat=true)→(es.mapM fun(e:List AV)=>e.mapM (resolve h (n+1)))=some es
 | [],_=>rfl
 | e::es,hc=>by
  rw[mapM_cons,ie_ (hc e (by simp)),ho_ (fun x hx=>hc x (by simp[hx]))]
  rfl
theorem bx_(h:List Row)(cs:List AV)(hc:cs.all AV.flat=true):∃n,resolve h n (.tup cs)=some (.tup cs) :=
 ⟨2,by show(cs.mapM (resolve h 1)).map AV.tup=_;rw[ie_ hc];rfl⟩
theorem qZ_{h:List Row}{l k:Nat}{r:Row}(h1:h[l]?=some r)(h2:r.es.length=k)(h3:∀e∈r.es,e.all AV.flat=true):∃n,resolve h n (.own l k)=some (.list 0 r.sz r.es) :=
 ⟨2,by
  have e:resolve h 2 (.own l k)=match h[l]? with
   | some r=>if r.es.length=k then(r.es.mapM fun(e:List AV)=>e.mapM (resolve h 1)).map (.list 0 r.sz)else none
   | none=>none:=rfl
  rw[e,h1]
  simp only[h2,if_true]
  rw[ho_ h3]
  rfl⟩
theorem af_{h:List Row}{a b:Bool}(e:a=b):∃n,resolve h n (.val (.bool a))=some (.val (.bool b)):=by subst e;exact⟨1,rfl⟩
theorem aM_{h:List Row}{k:IntKind}{a b:Int}(e:a=b):∃n,resolve h n (.val (.int k a))=some (.val (.int k b)):=by subst e;exact⟨1,rfl⟩
theorem bl_{h:List Row}{a b:ByteArray}(e:a=b):∃n,resolve h n (.val (.string a))=some (.val (.string b)):=by subst e;exact⟨1,rfl⟩
theorem PureCall.call{P:Program}{f:FuncId}{args:List AV}{h:List Row}{r:AV}(c:PureCall P f args h r){K:AV→List Row→Prop}(hk:K r h):callSem P f args h K:=c K hk
theorem PureCall.q{P:Program}{f:FuncId}{args:List AV}{h:List Row}{r:AV}(c:PureCall P f args h r){K:AV→Prop}(hk:K r):∃r,PureCall P f args h r∧K r:=⟨r,c,hk⟩
theorem iP_(h l:List Row):(h++l)[h.length]?=l[0]?:=by rw[getElem?_append_right (Nat.le_refl _),Nat.sub_self]
theorem g9_(h l:List Row)(k:Nat):(h++l)[h.length+k]?=l[k]?:=by rw[getElem?_append_right (by omega)];congr 1;omega
theorem An_(h l:List Row)(v:Row):(h++l).set h.length v=h++l.set 0 v:=by rw[set_append_right _ _ (Nat.le_refl _),Nat.sub_self]
theorem AF_(h l:List Row)(k:Nat)(v:Row):(h++l).set (h.length+k) v=h++l.set k v:=by rw[set_append_right _ _ (by omega)];congr 2;omega
def yg_{α:Type}(p:α→α→Bool):List α→List α→Bool
 | [],[]=>true
 | x::xs,y::ys=>p x y&&yg_ p xs ys
 | _,_=>false
def Sit.all(W:World):Sit:={ imm:=fun b=>match W.heap[b]? with|some (.cells c _ _)=>some c|_=>none,rows:=[] }
theorem ab_.all(W:World):ab_ (Sit.all W) [] W:=by
 refine⟨fun b c h=>?_,rfl,by simp[Sit.all],by simp[Sit.all]⟩
 simp only[Sit.all]at h
 split at h
 ·rename_i c' E fr e
  simp at h;subst h
  exact⟨E,fr,e⟩
 ·simp at h
def Rd(P:Program)(W:World)(t:TypeId){α:Type}(cells:α→List AV)(wf:α→Prop):Prop :=
 ∀(H:Type) (enc:TypeId×Value→H) (fuel:Nat) (cs:List Value) (d:DataW H) (ps:List MemPlace),DataW.trod enc P W 0 (fun _=>true) true fuel t cs=some (d,ps)→∃x,wf x∧ae_ (Sit.all W) (cells x) cs
section
variable {P : Program} {W : World} {t : TypeId}
def oV_(n:Int):Prop := -9223372036854775808≤n∧n≤9223372036854775807
def iY_(s:ByteArray):Prop:=s.size≤9223372036854775807
def fW_{α:Type}(wf:α→Prop)(xs:List α):Prop:=xs.length≤9223372036854775807∧∀x∈xs,wf x
theorem k3_{α:Type}{Q:Nat→α→Prop}:∀(n:Nat),(∀i,i<n→∃x,Q i x)→∃xs:List α,xs.length=n∧∀i x,xs[i]?=some x→Q i x
 | 0,_=>⟨[],rfl,by simp⟩
 | n+1,h=>by
  obtain⟨xs,hl,hx⟩:=k3_ n (fun i hi=>h i (by omega))
  obtain⟨y,hy⟩:=h n (by omega)
  refine⟨xs++[y],by simp[hl],fun i x hi=>?_⟩
  by_cases q:i<xs.length
  ·rw[getElem?_append_left q]at hi;exact hx i x hi
  ·rw[getElem?_append_right (by omega)]at hi
   have:i-xs.length=0:=by
    by_cases z:i-xs.length=0
    ·exact z
    ·obtain⟨k,hk⟩:=Nat.exists_eq_succ_of_ne_zero z
     rw[hk]at hi;simp at hi
   rw[this]at hi
   simp at hi;subst hi
   have:i=n:=by omega
   subst this;exact hy
theorem r4_{W:World}{a:Addr}:∀{n:Nat} {cs:List Value},((List.range n).mapM fun i=>W.cell? (a.add i))=some cs→cs.length=n∧∀j,j<n→W.cell? (a.add j)=cs[j]?:=by
 intro n
 induction n with
 | zero=>intro cs h;simp at h;subst h;simp
 | succ n ih =>
  intro cs h
  rw[range_succ,mapM_append]at h
  cases h1:((List.range n).mapM fun i=>W.cell? (a.add i))with
  | none=>simp[h1]at h
  | some c1 =>
   cases h2:W.cell? (a.add n)with
   | none=>simp[h1,h2]at h
   | some v =>
    simp[h1,h2]at h
    subst h
    obtain⟨e1,e2⟩:=ih h1
    refine⟨by simp[e1],fun j hj=>?_⟩
    by_cases q:j<n
    ·rw[getElem?_append_left (by omega)];exact e2 j q
    ·have:j=n:=by omega
     subst this
     rw[getElem?_append_right (by omega),e1]
     simpa using h2
theorem tY_{e:TypeId}{i:TypeInfo}{α:Type}{cells:α→List AV}{wf:α→Prop}{sz:Nat}(h:P.underlying t=some (.slice e))(hi:P.info? e=some i)(hsz:i.size=sz)(hpos:0<sz)(hc:∀x,(cells x).length=sz)(he:Rd P W e cells wf) :
 Rd P W t (fun xs:List α=>[.list 0 sz (xs.map cells)]) (fW_ wf):=by
 intro H enc fuel cs d ps hr
 have hcell:P.cellsOf e=sz:=by simp[Program.cellsOf,hi,hsz]
 rcases DataW.trod_slice h hr with ⟨e1,_⟩|⟨a,len,cap,elems,rest,n,_,e1,_,_,hlc,hcm,hel,hall,_⟩
 ·subst e1
  exact⟨[],⟨by simp,by simp⟩,by simp[ae_,Rep]⟩
 ·subst e1
  rw[hcell]at hall
  have hlen:len≤9223372036854775807:=by
   have:maxLen=9223372036854775807:=rfl
   omega
  cases Nat.eq_zero_or_pos len with
  | inl h0 =>
   subst h0
   exact⟨[],⟨by simp,by simp⟩,by simp[ae_,Rep]⟩
  | inr h0 =>
   have hel':∀k,k<len→∃x,wf x∧∃ck:List Value,ck.length=sz∧(∀j,j<sz→W.cell? ((a.add (k * sz)).add j)=ck[j]?)∧ae_ (Sit.all W) (cells x) ck:=by
    intro k hk
    have hk':=hall k hk
    have:k<elems.length:=by omega
    rw[getElem?_eq_getElem this]at hk'
    simp only[Option.bind_eq_some_iff]at hk'
    obtain⟨ck,q1,q2⟩:=hk'
    simp only[World.cells?,Nat.zero_le,if_true]at q1
    obtain⟨m1,m2⟩:=r4_ q1
    obtain⟨x,hx1,hx2⟩:=he H enc n ck _ _ q2
    exact⟨x,hx1,ck,m1,m2,hx2⟩
   have hspot:a.spot=none∧∃c,(Sit.all W).imm a.block=some c:=by
    obtain⟨x,_,ck,m1,m2,hx⟩:=hel' 0 h0
    have h00:=m2 0 hpos
    have hck:ck[0]?≠none:=by
     have:0<ck.length:=by omega
     rw[getElem?_eq_getElem this];simp
    have ha:(a.add (0 * sz)).add 0=a:=by simp[Addr.add]
    rw[ha]at h00
    simp only[World.cell?]at h00
    cases hb:W.heap[a.block]? with
    | none=>rw[hb]at h00;exact absurd h00.symm hck
    | some o =>
     rw[hb]at h00
     cases o with
     | cells c E fr =>
      simp only at h00
      split at h00
      ·exact absurd h00.symm hck
      ·rename_i hs
       exact⟨by simpa using hs,c,by simp[Sit.all,hb]⟩
     | _=>exact absurd h00.symm hck
   obtain⟨hs,c,hbc⟩:=hspot
   obtain⟨b,off,sp⟩:=a
   simp only at hs hbc
   subst hs
   have hcellc:∀q,W.cell? ⟨b,q,none⟩=c[q]?:=by
    intro q
    simp only[Sit.all]at hbc
    split at hbc
    ·rename_i c' E fr hb
     simp at hbc;subst hbc
     simp[World.cell?,hb]
    ·simp at hbc
   obtain⟨xs,hxl,hxs⟩:=k3_ len (Q:=fun k x=>wf x∧∃ck:List Value,ck.length=sz∧(∀j,j<sz→W.cell? (((⟨b,off,none⟩:Addr).add (k * sz)).add j)=ck[j]?)∧ae_ (Sit.all W) (cells x) ck) hel'
   refine⟨xs,⟨by omega,fun x hx=>?_⟩,?_⟩
   ·obtain⟨k,hk⟩:=mem_iff_getElem?.1 hx
    exact(hxs k x hk).1
   ·simp only[ae_]
    refine⟨_,_,rfl,?_,rfl⟩
    have hu:∀d∈xs.map cells,d.length=sz:=by
     intro d hd
     obtain⟨x,_,q⟩:=mem_map.1 hd
     subst q;exact hc x
    have hLL:aj_ (Sit.all W) (xs.map cells) (c.toList.drop off):=by
     refine(bi_ hu).2 fun k d hd j cc hcj=>?_
     rw[getElem?_map,Option.map_eq_some_iff]at hd
     obtain⟨x,hx,q⟩:=hd
     subst q
     obtain⟨_,ck,m1,m2,hx2⟩:=hxs k x hx
     obtain⟨v,hv,r⟩:=ae_.get hx2 hcj
     refine⟨v,?_,r⟩
     have hj:j<sz:=by
      rcases List.getElem?_eq_some_iff.1 hcj with ⟨q,_⟩
      rw[hc x]at q;exact q
     have:=m2 j hj
     rw[b1_,b1_,hcellc,hv]at this
     rw[getElem?_drop,Array.getElem?_toList,←this]
     congr 1;omega
    simp only[Rep]
    right
    refine⟨b,off,cap,c,by simp[hxl],by simp[hxl];exact hlc,hbc,hu,.inl trivial,?_,hLL⟩
    have hlast:=(bi_ hu).1 hLL (len-1) (cells (xs[len-1]'(by omega))) (by rw[getElem?_map,getElem?_eq_getElem (by omega)];rfl) (sz-1)
    have hcl:=hc (xs[len-1]'(by omega))
    obtain⟨v,hv,_⟩:=hlast ((cells (xs[len-1]'(by omega)))[sz-1]'(by omega)) (getElem?_eq_getElem (by omega))
    rcases List.getElem?_eq_some_iff.1 hv with ⟨q,_⟩
    simp only[length_drop,Array.length_toList]at q
    simp only[length_map,hxl]
    obtain⟨m,hm⟩:∃m,len=m+1:=⟨len-1,by omega⟩
    subst hm
    simp only[Nat.add_sub_cancel]at q
    rw[Nat.add_mul];omega
theorem ro_{H:Type}{enc:TypeId×Value→H}{α:Type}{cells:α→List AV}{wf:α→Prop}{v:Value}{d:DataW H}{ps:List MemPlace}(f:α→AV)(hf:∀x,cells x=[f x])(hr:Rd P W t cells wf)(hv:v.oneCell'=true)
 (h:DataW.Trod enc P W 0 (fun _=>true) true t v d ps):∃x,wf x∧Rep (Sit.all W) (f x) v:=by
 obtain⟨fuel,h⟩:=h
 obtain⟨x,h1,h2⟩:=hr H enc fuel _ _ _ h
 have hc:v.cells.toList=[v]:=by cases v<;>first|rfl|simp[Value.oneCell']at hv
 rw[hc,hf x]at h2
 simp only[ae_]at h2
 obtain⟨u,r,e,h3,_⟩:=h2
 simp at e
 rw[e.1]
 exact⟨x,h1,h3⟩
theorem ti_{P:Program}{W:World}{f:FuncId}{args:List AV}{vals:Array Value}(hc:∀h,PureCall P f args h (.val (.bool true)))(hgl:cn_ P (Sit.all W))(hr:ae_ (Sit.all W) args vals.toList) :
 Calls P f vals W fun e W'=>e=.returned (.bool true)∧Below W.heap.size W W':=by
 refine(hc [] (fun r h'=>r=.val (.bool true)) rfl (Sit.all W) W vals (ab_.all W) hgl hr).mono ?_
 rintro e w' ⟨v,av,S',h',rfl,st,_,rv,rfl⟩
 simp only[Rep]at rv
 subst rv
 refine⟨rfl,st.os,st.tape,st.output,st.size,fun k hk=>st.block k hk ?_⟩
 rintro⟨l,i,q,_⟩
 simp[Sit.all]at q
end
abbrev aK_(n:Int):List AV:=[.val (.int .i64 n)]
abbrev ak_(s:ByteArray):List AV:=[.val (.string s)]
abbrev AW_{α:Type}(n:Nat)(f:α→List AV)(xs:List α):List AV:=[.list 0 n (xs.map f)]
def hs_{α:Type}(f:α→Nat):List α→Nat
 | []=>0
 | x::xs=>f x+hs_ f xs
def c5_{α:Type}(f:α→Nat)(xs:List α):Nat:=xs.length+hs_ f xs
theorem nY_{α:Type}(f:α→Nat):∀(xs:List α) (x:α),x∈xs→f x≤hs_ f xs
 | y::ys,x,h=>by
  simp only[hs_]
  rcases mem_cons.1 h with e|e
  ·subst e;omega
  ·have:=nY_ f ys x e;omega
theorem ma_{α:Type}{f:α→Nat}{xs:List α}{x:α}(h:x∈xs):f x+1≤c5_ f xs:=by
 have:=nY_ f xs x h
 have:0<xs.length:=length_pos_of_mem h
 simp only[c5_];omega
theorem fv_{α:Type}{f:α→Nat}{xs:List α}:xs.length≤c5_ f xs:=by simp only[c5_];omega
theorem xr_{P:Program}{t:TypeId}{n:Nat}(h:(P.info? t).map (·.size)=some n):∃i,P.info? t=some i∧i.size=n:=by
 simpa[Option.map_eq_some_iff]using h
theorem n7_{S:Sit}{a:AV}{as:List AV}{v:Value}{vs:List Value}(h1:Rep S a v)(h2:ae_ S as vs):ae_ S (a::as) (v::vs):=by
 simp only[ae_];exact⟨v,vs,rfl,h1,h2⟩
theorem uh_(S:Sit){vs:List Value}(h:vs=[]):ae_ S [] vs:=by simp[ae_,h]
theorem nS_{α:Type}{f:α→Nat}{xs:List α}{b:Nat}(h:c5_ f xs≤b){x:α}(hx:x∈xs):f x≤b :=
 Nat.le_trans (Nat.le_of_succ_le (ma_ (f:=f) hx)) h
theorem sl_{α:Type}{f:α→Nat}{xs:List α}{b:Nat}(h:c5_ f xs≤b):xs.length≤b:=Nat.le_trans fv_ h
attribute [go_sem] AM_ ui_ zu_ zV_ xE_ um_ w9_ tX_
attribute [go_sem] oI_ ns_ o6_ oy_
attribute [go_sem] xWp cY_
attribute [go_sem] xQ_ vh_ xd_ ta_ x9_ aX_ qWp ai_
attribute [go_sem] ah_ vD_ t3_ w2_ cb_ cellsOf cs_ AV.cell
attribute [go_sem] Value.oneCell' xC_ m8_ qB_ pr_ w1_ zJ_
attribute [go_sem] xi_ ur_ oB_ oY_ lV_ pQ_ nG_ qr_
attribute [go_sem] tF_ sY_ tS_ gD_ xK_ wZ_ wI_ xo_
attribute [go_sem] xq_ xj_ w4_ xl_ u9_ up_ vI_ uP_
attribute [go_sem] ut_ z6_ getD_cons_zero getD_cons_succ length_map getElem?_map getElem?_cons_zero getElem?_cons_succ
attribute [go_sem] drop_zero drop_succ_cons take_succ_cons take_zero List.length_cons List.length_nil all_cons all_nil
attribute [go_sem] map_cons map_nil append_nil nil_append cons_append set_cons_zero set_cons_succ Bool.and_true
attribute [go_sem] Bool.true_and Bool.not_true Bool.not_false Option.map_some if_false if_true Int.toNat_natCast Int.natCast_nonneg
attribute [go_sem] Int.toNat_zero Int.ofNat_lt true_and and_true decide_eq_true_eq decide_eq_false_iff_not decide_true decide_false
attribute [go_sem] Bool.not_eq_true Nat.add_zero Nat.zero_add Bool.true_eq_false Bool.false_eq_true false_implies true_implies implies_true
attribute [go_sem] forall_const ge_iff_le gt_iff_lt Bool.not_not beq_self_eq_true Nat.le_refl eq_self_iff_true eq_self
attribute [go_sem] not_true_eq_false not_false_eq_true Value.cells ne_eq size_toArray toList_toArray Option.some.injEq append_assoc
attribute [go_sem] and_self mapM_nil mapM_cons Option.pure_def Option.bind_eq_bind Option.bind_some List.length_append replicate_zero
attribute [go_sem] Int.natCast_zero Tag.ofNat_eq Tag.ty.injEq Tag.full.injEq Tag.isFull_ty Tag.isFull_full Tag.isFull_byt Tag.isByt_ty Tag.isByt_full Tag.byt.injEq
attribute [go_sem] xh_ xp_ vw_ qV_ pA_
attribute [go_sem] tr_ qu_ iP_ g9_ An_ AF_
attribute [go_sem] vt_ tR_ uv_ tv_ beq_true beq_false
def z0z:Value:=.agg #[.int .i64 0,.slice none 0 0]
def z1z:Value:=.agg #[.bool false,.slice none 0 0,.slice none 0 0,.slice none 0 0]
def z2z:Value:=.agg #[.int .i64 0,.bool false,.slice none 0 0,.slice none 0 0,.slice none 0 0]
attribute [go_sem] LI.m LI.s LI.z LI.g LI.ki LI.ln LI.ld LI.fa LI.ia LI.ex LI.ll LI.nt LI.nc LI.st LI.bb LI.bk LI.pt LI.pf LI.c1 LI.c2 LI.c3 LI.ap LI.f LI.t LI.bx LI.nl LI.gm LI.gn LI.gl LI.gf LI.gu LI.gc LC.k LC.o LC.q1 LC.q2 z0z z1z z2z
theorem br_{α:Type}[_root_.LT α]{a b:α}[Decidable (a<b)](h:decide (a<b)=true):a<b:=of_decide_eq_true h
theorem bn_{α:Type}[_root_.LE α]{a b:α}[Decidable (a≤b)](h:decide (a≤b)=true):a≤b:=of_decide_eq_true h
theorem bq_{α:Type}[_root_.LT α]{a b:α}[Decidable (a<b)](h:decide (a<b)=false):¬ (a<b):=of_decide_eq_false h
theorem bp_{α:Type}[_root_.LE α]{a b:α}[Decidable (a≤b)](h:decide (a≤b)=false):¬ (a≤b):=of_decide_eq_false h
theorem ls_{α:Type}{as:List α}{i:Nat}{a:α}:(as.set i a).length=as.length:=List.length_set
theorem la_{α:Type}{as bs:List α}:(as++bs).length=as.length+bs.length:=List.length_append
theorem lc_{α:Type}{a:α}{as:List α}:(a::as).length=as.length+1:=List.length_cons
theorem ln_{α:Type}:([]:List α).length=0:=List.length_nil
theorem lzz0_{α:Type}:(∀(as:List α) (i:Nat) (a:α),(as.set i a).length=as.length)∧(∀as bs:List α,(as++bs).length=as.length+bs.length)∧(∀(a:α) (as:List α),(a::as).length=as.length+1)∧([]:List α).length=0:=⟨fun _ _ _=>List.length_set,fun _ _=>List.length_append,fun _ _=>List.length_cons,List.length_nil⟩
end Go.AW
