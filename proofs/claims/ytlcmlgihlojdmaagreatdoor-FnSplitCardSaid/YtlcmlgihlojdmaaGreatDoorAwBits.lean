/-
 AW, part 31: texts that are being built: functions that own one builder (strings.Builder) and no other row.
-/
import Derived.Test.YtlcmlgihlojdmaaGreatDoorAwC
import Derived.Test.YtlcmlgihlojdmaaGreatDoorPlKey
import Derived.Lib.OthersKept
import Derived.Lib.Replace
namespace Go.AW
open List
set_option linter.unusedVariables false
set_option linter.unusedSimpArgs false
open Go.RowKit (Below)
structure Bd where
 bd:Option (Nat×List UInt8)
 bx:Option (Nat×List AV)
instance:Coe (Option (Nat×List UInt8)) Bd:=⟨fun o=>⟨o,none⟩⟩
abbrev Bd.no:Bd:=⟨none,none⟩
abbrev Bd.of(b:Nat)(l:List UInt8):Bd:=⟨some (b,l),none⟩
def js_(T e:TypeId)(B:Nat)(w:World)(σ:Bd):Prop :=
 match σ.bd with
 | none=>True
 | some (b,bs)=>Lib.IsBuilderF T e B b (Lib.byteCells bs) w
structure cM_(P:Program)(T e:TypeId)(S:Sit)(B:Nat)(σ:Bd)(w:World):Prop where
 rows:S.rows=[]
 imm:∀k c,S.imm k=some c→k<B∧∃E fr,w.heap[k]?=some (.cells c E fr)
 size:B≤w.heap.size
 glob:cn_ P S
 bd:js_ T e B w σ
 box:∀k cs,σ.bx=some (k,cs)→B≤k∧∃E c,w.heap[k]?=some (.cells c E (0,0))∧E≠T∧E≠e∧ae_ S cs c.toList
section
variable {P : Program} {T e : TypeId} {S : Sit} {B : Nat} {σ : Bd} {w w' : World}
theorem cM_.models(d:cM_ P T e S B σ w):ab_ S [] w:=⟨fun b c h=>(d.imm b c h).2,by simp[d.rows],by simp[d.rows],by simp[d.rows]⟩
theorem Below.less{B':Nat}(h:Below B w w')(hb:B'≤B):Below B' w w':=⟨h.os,h.tape,h.output,h.size,fun k hk=>h.block k (by omega)⟩
theorem cM_.turn{σ':Bd}(d:cM_ P T e S B σ w)(b:Below B w w')(h:js_ T e B w' σ')(hx:∀k cs,σ'.bx=some (k,cs)→B≤k∧∃E c,w'.heap[k]?=some (.cells c E (0,0))∧E≠T∧E≠e∧ae_ S cs c.toList):cM_ P T e S B σ' w' :=
 ⟨d.rows,fun k c q=>⟨(d.imm k c q).1,by rw[b.block k (d.imm k c q).1];exact(d.imm k c q).2⟩,Nat.le_trans d.size b.size,d.glob,h,hx⟩
theorem pB_{b:Nat}{p:Value}{bs:List Value}(h:Lib.BuilderAtF T e B b p bs w)(k:Below w.heap.size w w'):Lib.BuilderAtF T e B b p bs w':=by
 have hlt:=h.lt
 obtain⟨hB,v,hb,⟨h1,h2⟩,hne⟩:=h
 refine⟨hB,v,by rw[k.block b hlt];exact hb,⟨h1,?_⟩,hne⟩
 rcases h2 with h2|⟨g,cap,cur,fz,e1,e2,e3,rest⟩
 ·exact .inl h2
 ·have:g<w.heap.size:=(Array.getElem?_eq_some_iff.1 e3).1
  exact .inr ⟨g,cap,cur,fz,e1,e2,by rw[k.block g this];exact e3,rest⟩
theorem nO_:∀{σ:Bd},js_ T e B w σ→Below w.heap.size w w'→js_ T e B w' σ
 | ⟨none,_⟩,_,_=>trivial
 | ⟨some (b,bs),_⟩,h,k=>Or.elim (show Lib.IsBuilderF T e B b (Lib.byteCells bs) w from h) (fun x=>.inl (pB_ x k)) (fun x=>.inr (pB_ x k))
theorem cM_.keep(d:cM_ P T e S B σ w)(k:Below w.heap.size w w'):cM_ P T e S B σ w':=d.turn (Below.less k d.size) (nO_ d.bd k) (fun q cs hq=>by
 obtain⟨h0,E,c,h1,h2⟩:=d.box q cs hq
 exact⟨h0,E,c,by rw[k.block q (Array.getElem?_eq_some_iff.1 h1).1];exact h1,h2⟩)
theorem nP_{b j:Nat}{p:Value}{bs:List Value}{c:Array Value}{E:TypeId}(h:Lib.BuilderAtF T e B b p bs w)(hj:w.heap[j]?=some (.cells c E (0,0)))(hT:E≠T)(he:E≠e)(k:∀q,q≠j→w'.heap[q]?=w.heap[q]?):Lib.BuilderAtF T e B b p bs w':=by
 obtain⟨hB,v,hb,⟨h1,h2⟩,hne⟩:=h
 have hbj:b≠j:=by
  intro q;subst q
  rw[hb]at hj
  simp at hj
  exact hT hj.2.symm
 refine⟨hB,v,by rw[k b hbj];exact hb,⟨h1,?_⟩,hne⟩
 rcases h2 with h2|⟨g,cap,cur,fz,e1,e2,e3,rest⟩
 ·exact .inl h2
 ·have hgj:g≠j:=by
   intro q;subst q
   rw[e3]at hj
   simp at hj
   exact he hj.2.1.symm
  exact .inr ⟨g,cap,cur,fz,e1,e2,by rw[k g hgj];exact e3,rest⟩
theorem r9_{j:Nat}{c:Array Value}{E:TypeId}(hj:w.heap[j]?=some (.cells c E (0,0)))(hT:E≠T)(he:E≠e)(k:∀q,q≠j→w'.heap[q]?=w.heap[q]?):∀{σ σ':Bd},σ'.bd=σ.bd→js_ T e B w σ→js_ T e B w' σ'
 | ⟨none,_⟩,⟨none,_⟩,_,_=>trivial
 | ⟨some (b,bs),_⟩,⟨some (b',bs'),_⟩,hq,h=>by
  simp only[Option.some.injEq,Prod.mk.injEq]at hq
  obtain⟨rfl,rfl⟩:=hq
  exact Or.elim (show Lib.IsBuilderF T e B b' (Lib.byteCells bs') w from h) (fun x=>.inl (nP_ x hj hT he k)) (fun x=>.inr (nP_ x hj hT he k))
theorem q6_{σ σ':Bd}(hq:σ'.bd=σ.bd)(h:js_ T e B w σ):js_ T e B w σ':=by
 unfold js_ at h⊢;rw[hq];exact h
end
def fX_(P:Program)(T e:TypeId)(f:FuncId)(args:List AV)(σ:Bd)(K:AV→Bd→Prop):Prop :=
 ∀(S:Sit) (B:Nat) (w:World) (vals:Array Value),cM_ P T e S B σ w→ae_ S args vals.toList →
  Calls P f vals w fun en w'=>∃v av σ',en=.returned v∧Below B w w'∧cM_ P T e S B σ' w'∧Rep S av v∧K av σ'
theorem PureCall.b{P:Program}{T e:TypeId}{f:FuncId}{args:List AV}{σ:Bd}{r:AV}(hs:r.solid=true)(hc:PureCall P f args [] r){K:AV→Bd→Prop}(hk:K r σ):fX_ P T e f args σ K:=by
 intro S B w vals d hr
 refine(hc (fun q _=>q=r) rfl S w vals d.models d.glob hr).mono ?_
 rintro en w' ⟨v,av,S',h',rfl,st,hm',rv,rfl⟩
 have bel:Below w.heap.size w w':=⟨st.os,st.tape,st.output,st.size,fun k hk=>st.block k hk (by rintro⟨l,i,q,_⟩;simp[d.rows]at q)⟩
 exact⟨v,_,σ,rfl,Below.less bel d.size,d.keep bel,jP_ hs rv,hk⟩
def vH_:Value:=.agg #[.pointer none,.slice none 0 0]
def fc_(P:Program)(T e:TypeId)(t:Nat→AV)(σ:Bd)(K:AV→Bd→Prop):LOp→Prop
 | .alloc E z =>
  match σ.bd with
  | none=>E=T∧z=vH_∧∀b,K (.val (.pointer (some ⟨b,0,none⟩))) (Bd.of b [])
  | some (b,l)=>E≠T∧E≠e∧∀k,K (.val (.pointer (some ⟨k,0,none⟩))) ⟨some (b,l),some (k,z.cells.toList.map .val)⟩
 | .store n p x =>
  match ah_ t p,σ.bx,cellsOf (ah_ t x)with
  | .val (.pointer (some ⟨k,0,none⟩)),some (k',cs),some cs'=>k=k'∧cs'.length=n∧cs.length=n∧K .undef ⟨σ.bd,some (k,cs')⟩
  | _,_,_=>False
 | .load m p =>
  match ah_ t p,σ.bx,m with
  | .val (.pointer (some ⟨k,0,none⟩)),some (k',cs),some n=>k=k'∧cs.length=n∧K (.agg cs) ⟨σ.bd,none⟩
  | _,_,_ =>
   match ai_ t [] (.load m p)with
   | some v=>K v σ
   | none=>False
 | .call f args=>fX_ P T e f (args.map (ah_ t)) σ K
 | op=>match ai_ t [] op with
  | some v=>K v σ
  | none=>False
def iZ_(P:Program)(T e:TypeId):List LI→(Nat→AV)→Bd→((Nat→AV)→Bd→Prop)→Prop
 | [],t,σ,K=>K t σ
 | i::rest,t,σ,K =>
  match cb_ t i.guard with
  | some true=>fc_ P T e t σ (fun v σ'=>iZ_ P T e rest (put t i.dst v) σ' K) i.op
  | some false=>iZ_ P T e rest (put t i.dst (.val Go.undef)) σ K
  | none=>False
def dB_(P:Program)(T e:TypeId)(σ:Bd)(t:Nat→AV)(K:AV→Prop):LOp→Prop
 | .call f args=>∃r,fX_ P T e f (args.map (ah_ t)) σ (fun v σ'=>v=r∧σ'=σ)∧K r
 | op=>match ai_ t [] op with
  | some v=>K v
  | none=>False
def gA_(P:Program)(T e:TypeId)(σ:Bd):List LI→(Nat→AV)→((Nat→AV)→Prop)→Prop
 | [],t,K=>K t
 | i::rest,t,K =>
  match cb_ t i.guard with
  | some true=>dB_ P T e σ t (fun v=>gA_ P T e σ rest (put t i.dst v) K) i.op
  | some false=>gA_ P T e σ rest (put t i.dst (.val Go.undef)) K
  | none=>False
theorem sr_{P:Program}{T e:TypeId}{σ:Bd}{t t':Nat→AV}{K:AV→Prop}(op:LOp)(he:∀x∈op.operands,ah_ t x=ah_ t' x)(q:dB_ P T e σ t K op):dB_ P T e σ t' K op:=by
 cases op with
 | call f args =>
  simp only[dB_]at q⊢
  rw[←map_congr_left (l:=args) (fun x hx=>he x (by simpa[LOp.operands]using hx))];exact q
 | _ =>
  simp only[dB_]at q⊢
  rw[←eI_ _ he];exact q
theorem sf_{P:Program}{T e:TypeId}{σ:Bd}{t:Nat→AV}{K:AV→Prop}{op:LOp}(q:dB_ P T e σ t K op):∃v,dB_ P T e σ t (fun u=>u=v) op∧K v:=by
 cases op with
 | call f args =>
  simp only[dB_]at q⊢
  obtain⟨r,h1,h2⟩:=q
  exact⟨r,⟨r,h1,rfl⟩,h2⟩
 | _ =>
  simp only[dB_]at q⊢
  split at q
  ·rename_i v _
   exact⟨v,rfl,q⟩
  ·exact q.elim
theorem ob_{P:Program}{T e:TypeId}{σ:Bd}{K:(Nat→AV)→Prop}:∀(n:Nat) (l:List LI) (i:Nat) (t0:Nat→AV) (vs0:Nat→AV),n+i=l.length→gA_ P T e σ (l.drop i) (tAt l t0 vs0 i) K →
 ∃vs:Nat→AV,(∀k,k<i→vs k=vs0 k)∧K (tAt l t0 vs l.length)∧∀k x,i≤k→l[k]?=some x →
  match cb_ (tAt l t0 vs k) x.guard with
  | some true=>dB_ P T e σ (tAt l t0 vs k) (fun v=>v=vs k) x.op
  | some false=>vs k=.val Go.undef
  | none=>False
 | 0,l,i,t0,vs0,hn,ha=>by
  have:l.drop i=[]:=drop_eq_nil_of_le (by omega)
  rw[this]at ha
  refine⟨vs0,fun _ _=>rfl,?_,fun k x hk hx=>?_⟩
  ·have:i=l.length:=by omega
   subst this;exact ha
  ·have:k<l.length:=by rcases List.getElem?_eq_some_iff.1 hx with ⟨q,_⟩;exact q
   omega
 | n+1,l,i,t0,vs0,hn,ha=>by
  have hi:i<l.length:=by omega
  have hd:l.drop i=l[i]::l.drop (i+1):=drop_eq_getElem_cons hi
  rw[hd]at ha
  have tcongr:∀(vs vs':Nat→AV) (j:Nat),(∀k,k<j→vs k=vs' k)→tAt l t0 vs j=tAt l t0 vs' j:=by
   intro vs vs' j
   induction j with
   | zero=>intro _;rfl
   | succ j ih =>
    intro hk
    simp only[tAt]
    rw[ih (fun k hk'=>hk k (by omega)),hk j (by omega)]
  have key:∀v,gA_ P T e σ (l.drop (i+1)) (put (tAt l t0 vs0 i) l[i].dst v) K→(match cb_ (tAt l t0 vs0 i) l[i].guard with
   | some true=>dB_ P T e σ (tAt l t0 vs0 i) (fun u=>u=v) l[i].op
   | some false=>v=.val Go.undef
   | none=>False)→∃vs:Nat→AV,(∀k,k<i→vs k=vs0 k)∧K (tAt l t0 vs l.length)∧∀k x,i≤k→l[k]?=some x →
   match cb_ (tAt l t0 vs k) x.guard with
   | some true=>dB_ P T e σ (tAt l t0 vs k) (fun v=>v=vs k) x.op
   | some false=>vs k=.val Go.undef
   | none=>False:=by
   intro v hv hm
   have e1:tAt l t0 (fun k=>if k=i then v else vs0 k) i=tAt l t0 vs0 i:=tcongr _ _ i (fun k hk=>by simp[Nat.ne_of_lt hk])
   have hstep:tAt l t0 (fun k=>if k=i then v else vs0 k) (i+1)=put (tAt l t0 vs0 i) l[i].dst v:=by
    simp only[tAt,getElem?_eq_getElem hi,e1]
    simp
   obtain⟨vs,h1,h2,h3⟩:=ob_ n l (i+1) t0 (fun k=>if k=i then v else vs0 k) (by omega) (by rw[hstep];exact hv)
   refine⟨vs,fun k hk=>by rw[h1 k (by omega)];simp[Nat.ne_of_lt hk],h2,fun k x hk hx=>?_⟩
   by_cases hki:k=i
   ·subst hki
    rw[getElem?_eq_getElem hi]at hx
    simp at hx;subst hx
    have e2:tAt l t0 vs k=tAt l t0 vs0 k:=tcongr _ _ k (fun j hj=>by rw[h1 j (by omega)];simp[Nat.ne_of_lt hj])
    have e3:vs k=v:=by rw[h1 k (by omega)];simp
    rw[e2,e3];exact hm
   ·exact h3 k x (by omega) hx
  simp only[gA_]at ha
  split at ha
  ·rename_i hw
   obtain⟨v,hv1,hv2⟩:=sf_ ha
   exact key v hv2 (by rw[hw];exact hv1)
  ·rename_i hw
   exact key _ ha (by rw[hw])
  ·exact ha.elim
abbrev d2_:=LE→(Nat→AV)→Bd→Prop
def bwp(P:Program)(T e:TypeId):LC→d2_→(Nat→AV)→Bd→Prop
 | .skip,Q,t,σ=>Q .normal t σ
 | .ops l,Q,t,σ=>iZ_ P T e l t σ (Q .normal)
 | .dops l,Q,t,σ=>gA_ P T e σ l t (fun t'=>Q .normal t' σ)
 | .gops _ _,_,_,_=>False
 | .pops _ _ _,_,_,_=>False
 | .alts _,_,_,_=>False
 | .seq a b,Q,t,σ=>bwp P T e a (fun en t σ=>match en with|.normal=>bwp P T e b Q t σ|en=>Q en t σ) t σ
 | .cond c a b,Q,t,σ =>
  match ah_ t c with
  | .val (.bool q)=>(q=true→bwp P T e a Q t σ)∧(q=false→bwp P T e b Q t σ)
  | _=>False
 | .block id b,Q,t,σ=>bwp P T e b (fun en t σ=>match en with|.exit k=>if k=id then Q .normal t σ else Q (.exit k) t σ|en=>Q en t σ) t σ
 | .loop b,Q,t,σ=>∃(I:Nat→(Nat→AV)→Bd→Prop) (n:Nat),I n t σ∧∀n t σ,I n t σ→bwp P T e b (fun en t' σ'=>match en with|.normal=>∃m,m<n∧I m t' σ'|en=>Q en t' σ') t σ
 | .exit id,Q,t,σ=>Q (.exit id) t σ
 | .ret,Q,t,σ=>Q .ret t σ
 | .ghost _,_,_,_=>False
section
variable {P : Program} {T e : TypeId} {N : Nat} {pf : Bool}
theorem oj_{S:Sit}{B:Nat}{σ:Bd}{w:World}{t:Nat→AV}{a:Act}{o:Oper}{lo:LOp}{K:AV→Bd→Prop}{next:Act→World→Prop}{Q:Exit→Act→World→Prop}(hTe:T≠e)
 (hlow:ex_ P o.op=some lo) (hok:fs_ N lo=true) (d:cM_ P T e S B σ w) (hr:Rel S N t a) (hw:fc_ P T e t σ K lo)
 (hh:∀v av σ' w',Below B w w'→cM_ P T e S B σ' w'→Rep S av v→K av σ'→next (a.put o.dst v) w'):o.wp P a w next Q:=by
 have gen:(match ai_ t [] lo with|some v=>K v σ|none=>False)→o.wp P a w next Q:=by
  intro hq
  cases hv:ai_ t [] lo with
  | none=>rw[hv]at hq;exact hq.elim
  | some av =>
   rw[hv]at hq
   obtain⟨v,h1,h2⟩:=sj_ hlow hok d.models hr hv
   unfold Oper.wp
   rw[h1]
   exact hh v av σ w (Below.refl B w) d h2 hq
 cases lo with
 | alloc E z =>
  have hlow:=fb_ hlow (by simp)
  have hop:∃i,o.op=.alloc E∧P.info? E=some i∧i.zero=some z:=by
   cases hop:o.op with
   | alloc E' =>
    simp only[hop,aw_,Option.bind_eq_some_iff,Option.map_eq_some_iff]at hlow
    obtain⟨i,h1,z,h2,e⟩:=hlow
    simp only[LOp.alloc.injEq]at e
    obtain⟨e1,e2⟩:=e
    subst e1 e2
    exact⟨i,rfl,h1,h2⟩
   | call c =>
    rw[hop]at hlow
    simp only[aw_,di_]at hlow
    repeat' split at hlow
    all_goals simp at hlow
   | _ =>
    rw[hop]at hlow
    simp only[aw_]at hlow
    repeat' split at hlow
    all_goals first|contradiction|(simp at hlow;done)|(simp[Option.bind_eq_some_iff,Option.map_eq_some_iff]at hlow;done)|(simp only[Option.bind_eq_some_iff,Option.map_eq_some_iff]at hlow;(obtain⟨_,_,_,_,q⟩:=hlow);(repeat' split at q)<;>simp at q)
  obtain⟨i,hop,hi,hz⟩:=hop
  have hrun:(execOp a.eval o).run P w=.ok (.value (.pointer (some ⟨w.heap.size,0,none⟩))) (w.alloc (.cells z.cells E)):=by
   simp[execOp,hop,Instr.alloc,zeroValue,eh_ hi,hz,newVar,newRow]
  have bel:Below w.heap.size w (w.alloc (.cells z.cells E)):=(Below.refl _ w).alloc (Nat.le_refl _) _
  simp only[fc_]at hw
  refine a2_ hrun ?_
  split at hw
  ·rename_i hnone
   obtain⟨rfl,rfl,hk⟩:=hw
   refine hh _ (.val (.pointer (some ⟨w.heap.size,0,none⟩))) (Bd.of w.heap.size []) _ (Below.less bel d.size) (d.turn (Below.less bel d.size) ?_ (fun _ _ q=>by cases q)) (by simp[Rep]) (hk _)
   refine .inl ⟨d.size,.slice none 0 0,?_,⟨rfl,.inl ⟨rfl,rfl⟩⟩,by simp[Value.ownBlock]⟩
   exact heap_alloc_new w _
  ·rename_i b l hsome
   obtain⟨hT,he,hk⟩:=hw
   refine hh _ (.val (.pointer (some ⟨w.heap.size,0,none⟩))) ⟨some (b,l),some (w.heap.size,z.cells.toList.map .val)⟩ _ (Below.less bel d.size) (d.turn (Below.less bel d.size) (q6_ (by rw[hsome]) (nO_ d.bd bel)) ?_) (by simp[Rep]) (hk _)
   intro k cs hq
   simp only[Option.some.injEq,Prod.mk.injEq]at hq
   obtain⟨rfl,rfl⟩:=hq
   exact⟨d.size,E,z.cells,heap_alloc_new w _,hT,he,fL_ S _⟩
 | store n p x =>
  have hlowA:=hlow
  have hlow:=fb_ hlow (by simp)
  simp only[fc_]at hw
  split at hw
  ·rename_i k k' cs cs' q1 q2 q3
   obtain⟨rfl,h1,h2,hk⟩:=hw
   have hmem:=dO_ hok
   obtain⟨h0,E,c,hc,hT,he,hrc⟩:=d.box _ _ q2
   have rp:=hr.eval (hmem p (by simp[LOp.operands]))
   rw[q1]at rp
   simp only[Rep]at rp
   obtain⟨rx,rcell⟩:=gC_ q3 (hr.eval (hmem x (by simp[LOp.operands])))
   have hlen:=ae_.length rx
   have hcl:=ae_.length hrc
   have hop:∃ty i,o.op=.store ty p x∧P.info? ty=some i∧i.size=n:=by
    cases hop:o.op with
    | store ty p' x' =>
     simp only[hop,aw_,Option.map_eq_some_iff]at hlow
     obtain⟨i,h1,e⟩:=hlow
     simp only[LOp.store.injEq]at e
     obtain⟨e1,e2,e3⟩:=e
     subst e2 e3
     exact⟨ty,i,rfl,h1,e1⟩
    | call c =>
     rw[hop]at hlow
     simp only[aw_,di_]at hlow
     repeat' split at hlow
     all_goals simp at hlow
    | _ =>
     rw[hop]at hlow
     simp only[aw_]at hlow
     repeat' split at hlow
     all_goals first|contradiction|(simp at hlow;done)|(simp[Option.bind_eq_some_iff,Option.map_eq_some_iff]at hlow;done)
   obtain⟨ty,i,hop,hi,hin⟩:=hop
   have hcs:c.size=n:=by rw[←h2,←hcl,Array.length_toList]
   have hvs:(a.eval x).cells.toList.length=n:=by rw[hlen,h1]
   have hst:=run_storeCells_at (P:=P) k 0 E (a.eval x).cells.toList 0 c w hc (by omega) (kB_ rcell rx)
   simp only[Nat.add_zero,Nat.zero_add,take_zero,nil_append]at hst
   have hdrop:c.toList.drop (a.eval x).cells.toList.length=[]:=drop_eq_nil_of_le (by rw[hvs,Array.length_toList,hcs];exact Nat.le_refl _)
   rw[hdrop,append_nil,Array.toArray_toList]at hst
   have hcsz:(a.eval x).cells.size=i.size:=by rw[hin,←hvs,Array.length_toList]
   have hrun:(execOp a.eval o).run P w=.ok .skip (w.setRow k (a.eval x).cells):=by
    simp[execOp,hop,Instr.storeAt,rp,Instr.sureAddr,storeVar,b9_ hi,hcsz]at hst⊢
    simp[hst]
   have hoth:∀q,q≠k→(w.setRow k (a.eval x).cells).heap[q]?=w.heap[q]?:=fun q hq=>setRow_other w k q _ hq
   have bel:Below B w (w.setRow k (a.eval x).cells):=⟨rfl,rfl,rfl,by rw[setRow_size];exact Nat.le_refl _,fun q hq=>hoth q (by omega)⟩
   refine hb_ hrun (hh _ .undef ⟨σ.bd,some (k,cs')⟩ _ bel (d.turn bel (r9_ hc hT he hoth rfl d.bd) ?_) (by simp[Rep]) hk)
   intro k2 cs2 hq
   simp only[Option.some.injEq,Prod.mk.injEq]at hq
   obtain⟨rfl,rfl⟩:=hq
   exact⟨h0,E,_,setRow_heap w k c _ E _ hc,hT,he,rx⟩
  ·exact hw.elim
 | load m p =>
  simp only[fc_]at hw
  split at hw
  ·rename_i k k' cs n q1 q2
   obtain⟨rfl,h1,hk⟩:=hw
   have hmem:=dO_ hok
   obtain⟨h0,E,c,hc,hT,he,hrc⟩:=d.box _ _ q2
   have rp:=hr.eval (hmem p (by simp[LOp.operands]))
   rw[q1]at rp
   simp only[Rep]at rp
   have hlow:=fb_ hlow (by simp)
   have hop:∃ty,o.op=.load ty p∧eC_ P ty=some (some n):=by
    cases hop:o.op with
    | load ty p' =>
     simp only[hop,aw_,Option.map_eq_some_iff]at hlow
     obtain⟨i,h1,e⟩:=hlow
     simp only[LOp.load.injEq]at e
     obtain⟨e1,e2⟩:=e
     subst e1 e2
     exact⟨ty,rfl,h1⟩
    | call c =>
     rw[hop]at hlow
     simp only[aw_,di_]at hlow
     repeat' split at hlow
     all_goals simp at hlow
    | _ =>
     rw[hop]at hlow
     simp only[aw_]at hlow
     repeat' split at hlow
     all_goals first|contradiction|(simp at hlow;done)|(simp[Option.bind_eq_some_iff,Option.map_eq_some_iff]at hlow;done)
   obtain⟨ty,hop,hag⟩:=hop
   have hl:cs_ (some n) cs=some (.agg cs):=by
    simp only[cs_]
    first|(rw[if_pos (by omega),take_of_length_le (by omega)])|(simp[h1,take_of_length_le])
   obtain⟨v,hv1,hv2⟩:=iq_ (P:=P) (off:=0) hag hc (by rw[drop_zero];exact el_ hrc) hl
   have hrun:(execOp a.eval o).run P w=.ok (.value v) w:=by simp[execOp,hop,Instr.loadAt,rp,Instr.sureAddr,hv1]
   exact a2_ hrun (hh v (.agg cs) ⟨σ.bd,none⟩ w (Below.refl B w) (d.turn (Below.refl B w) (q6_ rfl d.bd) (fun _ _ q=>by cases q)) hv2 hk)
  ·exact gen hw
 | call f args =>
  have hlow:=fb_ hlow (by simp)
  simp only[fc_]at hw
  have hop:∃c:Call,o.op=.call c∧c.callee=.value (.func f)∧c.args.toList=args∧cB_ P f=true:=by
   cases hop:o.op with
   | call c =>
    rw[hop]at hlow
    simp only[aw_,di_]at hlow
    split at hlow
    ·rename_i f' hc
     split at hlow
     ·rename_i hf
      simp only[Option.some.injEq,LOp.call.injEq]at hlow
      obtain⟨e1,e2⟩:=hlow
      subst e1
      exact⟨c,rfl,hc,e2,hf⟩
     ·(repeat' split at hlow)<;>simp at hlow
    all_goals(repeat' split at hlow)<;>simp at hlow
   | _ =>
    rw[hop]at hlow
    simp only[aw_]at hlow
    repeat' split at hlow
    all_goals first|contradiction|(simp at hlow;done)|(simp[Option.bind_eq_some_iff,Option.map_eq_some_iff]at hlow;done)|(simp only[Option.bind_eq_some_iff,Option.map_eq_some_iff]at hlow;(obtain⟨_,_,_,_,q⟩:=hlow);(repeat' split at q)<;>simp at q)
  obtain⟨c,hop,hc,rfl,hf⟩:=hop
  obtain⟨fn,cd,h1,h2,h3⟩:=gR_ hf
  have hmem:=dO_ hok
  have hrun:(execOp a.eval o).run P w=.ok (.enter f (c.args.map a.eval)) w:=by
   simp only[execOp,hop,Go.resolve,hc,Act.eval,Deferred.ofValue,Sem.run_bind,Sem.run_pure,Result.andThen_ok,invoke]
   rw[show(#[]++Array.map a.eval c.args++#[]:Array Value)=c.args.map a.eval by simp]
   exact iy_ h1 h2 h3 _
  unfold Oper.wp
  rw[hrun]
  refine(hw S B w (c.args.map a.eval) d (by simpa using eG_ hr (show ∀x∈c.args.toList,ag_ N x=true from hmem))).mono ?_
  rintro en w' ⟨v,av,σ',rfl,b,d',rv,k⟩
  exact hh v av σ' w' b d' rv k
 | _=>exact gen hw
end
theorem rP_{P:Program}{T e:TypeId}{N:Nat}{S:Sit}{B:Nat}{σ:Bd}{w:World}{t:Nat→AV}{a:Act}{o:Oper}{lo:LOp}{u:AV}{next:Act→World→Prop}{Q:Exit→Act→World→Prop}(hTe:T≠e)
 (hlow:ex_ P o.op=some lo) (hok:fs_ N lo=true) (d:cM_ P T e S B σ w) (hr:Rel S N t a) (hw:dB_ P T e σ t (fun v=>v=u) lo.asImm)
 (hh:∀v av w',Below B w w'→cM_ P T e S B σ w'→Rep S av v→av=u→next (a.put o.dst v) w'):o.wp P a w next Q:=by
 have hw':fc_ P T e t σ (fun v σ'=>v=u∧σ'=σ) lo:=by
  cases lo with
  | buildSlice E sz z len ps =>
   simp only[LOp.asImm,dB_,ai_]at hw
  | call f args =>
   simp only[LOp.asImm,dB_]at hw
   obtain⟨r,h1,rfl⟩:=hw
   exact h1
  | alloc E z =>
   simp only[LOp.asImm,dB_,ai_]at hw
  | store n p x =>
   simp only[LOp.asImm,dB_,ai_]at hw
  | load m p =>
   simp only[LOp.asImm,dB_]at hw
   simp only[fc_]
   split
   ·rename_i q1 q2
    simp only[ai_,q1]at hw
   ·split at hw
    ·first
     | exact⟨hw,trivial⟩
     | exact⟨hw,rfl⟩
     | (simp only[*];exact⟨hw,trivial⟩)
     | (simp only[*];exact⟨hw,rfl⟩)
    ·exact hw.elim
  | _ =>
   simp only[LOp.asImm,dB_]at hw
   simp only[fc_]
   split at hw
   ·first
    | exact⟨hw,trivial⟩
    | exact⟨hw,rfl⟩
    | (simp only[*];exact⟨hw,trivial⟩)
    | (simp only[*];exact⟨hw,rfl⟩)
   ·exact hw.elim
 refine oj_ (Q:=Q) hTe hlow hok d hr hw' ?_
 rintro v av σ' w' b d' rv ⟨e1,rfl⟩
 exact hh v av w' b d' rv e1
section
variable {P : Program} {T e : TypeId} {N : Nat} {ops : Array Oper} {l : List LI} {t : Nat → AV} {vs : Nat → AV} {S : Sit} {B : Nat} {σ : Bd} {w0 : World} {Q : Exit → Act → World → Prop}
theorem qW_{l0:List LI}(hTe:T≠e)(hl:ops.toList.mapM (bk_ P N ops)=some l0)(hl0:l=l0.map LI.asImm)(hd:mQ_ ops l)
 (hrun:∀(k:Nat) (x:LI),l[k]?=some x→match cb_ (tAt l t vs k) x.guard with
   | some true=>dB_ P T e σ (tAt l t vs k) (fun v=>v=vs k) x.op
   | some false=>vs k=.val Go.undef
   | none=>False)
 (hQ:∀a w,Below B w0 w→cM_ P T e S B σ w→Rel S N (tAt l t vs l.length) a→Q .normal a w) :
 ∀(fuel:Nat) (listed:Array Bool) (a:Act) (w:World),listed.toList.countP (fun b=>!b)≤fuel→listed.size=ops.size →
  (∀k o e,listed.getD k false=true→ops[k]?=some o→e∈o.after→Region.binds .any e=true→listed.getD e.on false=true) →
  Below B w0 w→cM_ P T e S B σ w→Rel S N (cC_ l t vs listed) a→wpAny P .any ops Q fuel listed a w:=by
 have fin:∀(listed:Array Bool) (a:Act) (w:World),listed.size=ops.size→Region.ready .any ops listed=[]→Below B w0 w→cM_ P T e S B σ w→Rel S N (cC_ l t vs listed) a→Q .normal a w:=by
  intro listed a w hs hn st hm hr
  have hall:=nM_ hd hs hn
  have e:cC_ l t vs listed=tAt l t vs l.length:=by
   funext s
   by_cases q:∃k:Nat,(l[k]?).bind (fun y:LI=>y.dst)=some s
   ·obtain⟨k,hk⟩:=q
    have hk':k<l.length:=by
     cases hx:l[k]? with
     | none=>simp[hx]at hk
     | some x=>rcases List.getElem?_eq_some_iff.1 hx with ⟨q,_⟩;exact q
    rw[ci_ hd.one hk' (hall k (by rw[←hd.len];exact hk')) hk,fD_ hd.one hk hk']
   ·rw[bX_ (fun k _ e=>q ⟨k,e⟩),dT_ (fun k _ e=>q ⟨k,e⟩)]
  rw[e]at hr
  exact hQ a w st hm hr
 intro fuel
 induction fuel with
 | zero =>
  intro listed a w hc hs hcl st hm hr
  have hno:Region.ready .any ops listed=[]:=by
   rcases eq_nil_or_concat (Region.ready .any ops listed)with q|⟨ys,y,q⟩
   ·exact q
   ·exfalso
    have hy:y∈Region.ready .any ops listed:=by rw[q];simp
    obtain⟨h1,h2,_⟩:=dk_ hy
    have:listed.toList.countP (fun b=>!b)=0:=by omega
    rw[countP_eq_zero]at this
    have hmem:listed.getD y true∈listed.toList:=by
     rw[Array.getD_eq_getD_getElem?,Array.getElem?_eq_getElem (by omega)]
     simp
    have:=this _ hmem
    rw[h2]at this
    simp at this
  exact⟨hno,fin listed a w hs hno st hm hr⟩
 | succ fuel ih =>
  intro listed a w hc hs hcl st hm hr
  refine⟨fun hno=>fin listed a w hs hno st hm hr,fun i hi=>?_⟩
  obtain⟨i1,i2,i3⟩:=dk_ hi
  have ho:ops[i]?=some ops[i]:=Array.getElem?_eq_getElem i1
  obtain⟨x0,hx0,hlow⟩:=fB_ hl i ops[i] (by simp)
  obtain⟨low1,low2,low3',low4,_⟩:=cW_ hlow
  obtain⟨x,hxe⟩:∃x,x=x0.asImm:=⟨_,rfl⟩
  have hx:l[i]?=some x:=by rw[hl0,getElem?_map,hx0,hxe];rfl
  have low3:ops[i].dst=x.dst:=by rw[hxe];exact low3'
  have hxg:x.guard=x0.guard:=by rw[hxe];rfl
  have hxo:x.op=x0.op.asImm:=by rw[hxe];rfl
  obtain⟨d,hxd⟩:=hd.dst i x hx
  have hil:i<l.length:=by rw[hd.len];exact i1
  have hi2:listed.getD i false=false:=by
   rw[Array.getD_eq_getD_getElem?,Array.getElem?_eq_getElem (by omega)]at i2⊢
   simpa using i2
  have hreads:∀s∈x.reads,cC_ l t vs listed s=tAt l t vs i s:=by
   intro s hsr
   by_cases q:∃k:Nat,(l[k]?).bind (fun y:LI=>y.dst)=some s
   ·obtain⟨k,hk⟩:=q
    have hk':k<l.length:=by
     cases hx:l[k]? with
     | none=>simp[hx]at hk
     | some x=>rcases List.getElem?_eq_some_iff.1 hx with ⟨q,_⟩;exact q
    by_cases hki:k<i
    ·obtain⟨o,e,ho',he,hb,hon⟩:=bO_ (hd.before i k x s hx hk hsr hki)
     have hkl:=i3 o e ho' he hb
     rw[hon]at hkl
     rw[ci_ hd.one hk' hkl hk,fD_ hd.one hk hki]
    ·obtain⟨hne,hedge⟩:=hd.behind i k x s hx hk hsr hki
     obtain⟨o,e,ho',he,hb,hon⟩:=bO_ hedge
     have hkn:listed.getD k false≠true:=by
      intro hkl
      have:=hcl k o e hkl ho' he hb
      rw[hon,hi2]at this
      simp at this
     rw[bX_,dT_]
     ·intro k' hk' e
      have:=hd.one k k' s hk e
      omega
     ·intro k' hk'' e
      have:=hd.one k k' s hk e
      subst this
      exact hkn hk''
   ·rw[bX_ (fun k _ e=>q ⟨k,e⟩),dT_ (fun k _ e=>q ⟨k,e⟩)]
  have hcurset:cC_ l t vs (listed.setIfInBounds i true)=put (cC_ l t vs listed) x.dst (vs i):=by
   funext s
   rw[hxd]
   simp only[put,upd]
   have hdi:(l[i]?).bind (·.dst)=some d:=by simp[hx,hxd]
   by_cases e:s=d
   ·subst e
    rw[if_pos rfl,ci_ hd.one hil (by rw[cu_ (by omega)];simp) hdi]
   ·rw[if_neg e]
    by_cases q:∃k,listed.getD k false=true∧(l[k]?).bind (·.dst)=some s
    ·obtain⟨k,hk1,hk⟩:=q
     have hk':k<l.length:=by
      cases hx:l[k]? with
      | none=>simp[hx]at hk
      | some x=>rcases List.getElem?_eq_some_iff.1 hx with ⟨q,_⟩;exact q
     rw[ci_ hd.one hk' (by rw[cu_ (by omega)];split<;>simp_all) hk,ci_ hd.one hk' hk1 hk]
    ·rw[bX_ (fun k hk e'=>q ⟨k,hk,e'⟩),bX_]
     intro k hk e'
     rw[cu_ (by omega)]at hk
     split at hk
     ·rename_i eki
      subst eki
      rw[hdi]at e'
      simp at e'
      exact e e'.symm
     ·exact q ⟨k,hk,e'⟩
  have hcl':∀k o e,(listed.setIfInBounds i true).getD k false=true→ops[k]?=some o→e∈o.after→Region.binds .any e=true→(listed.setIfInBounds i true).getD e.on false=true:=by
   intro k o e hk ho' he hb
   rw[cu_ (by omega)]at hk⊢
   split at hk
   ·rename_i eki
    subst eki
    have:=i3 o e ho' he hb
    split
    ·rfl
    ·exact this
   ·have:=hcl k o e hk ho' he hb
    split
    ·rfl
    ·exact this
  have hcnt:(listed.setIfInBounds i true).toList.countP (fun b=>!b)≤fuel:=by
   have hlt:i<listed.toList.length:=by simp;omega
   have hv:listed.toList[i]=false:=by
    rw[Array.getD_eq_getD_getElem?,Array.getElem?_eq_getElem (by omega)]at hi2
    simpa using hi2
   rw[Array.toList_setIfInBounds,countP_set hlt,hv]
   simp only[Bool.not_false,Bool.not_true,if_true,Bool.false_eq_true,if_false]
   omega
  have next:∀v w',Below B w w'→cM_ P T e S B σ w'→Rep S (vs i) v→wpAny P .any ops Q fuel (listed.setIfInBounds i true) (a.put ops[i].dst v) w':=by
   intro v w' st' hm' rv
   refine ih _ _ w' hcnt (by simp[hs]) hcl' (st.trans st') hm' ?_
   rw[hcurset,low3]
   exact hr.put rv
  have hrun':=hrun i x hx
  rw[←iw_ hreads]at hrun'
  simp only[wpOp,ho]
  cases hw:cb_ (cC_ l t vs listed) x.guard with
  | none=>rw[hw]at hrun';exact hrun'.elim
  | some q =>
   rw[hw]at hrun'
   rw[du_ hlow hr (hxg▸hw)]
   cases q with
   | true =>
    simp only[if_true]
    left
    have hq:=sr_ x.op (fun y hy=>(dm_ hreads y hy).symm) hrun'
    refine rP_ (Q:=Q) hTe low1 low2 hm hr (hxo▸hq) ?_
    rintro v av w' st' hm' rv rfl
    exact next v w' st' hm' rv
   | false =>
    simp only[Bool.false_eq_true,if_false]
    refine next _ w (Below.refl _ _) hm ?_
    rw[hrun']
    simp[Rep]
theorem p1_{id:Nat}{w:World}{a:Act}{K:(Nat→AV)→Prop}(hTe:T≠e)(hmx:P.follows .mixedOrders=true){l0:List LI}(hl:ops.toList.mapM (bk_ P N ops)=some l0)(hl0:l=l0.map LI.asImm)(hok:iI_ ops l=true)(hw:gA_ P T e σ l t K)(hm:cM_ P T e S B σ w)(hr:Rel S N t a)
 (hQ:∀t' a' w',Below B w w'→cM_ P T e S B σ w'→Rel S N t' a'→K t'→Q .normal a' w'):(Code.region id ops true).wp P Q a w:=by
 have hd:=k4_ hok
 obtain⟨vs,_,h2,h3⟩:=ob_ l.length l 0 t (fun _=>.undef) (by omega) (by simpa[tAt]using hw)
 refine wp_region_any hmx ?_
 have hcur:cC_ l t vs (Array.replicate ops.size false)=t:=by
  funext s
  refine bX_ fun k hk=>?_
  exfalso
  rw[Array.getD_eq_getD_getElem?]at hk
  by_cases q:k<ops.size
  ·rw[Array.getElem?_eq_getElem (by simpa using q)]at hk;simp at hk
  ·rw[Array.getElem?_eq_none (by simpa using q)]at hk;simp at hk
 have hst:Below B w { w with drawn:=w.drawn+1 }:=⟨rfl,rfl,rfl,Nat.le_refl _,fun _ _=>rfl⟩
 have hm':cM_ P T e S B σ { w with drawn:=w.drawn+1 }:=hm.keep ⟨rfl,rfl,rfl,Nat.le_refl _,fun _ _=>rfl⟩
 refine qW_ (w0:=w) hTe hl hl0 hd (fun k x hx=>h3 k x (Nat.zero_le _) hx) (fun a' w' st hm' hr'=>hQ _ a' w' st hm' hr' h2) ops.size _ a _ ?_ (by simp) ?_ hst hm' (by rw[hcur];exact hr)
 ·have:=countP_le_length (p:=fun b:Bool=>!b) (l:=(Array.replicate ops.size false).toList)
  simpa using this
 ·intro k o e hk
  exfalso
  rw[Array.getD_eq_getD_getElem?]at hk
  by_cases q:k<ops.size
  ·rw[Array.getElem?_eq_getElem (by simpa using q)]at hk;simp at hk
  ·rw[Array.getElem?_eq_none (by simpa using q)]at hk;simp at hk
end
section
variable {P : Program} {T e : TypeId} {N : Nat} {pf : Bool}
def iK_(P:Program)(T e:TypeId)(N:Nat)(S:Sit)(B:Nat)(w:World)(Q:d2_)(en:Exit)(a':Act)(w':World):Prop :=
 ∃t' σ',Below B w w'∧cM_ P T e S B σ' w'∧Rel S N t' a' ∧
  match en with
  | .normal=>Q .normal t' σ'
  | .exit id=>Q (.exit id) t' σ'
  | .ret=>Q .ret t' σ'
  | _=>False
theorem iK_.step{S:Sit}{B:Nat}{w w1:World}{Q:d2_}{en:Exit}{a:Act}{w':World}(b:Below B w w1)(h:iK_ P T e N S B w1 Q en a w'):iK_ P T e N S B w Q en a w':=by
 obtain⟨t',σ',h1,h2,h3,h4⟩:=h
 exact⟨t',σ',b.trans h1,h2,h3,h4⟩
theorem i1_(hTe:T≠e){ops:Array Oper}{S:Sit}{B:Nat}{w0:World}{K:(Nat→AV)→Bd→Prop}{Q:Exit→Act→World→Prop}
 (hQ:∀t σ a w,Below B w0 w→cM_ P T e S B σ w→Rel S N t a→K t σ→Q .normal a w):∀(os:List Oper) (j:Nat) (l:List LI) (t:Nat→AV) (σ:Bd) (a:Act) (w:World),
 os=ops.toList.drop j→os.mapM (bk_ P N ops)=some l→iZ_ P T e l t σ K→Below B w0 w→cM_ P T e S B σ w→Rel S N t a→wpOps P ops Q (List.range' j os.length) a w
 | [],j,l,t,σ,a,w,_,hl,hw,bl,d,hr=>by
  simp at hl;subst hl
  simp only[ln_,range'_zero,wpOps]
  exact hQ t σ a w bl d hr hw
 | o::os,j,l,t,σ,a,w,ho,hl,hw,bl,d,hr=>by
  rw[mapM_cons]at hl
  cases h1:bk_ P N ops o with
  | none=>simp[h1]at hl
  | some x =>
   cases h2:os.mapM (bk_ P N ops)with
   | none=>simp[h1,h2]at hl
   | some l' =>
    simp[h1,h2]at hl
    subst hl
    have hget:ops[j]?=some o:=by
     have:(ops.toList.drop j)[0]?=some o:=by rw[←ho];rfl
     simpa using this
    have hrest:os=ops.toList.drop (j+1):=by
     have:(ops.toList.drop j).drop 1=os:=by rw[←ho];rfl
     rw[drop_drop]at this
     exact this.symm
    obtain⟨low1,low2,low3,low4,_⟩:=cW_ h1
    simp only[lc_,range'_succ]
    rw[wpOps_cons]
    simp only[wpOp,hget]
    simp only[iZ_]at hw
    cases hq:cb_ t x.guard with
    | none=>rw[hq]at hw;exact hw.elim
    | some q =>
     rw[hq]at hw
     rw[du_ h1 hr hq]
     cases q with
     | true =>
      simp only[if_true]
      left
      refine oj_ (Q:=Q) hTe low1 low2 d hr hw ?_
      intro v av σ' w' b' d' rv hk
      refine i1_ hTe hQ os (j+1) l' _ σ' _ w' hrest h2 hk (bl.trans b') d' ?_
      rw[low3]
      exact hr.put rv
     | false =>
      simp only[Bool.false_eq_true,if_false]
      refine i1_ hTe hQ os (j+1) l' _ σ _ w hrest h2 hw bl d ?_
      rw[low3]
      exact hr.put (by simp[Rep])
theorem tw_(hTe:T≠e)(hmx:P.follows .mixedOrders=true):∀(lc:LC) (code:Code) (Q:d2_) (t:Nat→AV) (σ:Bd) (S:Sit) (B:Nat) (a:Act) (w:World),
 aS_ P N pf code=some lc.erase→bwp P T e lc Q t σ→cM_ P T e S B σ w→Rel S N t a→code.wp P (iK_ P T e N S B w Q) a w:=by
 intro lc
 induction lc with
 | skip =>
  intro code Q t σ S B a w hl hw d hr
  have:=pe_ hl;subst this
  exact wp_skip ⟨t,σ,Below.refl _ _,d,hr,hw⟩
 | exit id =>
  intro code Q t σ S B a w hl hw d hr
  have:=pj_ hl;subst this
  exact wp_exit ⟨t,σ,Below.refl _ _,d,hr,hw⟩
 | ret =>
  intro code Q t σ S B a w hl hw d hr
  have:=rm_ hl;subst this
  exact wp_ret ⟨t,σ,Below.refl _ _,d,hr,hw⟩
 | ops l =>
  intro code Q t σ S B a w hl hw d hr
  obtain⟨id,ops,e,h1⟩:=q5_ hl
  subst e
  refine wp_region ?_
  have:=i1_ hTe (Q:=iK_ P T e N S B w Q) (K:=Q .normal) (w0:=w) (fun t' σ' a' w' bl d' hr' hk=>⟨t',σ',bl,d',hr',hk⟩) ops.toList 0 l t σ a w (by simp) h1 hw (Below.refl _ _) d hr
  simpa[range_eq_range']using this
 | dops l =>
  intro code Q t σ S B a w hl hw d hr
  obtain⟨id,ops,l0,e,h1,h0,h2⟩:=o5_ hl
  subst e
  exact p1_ hTe hmx h1 h0 h2 hw d hr (fun t' a' w' st hm' hr' hk=>⟨t',σ,st,hm',hr',hk⟩)
 | gops pre chain =>
  intro code Q t σ S B a w hl hw d hr
  exact hw.elim
 | pops x y z =>
  intro code Q t σ S B a w hl hw d hr
  exact hw.elim
 | alts x =>
  intro code Q t σ S B a w hl hw d hr
  exact hw.elim
 | ghost l =>
  intro code Q t σ S B a w hl hw d hr
  exact hw.elim
 | seq x y ihx ihy =>
  intro code Q t σ S B a w hl hw d hr
  obtain⟨ca,cb,e,h1,h2⟩:=ri_ hl
  subst e
  refine wp_seq (wp_mono (ihx ca _ t σ S B a w h1 hw d hr) ?_)
  intro en a' w' hp
  obtain⟨t',σ',bl,d',hr',hq⟩:=hp
  cases en with
  | normal=>exact wp_mono (ihy cb Q t' σ' S B a' w' h2 hq d' hr') fun e a'' w'' hp=>hp.step bl
  | exit id=>exact⟨t',σ',bl,d',hr',hq⟩
  | ret=>exact⟨t',σ',bl,d',hr',hq⟩
  | goto l=>exact hq.elim
  | panic c=>exact hq.elim
  | outgrown=>exact hq.elim
 | cond c x y ihx ihy =>
  intro code Q t σ S B a w hl hw d hr
  obtain⟨ca,cb,e,h1,h2,h3⟩:=p0_ hl
  subst e
  have rc:=hr.eval h3
  simp only[bwp]at hw
  split at hw
  ·rename_i q e
   rw[e]at rc
   simp only[Rep]at rc
   exact wp_cond_split rc (fun hq=>ihx ca Q t σ S B a w h1 (hw.1 hq) d hr) (fun hq=>ihy cb Q t σ S B a w h2 (hw.2 hq) d hr)
  ·exact hw.elim
 | block id x ih =>
  intro code Q t σ S B a w hl hw d hr
  obtain⟨ca,e,h1⟩:=nQ_ hl
  subst e
  refine wp_block (wp_mono (ih ca _ t σ S B a w h1 hw d hr) ?_)
  intro en a' w' hp
  obtain⟨t',σ',bl,d',hr',hq⟩:=hp
  cases en with
  | normal=>exact⟨t',σ',bl,d',hr',hq⟩
  | exit k =>
   simp only[Exit.inBlock]
   split
   ·rename_i ek
    simp only[ek,if_true]at hq
    exact⟨t',σ',bl,d',hr',hq⟩
   ·rename_i ek
    simp only[ek,if_false]at hq
    exact⟨t',σ',bl,d',hr',hq⟩
  | ret=>exact⟨t',σ',bl,d',hr',hq⟩
  | goto l=>exact hq.elim
  | panic c=>exact hq.elim
  | outgrown=>exact hq.elim
 | loop x ih =>
  intro code Q t σ S B a w hl hw d hr
  obtain⟨ca,e,h1⟩:=qo_ hl
  subst e
  obtain⟨I,n,h0,hround⟩:=hw
  refine wp_loop_ghost (fun n a' w'=>∃t' σ',Below B w w'∧cM_ P T e S B σ' w'∧Rel S N t' a'∧I n t' σ') n ⟨t,σ,Below.refl _ _,d,hr,h0⟩ ?_
  intro n a1 w1 ⟨t1,σ1,bl1,d1,hr1,hI⟩
  refine wp_mono (ih ca _ t1 σ1 S B a1 w1 h1 (hround n t1 σ1 hI) d1 hr1) ?_
  intro en a' w' hp
  obtain⟨t',σ',bl,d',hr',hq⟩:=hp
  cases en with
  | normal =>
   obtain⟨m,hlt,hI'⟩:=hq
   exact⟨m,hlt,t',σ',bl1.trans bl,d',hr',hI'⟩
  | exit id=>exact⟨t',σ',bl1.trans bl,d',hr',hq⟩
  | ret=>exact⟨t',σ',bl1.trans bl,d',hr',hq⟩
  | goto l=>exact hq.elim
  | panic c=>exact hq.elim
  | outgrown=>exact hq.elim
end
def fy_(res:List LRes)(K:AV→Bd→Prop)(en:LE)(t:Nat→AV)(σ:Bd):Prop :=
 match en with
 | .exit _=>False
 | _=>∃avs,res.mapM (dA_ t [])=some avs∧K (cO_ avs) σ
theorem vr_{P:Program}{T e:TypeId}{f:FuncId}{fn:Func}{lf:LF}{args:List AV}{σ:Bd}{K:AV→Bd→Prop}(hTe:T≠e)(hmx:P.follows .mixedOrders=true)(hf:P.funcs[f]?=some fn)(hl:aC_ P fn lf)(hnp:args.length=lf.np)
 (hw:bwp P T e lf.body (fy_ lf.res K) (gD_ args) σ):fX_ P T e f args σ K:=by
 intro S B w vals d hr
 obtain⟨c,pf,hb,hc⟩:=hl.body
 refine calls_of_wp hf hb ?_
 rw[hl.N]
 refine wp_mono (tw_ hTe hmx lf.body c _ _ σ S B _ w hc hw d (Rel.init hr (by rw[hnp];exact hl.np))) ?_
 intro en a' w' hp
 obtain⟨t',σ',bl,d',hr',hq⟩:=hp
 have fin:(∃avs,lf.res.mapM (dA_ t' [])=some avs∧K (cO_ avs) σ')→a'.defers=[]∧∃v,(results fn a'.tmps).run P w'=.ok v w'∧(∃v_1 av σ'_1,Ending.returned v=.returned v_1∧Below B w w'∧cM_ P T e S B σ'_1 w'∧Rep S av v_1∧K av σ'_1):=by
  rintro⟨avs,h1,h2⟩
  refine⟨hr'.2.1,?_⟩
  obtain⟨vs,r1,r2⟩:=it_ hl.res d'.models hr' h1
  have hlen:=ae_.length r2
  have hrun:(results fn a'.tmps).run P w'=.ok (if h:vs.toArray.size=1 then vs.toArray[0]else .tuple vs.toArray) w':=by
   rw[mM_,Sem.run_bind,Array.mapM_eq_mapM_toList,Sem.run_map,r1]
   rfl
  refine⟨_,hrun,_,cO_ avs,σ',rfl,bl,d',?_,h2⟩
  cases avs with
  | nil =>
   simp[ae_]at r2;subst r2
   simp[cO_,Rep,ae_]
  | cons av rest =>
   cases rest with
   | nil =>
    simp only[ae_]at r2
    obtain⟨v,r,e,r2,r3⟩:=r2
    subst r3 e
    simpa[cO_]using r2
   | cons av2 rest =>
    have:¬ vs.toArray.size=1:=by simp[hlen]
    simp only[this,dif_neg,not_false_eq_true,cO_,Rep]
    exact⟨_,rfl,by simpa using r2⟩
 cases en with
 | normal=>exact fin hq
 | ret=>exact fin hq
 | exit id=>exact hq.elim
 | goto l=>exact hq.elim
 | panic c=>exact hq.elim
 | outgrown=>exact hq.elim
theorem jM_{P:Program}{T e:TypeId}{f:FuncId}{args:List AV}{r:AV}(hs:r.solid=true)(hp:args.all AV.plain=true)(hc:fX_ P T e f args Bd.no fun q _=>q=r)(h:List Row):PureCall P f args h r:=by
 intro K hk S w vals hm hgl hr
 have d:cM_ P T e S.still w.heap.size Bd.no w:=⟨rfl,fun k c q=>⟨hm.immLt q,hm.imm k c q⟩,Nat.le_refl _,hgl,trivial,fun _ _ q=>by cases q⟩
 refine(hc S.still w.heap.size w vals d (fY_ hp hr)).mono ?_
 rintro en w' ⟨v,av,σ',rfl,b,d',rv,rfl⟩
 exact⟨v,_,S,h,rfl,a0_.below b,hm.below b,jP_ hs rv,hk⟩
inductive BFr where
 | seq (b:LC)
 | blk (id:Nat)
 | loop (I:Nat→(Nat→AV)→Bd→Prop) (n:Nat)
def bxK(P:Program)(T e:TypeId)(Q:d2_):List BFr→LE→(Nat→AV)→Bd→Prop
 | [],en,t,σ=>Q en t σ
 | .seq b::k,en,t,σ=>match en with|.normal=>bwp P T e b (bxK P T e Q k) t σ|en=>bxK P T e Q k en t σ
 | .blk id::k,en,t,σ=>match en with|.exit j=>if j=id then bxK P T e Q k .normal t σ else bxK P T e Q k (.exit j) t σ|en=>bxK P T e Q k en t σ
 | .loop I n::k,en,t,σ=>match en with|.normal=>∃m,m<n∧I m t σ|en=>bxK P T e Q k en t σ
structure dt_(P:Program)(T e:TypeId)(Q:d2_)(k:List BFr)(en:LE)(t:Nat→AV)(σ:Bd):Prop where
 out:bxK P T e Q k en t σ
structure BEx(P:Program)(T e:TypeId)(Q:d2_)(c:LC)(k:List BFr)(t:Nat→AV)(σ:Bd):Prop where
 out:bwp P T e c (bxK P T e Q k) t σ
structure nn_(P:Program)(T e:TypeId)(Q:d2_)(l:List LI)(k:List BFr)(t:Nat→AV)(σ:Bd):Prop where
 out:iZ_ P T e l t σ (bxK P T e Q k .normal)
structure BAf(P:Program)(T e:TypeId)(Q:d2_)(d:Option Nat)(l:List LI)(k:List BFr)(t:Nat→AV)(v:AV)(σ:Bd):Prop where
 out:iZ_ P T e l (put t d v) σ (bxK P T e Q k .normal)
structure st_(P:Program)(T e:TypeId)(Q:d2_)(l:List LI)(k:List BFr)(t:Nat→AV)(σ:Bd):Prop where
 out:gA_ P T e σ l t (fun t'=>bxK P T e Q k .normal t' σ)
structure vA_(P:Program)(T e:TypeId)(Q:d2_)(d:Option Nat)(l:List LI)(k:List BFr)(t:Nat→AV)(σ:Bd)(v:AV):Prop where
 out:gA_ P T e σ l (put t d v) (fun t'=>bxK P T e Q k .normal t' σ)
theorem vv_(P:Program)(T e:TypeId)(Q:d2_)(d:Option Nat)(l:List LI)(k:List BFr)(t:Nat→AV)(σ:Bd):vA_ P T e Q d l k t σ=fun v=>gA_ P T e σ l (put t d v) (fun t'=>bxK P T e Q k .normal t' σ) :=
 funext fun _=>propext ⟨fun q=>q.out,fun q=>⟨q⟩⟩
structure uH_(P:Program)(T e:TypeId)(Q:d2_)(w:Option Bool)(d:Option Nat)(op:LOp)(l:List LI)(k:List BFr)(t:Nat→AV)(σ:Bd):Prop where
 out:match w with
  | some true=>fc_ P T e t σ (BAf P T e Q d l k t) op
  | some false=>iZ_ P T e l (put t d (.val Go.undef)) σ (bxK P T e Q k .normal)
  | none=>False
structure uE_(P:Program)(T e:TypeId)(Q:d2_)(v:AV)(a b:LC)(k:List BFr)(t:Nat→AV)(σ:Bd):Prop where
 out:match v with|.val (.bool q)=>(q=true→BEx P T e Q a k t σ)∧(q=false→BEx P T e Q b k t σ)|_=>False
theorem m6_(P:Program)(T e:TypeId)(Q:d2_)(d:Option Nat)(l:List LI)(k:List BFr)(t:Nat→AV):BAf P T e Q d l k t=fun v σ=>iZ_ P T e l (put t d v) σ (bxK P T e Q k .normal) :=
 funext fun _=>funext fun _=>propext ⟨fun q=>q.out,fun q=>⟨q⟩⟩
section
variable {P : Program} {T e : TypeId} {Q : d2_} {k : List BFr} {t : Nat → AV} {σ : Bd}
theorem vi_:BEx P T e Q .skip k t σ=dt_ P T e Q k .normal t σ:=propext ⟨fun q=>⟨q.out⟩,fun q=>⟨q.out⟩⟩
theorem wY_(a b:LC):BEx P T e Q (.seq a b) k t σ=BEx P T e Q a (.seq b::k) t σ:=propext ⟨fun q=>⟨q.out⟩,fun q=>⟨q.out⟩⟩
theorem xB_(l:List LI):BEx P T e Q (.ops l) k t σ=nn_ P T e Q l k t σ:=propext ⟨fun q=>⟨q.out⟩,fun q=>⟨q.out⟩⟩
theorem uf_(l:List LI):BEx P T e Q (.dops l) k t σ=st_ P T e Q l k t σ:=propext ⟨fun q=>⟨q.out⟩,fun q=>⟨q.out⟩⟩
theorem us_:st_ P T e Q [] k t σ=dt_ P T e Q k .normal t σ:=propext ⟨fun q=>⟨q.out⟩,fun q=>⟨q.out⟩⟩
theorem sJ_(d:Option Nat)(op:LOp)(l:List LI):st_ P T e Q (⟨d,none,op⟩::l) k t σ=dB_ P T e σ t (vA_ P T e Q d l k t σ) op:=by
 rw[vv_];exact propext ⟨fun q=>q.out,fun q=>⟨q⟩⟩
theorem xu_(d:Option Nat)(l:List LI)(v:AV):vA_ P T e Q d l k t σ v=st_ P T e Q l k (put t d v) σ:=propext ⟨fun q=>⟨q.out⟩,fun q=>⟨q.out⟩⟩
theorem q8_(c:LC):BEx P T e Q c k t σ=bwp P T e c (bxK P T e Q k) t σ:=propext ⟨fun q=>q.out,fun q=>⟨q⟩⟩
theorem uc_(c:Operand)(a b:LC):BEx P T e Q (.cond c a b) k t σ=uE_ P T e Q (ah_ t c) a b k t σ:=by
 refine propext ⟨fun q=>⟨?_⟩,fun q=>⟨?_⟩⟩
 ·simp only[q8_];exact q.out
 ·have:=q.out;simp only[q8_]at this;exact this
theorem tH_(id:Nat)(b:LC):BEx P T e Q (.block id b) k t σ=BEx P T e Q b (.blk id::k) t σ:=propext ⟨fun q=>⟨q.out⟩,fun q=>⟨q.out⟩⟩
theorem uq_(id:Nat):BEx P T e Q (.exit id) k t σ=dt_ P T e Q k (.exit id) t σ:=propext ⟨fun q=>⟨q.out⟩,fun q=>⟨q.out⟩⟩
theorem wJ_:BEx P T e Q .ret k t σ=dt_ P T e Q k .ret t σ:=propext ⟨fun q=>⟨q.out⟩,fun q=>⟨q.out⟩⟩
theorem u8_:nn_ P T e Q [] k t σ=dt_ P T e Q k .normal t σ:=propext ⟨fun q=>⟨q.out⟩,fun q=>⟨q.out⟩⟩
theorem tc_(d:Option Nat)(op:LOp)(l:List LI):nn_ P T e Q (⟨d,none,op⟩::l) k t σ=fc_ P T e t σ (BAf P T e Q d l k t) op:=by
 rw[m6_];exact propext ⟨fun q=>q.out,fun q=>⟨q⟩⟩
theorem rM_(d:Option Nat)(s:Nat)(want:Bool)(op:LOp)(l:List LI):nn_ P T e Q (⟨d,some (s,want),op⟩::l) k t σ=uH_ P T e Q (cb_ t (some (s,want))) d op l k t σ:=by
 refine propext ⟨fun q=>⟨?_⟩,fun q=>⟨?_⟩⟩
 ·have:=q.out;rw[m6_];exact this
 ·have:=q.out;rw[m6_]at this;exact this
theorem sH_(d:Option Nat)(op:LOp)(l:List LI):uH_ P T e Q (some true) d op l k t σ=fc_ P T e t σ (BAf P T e Q d l k t) op:=propext ⟨fun q=>q.out,fun q=>⟨q⟩⟩
theorem rD_(d:Option Nat)(op:LOp)(l:List LI):uH_ P T e Q (some false) d op l k t σ=nn_ P T e Q l k (put t d (.val Go.undef)) σ:=propext ⟨fun q=>⟨q.out⟩,fun q=>⟨q.out⟩⟩
theorem zM_(d:Option Nat)(l:List LI)(v:AV):BAf P T e Q d l k t v σ=nn_ P T e Q l k (put t d v) σ:=propext ⟨fun q=>⟨q.out⟩,fun q=>⟨q.out⟩⟩
theorem vq_(en:LE):dt_ P T e Q [] en t σ=Q en t σ:=propext ⟨fun q=>q.out,fun q=>⟨q⟩⟩
theorem lL_(b:LC):dt_ P T e Q (.seq b::k) .normal t σ=BEx P T e Q b k t σ:=propext ⟨fun q=>⟨q.out⟩,fun q=>⟨q.out⟩⟩
theorem pW_(b:LC):dt_ P T e Q (.seq b::k) .ret t σ=dt_ P T e Q k .ret t σ:=propext ⟨fun q=>⟨q.out⟩,fun q=>⟨q.out⟩⟩
theorem oE_(b:LC)(i:Nat):dt_ P T e Q (.seq b::k) (.exit i) t σ=dt_ P T e Q k (.exit i) t σ:=propext ⟨fun q=>⟨q.out⟩,fun q=>⟨q.out⟩⟩
theorem mn_(i:Nat):dt_ P T e Q (.blk i::k) .normal t σ=dt_ P T e Q k .normal t σ:=propext ⟨fun q=>⟨q.out⟩,fun q=>⟨q.out⟩⟩
theorem ql_(i:Nat):dt_ P T e Q (.blk i::k) .ret t σ=dt_ P T e Q k .ret t σ:=propext ⟨fun q=>⟨q.out⟩,fun q=>⟨q.out⟩⟩
theorem ou_(i j:Nat):dt_ P T e Q (.blk i::k) (.exit j) t σ=if j=i then dt_ P T e Q k .normal t σ else dt_ P T e Q k (.exit j) t σ:=by
 refine propext ⟨fun q=>?_,fun q=>⟨?_⟩⟩
 ·have:=q.out
  simp only[bxK]at this
  split
  ·rename_i e;rw[if_pos e]at this;exact⟨this⟩
  ·rename_i e;rw[if_neg e]at this;exact⟨this⟩
 ·simp only[bxK]
  split
  ·rename_i e;rw[if_pos e]at q;exact q.out
  ·rename_i e;rw[if_neg e]at q;exact q.out
theorem oM_(I:Nat→(Nat→AV)→Bd→Prop)(n:Nat):dt_ P T e Q (.loop I n::k) .ret t σ=dt_ P T e Q k .ret t σ:=propext ⟨fun q=>⟨q.out⟩,fun q=>⟨q.out⟩⟩
theorem nC_(I:Nat→(Nat→AV)→Bd→Prop)(n j:Nat):dt_ P T e Q (.loop I n::k) (.exit j) t σ=dt_ P T e Q k (.exit j) t σ:=propext ⟨fun q=>⟨q.out⟩,fun q=>⟨q.out⟩⟩
theorem lJ_(I:Nat→(Nat→AV)→Bd→Prop)(n:Nat):dt_ P T e Q (.loop I n::k) .normal t σ=∃m,m<n∧I m t σ:=propext ⟨fun q=>q.out,fun q=>⟨q⟩⟩
theorem ly_{b:LC}(I:Nat→(Nat→AV)→Bd→Prop)(n:Nat)(h0:I n t σ)
 (hr:∀(J:Nat→(Nat→AV)→Bd→Prop),(∀m t h,I m t h→J m t h)→∀n t h,I n t h→BEx P T e Q b (.loop J n::k) t h):BEx P T e Q (.loop b) k t σ :=
 ⟨I,n,h0,fun n t h hi=>(hr I (fun _ _ _ q=>q) n t h hi).out⟩
theorem sT_(a b:LC):uE_ P T e Q (.val (.bool true)) a b k t σ=BEx P T e Q a k t σ :=
 propext ⟨fun q=>q.out.1 rfl,fun q=>⟨⟨fun _=>q,fun e=>(by cases e)⟩⟩⟩
theorem ss_(a b:LC):uE_ P T e Q (.val (.bool false)) a b k t σ=BEx P T e Q b k t σ :=
 propext ⟨fun q=>q.out.2 rfl,fun q=>⟨⟨fun e=>(by cases e),fun _=>q⟩⟩⟩
theorem rA_(K:AV→Bd→Prop):fy_ [] K .ret t σ=K (.tup []) σ:=by
 simp[fy_,cO_]
theorem sp_(K:AV→Bd→Prop):fy_ [] K .normal t σ=K (.tup []) σ:=by
 simp[fy_,cO_]
theorem rJ_(s:Nat)(K:AV→Bd→Prop):fy_ [.tmp s] K .ret t σ=K (t s) σ:=by
 simp[fy_,dA_,cO_]
theorem sx_(s u v:Nat)(K:AV→Bd→Prop):fy_ [.tmp s,.tmp u,.tmp v] K .ret t σ=K (.tup [t s,t u,t v]) σ:=by
 simp[fy_,dA_,cO_]
end
theorem lB_{P:Program}{T e:TypeId}{f:FuncId}{fn:Func}{lf:LF}{args:List AV}{σ:Bd}{K:AV→Bd→Prop}(hTe:T≠e)(hmx:P.follows .mixedOrders=true)(hf:P.funcs[f]?=some fn)(hl:aC_ P fn lf)(hnp:args.length=lf.np)
 (hw:BEx P T e (fy_ lf.res K) lf.body [] (gD_ args) σ):fX_ P T e f args σ K:=vr_ hTe hmx hf hl hnp (by
 have h1:=hw.out
 have e1:bxK P T e (fy_ lf.res K) []=fy_ lf.res K:=rfl
 rw[e1]at h1
 exact h1)
attribute [go_sem] vi_ wY_ xB_ uc_ tH_ uq_ wJ_ u8_ tc_ rM_ sH_ rD_ zM_ vq_ lL_ pW_ oE_ mn_ ql_ ou_
attribute [go_sem] oM_ nC_ lJ_ sT_ ss_ rA_ sp_ rJ_ sx_ fc_ uf_ us_ sJ_ xu_ dB_
theorem kH_{P:Program}{T e:TypeId}{f:FuncId}{b:Nat}{bs new:List UInt8}{vals:List Value}{r:Value}
 (hc:∀(B:Nat) (w:World),Lib.IsBuilderF T e B b (Lib.byteCells bs) w→B≤w.heap.size→Calls P f (.pointer (some ⟨b,0,none⟩)::vals).toArray w fun en w'=>en=.returned r∧Lib.IsBuilderF T e B b (Lib.byteCells (bs++new)) w'∧Below B w w')
 {K:AV→Bd→Prop} (hk:K (.val r) (Bd.of b (bs++new))):fX_ P T e f (.val (.pointer (some ⟨b,0,none⟩))::vals.map AV.val) (Bd.of b bs) K:=by
 intro S B w xs d hr
 have e1:=fN_ (vs:=.pointer (some ⟨b,0,none⟩)::vals) hr
 have e':xs=(Value.pointer (some ⟨b,0,none⟩)::vals).toArray:=by cases xs;simp at e1;rw[e1]
 subst e'
 refine(hc B w d.bd d.size).mono ?_
 rintro en w' ⟨rfl,h1,h2⟩
 exact⟨r,.val r,Bd.of b (bs++new),rfl,h2,d.turn (σ':=Bd.of b (bs++new)) h2 h1 (fun _ _ q=>by cases q),by simp[Rep],hk⟩
theorem kI_(q:Bool)(k yk:IntKind)(a b:Int)(hb:0≤b):bd_ .shr q (.val (.int k a)) (.val (.int yk b))=some (.val (.int k (a.fdiv (2 ^ (min b.toNat k.bits))))):=by
 have:bd_ .shr q (.val (.int k a)) (.val (.int yk b))=ey_ (Op.shift .shr k a yk b):=by rfl
 rw[this,Op.shift,if_neg (by omega)];rfl
theorem rg_(q:Bool)(k yk:IntKind)(a b:Int)(hb:0≤b):bd_ .shl q (.val (.int k a)) (.val (.int yk b))=some (.val (.int k (k.wrap (a * 2 ^ (min b.toNat k.bits))))):=by
 have:bd_ .shl q (.val (.int k a)) (.val (.int yk b))=ey_ (Op.shift .shl k a yk b):=by rfl
 rw[this,Op.shift,if_neg (by omega)];rfl
theorem uz_(q:Bool)(a b:Int):bd_ .add q (.val (.int .u64 a)) (.val (.int .u64 b))=some (.val (.int .u64 (IntKind.u64.wrap (a+b)))):=rfl
theorem wX_(q:Bool)(a b:Int):bd_ .or q (.val (.int .i64 a)) (.val (.int .i64 b))=some (.val (.int .i64 (IntKind.i64.wrap ((BitVec.ofInt 64 a ||| BitVec.ofInt 64 b).toNat:Int)))):=rfl
theorem qb_{n:Int}(h1:0≤n)(h2:n≤18446744073709551615):IntKind.u64.wrap n=n:=by
 have:IntKind.u64.wrap n=n % 18446744073709551616:=by simp[IntKind.wrap,IntKind.bits,IntKind.signed]
 rw[this];omega
theorem mv_(n j:Nat):IntKind.u8.wrap ((n / 256 ^ j:Nat):Int)=((dd_ n j).toNat:Int):=by
 rw[IntKind.wrap_u8,kD_];omega
theorem pp_(n j:Nat)(h:j≤7):((n:Int).fdiv (2 ^ (min (8 * (j:Int)).toNat 64)))=((n / 256 ^ j:Nat):Int):=by
 have e1:min (8 * (j:Int)).toNat 64=8 * j:=by omega
 rw[e1,Int.fdiv_eq_ediv_of_nonneg _ (Int.pow_nonneg (by decide))]
 have e2:(2:Int) ^ (8 * j)=((256 ^ j:Nat):Int):=by
  rw[Int.pow_mul]
  simp
 rw[e2,Int.natCast_ediv]
theorem wW_(x b:Nat)(h:b<256)(hx:x<9223372036854775808 * 2):(BitVec.ofInt 64 (IntKind.i64.wrap ((IntKind.i64.wrap (x:Int)) * 2 ^ (min (8:Int).toNat 64))) ||| BitVec.ofInt 64 (b:Int)).toNat=(x * 256+b) % 18446744073709551616:=by
 have h8:(2:Int) ^ (min (8:Int).toNat 64)=256:=by decide
 rw[h8]
 have e1:BitVec.ofInt 64 (IntKind.i64.wrap ((IntKind.i64.wrap (x:Int)) * 256))=BitVec.ofNat 64 (x * 256):=by
  apply BitVec.eq_of_toNat_eq
  rw[BitVec.toNat_ofInt,BitVec.toNat_ofNat,IntKind.wrap_i64,IntKind.wrap_i64]
  omega
 have e2:BitVec.ofInt 64 (b:Int)=BitVec.ofNat 64 b:=by
  apply BitVec.eq_of_toNat_eq
  rw[BitVec.toNat_ofInt,BitVec.toNat_ofNat];omega
 rw[e1,e2,BitVec.toNat_or,BitVec.toNat_ofNat,BitVec.toNat_ofNat]
 have e3:b % 2 ^ 64=b:=Nat.mod_eq_of_lt (by omega)
 have e4:x * 256 % 2 ^ 64=2 ^ 8 * (x % 2 ^ 56):=by omega
 rw[e3,e4,←Nat.two_pow_add_eq_or_of_lt (by omega)]
 omega
theorem tq_(acc:Nat)(l:List UInt8)(b:UInt8):b8_ acc (l++[b])=b8_ acc l * 256+b.toNat:=by
 unfold b8_;rw[foldl_append];rfl
theorem oH_(b:UInt8)(l:List UInt8)(hb:b≠0):∀k:Nat,Lib.replaceK [0] [0,255] k (b::l)=b::Lib.replaceK [0] [0,255] k l
 | 0=>rfl
 | k+1=>by
  have hge:=Lib.indexByte_ge l 0
  have e:Lib.index (b::l) [0]=if Lib.index l [0] == -1 then -1 else Lib.index l [0]+1:=by
   rw[Lib.index_one,Lib.index_one,Lib.indexByte,if_neg (by simpa using hb)]
  rw[Lib.replaceK,Lib.replaceK,e]
  rw[←Lib.index_one]at hge
  by_cases h:Lib.index l [0] = -1
  ·simp[h]
  ·have hn:(Lib.index l [0] == -1)=false:=by simpa using h
   obtain⟨i,hi⟩:∃i:Nat,Lib.index l [0]=i:=⟨(Lib.index l [0]).toNat,by omega⟩
   have hn2:(((i:Int)+1) == -1)=false:=by simp;omega
   have hn3:(((i:Int)) == -1)=false:=by simp
   simp only[hi,hn2,hn3,Bool.false_eq_true,if_false]
   have t1:((i:Int)+1).toNat=i+1:=by omega
   have t2:((i:Int)).toNat=i:=by omega
   rw[t1,t2]
   simp[take_succ_cons,drop_succ_cons]
theorem hN_:∀l:List UInt8,Lib.replaceK [0] [0,255] (l.count 0) l=esc l
 | []=>rfl
 | b::l=>by
  by_cases h:b=0
  ·subst h
   have e:Lib.index ((0:UInt8)::l) [0]=0:=by rw[Lib.index_one,Lib.indexByte];rfl
   rw[count_cons_self,Lib.replaceK,e,esc,if_pos rfl]
   simp only[seval,beq_iff_eq,if_false,Int.toNat_zero,take_zero,nil_append,Nat.zero_add,length_singleton,drop_succ_cons,drop_zero]
   rw[hN_ l];rfl
  ·rw[count_cons_of_ne (by simpa using h),oH_ b l h,hN_ l,esc,if_neg h]
theorem nf_(l:List UInt8):Lib.replaceAll l [0] [0,255]=esc l:=by
 rw[Lib.replaceAll,Lib.replace,if_neg (by decide),Lib.replaceNum,if_pos (.inl (by decide)),Lib.count_one,hN_]
end Go.AW
