/-
 A small program logic over abstract values, proved sound over the model: what a function's code gives for data, without worlds and cells. Nothing of any one program. No conditions.
-/
import Derived.Calls
import Derived.Orders
import Derived.Deep.LoopGhost
import Derived.Laws.Cells
import Derived.Laws.CopyRow
import Derived.Laws.AppendOwn
import Derived.Laws.MakeOwn
import Derived.Laws.Entries
import Derived.ChangeKeysEq
import Derived.Lib.ItoaNum
import Derived.Laws.IdiomStrings
import Derived.Laws.StructEq
import Derived.Lib.Overlaps
import Derived.Below
import Derived.Lib.AppendZerosOnto
import Derived.Maps.RangeRun
import Derived.Laws.Strings
import GoSem.ClaimChange
import Derived.ChangeArms
import Derived.Attr
set_option linter.unusedVariables false
set_option linter.unusedSimpArgs false
set_option linter.unusedSectionVars false
namespace Go.AW
open List
inductive AV where
 | val (v:Value)
 | list (tok sz:Nat) (es:List (List AV))
 | iptr (cs:List AV)
 | ptr (l n i off:Nat)
 | own (l n:Nat)
 | sub (l n lo hi:Nat)
 | mp (l:Nat)
 | agg (cs:List AV)
 | tup (cs:List AV)
 | fn (f:FuncId) (first caps:List AV)
 | undef
abbrev AV.int(n:Int):AV:=.val (.int .i64 n)
abbrev AV.bool(b:Bool):AV:=.val (.bool b)
abbrev AV.str(s:ByteArray):AV:=.val (.string s)
inductive Tag where
 | ty (t:TypeId)
 | map (ents:List (Int×Value))
 | full (t:TypeId)
 | byt (t:TypeId)
 | pmap (ents:List (Int×Nat×AV)) (clock:Nat)
 | smap (ents:List (ByteArray×Value))
 | iter (m since:Nat) (seen:List Nat) (clk:Nat)
 | junk
def Tag.isFull:Tag→Bool
 | .full _=>true
 | _=>false
@[simp] theorem Tag.isFull_ty (t : TypeId) : (Tag.ty t).isFull = false := rfl
@[simp] theorem Tag.isFull_full (t : TypeId) : (Tag.full t).isFull = true := rfl
@[simp] theorem Tag.isFull_byt (t : TypeId) : (Tag.byt t).isFull = false := rfl
def Tag.isByt:Tag→Bool
 | .byt _=>true
 | _=>false
@[simp] theorem Tag.isByt_ty (t : TypeId) : (Tag.ty t).isByt = false := rfl
@[simp] theorem Tag.isByt_full (t : TypeId) : (Tag.full t).isByt = false := rfl
instance (n:Nat):OfNat Tag n:=⟨.ty n⟩
instance:Coe Nat Tag:=⟨.ty⟩
@[simp] theorem Tag.ofNat_eq (n : Nat) : (OfNat.ofNat n : Tag) = .ty n := rfl
structure Row where
 E:Tag
 sz:Nat
 es:List (List AV)
structure bV_ where
 len:Nat
 blk:Option Nat
 cap:Nat
 sz:Nat
structure Sit where
 imm:Nat→Option (Array Value)
 rows:List bV_
def Sit.still(S:Sit):Sit:={ imm:=S.imm,rows:=[] }
def sliceAt(i:bV_):Value :=
 match i.blk with
 | some b=>.slice (some ⟨b,0,none⟩) i.len i.cap
 | none=>.slice none 0 0
mutual
def Rep(S:Sit):AV→Value→Prop
 | .val v,x=>x=v
 | .list tok sz es,x=>(es=[]∧tok=0∧∃p c,x=.slice p 0 c) ∨
  ∃b off cap c,x=.slice (some ⟨b,off,none⟩) es.length cap∧es.length≤cap∧S.imm b=some c∧(∀e∈es,e.length=sz) ∧
   (tok=0∨(tok=b+1∧off=0))∧off+es.length * sz≤c.size∧aj_ S.still es (c.toList.drop off)
 | .iptr cs,x=>∃b off c,x=.pointer (some ⟨b,off,none⟩)∧S.imm b=some c∧off+cs.length≤c.size∧an_ S.still cs (c.toList.drop off)
 | .ptr l n k off,x=>(∃p,x=.pointer p)∧∃i:bV_,S.rows[l]?=some i∧n≤i.len∧(n=i.len→∃b,i.blk=some b∧x=.pointer (some ⟨b,k * i.sz+off,none⟩))
 | .own l n,x=>(∃p m c,x=.slice p m c)∧∃i:bV_,S.rows[l]?=some i∧n≤i.len∧(n=i.len→x=sliceAt i∨(i.blk=none∧∃p,x=.slice p 0 0))
 | .sub l n lo hi,x=>(∃p m c,x=.slice p m c)∧∃i:bV_,S.rows[l]?=some i∧n≤i.len∧(n=i.len→lo≤hi∧hi≤n ∧
  ((i.blk=none∧∃p,x=.slice p 0 0)∨∃b off,i.blk=some b∧x=.slice (some ⟨b,off,none⟩) (hi-lo) (i.cap-lo)∧(lo<i.cap→off=lo * i.sz)))
 | .mp l,x=>(∃b,x=.map b)∧∃i:bV_,S.rows[l]?=some i∧(i.len=0→∃b,i.blk=some b∧x=.map (some b))
 | .agg cs,x=>∃vs,x=.agg vs∧ae_ S cs vs.toList
 | .tup cs,x=>∃vs,x=.tuple vs∧ae_ S cs vs.toList
 | .fn f first caps,x=>∃vs us,x=.func (.func f) vs us∧ae_ S first vs.toList∧ae_ S caps us.toList
 | .undef,_=>True
def ae_(S:Sit):List AV→List Value→Prop
 | [],vs=>vs=[]
 | c::cs,vs=>∃v r,vs=v::r∧Rep S c v∧ae_ S cs r
def an_(S:Sit):List AV→List Value→Prop
 | [],_=>True
 | c::cs,vs=>∃v r,vs=v::r∧Rep S c v∧an_ S cs r
def aj_(S:Sit):List (List AV)→List Value→Prop
 | [],_=>True
 | e::es,vs=>an_ S e vs∧aj_ S es (vs.drop e.length)
end
def Sit.owns(S:Sit)(b:Nat):Prop:=∃(l:Nat) (i:bV_),S.rows[l]?=some i∧i.blk=some b
structure Sit.le(S S':Sit):Prop where
 imm:∀b c,S.imm b=some c→S'.imm b=some c
 rows:∀(l:Nat) (i:bV_),S.rows[l]?=some i→∃i':bV_,S'.rows[l]?=some i'∧i.len≤i'.len∧(i'.len=i.len→i'=i)
theorem Sit.le.refl(S:Sit):S.le S:=⟨fun _ _ h=>h,fun _ i h=>⟨i,h,Nat.le_refl _,fun _=>rfl⟩⟩
theorem Sit.le.trans{A B C:Sit}(h:A.le B)(k:B.le C):A.le C:=by
 refine⟨fun b c e=>k.imm b c (h.imm b c e),fun l i e=>?_⟩
 obtain⟨i1,e1,l1,s1⟩:=h.rows l i e
 obtain⟨i2,e2,l2,s2⟩:=k.rows l i1 e1
 refine⟨i2,e2,Nat.le_trans l1 l2,fun q=>?_⟩
 have:i1.len=i.len:=by omega
 have e3:=s1 this
 subst e3
 exact s2 q
theorem Sit.le.still{S S':Sit}(h:S.le S'):S.still.le S'.still:=⟨h.imm,by simp[Sit.still]⟩
mutual
theorem Rep.up{S S':Sit}(h:S.le S'):∀(a:AV) (x:Value),Rep S a x→Rep S' a x
 | .val v,x,r=>by simpa[Rep]using r
 | .list tok sz es,x,r=>by
  simp only[Rep]at r⊢
  rcases r with r|⟨b,off,cap,c,r1,r2,r3,r4,r5,r6,r7⟩
  ·exact .inl r
  ·exact .inr ⟨b,off,cap,c,r1,r2,h.imm _ _ r3,r4,r5,r6,aj_.up h.still es _ r7⟩
 | .iptr cs,x,r=>by
  simp only[Rep]at r⊢
  obtain⟨b,off,c,r1,r2,r3,r4⟩:=r
  exact⟨b,off,c,r1,h.imm _ _ r2,r3,an_.up h.still cs _ r4⟩
 | .ptr l n k off,x,r=>by
  simp only[Rep]at r⊢
  obtain⟨r0,i,r1,r2,r3⟩:=r
  obtain⟨i',e,l1,s1⟩:=h.rows l i r1
  refine⟨r0,i',e,Nat.le_trans r2 l1,fun q=>?_⟩
  have q1:i'.len=i.len:=by omega
  have:=s1 q1;subst this
  exact r3 q
 | .own l n,x,r=>by
  simp only[Rep]at r⊢
  obtain⟨r0,i,r1,r2,r3⟩:=r
  obtain⟨i',e,l1,s1⟩:=h.rows l i r1
  refine⟨r0,i',e,Nat.le_trans r2 l1,fun q=>?_⟩
  have q1:i'.len=i.len:=by omega
  have:=s1 q1;subst this
  exact r3 q
 | .sub l n lo hi,x,r=>by
  simp only[Rep]at r⊢
  obtain⟨r0,i,r1,r2,r3⟩:=r
  obtain⟨i',e,l1,s1⟩:=h.rows l i r1
  refine⟨r0,i',e,Nat.le_trans r2 l1,fun q=>?_⟩
  have q1:i'.len=i.len:=by omega
  have:=s1 q1;subst this
  exact r3 q
 | .mp l,x,r=>by
  simp only[Rep]at r⊢
  obtain⟨r0,i,r1,r3⟩:=r
  obtain⟨i',e,l1,s1⟩:=h.rows l i r1
  refine⟨r0,i',e,fun q=>?_⟩
  have q1:i'.len=i.len:=by omega
  have:=s1 q1;subst this
  exact r3 q
 | .agg cs,x,r=>by
  simp only[Rep]at r⊢
  obtain⟨vs,r1,r2⟩:=r
  exact⟨vs,r1,ae_.up h cs _ r2⟩
 | .tup cs,x,r=>by
  simp only[Rep]at r⊢
  obtain⟨vs,r1,r2⟩:=r
  exact⟨vs,r1,ae_.up h cs _ r2⟩
 | .fn f first caps,x,r=>by
  simp only[Rep]at r⊢
  obtain⟨vs,us,r1,r2,r3⟩:=r
  exact⟨vs,us,r1,ae_.up h first _ r2,ae_.up h caps _ r3⟩
 | .undef,x,r=>by simp[Rep]
theorem ae_.up{S S':Sit}(h:S.le S'):∀(a:List AV) (x:List Value),ae_ S a x→ae_ S' a x
 | [],x,r=>by simpa[ae_]using r
 | c::cs,x,r=>by
  simp only[ae_]at r⊢
  obtain⟨v,r',e,r1,r2⟩:=r
  exact⟨v,r',e,Rep.up h c v r1,ae_.up h cs r' r2⟩
theorem an_.up{S S':Sit}(h:S.le S'):∀(a:List AV) (x:List Value),an_ S a x→an_ S' a x
 | [],x,r=>by simp[an_]
 | c::cs,x,r=>by
  simp only[an_]at r⊢
  obtain⟨v,r',e,r1,r2⟩:=r
  exact⟨v,r',e,Rep.up h c v r1,an_.up h cs r' r2⟩
theorem aj_.up{S S':Sit}(h:S.le S'):∀(a:List (List AV)) (x:List Value),aj_ S a x→aj_ S' a x
 | [],x,r=>by simp[aj_]
 | e::es,x,r=>by
  simp only[aj_]at r⊢
  exact⟨an_.up h e x r.1,aj_.up h es _ r.2⟩
end
def frT:Tag→Array Value→Nat×Nat→Prop
 | .byt _,c,fr=>fr=(0,0)∨c.size≤fr.1
 | _,_,fr=>fr=(0,0)
theorem frT.size{T:Tag}{c c':Array Value}{fr:Nat×Nat}(h:frT T c fr)(e:c'.size=c.size):frT T c' fr:=by
 cases T<;>simp only[frT]at h⊢<;>first|exact h|(rw[e];exact h)
theorem frT.zero(T:Tag)(c:Array Value):frT T c (0,0):=by
 cases T<;>simp[frT]
theorem frT.not{T:Tag}{c:Array Value}{fr:Nat×Nat}(h:frT T c fr)(hT:T.isByt=false):fr=(0,0):=by
 cases T<;>first|exact h|simp[Tag.isByt]at hT
theorem frT.free{T:Tag}{c:Array Value}{fr:Nat×Nat}(h:frT T c fr)(o:Nat)(ho:o<c.size):¬ (fr.1≤o∧o<fr.2):=by
 cases T<;>simp only[frT]at h
 case byt t =>
  rcases h with h|h
  ·subst h;simp
  ·omega
 all_goals(subst h;simp)
def a8_(S:Sit):List MapEntry→List (Int×Nat×AV)→Prop
 | [],[]=>True
 | e::es,p::ps=>(e.key=Value.int .i64 p.1∧e.born=p.2.1∧Rep S p.2.2 e.val)∧a8_ S es ps
 | _,_=>False
theorem a8_.up{S S':Sit}(h:S.le S'):∀{es:List MapEntry} {ps:List (Int×Nat×AV)},a8_ S es ps→a8_ S' es ps
 | [],[],_=>trivial
 | [],_::_,q=>q.elim
 | _::_,[],q=>q.elim
 | e::es,p::ps,q=>⟨⟨q.1.1,q.1.2.1,Rep.up h _ _ q.1.2.2⟩,a8_.up h q.2⟩
def ax_(S:Sit)(w:World)(b:Nat)(i:bV_)(r:Row):Prop :=
 match r.E with
 | .ty E=>∃c,w.heap[b]?=some (.cells c E (0,0))∧aj_ S r.es c.toList∧c.size=i.cap * i.sz∧i.len≤i.cap∧i.cap≤maxLen
 | .map ents=>r.es=[]∧r.sz=0∧∃(arr:Array MapEntry) (clock:Nat),w.heap[b]?=some (.map arr clock)∧arr.toList.map (fun e=>(e.key,e.val))=ents.map fun p=>(Value.int .i64 p.1,p.2)
 | .full E=>(∃c,w.heap[b]?=some (.cells c E (0,0))∧aj_ S r.es c.toList∧c.size=i.cap * i.sz∧i.len≤i.cap∧i.cap≤maxLen)∧i.cap=i.len
 | .byt E=>∃c fr,(w.heap[b]?=some (.cells c E fr)∧(fr=(0,0)∨c.size≤fr.1))∧aj_ S r.es c.toList∧c.size=i.cap * i.sz∧i.len≤i.cap∧i.cap≤maxLen
 | .pmap ents clock=>r.es=[]∧r.sz=0∧∃(arr:Array MapEntry),w.heap[b]?=some (.map arr clock)∧a8_ S arr.toList ents
 | .smap ents=>r.es=[]∧r.sz=0∧∃(arr:Array MapEntry) (clock:Nat),w.heap[b]?=some (.map arr clock)∧arr.toList.map (fun e=>(e.key,e.val))=ents.map fun p=>(Value.string p.1,p.2)
 | .iter m since seen clk=>r.es=[]∧r.sz=0∧∃bm,w.heap[b]?=some (.mapIter (some bm) since seen.toArray clk)∧Rep S (.mp m) (.map (some bm))
 | .junk=>r.es=[]∧r.sz=0∧b<w.heap.size
theorem ax_.cells{S:Sit}{w:World}{b:Nat}{i:bV_}{r:Row}(h:ax_ S w b i r)(hne:r.es≠[]∨r.sz≠0) :
 ∃E c,((r.E=.ty E∨r.E=.byt E)∨(r.E=.full E∧i.cap=i.len))∧(∃fr,w.heap[b]?=some (.cells c E fr)∧frT r.E c fr)∧aj_ S r.es c.toList∧c.size=i.cap * i.sz∧i.len≤i.cap∧i.cap≤maxLen:=by
 unfold ax_ at h
 split at h
 ·rename_i E hE
  obtain⟨c,h1,h⟩:=h
  exact⟨E,c,.inl (.inl hE),⟨(0,0),h1,.zero _ _⟩,h⟩
 ·rcases hne with q|q
  ·exact absurd h.1 q
  ·exact absurd h.2.1 q
 ·rename_i E hE
  obtain⟨⟨c,h1,h⟩,h2⟩:=h
  exact⟨E,c,.inr ⟨hE,h2⟩,⟨(0,0),h1,.zero _ _⟩,h⟩
 ·rename_i E hE
  obtain⟨c,fr,⟨h1,h2⟩,h⟩:=h
  exact⟨E,c,.inl (.inr hE),⟨fr,h1,by rw[hE];exact h2⟩,h⟩
 all_goals
  rcases hne with q|q
  ·exact absurd h.1 q
  ·exact absurd h.2.1 q
theorem ax_.byt{S:Sit}{w:World}{b:Nat}{i:bV_}{r:Row}{E:TypeId}(hE:r.E=.byt E) :
 ax_ S w b i r=∃c fr,(w.heap[b]?=some (.cells c E fr)∧(fr=(0,0)∨c.size≤fr.1))∧aj_ S r.es c.toList∧c.size=i.cap * i.sz∧i.len≤i.cap∧i.cap≤maxLen:=by
 unfold ax_;rw[hE]
theorem ax_.ty{S:Sit}{w:World}{b:Nat}{i:bV_}{r:Row}{E:TypeId}(hE:r.E=.ty E) :
 ax_ S w b i r=∃c,w.heap[b]?=some (.cells c E (0,0))∧aj_ S r.es c.toList∧c.size=i.cap * i.sz∧i.len≤i.cap∧i.cap≤maxLen:=by
 unfold ax_;rw[hE]
theorem ax_.full{S:Sit}{w:World}{b:Nat}{i:bV_}{r:Row}{E:TypeId}(hE:r.E=.full E) :
 ax_ S w b i r=((∃c,w.heap[b]?=some (.cells c E (0,0))∧aj_ S r.es c.toList∧c.size=i.cap * i.sz∧i.len≤i.cap∧i.cap≤maxLen)∧i.cap=i.len):=by
 unfold ax_;rw[hE]
theorem w0_{w w':World}{b:Nat}(hh:w'.heap[b]?=w.heap[b]?)(h:b<w.heap.size):b<w'.heap.size:=by
 have:w'.heap[b]?=some w.heap[b]:=by rw[hh,Array.getElem?_eq_getElem h]
 exact(Array.getElem?_eq_some_iff.1 this).1
theorem ax_.le{S S':Sit}{w w':World}{b:Nat}{i:bV_}{r:Row}(hle:S.le S')(hh:w'.heap[b]?=w.heap[b]?)(h:ax_ S w b i r):ax_ S' w' b i r:=by
 unfold ax_ at h⊢
 split at h
 ·obtain⟨c,h1,h2,h3⟩:=h
  exact⟨c,by rw[hh];exact h1,aj_.up hle _ _ h2,h3⟩
 ·obtain⟨h1,h2,arr,clock,h3,h4⟩:=h
  exact⟨h1,h2,arr,clock,by rw[hh];exact h3,h4⟩
 ·obtain⟨⟨c,h1,h2,h3⟩,h4⟩:=h
  exact⟨⟨c,by rw[hh];exact h1,aj_.up hle _ _ h2,h3⟩,h4⟩
 ·obtain⟨c,fr,⟨h1,h0⟩,h2,h3⟩:=h
  exact⟨c,fr,⟨by rw[hh];exact h1,h0⟩,aj_.up hle _ _ h2,h3⟩
 ·obtain⟨h1,h2,arr,h3,h4⟩:=h
  exact⟨h1,h2,arr,by rw[hh];exact h3,h4.up hle⟩
 ·obtain⟨h1,h2,arr,clock,h3,h4⟩:=h
  exact⟨h1,h2,arr,clock,by rw[hh];exact h3,h4⟩
 ·obtain⟨h1,h2,bm,h3,h4⟩:=h
  exact⟨h1,h2,bm,by rw[hh];exact h3,Rep.up hle _ _ h4⟩
 ·exact⟨h.1,h.2.1,w0_ hh h.2.2⟩
theorem ax_.lt{S:Sit}{w:World}{b:Nat}{i:bV_}{r:Row}(h:ax_ S w b i r):b<w.heap.size:=by
 unfold ax_ at h
 split at h
 ·obtain⟨c,h1,_⟩:=h
  exact(Array.getElem?_eq_some_iff.1 h1).1
 ·obtain⟨_,_,arr,clock,h3,_⟩:=h
  exact(Array.getElem?_eq_some_iff.1 h3).1
 ·obtain⟨⟨c,h1,_⟩,_⟩:=h
  exact(Array.getElem?_eq_some_iff.1 h1).1
 ·obtain⟨c,fr,⟨h1,_⟩,_⟩:=h
  exact(Array.getElem?_eq_some_iff.1 h1).1
 ·obtain⟨_,_,arr,h3,_⟩:=h
  exact(Array.getElem?_eq_some_iff.1 h3).1
 ·obtain⟨_,_,arr,clock,h3,_⟩:=h
  exact(Array.getElem?_eq_some_iff.1 h3).1
 ·obtain⟨_,_,bm,h3,_⟩:=h
  exact(Array.getElem?_eq_some_iff.1 h3).1
 ·exact h.2.2
def wk_(S:Sit)(w:World)(i:bV_)(r:Row):Prop :=
 i.len=r.es.length∧i.sz=r.sz∧(∀e∈r.es,e.length=r.sz) ∧
 match i.blk with
 | some b=>S.imm b=none∧ax_ S w b i r
 | none=>r.es=[]∧i.cap=0
structure ab_(S:Sit)(h:List Row)(w:World):Prop where
 imm:∀b c,S.imm b=some c→∃E fr,w.heap[b]?=some (.cells c E fr)
 len:S.rows.length=h.length
 rows:∀(l:Nat) (i:bV_) (r:Row),S.rows[l]?=some i→h[l]?=some r→wk_ S w i r
 one:∀(l l':Nat) (i i':bV_) (b:Nat),S.rows[l]?=some i→S.rows[l']?=some i'→i.blk=some b→i'.blk=some b→l=l'
structure a0_(S:Sit)(w:World)(S':Sit)(w':World):Prop where
 le:S.le S'
 os:w'.os=w.os
 tape:w'.tape=w.tape
 output:w'.output=w.output
 size:w.heap.size≤w'.heap.size
 block:∀b,b<w.heap.size→¬ S.owns b→w'.heap[b]?=w.heap[b]?
 ownNew:∀b,S'.owns b→S.owns b∨w.heap.size≤b
 immNew:∀b c,S'.imm b=some c→S.imm b=some c∨S.owns b∨w.heap.size≤b
theorem a0_.refl(S:Sit)(w:World):a0_ S w S w :=
 ⟨.refl S,rfl,rfl,rfl,Nat.le_refl _,fun _ _ _=>rfl,fun _ h=>.inl h,fun _ _ h=>.inl h⟩
theorem a0_.trans{A B C:Sit}{a b c:World}(h:a0_ A a B b)(k:a0_ B b C c):a0_ A a C c:=by
 refine⟨h.le.trans k.le,k.os.trans h.os,k.tape.trans h.tape,k.output.trans h.output,Nat.le_trans h.size k.size,fun x hx ho=>?_,fun x hx=>?_,fun x y hx=>?_⟩
 ·rw[k.block x (Nat.lt_of_lt_of_le hx h.size),h.block x hx ho]
  intro hb
  rcases h.ownNew x hb with q|q
  ·exact ho q
  ·omega
 ·rcases k.ownNew x hx with q|q
  ·exact h.ownNew x q
  ·exact .inr (Nat.le_trans h.size q)
 ·rcases k.immNew x y hx with q|q|q
  ·exact h.immNew x y q
  ·rcases h.ownNew x q with q|q
   ·exact .inr (.inl q)
   ·exact .inr (.inr q)
  ·exact .inr (.inr (Nat.le_trans h.size q))
def AV.flat:AV→Bool
 | .val _|.list _ _ _|.iptr _=>true
 | _=>false
theorem f2_{S:Sit}{a:AV}{x:Value}(h:a.flat=true)(r:Rep S a x):Rep S.still a x:=by
 cases a with
 | val v=>simpa[Rep]using r
 | list tk sz es =>
  simp only[Rep]at r⊢
  exact r
 | iptr cs =>
  simp only[Rep]at r⊢
  exact r
 | _=>simp[AV.flat]at h
theorem fn_{S:Sit}:∀{as:List AV} {xs:List Value},as.all AV.flat=true→ae_ S as xs→ae_ S.still as xs
 | [],xs,_,r=>by simpa[ae_]using r
 | a::as,xs,h,r=>by
  simp only[all_cons,Bool.and_eq_true]at h
  simp only[ae_]at r⊢
  obtain⟨v,r',e,r1,r2⟩:=r
  exact⟨v,r',e,f2_ h.1 r1,fn_ h.2 r2⟩
def Rel(S:Sit)(N:Nat)(t:Nat→AV)(a:Act):Prop :=
 a.tmps.size=N∧a.defers=[]∧∀k,k<N→Rep S (t k) (a.tmps.getD k Go.undef)
theorem Rel.up{S S':Sit}{N:Nat}{t:Nat→AV}{a:Act}(h:S.le S')(r:Rel S N t a):Rel S' N t a :=
 ⟨r.1,r.2.1,fun k hk=>Rep.up h _ _ (r.2.2 k hk)⟩
def upd(t:Nat→AV)(d:Nat)(v:AV):Nat→AV:=fun x=>if x=d then v else t x
theorem uS_(t:Nat→AV)(d:Nat)(v:AV):upd t d v d=v:=by simp[upd]
theorem yW_(t:Nat→AV)(d:Nat)(v:AV)(x:Nat)(h:x≠d):upd t d v x=t x:=by simp[upd,h]
def put(t:Nat→AV)(d:Option Nat)(v:AV):Nat→AV :=
 match d with
 | some d=>upd t d v
 | none=>t
theorem Rel.put{S:Sit}{N:Nat}{t:Nat→AV}{a:Act}(r:Rel S N t a){d:Option Nat}{v:AV}{x:Value}(hx:Rep S v x):Rel S N (put t d v) (a.put d x):=by
 obtain⟨r1,r2,r3⟩:=r
 cases d with
 | none=>exact⟨r1,r2,r3⟩
 | some d =>
  refine⟨by simp[Act.put,r1],by simp[Act.put,r2],fun k hk=>?_⟩
  simp only[AW.put,Act.put,upd,Array.getD_eq_getD_getElem?,Array.getElem?_setIfInBounds]
  by_cases e:k=d
  ·subst e;simp[r1,hk,hx]
  ·have e':¬ d=k:=fun q=>e q.symm
   simp only[e,e',if_false]
   have:=r3 k hk
   simpa[Array.getD_eq_getD_getElem?]using this
def ah_(t:Nat→AV):Operand→AV
 | .tmp k=>t k
 | .const v=>.val v
 | .func f=>.fn f [] []
 | .global _=>.undef
def ag_(N:Nat):Operand→Bool
 | .tmp k=>k<N
 | _=>true
theorem Rel.eval{S:Sit}{N:Nat}{t:Nat→AV}{a:Act}(r:Rel S N t a){x:Operand}(hx:ag_ N x=true):Rep S (ah_ t x) (a.eval x):=by
 cases x with
 | tmp k=>exact r.2.2 k (by simpa[ag_]using hx)
 | const v=>simp[ah_,Act.eval,Rep]
 | func f=>simp[ah_,Act.eval,Rep,ae_]
 | global g=>simp[ah_,Rep]
def pt_:List (String×Array Value):=[("internal/strconv.uint64pow10",(Lib.pow10Tab.map fun z=>Value.int .u64 z).toArray)]
def cn_(P:Program)(S:Sit):Prop:=(∀p∈pt_,∀g,P.globalNamed p.1=some g→S.imm g=some p.2) ∧
 ∀g,P.globalNamed "internal/bytealg.MaxLen"=some g→∃(c:Array Value) (m:Int),S.imm g=some c∧c[0]?=some (.int .i64 m)
theorem cn_.up{P:Program}{S S':Sit}(h:S.le S')(g:cn_ P S):cn_ P S' :=
 ⟨fun p hp i hi=>h.imm _ _ (g.1 p hp i hi),fun i hi=>(g.2 i hi).imp fun c hc=>hc.imp fun m hm=>⟨h.imm _ _ hm.1,hm.2⟩⟩
def callSem(P:Program)(f:FuncId)(args:List AV)(h:List Row)(K:AV→List Row→Prop):Prop :=
 ∀(S:Sit) (w:World) (vals:Array Value),ab_ S h w→cn_ P S→ae_ S args vals.toList →
  Calls P f vals w fun e w'=>∃v av S' h',e=.returned v∧a0_ S w S' w'∧ab_ S' h' w'∧Rep S' av v∧K av h'
theorem callSem.mono{P:Program}{f:FuncId}{args:List AV}{h:List Row}{K K':AV→List Row→Prop}(c:callSem P f args h K)(k:∀a h,K a h→K' a h):callSem P f args h K' :=
 fun S w vals m g r=>(c S w vals m g r).mono fun _ _ ⟨v,av,S',h',e,s,m',r',q⟩=>⟨v,av,S',h',e,s,m',r',k _ _ q⟩
inductive XOp where
 | mkP
 | mkS
 | lookP (ok:Bool) (m k:Operand)
 | lookS (z:Value) (ok:Bool) (m k:Operand)
 | updP (m k v:Operand)
 | updS (m k v:Operand)
 | lenM (x:Operand)
 | delP (m k:Operand)
 | rng (x:Operand)
 | nxt (x:Operand)
 | ent (x:Operand)
inductive LOp where
 | mov (x:Operand)
 | pick (c a b:Operand)
 | alloc (E:TypeId) (z:Value)
 | box (E:TypeId) (x:Operand)
 | load (n:Option Nat) (a:Operand)
 | store (n:Nat) (a x:Operand)
 | fieldAddr (off:Nat) (x:Operand)
 | field (off:Nat) (n:Option Nat) (x:Operand)
 | indexAddr (sz:Nat) (x i:Operand)
 | indexStr (x i:Operand)
 | bin (op:BinOp) (isBool:Bool) (x y:Operand)
 | un (op:UnOp) (x:Operand)
 | lenStr (x:Operand)
 | lenSl (x:Operand)
 | extract (x:Operand) (i:Nat)
 | mkFunc (f:FuncId) (first caps:List Operand)
 | nilCheck (x:Operand)
 | convInt (k:IntKind) (x:Operand)
 | toStr (x:Operand)
 | toBytes (E:TypeId) (x:Operand)
 | sliceStr (x:Operand) (lo hi:Option Operand)
 | sliceSl (sz:Nat) (x:Operand) (lo hi:Option Operand)
 | mkSlice (E:TypeId) (sz bytes:Nat) (z:Value) (l c:Operand)
 | buildSlice (E:TypeId) (sz:Nat) (z:Value) (len:Nat) (parts:List (Nat×Operand))
 | buildImm (E:TypeId) (sz:Nat) (z:Value) (len:Nat) (parts:List (Nat×Operand))
 | build (z:Value) (places:List (Nat×Nat)) (parts:List (Nat×Operand))
 | append (E:TypeId) (sz bytes:Nat) (x y:Operand)
 | clip0 (E:TypeId) (sz:Nat) (x:Operand)
 | clear (E:TypeId) (sz:Nat) (z:Value) (x:Operand)
 | mkMap
 | lookup (z:Value) (ok:Bool) (m k:Operand)
 | mapUpd (m k v:Operand)
 | call (f:FuncId) (args:List Operand)
 | callv (f:Operand) (args:List Operand)
 | isNil (neg:Bool) (x:Operand)
 | slice3 (x lo hi mx:Operand)
 | capSl (x:Operand)
 | copySl (sz:Nat) (x y:Operand)
 | ovl (x y:Operand)
 | isNilP (neg:Bool) (x:Operand)
 | eqSt (neg:Bool) (ks:List Nat) (x y:Operand)
 | appendZ (E:TypeId) (sz bytes:Nat) (z:Value) (x k:Operand)
 | appendS (E:TypeId) (x y:Operand)
 | mm (mx:Bool) (x y:Operand)
 | ext (e:XOp)
structure LI where
 dst:Option Nat
 guard:Option (Nat×Bool)
 op:LOp
def LI.m(d s:Nat):LI:=⟨some d,none,.mov (.tmp s)⟩
def LI.s(d:Nat)(o:LOp):LI:=⟨some d,none,o⟩
def LI.z(o:LOp):LI:=⟨none,none,o⟩
def LI.g(d g:Nat)(b:Bool)(o:LOp):LI:=⟨some d,some (g,b),o⟩
def LI.ki(d:Nat)(n:Int):LI:=⟨some d,none,.mov (.const (.int .i64 n))⟩
def LI.ln(d s:Nat):LI:=⟨some d,none,.load none (.tmp s)⟩
def LI.ld(d n s:Nat):LI:=⟨some d,none,.load (some n) (.tmp s)⟩
def LI.fa(d o s:Nat):LI:=⟨some d,none,.fieldAddr o (.tmp s)⟩
def LI.ia(d z x i:Nat):LI:=⟨some d,none,.indexAddr z (.tmp x) (.tmp i)⟩
def LI.ex(d s i:Nat):LI:=⟨some d,none,.extract (.tmp s) i⟩
def LI.ll(d s:Nat):LI:=⟨some d,none,.lenSl (.tmp s)⟩
def LI.nt(d s:Nat):LI:=⟨some d,none,.un .not (.tmp s)⟩
def LI.nc(d s:Nat):LI:=⟨some d,none,.nilCheck (.tmp s)⟩
def LI.st(n a x:Nat):LI:=⟨none,none,.store n (.tmp a) (.tmp x)⟩
def LI.bb(d:Nat)(o:BinOp)(q:Bool)(x y:Nat):LI:=⟨some d,none,.bin o q (.tmp x) (.tmp y)⟩
def LI.bk(d:Nat)(o:BinOp)(q:Bool)(x:Nat)(n:Int):LI:=⟨some d,none,.bin o q (.tmp x) (.const (.int .i64 n))⟩
def LI.pt(d c y:Nat):LI:=⟨some d,none,.pick (.tmp c) (.const (.bool true)) (.tmp y)⟩
def LI.pf(d c x:Nat):LI:=⟨some d,none,.pick (.tmp c) (.tmp x) (.const (.bool false))⟩
def LI.c1(d f x:Nat):LI:=⟨some d,none,.call f [.tmp x]⟩
def LI.c2(d f x y:Nat):LI:=⟨some d,none,.call f [.tmp x,.tmp y]⟩
def LI.c3(d f x y z:Nat):LI:=⟨some d,none,.call f [.tmp x,.tmp y,.tmp z]⟩
def LI.ap(d E z b x y:Nat):LI:=⟨some d,none,.append E z b (.tmp x) (.tmp y)⟩
def LI.f(d:Nat):LI:=⟨some d,none,.mov (.const (.bool false))⟩
def LI.t(d:Nat):LI:=⟨some d,none,.mov (.const (.bool true))⟩
def LI.bx(d T s:Nat):LI:=⟨some d,none,.box T (.tmp s)⟩
def LI.nl(d:Nat):LI:=⟨some d,none,.mov (.const (.slice none 0 0))⟩
def LI.gm(d g:Nat)(b:Bool)(s:Nat):LI:=⟨some d,some (g,b),.mov (.tmp s)⟩
def LI.gn(d g:Nat)(b:Bool)(s:Nat):LI:=⟨some d,some (g,b),.load none (.tmp s)⟩
def LI.gl(d g:Nat)(b:Bool)(n s:Nat):LI:=⟨some d,some (g,b),.load (some n) (.tmp s)⟩
def LI.gf(d g:Nat)(b:Bool)(o s:Nat):LI:=⟨some d,some (g,b),.fieldAddr o (.tmp s)⟩
def LI.gu(d g:Nat)(b:Bool)(s:Nat):LI:=⟨some d,some (g,b),.un .not (.tmp s)⟩
def LI.gc(d g:Nat)(b:Bool)(f s:Nat):LI:=⟨some d,some (g,b),.call f [.tmp s]⟩
def eC_(P:Program)(t:TypeId):Option (Option Nat) :=
 match P.underlying t with
 | some (.struct _)|some (.array _ _)=>(P.info? t).map fun i=>some i.size
 | some _=>some none
 | none=>none
def cB_(P:Program)(f:FuncId):Bool :=
 match P.funcs[f]? with
 | some fn=>fn.body.isSome&&!(fn.name == "runtime.NumGoroutine")
 | none=>false
def oW_(P:Program)(f:FuncId):Bool :=
 match P.funcs[f]? with
 | some fn =>
  fn.body.isNone&&!(fn.name == "runtime.NumGoroutine")&&fn.origin == "slices.overlaps" &&
  (Extern.allGenericRows.lookup fn.name).isNone&&(Extern.allTypedRows.lookup fn.name).isNone&&(Extern.allRows.lookup fn.name).isNone&&(Extern.allNextRows.lookup fn.name).isNone &&
  (match fn.params.toList with
    | [t,u]=>t==u&&(match P.underlying t with|some (.slice e)=>(P.info? e).isSome|_=>false)
    | _=>false)
 | none=>false
def qd_(P:Program)(e:TypeId):Bool :=
 match P.underlying e with
 | some (.int .u8)=>true
 | _=>false
theorem n9_{P:Program}{e:TypeId}(h:qd_ P e=true):P.underlying e=some (.int .u8):=by
 unfold qd_ at h
 split at h
 ·assumption
 ·simp at h
def di_(P:Program)(c:Call):Option LOp :=
 match c.callee with
 | .value (.func f)=>if cB_ P f then some (.call f c.args.toList)else
  match c.args.toList with
  | [x,y]=>if oW_ P f then some (.ovl x y)else none
  | _=>none
 | .value x=>some (.callv x c.args.toList)
 | .builtin .len =>
  match c.args.toList,c.argTypes.toList with
  | [x],[t] =>
   match P.underlying t with
   | some .string=>some (.lenStr x)
   | some (.slice _)=>some (.lenSl x)
   | _=>none
  | _,_=>none
 | .builtin .append =>
  match c.args.toList,c.argTypes.toList with
  | [x,y],[t,u] =>
   if t=u then
    match P.underlying t with
    | some (.slice e) =>
     match P.info? e with
     | some i=>match i.zero with
      | some z=>if i.size=z.cells.size∧0<i.size then some (.append e i.size i.bytes x y)else none
      | none=>none
     | none=>none
    | _=>none
   else
    match P.underlying t,P.underlying u with
    | some (.slice e),some (.int _) =>
     match P.info? e with
     | some i=>match i.zero with
      | some z=>if i.size=z.cells.size∧0<i.size then some (.appendZ e i.size i.bytes z x y)else none
      | none=>none
     | none=>none
    | some (.slice e),some .string =>
     match P.info? e with
     | some i=>match i.zero with
      | some z=>if qd_ P e&&i.size==1&&z.cells.size==1&&i.bytes==1 then some (.appendS e x y)else none
      | none=>none
     | none=>none
    | _,_=>none
  | _,_=>none
 | .builtin .clear =>
  match c.args.toList,c.argTypes.toList with
  | [x],[t] =>
   match P.underlying t with
   | some (.slice e) =>
    match P.info? e with
    | some i=>match i.zero with
     | some z=>if i.size=z.cells.size∧0<i.size∧z.cells.all Value.oneCell' then some (.clear e i.size z x)else none
     | none=>none
    | none=>none
   | _=>none
  | _,_=>none
 | .builtin .cap =>
  match c.args.toList,c.argTypes.toList with
  | [x],[t] =>
   match P.underlying t with
   | some (.slice _)=>some (.capSl x)
   | _=>none
  | _,_=>none
 | .builtin .copy =>
  match c.args.toList,c.argTypes.toList with
  | [x,y],[t,u] =>
   if t=u then
    match P.underlying t with
    | some (.slice e) =>
     match P.info? e with
     | some i=>some (.copySl i.size x y)
     | none=>none
    | _=>none
   else none
  | _,_=>none
 | .builtin .min =>
  match c.args.toList with
  | [x,y]=>some (.mm false x y)
  | _=>none
 | .builtin .max =>
  match c.args.toList with
  | [x,y]=>some (.mm true x y)
  | _=>none
 | _=>none
def py_:Option Operand→Bool
 | some (.const (.int _ n))=>n==0
 | _=>false
def mE_(P:Program)(op:BinOp)(t:TypeId)(y:Operand):Option Bool :=
 match op,y,P.underlying t with
 | .eql,.const (.slice none 0 0),some (.slice _)=>some false
 | .neq,.const (.slice none 0 0),some (.slice _)=>some true
 | _,_,_=>none
def xb_(P:Program)(op:BinOp)(t:TypeId)(y:Operand):Option Bool :=
 match op,y,P.underlying t with
 | .eql,.const (.pointer none),some (.pointer _)=>some false
 | .neq,.const (.pointer none),some (.pointer _)=>some true
 | _,_,_=>none
theorem qM_{P:Program}{op:BinOp}{t:TypeId}{y:Operand}{neg:Bool}(h:mE_ P op t y=some neg):y=.const (.slice none 0 0)∧(∃e,P.underlying t=some (.slice e))∧((op=.eql∧neg=false)∨(op=.neq∧neg=true)):=by
 unfold mE_ at h
 split at h
 ·rename_i h1
  simp only[Option.some.injEq]at h;subst h
  exact⟨rfl,⟨_,h1⟩,.inl ⟨rfl,rfl⟩⟩
 ·rename_i h1
  simp only[Option.some.injEq]at h;subst h
  exact⟨rfl,⟨_,h1⟩,.inr ⟨rfl,rfl⟩⟩
 ·simp at h
def n3_(P:Program)(f:Field):Option Nat :=
 if f.name = "_" then none else
 match P.underlying f.type with
 | some (.int _)=>some 0
 | some .string=>some 1
 | some .bool=>some 2
 | _=>none
def e3_(P:Program):List Field→Nat→Option (List Nat)
 | [],_=>some []
 | f::fs,i =>
  if f.offset=i then
   match n3_ P f,e3_ P fs (i+1)with
   | some k,some ks=>some (k::ks)
   | _,_=>none
  else none
def kc_(P:Program)(op:BinOp)(t:TypeId):Option (Bool×List Nat) :=
 match P.underlying t with
 | some (.struct fs) =>
  if P.stoodInHeld t||P.eqGuardType P.depth t then none else
  match e3_ P fs.toList 0,op with
  | some ks,.eql=>some (false,ks)
  | some ks,.neq=>some (true,ks)
  | _,_=>none
 | _=>none
def aw_(P:Program):Op→Option LOp
 | .move x|.assign x=>some (.mov x)
 | .pick c a b=>some (.pick c a b)
 | .alloc E=>(P.info? E).bind fun i=>i.zero.map fun z=>.alloc E z
 | .box E x=>some (.box E x)
 | .load t a=>(eC_ P t).map fun n=>.load n a
 | .store t a x=>(P.info? t).map fun i=>.store i.size a x
 | .fieldAddr s x f =>
  match P.underlying s with
  | some (.struct fs) =>
   match fs[f]? with
   | some fl=>(P.info? fl.type).bind fun i=>if i.size=0 then none else some (.fieldAddr fl.offset x)
   | none=>none
  | _=>none
 | .field s x f =>
  match P.underlying s with
  | some (.struct fs) =>
   match fs[f]? with
   | some fl=>(eC_ P fl.type).map fun n=>.field fl.offset n x
   | none=>none
  | _=>none
 | .indexAddr t x i =>
  match P.underlying t with
  | some (.slice e)=>(P.info? e).map fun j=>.indexAddr j.size x i
  | _=>none
 | .index t x i =>
  match P.underlying t with
  | some .string=>some (.indexStr x i)
  | _=>none
 | .binOp op t x y _ =>
  match mE_ P op t y with
  | some neg=>some (.isNil neg x)
  | none =>
   match xb_ P op t y with
   | some neg=>some (.isNilP neg x)
   | none =>
    match kc_ P op t with
    | some (neg,ks)=>some (.eqSt neg ks x y)
    | none=>some (.bin op (match P.underlying t with|some .bool=>true|_=>false) x y)
 | .unOp op _ x=>some (.un op x)
 | .extract x i=>some (.extract x i)
 | .makeFunc (.func f) first caps=>some (.mkFunc f first.toList caps.toList)
 | .nilCheck x=>some (.nilCheck x)
 | .convert src dst x =>
  match P.underlying src,P.underlying dst with
  | some _,some (.int k)=>some (.convInt k x)
  | some (.slice e),some .string=>if qd_ P e then some (.toStr x)else none
  | some .string,some (.slice e)=>if qd_ P e then some (.toBytes e x)else none
  | _,_=>none
 | .slice t x lo hi none =>
  match P.underlying t with
  | some .string=>some (.sliceStr x lo hi)
  | some (.slice e)=>(P.info? e).map fun j=>.sliceSl j.size x lo hi
  | _=>none
 | .slice t x none hi (some mx) =>
  match P.underlying t with
  | some (.slice e)=>if py_ hi&&py_ (some mx)then(P.info? e).map fun j=>.clip0 e j.size x else none
  | _=>none
 | .slice t x (some lo) (some hi) (some mx) =>
  match P.underlying t with
  | some (.slice e)=>(P.info? e).map fun _=>.slice3 x lo hi mx
  | _=>none
 | .makeMap t none =>
  match P.underlying t with
  | some (.map k _)=>match P.underlying k with
   | some (.int .i64)=>some .mkMap
   | _=>none
  | _=>none
 | .lookup t m k ok =>
  match P.underlying t with
  | some (.map kt e)=>match P.underlying kt with
   | some (.int .i64)=>(P.info? e).bind fun i=>i.zero.bind fun z=>if z.oneCell' then some (.lookup z ok m k)else none
   | _=>none
  | _=>none
 | .mapUpdate t m k v =>
  match P.underlying t with
  | some (.map kt _)=>match P.underlying kt with
   | some (.int .i64)=>some (.mapUpd m k v)
   | _=>none
  | _=>none
 | .makeSlice t l c =>
  match P.underlying t with
  | some (.slice e)=>(P.info? e).bind fun i=>i.zero.bind fun z=>if i.size=z.cells.size∧0<i.size then some (.mkSlice e i.size i.bytes z l c)else none
  | _=>none
 | .buildSlice t len parts =>
  match P.underlying t with
  | some (.slice e)=>(P.info? e).bind fun i=>i.zero.bind fun z=>if i.size=z.cells.size∧0<i.size∧len * i.size≤65536 then some (.buildSlice e i.size z len parts.toList)else none
  | _=>none
 | .build t parts =>
  match P.underlying t with
  | some (.struct fs) =>
   match fs.toList.mapM fun f=>(P.info? f.type).map fun i=>(f.offset,i.size)with
   | some pl=>(P.info? t).bind fun i=>i.zero.map fun z=>.build z pl parts.toList
   | none=>none
  | _=>none
 | .call c=>di_ P c
 | _=>none
def cj_(P:Program):Op→Option XOp
 | .makeMap t none =>
  match P.underlying t with
  | some (.map k e) =>
   match P.underlying k,P.underlying e with
   | some (.int .i64),some (.pointer _)=>some .mkP
   | some .string,_=>some .mkS
   | _,_=>none
  | _=>none
 | .lookup t m k ok =>
  match P.underlying t with
  | some (.map kt e) =>
   match P.underlying kt,P.underlying e with
   | some (.int .i64),some (.pointer _) =>
    match(P.info? e).bind fun i=>i.zero with
    | some (.pointer none)=>some (.lookP ok m k)
    | _=>none
   | some .string,_=>(P.info? e).bind fun i=>i.zero.bind fun z=>if z.oneCell' then some (.lookS z ok m k)else none
   | _,_=>none
  | _=>none
 | .mapUpdate t m k v =>
  match P.underlying t with
  | some (.map kt e) =>
   match P.underlying kt,P.underlying e with
   | some (.int .i64),some (.pointer _)=>some (.updP m k v)
   | some .string,_=>some (.updS m k v)
   | _,_=>none
  | _=>none
 | .range t x =>
  match P.underlying t with
  | some (.map _ _)=>some (.rng x)
  | _=>none
 | .next x false=>some (.nxt x)
 | .entry x=>some (.ent x)
 | .call c =>
  match c.callee with
  | .builtin .len =>
   match c.args.toList,c.argTypes.toList with
   | [x],[t] =>
    match P.underlying t with
    | some (.map _ _)=>some (.lenM x)
    | _=>none
   | _,_=>none
  | .builtin .delete =>
   match c.args.toList,c.argTypes.toList with
   | [m,k],t::_ =>
    match P.underlying t with
    | some (.map kt _) =>
     match P.underlying kt with
     | some (.int .i64)=>some (.delP m k)
     | _=>none
    | _=>none
   | _,_=>none
  | _=>none
 | _=>none
def ex_(P:Program)(op:Op):Option LOp :=
 match cj_ P op with
 | some e=>some (.ext e)
 | none=>aw_ P op
def XOp.operands:XOp→List Operand
 | .mkP|.mkS=>[]
 | .lookP _ m k|.lookS _ _ m k|.delP m k=>[m,k]
 | .updP m k v|.updS m k v=>[m,k,v]
 | .lenM x|.rng x|.nxt x|.ent x=>[x]
def LOp.operands:LOp→List Operand
 | .mov x|.box _ x|.load _ x|.fieldAddr _ x|.field _ _ x|.un _ x|.lenStr x|.lenSl x|.extract x _|.nilCheck x|.convInt _ x|.toStr x|.toBytes _ x=>[x]
 | .clip0 _ _ x|.clear _ _ _ x=>[x]
 | .mkMap=>[]
 | .lookup _ _ m k=>[m,k]
 | .mapUpd m k v=>[m,k,v]
 | .pick c a b=>[c,a,b]
 | .alloc _ _=>[]
 | .store _ a x|.indexAddr _ a x|.indexStr a x|.bin _ _ a x|.append _ _ _ a x=>[a,x]
 | .mkFunc _ a b=>a++b
 | .sliceStr x lo hi|.sliceSl _ x lo hi=>x::(lo.toList++hi.toList)
 | .mkSlice _ _ _ _ l c=>[l,c]
 | .buildSlice _ _ _ _ ps=>ps.map (·.2)
 | .buildImm _ _ _ _ ps=>ps.map (·.2)
 | .build _ _ ps=>ps.map (·.2)
 | .call _ as=>as
 | .callv f as=>f::as
 | .isNil _ x=>[x]
 | .slice3 x lo hi mx=>[x,lo,hi,mx]
 | .capSl x=>[x]
 | .copySl _ x y=>[x,y]
 | .ovl x y=>[x,y]
 | .isNilP _ x=>[x]
 | .eqSt _ _ x y=>[x,y]
 | .appendZ _ _ _ _ x k=>[x,k]
 | .appendS _ x y=>[x,y]
 | .mm _ x y=>[x,y]
 | .ext e=>e.operands
def AV.cell:AV→Bool
 | .val v=>v.oneCell'
 | .agg _|.tup _|.undef=>false
 | _=>true
def cs_:Option Nat→List AV→Option AV
 | none,c::_=>some c
 | none,[]=>none
 | some n,cs=>if n≤cs.length then some (.agg (cs.take n))else none
def cellsOf:AV→Option (List AV)
 | .agg cs=>if cs.all AV.cell then some cs else none
 | a=>if a.cell then some [a]else none
def lM_:AV→Option Nat
 | .val (.int _ n)=>if 0≤n then some n.toNat else none
 | _=>none
def b0_(t:Nat→AV)(x:Option Operand)(d:Nat):Option Nat :=
 match x with
 | some x=>lM_ (ah_ t x)
 | none=>some d
def ey_(s:Sem Value):Option AV :=
 match s with
 | .pure v=>some (.val v)
 | _=>none
def bd_(op:BinOp)(isBool:Bool):AV→AV→Option AV
 | .val (.int k a),.val (.int k' b)=>ey_ (binOp op 0 (.int k a) (.int k' b))
 | .val (.string a),.val (.string b)=>ey_ (binOp op 0 (.string a) (.string b))
 | .val (.bool a),.val (.bool b) =>
  if isBool then
   match op with
   | .eql=>some (.val (.bool (a==b)))
   | .neq=>some (.val (.bool (!(a==b))))
   | _=>none
  else none
 | _,_=>none
def hC_:Nat→AV→AV→Option Bool
 | 0,.val (.int k a),.val (.int k' b)=>if k=k' then some (a==b)else none
 | 1,.val (.string a),.val (.string b)=>some (a.toList==b.toList)
 | 2,.val (.bool a),.val (.bool b)=>some (a==b)
 | _,_,_=>none
def ea_:List Nat→List AV→List AV→Option Bool
 | [],_,_=>some true
 | k::ks,a::as,b::bs =>
  match hC_ k a b,ea_ ks as bs with
  | some p,some q=>some (p&&q)
  | _,_=>none
 | _,_,_=>none
def co_(places:List (Nat×Nat)):List AV→List (Nat×AV)→Option (List AV)
 | cs,[]=>some cs
 | cs,(i,v)::rest =>
  match places[i]?,cellsOf v with
  | some (off,size),some ps=>if ps.length=size∧off+size≤cs.length then co_ places (cs.take off++ps++cs.drop (off+size)) rest else none
  | _,_=>none
def dy_(h:List Row)(sz:Nat):AV→Option (List (List AV))
 | .list _ s es=>if s=sz then some es else none
 | .own l n =>
  match h[l]? with
  | some r=>if r.sz=sz∧r.es.length=n then some r.es else none
  | none=>none
 | .sub l n lo hi =>
  match h[l]? with
  | some r=>if r.sz=sz∧r.es.length=n then some ((r.es.take hi).drop lo)else none
  | none=>none
 | _=>none
def ew_:List (Int×Value)→Int→Value→List (Int×Value)
 | [],n,v=>[(n,v)]
 | (k,u)::r,n,v=>if k=n then(n,v)::r else(k,u)::ew_ r n v
def fj_:List AV→Option UInt8
 | [.val (.int .u8 n)]=>if((UInt8.ofNat n.toNat).toNat:Int)=n then some (UInt8.ofNat n.toNat)else none
 | _=>none
def aY_(l:List UInt8):List (List AV):=l.map fun b=>[.val (.int .u8 b.toNat)]
def cv_(t:Nat→AV)(parts:List (Nat×Operand)):Option (List (List AV)):=parts.mapM fun p=>cellsOf (ah_ t p.2)
def gi_(t:Nat→AV)(parts:List (Nat×Operand)):List (Nat×AV):=parts.map fun p=>(p.1,ah_ t p.2)
theorem oI_(t:Nat→AV):cv_ t []=some []:=rfl
theorem ns_(t:Nat→AV)(i:Nat)(x:Operand)(ps:List (Nat×Operand)):cv_ t ((i,x)::ps)=(cellsOf (ah_ t x)).bind fun c=>(cv_ t ps).map (c::·):=by
 unfold cv_
 rw[mapM_cons]
 cases cellsOf (ah_ t x)<;>cases(ps.mapM fun p=>cellsOf (ah_ t p.2))<;>rfl
theorem o6_(t:Nat→AV):gi_ t []=[]:=rfl
theorem oy_(t:Nat→AV)(i:Nat)(x:Operand)(ps:List (Nat×Operand)):gi_ t ((i,x)::ps)=(i,ah_ t x)::gi_ t ps:=rfl
def cP_(ents:List (Int×Nat×AV))(n:Int):Option AV:=(ents.find? fun e=>e.1==n).map (·.2.2)
def gQ_:List (Int×Nat×AV)→Nat→Int→AV→List (Int×Nat×AV)
 | [],c,n,v=>[(n,c,v)]
 | e::r,c,n,v=>if e.1=n then(n,e.2.1,v)::r else e::gQ_ r c n v
def hK_(ents:List (Int×Nat×AV))(c:Nat)(n:Int):Nat:=if(cP_ ents n).isSome then c else c+1
def nA_:List (Int×Nat×AV)→Int→List (Int×Nat×AV)
 | [],_=>[]
 | e::r,n=>if e.1=n then r else e::nA_ r n
def cY_(t:Nat→AV)(h:List Row):XOp→Option AV
 | .lookP ok m k =>
  match ah_ t m,ah_ t k with
  | .mp l,.val (.int .i64 n) =>
   match h[l]? with
   | some r =>
    match r.E with
    | .pmap ents _=>some (if ok then .tup [(cP_ ents n).getD (.val (.pointer none)),.val (.bool (cP_ ents n).isSome)]else(cP_ ents n).getD (.val (.pointer none)))
    | _=>none
   | none=>none
  | _,_=>none
 | .lookS z ok m k =>
  match ah_ t m,ah_ t k with
  | .mp l,.val (.string s) =>
   match h[l]? with
   | some r =>
    match r.E with
    | .smap ents=>none
    | _=>none
   | none=>none
  | _,_=>none
 | .lenM x =>
  match ah_ t x with
  | .mp l =>
   match h[l]? with
   | some r =>
    match r.E with
    | .map ents=>some (.val (.int .i64 ents.length))
    | _=>none
   | none=>none
  | _=>none
 | .ent x =>
  match ah_ t x with
  | .ptr l n i o =>
   match h[l]? with
   | some r =>
    match r.E with
    | .iter m _ seen clk =>
     match h[m]? with
     | some rm =>
      match rm.E,seen.getLast? with
      | .pmap ents clock,some s=>if n=0∧i=0∧o=0∧clk=clock then(ents.find? fun e=>e.2.1==s).map fun e=>.tup [.val (.int .i64 e.1),e.2.2]else none
      | _,_=>none
     | none=>none
    | _=>none
   | none=>none
  | _=>none
 | _=>none
def ai_(t:Nat→AV)(h:List Row):LOp→Option AV
 | .mov x=>some (ah_ t x)
 | .pick c a b =>
  match ah_ t c with
  | .val (.bool q)=>some (if q then ah_ t a else ah_ t b)
  | _=>none
 | .load n a =>
  match ah_ t a with
  | .iptr cs=>cs_ n cs
  | .ptr l k i off =>
   match h[l]? with
   | some r=>if r.es.length=k then(match r.es[i]? with|some e=>cs_ n (e.drop off)|none=>none)else none
   | none=>none
  | _=>none
 | .fieldAddr off x =>
  match ah_ t x with
  | .iptr cs=>if off≤cs.length then some (.iptr (cs.drop off))else none
  | .ptr l k i o =>
   match h[l]? with
   | some r=>if r.es.length=k then some (.ptr l k i (o+off))else none
   | none=>none
  | _=>none
 | .field off n x =>
  match ah_ t x with
  | .agg cs=>cs_ n (cs.drop off)
  | _=>none
 | .indexAddr sz x i =>
  match ah_ t x,ah_ t i with
  | .list _ s es,.val (.int _ j)=>if s=sz∧0≤j then(match es[j.toNat]? with|some e=>some (.iptr e)|none=>none)else none
  | .own l n,.val (.int _ j) =>
   match h[l]? with
   | some r=>if r.sz=sz∧r.es.length=n∧0≤j∧j<n then some (.ptr l n j.toNat 0)else none
   | none=>none
  | .sub l n lo hi,.val (.int _ j) =>
   match h[l]? with
   | some r=>if r.sz=sz∧r.es.length=n∧0≤j∧lo+j<hi then some (.ptr l n (lo+j.toNat) 0)else none
   | none=>none
  | _,_=>none
 | .indexStr x i =>
  match ah_ t x,ah_ t i with
  | .val (.string s),.val (.int _ j)=>if 0≤j then(match s[j.toNat]? with|some b=>some (.val (.int .u8 b.toNat))|none=>none)else none
  | _,_=>none
 | .bin op q x y=>bd_ op q (ah_ t x) (ah_ t y)
 | .mm mx x y =>
  match ah_ t x,ah_ t y with
  | .val (.int .i64 p),.val (.int .i64 q)=>none
  | _,_=>none
 | .eqSt neg ks x y =>
  match ah_ t x,ah_ t y with
  | .agg as,.agg bs=>(ea_ ks as bs).map fun r=>.val (.bool (if neg then !r else r))
  | _,_=>none
 | .un op x =>
  match ah_ t x with
  | .val v=>ey_ (Op.unary op v)
  | _=>none
 | .lenStr x =>
  match ah_ t x with
  | .val (.string s)=>some (.val (.int .i64 s.size))
  | _=>none
 | .lenSl x =>
  match ah_ t x with
  | .list _ _ es=>some (.val (.int .i64 es.length))
  | .own l n =>
   match h[l]? with
   | some r=>if r.es.length=n then some (.val (.int .i64 n))else none
   | none=>none
  | .sub l n lo hi =>
   match h[l]? with
   | some r=>if r.es.length=n∧lo≤hi then some (.val (.int .i64 ((hi-lo:Nat):Int)))else none
   | none=>none
  | .val (.slice _ n _)=>some (.val (.int .i64 n))
  | _=>none
 | .extract x i =>
  match ah_ t x with
  | .tup cs=>cs[i]?
  | _=>none
 | .mkFunc f first caps=>some (.fn f (first.map (ah_ t)) (caps.map (ah_ t)))
 | .nilCheck x =>
  match ah_ t x with
  | .iptr cs=>some (.iptr cs)
  | .ptr l k i o =>
   match h[l]? with
   | some r=>if r.es.length=k then some (.ptr l k i o)else none
   | none=>none
  | .fn f a b=>some (.fn f a b)
  | _=>none
 | .isNilP neg x=>none
 | .convInt k x =>
  match ah_ t x with
  | .val (.int _ n)=>some (.val (.int k (k.wrap n)))
  | _=>none
 | .toStr x =>
  match dy_ h 1 (ah_ t x)with
  | some es=>(es.mapM fj_).map fun bs=>.val (.string ⟨bs.toArray⟩)
  | none=>none
 | .sliceStr x lo hi =>
  match ah_ t x with
  | .val (.string s) =>
   match b0_ t lo 0,b0_ t hi s.size with
   | some l,some u=>if l≤u∧u≤s.size then some (.val (.string (s.extract l u)))else none
   | _,_=>none
  | _=>none
 | .build z pl parts=>(co_ pl (z.cells.toList.map .val) (gi_ t parts)).map .agg
 | .sliceSl sz x lo hi =>
  match ah_ t x with
  | .list _ s es =>
   match b0_ t lo 0,b0_ t hi es.length with
   | some l,some u=>if s=sz∧l≤u∧u≤es.length then some (.list 0 s ((es.take u).drop l))else none
   | _,_=>none
  | .own k n =>
   match h[k]? with
   | some r =>
    match b0_ t lo 0,b0_ t hi n with
    | some l,some u=>if r.sz=sz∧r.es.length=n∧l≤u∧u≤n then some (.sub k n l u)else none
    | _,_=>none
   | none=>none
  | .sub k n a b =>
   match h[k]? with
   | some r =>
    match b0_ t lo 0,b0_ t hi (b-a)with
    | some l,some u=>if r.sz=sz∧r.es.length=n∧l≤u∧a+u≤n then some (.sub k n (a+l) (a+u))else none
    | _,_=>none
   | none=>none
  | _=>none
 | .lookup z ok m k =>
  match ah_ t m,ah_ t k with
  | .mp l,.val (.int .i64 n) =>
   match h[l]? with
   | some r =>
    match r.E with
    | .map ents=>some (if ok then .tup [.val ((ents.lookup n).getD z),.val (.bool (ents.lookup n).isSome)]else .val ((ents.lookup n).getD z))
    | _=>none
   | none=>none
  | _,_=>none
 | .ext e=>cY_ t h e
 | _=>none
def LOp.asImm:LOp→LOp
 | .buildSlice E sz z len ps=>.buildImm E sz z len ps
 | op=>op
structure ToB(K:AV→List Row→Prop)(E:TypeId)(s:ByteArray)(h:List Row):Prop where
 out:K (.list 0 1 (aY_ s.data.toList)) h∨(s.size≤140737488355328∧K (.own h.length s.size) (h++[⟨.byt E,1,aY_ s.data.toList⟩]))
theorem ToB.list{K:AV→List Row→Prop}{E:TypeId}{s:ByteArray}{h:List Row}(q:K (.list 0 1 (aY_ s.data.toList)) h):ToB K E s h:=⟨.inl q⟩
theorem ToB.own{K:AV→List Row→Prop}{E:TypeId}{s:ByteArray}{h:List Row}(hs:s.size≤140737488355328)(q:K (.own h.length s.size) (h++[⟨.byt E,1,aY_ s.data.toList⟩])):ToB K E s h:=⟨.inr ⟨hs,q⟩⟩
def xWp(t:Nat→AV)(h:List Row)(K:AV→List Row→Prop):XOp→Prop
 | .mkP=>K (.mp h.length) (h++[⟨.pmap [] 0,0,[]⟩])
 | .mkS=>False
 | .updP m k v =>
  match ah_ t m,ah_ t k with
  | .mp l,.val (.int .i64 n) =>
   match h[l]? with
   | some r =>
    match r.E with
    | .pmap ents clock=>K (.val Go.undef) (h.set l ⟨.pmap (gQ_ ents clock n (ah_ t v)) (hK_ ents clock n),0,[]⟩)
    | _=>False
   | none=>False
  | _,_=>False
 | .updS m k v =>
  match ah_ t m,ah_ t k,ah_ t v with
  | .mp l,.val (.string s),.val u =>
   match h[l]? with
   | some r =>
    match r.E with
    | .smap ents=>False
    | _=>False
   | none=>False
  | _,_,_=>False
 | .delP m k =>
  match ah_ t m,ah_ t k with
  | .mp l,.val (.int .i64 n) =>
   match h[l]? with
   | some r =>
    match r.E with
    | .pmap ents clock=>False
    | _=>False
   | none=>False
  | _,_=>False
 | .rng x =>
  match ah_ t x with
  | .mp l =>
   match h[l]? with
   | some r =>
    match r.E with
    | .pmap _ clock=>K (.ptr h.length 0 0 0) (h++[⟨.iter l clock [] clock,0,[]⟩])
    | _=>False
   | none=>False
  | _=>False
 | .nxt x =>
  match ah_ t x with
  | .ptr l n i o =>
   match h[l]? with
   | some r =>
    match r.E with
    | .iter m since seen clk =>
     match h[m]? with
     | some rm =>
      match rm.E with
      | .pmap ents clock=>(n=0∧i=0∧o=0)∧(∀e∈ents,e.2.1<since)∧since≤clk∧((∀e∈ents,e.2.1∈seen)→K (.tup [.val (.bool false)]) h) ∧
       ∀e∈ents,e.2.1∉seen→K (.tup [.val (.bool true),.val (.int .i64 e.1),e.2.2]) (h.set l ⟨.iter m since (seen++[e.2.1]) clock,0,[]⟩)
      | _=>False
     | none=>False
    | _=>False
   | none=>False
  | _=>False
 | e =>
  match cY_ t h e with
  | some v=>K v h
  | none=>False
def aX_(P:Program)(t:Nat→AV)(h:List Row)(K:AV→List Row→Prop):LOp→Prop
 | .alloc E z=>K (.ptr h.length 1 0 0) (h++[⟨E,z.cells.size,[z.cells.toList.map .val]⟩])
 | .box E x =>
  match cellsOf (ah_ t x)with
  | some cs=>K (.ptr h.length 1 0 0) (h++[⟨E,cs.length,[cs]⟩])
  | none=>False
 | .store n a x =>
  match ah_ t a,cellsOf (ah_ t x)with
  | .ptr l k i off,some cs =>
   match h[l]? with
   | some r =>
    match r.es[i]? with
    | some e=>r.es.length=k∧cs.length=n∧off+n≤e.length∧K .undef (h.set l { r with es:=r.es.set i (e.take off++cs++e.drop (off+n)) })
    | none=>False
   | none=>False
  | _,_=>False
 | .mkSlice E sz bytes z l c =>
  match ah_ t l,ah_ t c with
  | .val (.int _ n),.val (.int _ m)=>n=m∧0≤n∧n * bytes≤140737488355328∧n≤9223372036854775807 ∧
   K (.own h.length n.toNat) (h++[⟨E,sz,List.replicate n.toNat (z.cells.toList.map .val)⟩])
  | _,_=>False
 | .buildSlice E sz _ len parts =>
  parts.map (·.1)=List.range len ∧
   match cv_ t parts with
   | some es=>(∀e∈es,e.length=sz)∧K (.own h.length len) (h++[⟨E,sz,es⟩])
   | none=>False
 | .buildImm _ sz _ len parts =>
  parts.map (·.1)=List.range len ∧
   match cv_ t parts with
   | some es=>(∀e∈es,e.length=sz)∧(∀e∈es,e.all AV.flat=true)∧K (.list 0 sz es) h
   | none=>False
 | .append E sz bytes x y =>
  match ah_ t x,dy_ h sz (ah_ t y)with
  | .own l n,some es =>
   match h[l]? with
   | some r=>r.es.length=n∧r.E=.ty E∧r.sz=sz∧(n+es.length) * bytes≤140737488355328∧n+es.length≤9223372036854775807 ∧
    (∀e∈es,e.all AV.cell=true)∧K (.own l (n+es.length)) (h.set l { r with es:=r.es++es })
   | none=>False
  | .sub l n lo m,some es =>
   match h[l]? with
   | some r =>
    if lo≠0 then r.es.length=n∧r.sz=sz∧lo≤m∧m≤n∧0<es.length∧(m+es.length) * bytes≤140737488355328∧m+es.length≤9223372036854775807∧(∀e∈es,e.all AV.cell=true) ∧
     (if r.E.isFull then r.E=.full E∧n<m+es.length∧K (.own h.length (m-lo+es.length)) (h++[⟨.ty E,sz,(r.es.take m).drop lo++es⟩])
      else r.E=.ty E∧m+es.length≤n∧K (.sub l n lo (m+es.length)) (h.set l { r with es:=r.es.take m++es++r.es.drop (m+es.length) }))
    else if r.E.isFull then lo=0∧r.es.length=n∧r.E=.full E∧r.sz=sz∧m≤n∧n<m+es.length∧(m+es.length) * bytes≤140737488355328∧m+es.length≤9223372036854775807 ∧
     (∀e∈es,e.all AV.cell=true)∧K (.own h.length (m+es.length)) (h++[⟨.ty E,sz,r.es.take m++es⟩])
    else lo=0∧r.es.length=n∧r.E=.ty E∧r.sz=sz∧m≤n∧(m+es.length) * bytes≤140737488355328∧m+es.length≤9223372036854775807∧(∀e∈es,e.all AV.cell=true) ∧
     (if m+es.length≤n then K (.sub l n 0 (m+es.length)) (h.set l { r with es:=r.es.take m++es++r.es.drop (m+es.length) })
      else K (.own l (m+es.length)) (h.set l { r with es:=r.es.take m++es }))
   | none=>False
  | .val (.slice none 0 0),some es=>0<es.length∧es.length * bytes≤140737488355328∧es.length≤9223372036854775807∧K (.own h.length es.length) (h++[⟨E,sz,es⟩])
  | _,_=>False
 | .appendZ E sz bytes z x k =>
  match ah_ t x,ah_ t k with
  | .sub l n lo m,.val (.int _ q) =>
   match h[l]? with
   | some r=>if lo≠0 then r.es.length=n∧r.E=.full E∧r.sz=sz∧lo≤m∧m≤n∧0≤q∧n<m+q.toNat∧(m+q.toNat) * bytes≤140737488355328∧m+q.toNat≤9223372036854775807 ∧
    K (.own h.length (m-lo+q.toNat)) (h++[⟨.ty E,sz,(r.es.take m).drop lo++List.replicate q.toNat (z.cells.toList.map .val)⟩])
    else lo=0∧r.es.length=n∧r.E=.full E∧r.sz=sz∧m≤n∧0≤q∧n<m+q.toNat∧(m+q.toNat) * bytes≤140737488355328∧m+q.toNat≤9223372036854775807 ∧
     K (.own h.length (m+q.toNat)) (h++[⟨.ty E,sz,r.es.take m++List.replicate q.toNat (z.cells.toList.map .val)⟩])
   | none=>False
  | _,_=>False
 | .toBytes E x =>
  match ah_ t x with
  | .val (.string s)=>ToB K E s h
  | _=>False
 | .appendS E x y =>
  match ah_ t x,ah_ t y with
  | .own l n,.val (.string s) =>
   match h[l]? with
   | some r=>False
   | none=>False
  | _,_=>False
 | .clip0 E sz x =>
  match ah_ t x with
  | .list _ _ _|.own _ _|.sub _ _ _ _=>False
  | .val (.slice none 0 0)=>False
  | _=>False
 | .clear E sz z x =>
  match ah_ t x with
  | .own l n =>
   match h[l]? with
   | some r=>False
   | none=>False
  | .sub l n lo hi =>
   match h[l]? with
   | some r=>False
   | none=>False
  | _=>False
 | .mkMap=>K (.mp h.length) (h++[⟨.map [],0,[]⟩])
 | .mapUpd m k v =>
  match ah_ t m,ah_ t k,ah_ t v with
  | .mp l,.val (.int .i64 n),.val u =>
   match h[l]? with
   | some r =>
    match r.E with
    | .map ents=>u.oneCell'=true∧K (.val Go.undef) (h.set l ⟨.map (ew_ ents n u),0,[]⟩)
    | _=>False
   | none=>False
  | _,_,_=>False
 | .call f args=>callSem P f (args.map (ah_ t)) h K
 | .callv f args =>
  match ah_ t f with
  | .fn g first caps=>cB_ P g=true∧callSem P g (first++args.map (ah_ t)++caps) h K
  | _=>False
 | .isNil neg x =>
  match ah_ t x with
  | .list _ _ es=>∀b:Bool,(b=true→es=[])→K (.val (.bool (b != neg))) h
  | .own l n =>
   match h[l]? with
   | some r=>r.es.length=n∧∀b:Bool,(b=true→n=0)→K (.val (.bool (b != neg))) h
   | none=>False
  | .sub l n lo hi =>
   match h[l]? with
   | some r=>r.es.length=n∧∀b:Bool,(b=true→hi=lo)→K (.val (.bool (b != neg))) h
   | none=>False
  | .val (.slice none 0 0)=>K (.val (.bool (!neg))) h
  | _=>False
 | .slice3 x lo hi mx=>False
 | .capSl x =>
  match ah_ t x with
  | .own l n =>
   match h[l]? with
   | some r=>r.es.length=n∧0<r.sz∧∀c:Nat,n≤c→(r.E.isFull=true→c=n)→K (.val (.int .i64 c)) h
   | none=>False
  | .sub l n lo hi =>
   match h[l]? with
   | some r=>r.es.length=n∧0<r.sz∧∀c:Nat,n-lo≤c→(r.E.isFull=true→c=n-lo)→K (.val (.int .i64 c)) h
   | none=>False
  | _=>False
 | .copySl sz x y =>
  match ah_ t x,dy_ h sz (ah_ t y)with
  | .sub l n lo hi,some es =>
   match h[l]? with
   | some r=>lo≤hi∧hi≤n∧r.es.length=n∧r.sz=sz∧0<sz∧(∀e∈es.take (hi-lo),e.all AV.cell=true) ∧
    K (.val (.int .i64 (Nat.min es.length (hi-lo)))) (h.set l { r with es:=r.es.take lo++es.take (hi-lo)++r.es.drop (lo+Nat.min es.length (hi-lo)) })
   | none=>False
  | _,_=>False
 | .ovl x y =>
  match ah_ t x,ah_ t y with
  | .own l n,.sub l' n' _ _ =>
   match h[l]?,h[l']? with
   | some r,some r'=>l≠l'∧r.es.length=n∧r'.es.length=n'∧0<r.sz∧0<r'.sz∧r.E.isByt=false∧r'.E.isByt=false∧K (.val (.bool false)) h
   | _,_=>False
  | _,_=>False
 | .ext e=>xWp t h K e
 | op =>
  match ai_ t h op with
  | some v=>K v h
  | none=>False
theorem ae_.length{S:Sit}:∀{cs:List AV} {vs:List Value},ae_ S cs vs→vs.length=cs.length
 | [],vs,h=>by simp[ae_]at h;simp[h]
 | c::cs,vs,h=>by
  simp only[ae_]at h
  obtain⟨v,r,e,_,h2⟩:=h
  subst e
  simp[ae_.length h2]
theorem ae_.get{S:Sit}:∀{cs:List AV} {vs:List Value} {j:Nat} {c:AV},ae_ S cs vs→cs[j]?=some c→∃v,vs[j]?=some v∧Rep S c v
 | [],vs,j,c,_,e=>by simp at e
 | d::cs,vs,0,c,h,e=>by
  simp only[ae_]at h
  obtain⟨v,r,q,h1,_⟩:=h
  subst q
  simp at e;subst e
  exact⟨v,rfl,h1⟩
 | d::cs,vs,j+1,c,h,e=>by
  simp only[ae_]at h
  obtain⟨v,r,q,_,h2⟩:=h
  subst q
  simp at e
  simpa using ae_.get h2 e
theorem an_.toL{S:Sit}:∀{cs:List AV} {vs:List Value},an_ S cs vs→ae_ S cs (vs.take cs.length)
 | [],vs,_=>by simp[ae_]
 | c::cs,vs,h=>by
  simp only[an_]at h
  obtain⟨v,r,q,h1,h2⟩:=h
  subst q
  simp only[ae_,List.length_cons,take_succ_cons]
  exact⟨v,_,rfl,h1,an_.toL h2⟩
theorem ae_.toPre{S:Sit}:∀{cs:List AV} {vs rest:List Value},ae_ S cs vs→an_ S cs (vs++rest)
 | [],vs,rest,_=>by simp[an_]
 | c::cs,vs,rest,h=>by
  simp only[ae_]at h
  obtain⟨v,r,q,h1,h2⟩:=h
  subst q
  simp only[an_,cons_append]
  exact⟨v,_,rfl,h1,ae_.toPre h2⟩
theorem an_.drop{S:Sit}:∀{k:Nat} {cs:List AV} {vs:List Value},an_ S cs vs→an_ S (cs.drop k) (vs.drop k)
 | 0,cs,vs,h=>by simpa using h
 | k+1,[],vs,h=>by simp[an_]
 | k+1,c::cs,vs,h=>by
  simp only[an_]at h
  obtain⟨v,r,q,_,h2⟩:=h
  subst q
  simpa using an_.drop (k:=k) h2
theorem an_.take{S:Sit}:∀{k:Nat} {cs:List AV} {vs:List Value},an_ S cs vs→an_ S (cs.take k) vs
 | 0,cs,vs,_=>by simp[an_]
 | k+1,[],vs,h=>by simp[an_]
 | k+1,c::cs,vs,h=>by
  simp only[an_,take_succ_cons]at h⊢
  obtain⟨v,r,q,h1,h2⟩:=h
  exact⟨v,r,q,h1,an_.take h2⟩
theorem an_.length{S:Sit}:∀{cs:List AV} {vs:List Value},an_ S cs vs→cs.length≤vs.length
 | [],vs,_=>by simp
 | c::cs,vs,h=>by
  simp only[an_]at h
  obtain⟨v,r,q,_,h2⟩:=h
  subst q
  simpa using an_.length h2
theorem aj_.get{S:Sit}{sz:Nat}:∀{es:List (List AV)} {vs:List Value} {i:Nat} {e:List AV},aj_ S es vs→(∀e∈es,e.length=sz)→es[i]?=some e →
 an_ S e (vs.drop (i * sz))
 | [],vs,i,e,_,_,q=>by simp at q
 | d::es,vs,0,e,h,_,q=>by
  simp at q;subst q
  simp only[aj_]at h
  simpa using h.1
 | d::es,vs,i+1,e,h,hl,q=>by
  simp only[aj_]at h
  simp at q
  have h2:=aj_.get h.2 (fun e he=>hl e (by simp[he])) q
  have hd:=hl d (by simp)
  rw[hd]at h2
  rw[drop_drop]at h2
  rw[show(i+1) * sz=sz+i * sz by rw[Nat.add_mul];omega]
  exact h2
theorem b1_(b off k:Nat):(⟨b,off,none⟩:Addr).add k=⟨b,off+k,none⟩:=by
 unfold Addr.add;split<;>simp_all
theorem Sit.still_le(S:Sit):S.still.le S:=⟨fun _ _ h=>h,by simp[Sit.still]⟩
theorem Rep.ofStill{S:Sit}{a:AV}{x:Value}(h:Rep S.still a x):Rep S a x :=
 Rep.up S.still_le _ _ h
theorem an_.ofStill{S:Sit}{a:List AV}{x:List Value}(h:an_ S.still a x):an_ S a x :=
 an_.up S.still_le _ _ h
def jX_:TypeDesc→Bool
 | .struct _|.array _ _=>true
 | _=>false
theorem h2_{P:Program}{t:TypeId}{d:TypeDesc}(h:P.underlying t=some d)(w:World) :
 (isAgg t).run P w=.ok (jX_ d) w:=by
 simp only[isAgg,Sem.run_bind,run_underlying h,Result.andThen_ok]
 cases d<;>rfl
theorem eh_{P:Program}{t:TypeId}{i:TypeInfo}(h:P.info? t=some i)(w:World):(typeInfo t).run P w=.ok i w:=by
 simp[typeInfo,program,Sem.run,h]
theorem b9_{P:Program}{t:TypeId}{i:TypeInfo}(h:P.info? t=some i)(w:World):(sizeOf t).run P w=.ok i.size w:=by
 simp[sizeOf,eh_ h]
theorem iq_{P:Program}{S:Sit}{w:World}{t:TypeId}{n:Option Nat}{b off:Nat}{c:Array Value}{E:TypeId}{fr:Nat×Nat}{cs:List AV}{av:AV}
 (ht:eC_ P t=some n) (hb:w.heap[b]?=some (.cells c E fr)) (hr:an_ S cs (c.toList.drop off)) (hl:cs_ n cs=some av) :
 ∃v,(loadVar t ⟨b,off,none⟩).run P w=.ok v w∧Rep S av v:=by
 unfold eC_ at ht
 cases hu:P.underlying t with
 | none=>simp[hu]at ht
 | some d =>
  have hone:n=none→(jX_ d)=false→∃v,(loadVar t ⟨b,off,none⟩).run P w=.ok v w∧Rep S av v:=by
   intro hn hd
   subst hn
   cases cs with
   | nil=>simp[cs_]at hl
   | cons c0 cs =>
    simp only[cs_,Option.some.injEq]at hl
    subst hl
    simp only[an_]at hr
    obtain⟨v,r,q,h1,_⟩:=hr
    refine⟨v,?_,h1⟩
    have hc:c[off]?=some v:=by
     have:(c.toList.drop off)[0]?=some v:=by rw[q];rfl
     simpa using this
    simp[loadVar,h2_ hu,hd,World.cell?,hb,hc]
  have hagg:∀k,n=some k→(P.info? t).map (fun i=>i.size)=some k→(jX_ d)=true→∃v,(loadVar t ⟨b,off,none⟩).run P w=.ok v w∧Rep S av v:=by
   intro k hn hk hd
   subst hn
   simp only[cs_]at hl
   split at hl
   ·rename_i hle
    simp only[Option.some.injEq]at hl
    subst hl
    cases hi:P.info? t with
    | none=>simp[hi]at hk
    | some i =>
     simp[hi]at hk
     subst hk
     have h2:=(an_.take (k:=i.size) hr).toL
     have hlen:(cs.take i.size).length=i.size:=by simp;omega
     rw[hlen]at h2
     have hcl:((c.toList.drop off).take i.size).length=i.size:=by rw[ae_.length h2,hlen]
     refine⟨.agg ((c.toList.drop off).take i.size).toArray,?_,?_⟩
     ·have hrun:=run_loadCells_list (P:=P) w ⟨b,off,none⟩ ((c.toList.drop off).take i.size) (by
       intro j v hj
       have hj':c[off+j]?=some v:=by
        rw[getElem?_take]at hj
        split at hj
        ·simpa using hj
        ·simp at hj
       rw[b1_]
       simp[World.cell?,hb,hj'])
      rw[hcl]at hrun
      simp[loadVar,h2_ hu,hd,b9_ hi,hrun]
     ·simp only[Rep]
      exact⟨_,rfl,by simpa using h2⟩
   ·simp at hl
  rw[hu]at ht
  cases d with
  | struct fs =>
   simp only at ht
   cases hi:P.info? t with
   | none=>simp[hi]at ht
   | some i=>simp[hi]at ht;exact hagg i.size ht.symm (by simp[hi]) rfl
  | array m e =>
   simp only at ht
   cases hi:P.info? t with
   | none=>simp[hi]at ht
   | some i=>simp[hi]at ht;exact hagg i.size ht.symm (by simp[hi]) rfl
  | _=>exact hone (by simpa using ht.symm) rfl
section
variable {P : Program} {S : Sit} {h : List Row} {w : World} {N : Nat} {t : Nat → AV} {a : Act} {o : Oper} {av : AV}
def ce_(P:Program)(S:Sit)(w:World)(a:Act)(o:Oper)(av:AV):Prop :=
 ∃v,(execOp a.eval o).run P w=.ok (.value v) w∧Rep S av v
theorem on_{x:Operand}(hop:o.op=.move x∨o.op=.assign x)(hr:Rel S N t a)(hx:ag_ N x=true):ce_ P S w a o (ah_ t x):=by
 refine⟨a.eval x,?_,hr.eval hx⟩
 rcases hop with e|e<;>simp[execOp,e]
theorem sg_{c x y:Operand}(hop:o.op=.pick c x y)(hr:Rel S N t a)(hc:ag_ N c=true)(hx:ag_ N x=true)(hy:ag_ N y=true)
 (hv:ai_ t h (.pick c x y)=some av):ce_ P S w a o av:=by
 have rc:=hr.eval hc
 simp only[ai_]at hv
 split at hv
 ·rename_i q e
  rw[e]at rc
  simp only[Rep]at rc
  simp only[Option.some.injEq]at hv
  subst hv
  cases q
  ·exact⟨a.eval y,by simp[execOp,hop,rc,asBool],by simpa using hr.eval hy⟩
  ·exact⟨a.eval x,by simp[execOp,hop,rc,asBool],by simpa using hr.eval hx⟩
 ·simp at hv
theorem mo_{ty:TypeId}{n:Option Nat}{x:Operand}(hop:o.op=.load ty x)(hn:eC_ P ty=some n)(hm:ab_ S h w)(hr:Rel S N t a)(hx:ag_ N x=true)
 (hv:ai_ t h (.load n x)=some av):ce_ P S w a o av:=by
 have rx:=hr.eval hx
 simp only[ai_]at hv
 split at hv
 ·rename_i cs e
  rw[e]at rx
  simp only[Rep]at rx
  obtain⟨b,off,c,e1,e2,_,e4⟩:=rx
  obtain⟨E,fr,hb⟩:=hm.imm b c e2
  obtain⟨v,hv1,hv2⟩:=iq_ (P:=P) hn hb e4.ofStill hv
  exact⟨v,by simp[execOp,hop,Instr.loadAt,e1,Instr.sureAddr,hv1],hv2⟩
 ·rename_i l k i off e
  rw[e]at rx
  simp only[Rep]at rx
  obtain⟨e0,inf,e1,e2,e3⟩:=rx
  split at hv
  ·rename_i r hl
   split at hv
   ·rename_i hlen
    split at hv
    ·rename_i el hel
     obtain⟨k1,k2,k3,k4⟩:=hm.rows l inf r e1 hl
     obtain⟨b,hb,hx⟩:=e3 (by omega)
     rw[hb]at k4
     obtain⟨_,c,_,⟨_,hc,_⟩,hrep,_⟩:=k4.2.cells (.inl (by intro q;rw[q]at hel;simp at hel))
     have h1:=aj_.get hrep k3 hel
     have h2:=an_.drop (k:=off) h1
     rw[drop_drop]at h2
     obtain⟨v,hv1,hv2⟩:=iq_ (P:=P) (off:=i * inf.sz+off) hn hc (by rw[k2];exact h2) hv
     exact⟨v,by simp[execOp,hop,Instr.loadAt,hx,Instr.sureAddr,hv1],hv2⟩
    ·simp at hv
   ·simp at hv
  ·simp at hv
 ·simp at hv
theorem mk_{s f off:Nat}{x:Operand}{fs:Array Field}{fl:Field}{i:TypeInfo}(hop:o.op=.fieldAddr s x f)(h1:P.underlying s=some (.struct fs))(h2:fs[f]?=some fl)
 (h3:P.info? fl.type=some i) (h4:¬ i.size=0) (ho:fl.offset=off) (hr:Rel S N t a) (hx:ag_ N x=true)
 (hv:ai_ t h (.fieldAddr off x)=some av) (hm:ab_ S h w):ce_ P S w a o av:=by
 have rx:=hr.eval hx
 subst ho
 have run:∀b of,a.eval x=.pointer (some ⟨b,of,none⟩)→(execOp a.eval o).run P w=.ok (.value (.pointer (some ⟨b,of+fl.offset,none⟩))) w:=by
  intro b of e
  simp[execOp,hop,Instr.fieldAt,run_underlying h1,h2,e,Instr.sureAddr,fieldPlace,b9_ h3,h4,b1_]
 simp only[ai_]at hv
 split at hv
 ·rename_i cs e
  rw[e]at rx
  simp only[Rep]at rx
  obtain⟨b,of,c,e1,e2,e3,e4⟩:=rx
  split at hv
  ·simp only[Option.some.injEq]at hv
   subst hv
   refine⟨_,run b of e1,?_⟩
   simp only[Rep]
   refine⟨b,of+fl.offset,c,rfl,e2,by simp;omega,?_⟩
   have:=an_.drop (k:=fl.offset) e4
   rwa [drop_drop]at this
  ·simp at hv
 ·rename_i l k i0 o0 e
  rw[e]at rx
  simp only[Rep]at rx
  obtain⟨e0,inf,e1,e2,e3⟩:=rx
  split at hv
  ·rename_i r hl
   split at hv
   ·rename_i hlen
    simp only[Option.some.injEq]at hv
    subst hv
    obtain⟨k1,k2,k3,k4⟩:=hm.rows l inf r e1 hl
    obtain⟨b,hb,hx⟩:=e3 (by omega)
    refine⟨_,run b _ hx,?_⟩
    simp only[Rep]
    exact⟨⟨_,rfl⟩,inf,e1,e2,fun _=>⟨b,hb,by simp[Nat.add_assoc]⟩⟩
   ·simp at hv
  ·simp at hv
 ·simp at hv
theorem i7_{ty:TypeId}{n:Option Nat}{cs:List AV}{vs:Array Value}{off:Nat}(hn:eC_ P ty=some n)(hr:ae_ S cs vs.toList)(hl:cs_ n (cs.drop off)=some av) :
 ∃v,(part ty vs off).run P w=.ok v w∧Rep S av v:=by
 have hlen:=ae_.length hr
 have hpre:an_ S (cs.drop off) (vs.toList.drop off):=by
  have:=an_.drop (k:=off) (ae_.toPre (rest:=[]) hr)
  simpa using this
 unfold eC_ at hn
 cases hu:P.underlying ty with
 | none=>simp[hu]at hn
 | some d =>
  rw[hu]at hn
  have hone:n=none→jX_ d=false→∃v,(part ty vs off).run P w=.ok v w∧Rep S av v:=by
   intro hn hd
   subst hn
   cases hc:cs.drop off with
   | nil=>simp[hc,cs_]at hl
   | cons c0 rest =>
    rw[hc]at hl hpre
    simp only[cs_,Option.some.injEq]at hl
    subst hl
    simp only[an_]at hpre
    obtain⟨v,r,q,h1,_⟩:=hpre
    have hv:vs[off]?=some v:=by
     have:(vs.toList.drop off)[0]?=some v:=by rw[q];rfl
     simpa using this
    exact⟨v,by simp[part,h2_ hu,hd,hv],h1⟩
  have hagg:∀i,P.info? ty=some i→n=some i.size→jX_ d=true→∃v,(part ty vs off).run P w=.ok v w∧Rep S av v:=by
   intro i hi hn hd
   subst hn
   simp only[cs_]at hl
   split at hl
   ·rename_i hle
    simp only[Option.some.injEq]at hl
    subst hl
    refine⟨.agg (vs.extract off (off+i.size)),by simp[part,h2_ hu,hd,b9_ hi],?_⟩
    simp only[Rep]
    refine⟨_,rfl,?_⟩
    have h2:=(an_.take (k:=i.size) hpre).toL
    have hl2:((cs.drop off).take i.size).length=i.size:=by simp at hle⊢;omega
    rw[hl2]at h2
    have:(vs.extract off (off+i.size)).toList=(vs.toList.drop off).take i.size:=by
     simp[Array.toList_extract,extract_eq_take_drop]
    rw[this]
    exact h2
   ·simp at hl
  cases d with
  | struct fs =>
   cases hi:P.info? ty with
   | none=>simp[hi]at hn
   | some i=>simp[hi]at hn;exact hagg i hi hn.symm rfl
  | array m e =>
   cases hi:P.info? ty with
   | none=>simp[hi]at hn
   | some i=>simp[hi]at hn;exact hagg i hi hn.symm rfl
  | _=>exact hone (by simpa using hn.symm) rfl
theorem qX_{s f off:Nat}{n:Option Nat}{x:Operand}{fs:Array Field}{fl:Field}(hop:o.op=.field s x f)(h1:P.underlying s=some (.struct fs))(h2:fs[f]?=some fl)
 (h3:eC_ P fl.type=some n) (ho:fl.offset=off) (hr:Rel S N t a) (hx:ag_ N x=true)
 (hv:ai_ t h (.field off n x)=some av):ce_ P S w a o av:=by
 have rx:=hr.eval hx
 subst ho
 simp only[ai_]at hv
 split at hv
 ·rename_i cs e
  rw[e]at rx
  simp only[Rep]at rx
  obtain⟨vs,e1,e2⟩:=rx
  obtain⟨v,hv1,hv2⟩:=i7_ (P:=P) (w:=w) h3 e2 hv
  exact⟨v,by simp[execOp,hop,Instr.field,run_underlying h1,h2,e1,asAgg,hv1],hv2⟩
 ·simp at hv
theorem lT_{ty e:TypeId}{j:TypeInfo}{x i:Operand}(hop:o.op=.indexAddr ty x i)(h1:P.underlying ty=some (.slice e))(h2:P.info? e=some j)
 (hm:ab_ S h w) (hr:Rel S N t a) (hx:ag_ N x=true) (hi:ag_ N i=true)
 (hv:ai_ t h (.indexAddr j.size x i)=some av):ce_ P S w a o av:=by
 have rx:=hr.eval hx
 have ri:=hr.eval hi
 have run:∀b of len cap k n,a.eval x=.slice (some ⟨b,of,none⟩) len cap→a.eval i=.int k n→0≤n→n<(len:Int) →
  (execOp a.eval o).run P w=.ok (.value (.pointer (some ⟨b,of+n.toNat * j.size,none⟩))) w:=by
  intro b of len cap k n e1 e2 e3 e4
  simp[execOp,hop,Instr.indexAt,run_underlying h1,e1,e2,asIntOf,e3,e4,b9_ h2,b1_]
 simp only[ai_]at hv
 split at hv
 ·rename_i tk s es k n ex ei
  rw[ex]at rx
  rw[ei]at ri
  simp only[Rep]at rx ri
  split at hv
  ·rename_i hc
   obtain⟨hs,hn⟩:=hc
   split at hv
   ·rename_i el hel
    simp only[Option.some.injEq]at hv
    subst hv
    have hlt:n.toNat<es.length:=by
     rcases List.getElem?_eq_some_iff.1 hel with ⟨q,_⟩
     exact q
    rcases rx with ⟨e0,_⟩|⟨b,off,cap,c,e1,e2,e3,e4,e5,e6,e7⟩
    ·subst e0;simp at hlt
    ·refine⟨_,run b off _ _ _ _ e1 ri hn (by omega),?_⟩
     simp only[Rep]
     have hg:=aj_.get e7 e4 hel
     rw[drop_drop]at hg
     subst hs
     have hel':el.length=j.size:=e4 el (mem_of_getElem? hel)
     refine⟨b,off+n.toNat * j.size,c,rfl,e3,?_,hg⟩
     rw[hel']
     have:n.toNat * j.size+j.size≤es.length * j.size:=by
      rw[←Nat.succ_mul];exact Nat.mul_le_mul_right _ hlt
     omega
   ·simp at hv
  ·simp at hv
 ·rename_i l n k m ex ei
  rw[ex]at rx
  rw[ei]at ri
  simp only[Rep]at rx ri
  obtain⟨e0,inf,e1,e2,e3⟩:=rx
  split at hv
  ·rename_i r hl
   split at hv
   ·rename_i hc
    obtain⟨c1,c2,c3,c4⟩:=hc
    simp only[Option.some.injEq]at hv
    subst hv
    obtain⟨k1,k2,k3,k4⟩:=hm.rows l inf r e1 hl
    have e3':=e3 (by omega)
    cases hb:inf.blk with
    | none=>rw[hb]at k4;simp[k4.1]at c2;omega
    | some b =>
     simp only[sliceAt,hb,reduceCtorEq,false_and,or_false]at e3'
     refine⟨_,run b 0 _ _ _ _ e3' ri c3 (by omega),?_⟩
     simp only[Rep]
     exact⟨⟨_,rfl⟩,inf,e1,e2,fun _=>⟨b,hb,by simp[k2,c1]⟩⟩
   ·simp at hv
  ·simp at hv
 ·rename_i l n lo hi k m ex ei
  rw[ex]at rx
  rw[ei]at ri
  simp only[Rep]at rx ri
  obtain⟨e0,inf,e1,e2,e3⟩:=rx
  split at hv
  ·rename_i r hl
   split at hv
   ·rename_i hc
    obtain⟨c1,c2,c3,c4⟩:=hc
    simp only[Option.some.injEq]at hv
    subst hv
    obtain⟨k1,k2,k3,k4⟩:=hm.rows l inf r e1 hl
    obtain⟨g1,g2,g3⟩:=e3 (by omega)
    rcases g3 with ⟨hb,_⟩|⟨b,off,hb,hx,hoff⟩
    ·rw[hb]at k4;simp[k4.1]at c2;omega
    ·rw[hb]at k4
     have hlt:lo<inf.cap:=by
      obtain⟨_,_,_,_,_,_,q,_⟩:=k4.2.cells (.inl (by intro q;rw[q]at c2;simp at c2;omega))
      omega
     rw[hoff hlt]at hx
     refine⟨_,run b _ _ _ _ _ hx ri c3 (by omega),?_⟩
     simp only[Rep]
     exact⟨⟨_,rfl⟩,inf,e1,e2,fun _=>⟨b,hb,by simp[k2,c1,Nat.add_mul]⟩⟩
   ·simp at hv
  ·simp at hv
 ·simp at hv
theorem nk_{ty:TypeId}{x i:Operand}(hop:o.op=.index ty x i)(h1:P.underlying ty=some .string)
 (hr:Rel S N t a) (hx:ag_ N x=true) (hi:ag_ N i=true)
 (hv:ai_ t h (.indexStr x i)=some av):ce_ P S w a o av:=by
 have rx:=hr.eval hx
 have ri:=hr.eval hi
 simp only[ai_]at hv
 split at hv
 ·rename_i s k n ex ei
  rw[ex]at rx
  rw[ei]at ri
  simp only[Rep]at rx ri
  split at hv
  ·rename_i hn
   split at hv
   ·rename_i b hb
    simp only[Option.some.injEq]at hv
    subst hv
    exact⟨.int .u8 b.toNat,by simp[execOp,hop,Instr.index,run_underlying h1,rx,ri,asIntOf,hn,hb],by simp[Rep]⟩
   ·simp at hv
  ·simp at hv
 ·simp at hv
theorem jc_{s:Sem Value}(hp:ey_ s=some av):∃v,s.run P w=.ok v w∧Rep S av v:=by
 cases s<;>simp only[ey_,Option.some.injEq]at hp<;>try(cases hp;done)
 rename_i v
 subst hp
 exact⟨v,rfl,by simp[Rep]⟩
theorem qN_(op:BinOp)(ty:TypeId)(x y:Operand)(k k':IntKind)(m n:Int):(eqGuard op ty x y (.int k m) (.int k' n)).run P w=.ok () w:=by
 simp only[eqGuard];split<;>rfl
theorem nl_(op:BinOp)(ty:TypeId)(x y:Operand)(m n:ByteArray):(eqGuard op ty x y (.string m) (.string n)).run P w=.ok () w:=by
 simp only[eqGuard];split<;>rfl
theorem ko_(op:BinOp)(ty:TypeId)(x y:Operand)(m n:Bool):(eqGuard op ty x y (.bool m) (.bool n)).run P w=.ok () w:=by
 simp only[eqGuard];split<;>rfl
theorem pM_(op:BinOp)(ty:TypeId)(k k':IntKind)(m n:Int):binOp op ty (.int k m) (.int k' n)=binOp op 0 (.int k m) (.int k' n):=by
 cases op<;>rfl
theorem lK_(op:BinOp)(ty:TypeId)(m n:ByteArray):binOp op ty (.string m) (.string n)=binOp op 0 (.string m) (.string n):=by
 cases op<;>rfl
theorem pi_{ty:TypeId}(hu:P.underlying ty=some .bool)(m n:Bool)(d:Nat):(Op.equalIn (d+1) ty (.bool m) (.bool n)).run P w=.ok (m==n) w:=by
 simp only[Op.equalIn,Sem.run_bind,run_underlying hu,Result.andThen_ok]
 rfl
theorem l7_{ty:TypeId}(hu:P.underlying ty=some .bool)(m n:Bool):(Op.equal ty (.bool m) (.bool n)).run P w=.ok (m==n) w :=
 pi_ hu m n 9999
theorem m7_{ty:TypeId}(hu:P.underlying ty=some .bool)(m n:Bool):(binOp .eql ty (.bool m) (.bool n)).run P w=.ok (.bool (m==n)) w:=by
 have e:binOp .eql ty (.bool m) (.bool n)=(Op.equal ty (.bool m) (.bool n) >>= fun q=>pure (.bool q)):=rfl
 rw[e,Sem.run_bind,l7_ hu];rfl
theorem ny_{ty:TypeId}(hu:P.underlying ty=some .bool)(m n:Bool):(binOp .neq ty (.bool m) (.bool n)).run P w=.ok (.bool (!(m==n))) w:=by
 have e:binOp .neq ty (.bool m) (.bool n)=(Op.equal ty (.bool m) (.bool n) >>= fun q=>pure (.bool (!q))):=rfl
 rw[e,Sem.run_bind,l7_ hu];rfl
theorem s8_{op:BinOp}{ty ty':TypeId}{x y:Operand}{q:Bool}(hop:o.op=.binOp op ty x y ty')(hq:q=(match P.underlying ty with|some .bool=>true|_=>false))
 (hr:Rel S N t a) (hx:ag_ N x=true) (hy:ag_ N y=true) (hv:ai_ t h (.bin op q x y)=some av):ce_ P S w a o av:=by
 have rx:=hr.eval hx
 have ry:=hr.eval hy
 simp only[ai_]at hv
 unfold bd_ at hv
 split at hv
 ·rename_i k m k' n ex ey
  rw[ex]at rx;rw[ey]at ry
  simp only[Rep]at rx ry
  obtain⟨v,h1,h2⟩:=jc_ (P:=P) (w:=w) (S:=S) hv
  exact⟨v,by simp[execOp,hop,rx,ry,qN_,pM_ op ty,h1],h2⟩
 ·rename_i m n ex ey
  rw[ex]at rx;rw[ey]at ry
  simp only[Rep]at rx ry
  obtain⟨v,h1,h2⟩:=jc_ (P:=P) (w:=w) (S:=S) hv
  exact⟨v,by simp[execOp,hop,rx,ry,nl_,lK_ op ty,h1],h2⟩
 ·rename_i m n ex ey
  rw[ex]at rx;rw[ey]at ry
  simp only[Rep]at rx ry
  split at hv
  ·rename_i hb
   have hu:P.underlying ty=some .bool:=by
    rw[hq]at hb
    split at hb
    ·assumption
    ·simp at hb
   split at hv
   ·simp only[Option.some.injEq]at hv
    subst hv
    exact⟨.bool (m==n),by simp[execOp,hop,rx,ry,ko_,m7_ hu],by simp[Rep]⟩
   ·simp only[Option.some.injEq]at hv
    subst hv
    exact⟨.bool (!(m==n)),by simp[execOp,hop,rx,ry,ko_,ny_ hu],by simp[Rep]⟩
   ·simp at hv
  ·simp at hv
 ·simp at hv
theorem uO_{op:UnOp}{ty:TypeId}{x:Operand}(hop:o.op=.unOp op ty x)(hr:Rel S N t a)(hx:ag_ N x=true)(hv:ai_ t h (.un op x)=some av):ce_ P S w a o av:=by
 have rx:=hr.eval hx
 simp only[ai_]at hv
 split at hv
 ·rename_i v0 ex
  rw[ex]at rx
  simp only[Rep]at rx
  obtain⟨v,h1,h2⟩:=jc_ (P:=P) (w:=w) (S:=S) hv
  exact⟨v,by simp[execOp,hop,rx,h1],h2⟩
 ·simp at hv
theorem oD_{x:Operand}{i:Nat}(hop:o.op=.extract x i)(hr:Rel S N t a)(hx:ag_ N x=true)(hv:ai_ t h (.extract x i)=some av):ce_ P S w a o av:=by
 have rx:=hr.eval hx
 simp only[ai_]at hv
 split at hv
 ·rename_i cs ex
  rw[ex]at rx
  simp only[Rep]at rx
  obtain⟨vs,e1,e2⟩:=rx
  obtain⟨v,h1,h2⟩:=ae_.get e2 hv
  exact⟨v,by simp[execOp,hop,e1,Instr.extract,show vs[i]?=some v by simpa using h1],h2⟩
 ·simp at hv
end
section
variable {P : Program} {S : Sit} {h : List Row} {w : World} {N : Nat} {t : Nat → AV} {a : Act} {o : Oper} {av : AV}
theorem eG_{S:Sit}{N:Nat}{t:Nat→AV}{a:Act}(hr:Rel S N t a):∀{xs:List Operand},(∀x∈xs,ag_ N x=true)→ae_ S (xs.map (ah_ t)) (xs.map a.eval)
 | [],_=>by simp[ae_]
 | x::xs,hx=>by
  simp only[map_cons,ae_]
  exact⟨_,_,rfl,hr.eval (hx x (by simp)),eG_ hr (fun y hy=>hx y (by simp[hy]))⟩
theorem rj_{c:Call}{x:Operand}{ty:TypeId}(hop:o.op=.call c)(hc:c.callee=.builtin .len)(ha:c.args=#[x])(ht:c.argTypes=#[ty]) :
 (execOp a.eval o).run P w=((Builtin.len_ #[ty] o.type #[a.eval x]).run P w).andThen fun v w'=>.ok (.value v) w':=by
 simp[execOp,hop,resolve,hc,ha,ht,invoke,builtin]
theorem qk_{c:Call}{x:Operand}{ty:TypeId}(hop:o.op=.call c)(hc:c.callee=.builtin .len)(ha:c.args=#[x])(ht:c.argTypes=#[ty])(hu:P.underlying ty=some .string)
 (hr:Rel S N t a) (hx:ag_ N x=true) (hv:ai_ t h (.lenStr x)=some av):ce_ P S w a o av:=by
 have rx:=hr.eval hx
 simp only[ai_]at hv
 split at hv
 ·rename_i s ex
  rw[ex]at rx
  simp only[Rep]at rx
  simp only[Option.some.injEq]at hv
  subst hv
  exact⟨.int .i64 s.size,by rw[rj_ hop hc ha ht];simp[Builtin.len_,run_underlying hu,rx,goInt],by simp[Rep]⟩
 ·simp at hv
theorem qw_{c:Call}{x:Operand}{ty e:TypeId}(hop:o.op=.call c)(hc:c.callee=.builtin .len)(ha:c.args=#[x])(ht:c.argTypes=#[ty])(hu:P.underlying ty=some (.slice e))
 (hm:ab_ S h w) (hr:Rel S N t a) (hx:ag_ N x=true) (hv:ai_ t h (.lenSl x)=some av):ce_ P S w a o av:=by
 have rx:=hr.eval hx
 have run:∀b n cap,a.eval x=.slice b n cap→(execOp a.eval o).run P w=.ok (.value (.int .i64 n)) w:=by
  intro b n cap e
  rw[rj_ hop hc ha ht];simp[Builtin.len_,run_underlying hu,e,goInt]
 simp only[ai_]at hv
 split at hv
 ·rename_i tk sz es ex
  rw[ex]at rx
  simp only[Rep]at rx
  simp only[Option.some.injEq]at hv
  subst hv
  rcases rx with ⟨e0,_,p0,c0,e1⟩|⟨b,off,cap,c,e1,_⟩
  ·subst e0
   exact⟨_,run _ _ _ e1,by simp[Rep]⟩
  ·exact⟨_,run _ _ _ e1,by simp[Rep]⟩
 ·rename_i l n ex
  rw[ex]at rx
  simp only[Rep]at rx
  obtain⟨e0,inf,e1,e2,e3⟩:=rx
  split at hv
  ·rename_i r hl
   split at hv
   ·rename_i hlen
    simp only[Option.some.injEq]at hv
    subst hv
    obtain⟨k1,k2,k3,k4⟩:=hm.rows l inf r e1 hl
    have e3':=e3 (by omega)
    cases hb:inf.blk with
    | none =>
     simp only[sliceAt,hb]at e3'
     rw[hb]at k4
     have:n=0:=by simp[k4.1]at hlen;omega
     subst this
     rcases e3' with e3'|⟨_,p,e3'⟩
     ·exact⟨_,run _ _ _ e3',by simp[Rep]⟩
     ·exact⟨_,run _ _ _ e3',by simp[Rep]⟩
    | some b =>
     simp only[sliceAt,hb,reduceCtorEq,false_and,or_false]at e3'
     exact⟨_,run _ _ _ e3',by simp[Rep,k1,hlen]⟩
   ·simp at hv
  ·simp at hv
 ·rename_i l n lo hi ex
  rw[ex]at rx
  simp only[Rep]at rx
  obtain⟨e0,inf,e1,e2,e3⟩:=rx
  split at hv
  ·rename_i r hl
   split at hv
   ·rename_i hlen
    simp only[Option.some.injEq]at hv
    subst hv
    obtain⟨k1,k2,k3,k4⟩:=hm.rows l inf r e1 hl
    obtain⟨g1,g2,g3⟩:=e3 (by omega)
    rcases g3 with ⟨hb,p,hx⟩|⟨b,off,hb,hx,hoff⟩
    ·rw[hb]at k4
     have:n=0:=by simp[k4.1]at hlen;omega
     have h0:hi-lo=0:=by omega
     rw[h0]
     exact⟨_,run _ _ _ hx,by simp[Rep]⟩
    ·exact⟨_,run _ _ _ hx,by simp[Rep]⟩
   ·simp at hv
  ·simp at hv
 ·rename_i b n cap ex
  rw[ex]at rx
  simp only[Rep]at rx
  simp only[Option.some.injEq]at hv
  subst hv
  exact⟨_,run _ _ _ rx,by simp[Rep]⟩
 ·simp at hv
theorem pk_{f:FuncId}{first caps:Array Operand}(hop:o.op=.makeFunc (.func f) first caps)(hr:Rel S N t a)(h1:∀x∈first.toList,ag_ N x=true)(h2:∀x∈caps.toList,ag_ N x=true) :
 ce_ P S w a o (.fn f (first.toList.map (ah_ t)) (caps.toList.map (ah_ t))):=by
 refine⟨.func (.func f) (first.map a.eval) (caps.map a.eval),by simp[execOp,hop,Instr.makeFunc],?_⟩
 simp only[Rep]
 exact⟨_,_,rfl,by simpa using eG_ hr h1,by simpa using eG_ hr h2⟩
theorem na_{x:Operand}(hop:o.op=.nilCheck x)(hm:ab_ S h w)(hr:Rel S N t a)(hx:ag_ N x=true)(hv:ai_ t h (.nilCheck x)=some av):ce_ P S w a o av:=by
 have rx:=hr.eval hx
 simp only[ai_]at hv
 split at hv
 ·rename_i cs ex
  simp only[Option.some.injEq]at hv
  subst hv
  rw[ex]at rx
  have rx':=rx
  simp only[Rep]at rx
  obtain⟨b,off,c,e1,_⟩:=rx
  exact⟨a.eval x,by simp[execOp,hop,e1],rx'⟩
 ·rename_i l k i o0 ex
  rw[ex]at rx
  have rx':=rx
  simp only[Rep]at rx
  obtain⟨e0,inf,e1,e2,e3⟩:=rx
  split at hv
  ·rename_i r hl
   split at hv
   ·rename_i hlen
    simp only[Option.some.injEq]at hv
    subst hv
    obtain⟨k1,k2,k3,k4⟩:=hm.rows l inf r e1 hl
    obtain⟨b,hb,hx⟩:=e3 (by omega)
    exact⟨a.eval x,by simp[execOp,hop,hx],rx'⟩
   ·simp at hv
  ·simp at hv
 ·rename_i f c1 c2 ex
  simp only[Option.some.injEq]at hv
  subst hv
  rw[ex]at rx
  have rx':=rx
  simp only[Rep]at rx
  obtain⟨vs,us,e1,_⟩:=rx
  exact⟨a.eval x,by simp[execOp,hop,e1],rx'⟩
 ·simp at hv
theorem os_{src dst:TypeId}{k:IntKind}{x:Operand}(hop:o.op=.convert src dst x)(hs:∃d,P.underlying src=some d)(hu:P.underlying dst=some (.int k))(hr:Rel S N t a)(hx:ag_ N x=true)
 (hv:ai_ t h (.convInt k x)=some av):ce_ P S w a o av:=by
 have rx:=hr.eval hx
 simp only[ai_]at hv
 split at hv
 ·rename_i k0 n ex
  simp only[Option.some.injEq]at hv
  subst hv
  rw[ex]at rx
  simp only[Rep]at rx
  obtain⟨d,hd⟩:=hs
  refine⟨.int k (k.wrap n),?_,by simp[Rep]⟩
  simp only[execOp,hop,rx,convert,Sem.run_bind,run_underlying hd,run_underlying hu,Result.andThen_ok]
  cases d<;>rfl
 ·simp at hv
theorem rE_{v:AV}{n:Nat}(h:lM_ v=some n):∃k m,v=.val (.int k m)∧0≤m∧m.toNat=n:=by
 unfold lM_ at h
 split at h
 ·rename_i k m
  split at h
  ·simp at h;exact⟨k,m,rfl,by assumption,h⟩
  ·simp at h
 ·simp at h
theorem j7_(hr:Rel S N t a){x:Operand}(hx:ag_ N x=true){n y:Nat}(hv:lM_ (ah_ t x)=some n)(hy:n≤y)(code:BoundsCode) :
 (Instr.sliceBound (a.eval x) y code).run P w=.ok n w:=by
 obtain⟨k,m,e1,e2,e3⟩:=rE_ hv
 have rx:=hr.eval hx
 rw[e1]at rx
 simp only[Rep]at rx
 have:m≤(y:Int):=by omega
 simp[Instr.sliceBound,rx,asIntOf,e2,this,e3]
theorem le_(hr:Rel S N t a){lo hi:Option Operand}(h1:∀x∈lo,ag_ N x=true)(h2:∀x∈hi,ag_ N x=true){l u len cap:Nat}(isSlice:Bool)
 (hl:b0_ t lo 0=some l) (hu:b0_ t hi len=some u) (hlu:l≤u) (huc:u≤cap) :
 (Instr.sliceBounds isSlice len cap (lo.map a.eval) (hi.map a.eval) none).run P w=.ok (l,u,cap) w:=by
 cases hi with
 | none =>
  simp[b0_]at hu
  subst hu
  cases lo with
  | none=>simp[b0_]at hl;subst hl;simp[Instr.sliceBounds]
  | some x =>
   simp only[b0_]at hl
   simp[Instr.sliceBounds,j7_ (P:=P) (w:=w) hr (h1 x rfl) hl hlu]
 | some y =>
  simp only[b0_]at hu
  have hb:=fun code=>j7_ (P:=P) (w:=w) hr (h2 y rfl) hu huc code
  cases lo with
  | none=>simp[b0_]at hl;subst hl;simp[Instr.sliceBounds,hb]
  | some x =>
   simp only[b0_]at hl
   simp[Instr.sliceBounds,hb,j7_ (P:=P) (w:=w) hr (h1 x rfl) hl hlu]
theorem e0_(hr:Rel S N t a){lo hi:Option Operand}(h1:∀x∈lo,ag_ N x=true)(h2:∀x∈hi,ag_ N x=true){l u len cap:Nat}(isSlice:Bool)
 (hl:b0_ t lo 0=some l) (hu:b0_ t hi len=some u) (hlu:l≤u) (hul:u≤len) (hc:len≤cap) :
 (Instr.sliceBounds isSlice len cap (lo.map a.eval) (hi.map a.eval) none).run P w=.ok (l,u,cap) w:=le_ hr h1 h2 isSlice hl hu hlu (Nat.le_trans hul hc)
theorem ni_{ty:TypeId}{x:Operand}{lo hi:Option Operand}(hop:o.op=.slice ty x lo hi none)(hu:P.underlying ty=some .string)(hr:Rel S N t a)(hx:ag_ N x=true)
 (h1:∀x∈lo,ag_ N x=true) (h2:∀x∈hi,ag_ N x=true) (hv:ai_ t h (.sliceStr x lo hi)=some av):ce_ P S w a o av:=by
 have rx:=hr.eval hx
 simp only[ai_]at hv
 split at hv
 ·rename_i s ex
  rw[ex]at rx
  simp only[Rep]at rx
  split at hv
  ·rename_i l u hl hu'
   split at hv
   ·rename_i hc
    simp only[Option.some.injEq]at hv
    subst hv
    refine⟨.string (s.extract l u),?_,by simp[Rep]⟩
    have hb:=e0_ (P:=P) (w:=w) hr h1 h2 (cap:=s.size) false hl hu' hc.1 hc.2 (Nat.le_refl _)
    simp[execOp,hop,Instr.sliceAt,run_underlying hu,Instr.slice,rx,hb]
   ·simp at hv
  ·simp at hv
 ·simp at hv
theorem aj_.drop{S:Sit}{sz:Nat}:∀{k:Nat} {es:List (List AV)} {vs:List Value},aj_ S es vs→(∀e∈es,e.length=sz)→aj_ S (es.drop k) (vs.drop (k * sz))
 | 0,es,vs,h,_=>by simpa using h
 | k+1,[],vs,h,_=>by simp[aj_]
 | k+1,e::es,vs,h,hl=>by
  simp only[aj_]at h
  have:=aj_.drop (k:=k) h.2 (fun e he=>hl e (by simp[he]))
  rw[hl e (by simp),drop_drop]at this
  simp only[drop_succ_cons]
  rw[show(k+1) * sz=sz+k * sz by rw[Nat.add_mul];omega]
  exact this
theorem aj_.take{S:Sit}:∀{k:Nat} {es:List (List AV)} {vs:List Value},aj_ S es vs→aj_ S (es.take k) vs
 | 0,es,vs,_=>by simp[aj_]
 | k+1,[],vs,_=>by simp[aj_]
 | k+1,e::es,vs,h=>by
  simp only[aj_,take_succ_cons]at h⊢
  exact⟨h.1,aj_.take h.2⟩
theorem oP_{ty e:TypeId}{j:TypeInfo}{x:Operand}{lo hi:Option Operand}(hop:o.op=.slice ty x lo hi none)(hu:P.underlying ty=some (.slice e))(hj:P.info? e=some j)(hm:ab_ S h w)(hr:Rel S N t a)(hx:ag_ N x=true)
 (h1:∀x∈lo,ag_ N x=true) (h2:∀x∈hi,ag_ N x=true) (hv:ai_ t h (.sliceSl j.size x lo hi)=some av):ce_ P S w a o av:=by
 have rx:=hr.eval hx
 simp only[ai_]at hv
 split at hv
 ·rename_i tk s es ex
  rw[ex]at rx
  simp only[Rep]at rx
  split at hv
  ·rename_i l u hl hu'
   split at hv
   ·rename_i hc
    obtain⟨hs,hlu,hue⟩:=hc
    simp only[Option.some.injEq]at hv
    subst hv
    rcases rx with ⟨e0,_,p0,c0,e1⟩|⟨b,off,cap,c,e1,e2,e3,e4,e5,e6,e7⟩
    ·subst e0
     simp at hue;subst hue
     have:l=0:=by omega
     subst this
     have hb:=e0_ (P:=P) (w:=w) hr h1 h2 (len:=0) (cap:=c0) true hl (by simpa using hu') (Nat.le_refl _) (Nat.le_refl _) (Nat.zero_le _)
     refine⟨.slice (if c0=0 then p0 else p0.map (·.add 0)) 0 c0,?_,by simp[Rep]⟩
     simp[execOp,hop,Instr.sliceAt,run_underlying hu,Instr.slice,e1,hb,b9_ hj]
    ·have hb:=e0_ (P:=P) (w:=w) hr h1 h2 (cap:=cap) true hl hu' hlu hue e2
     refine⟨.slice (some (if cap=l then⟨b,off,none⟩else⟨b,off+l * j.size,none⟩)) (u-l) (cap-l),?_,?_⟩
     ·simp[execOp,hop,Instr.sliceAt,run_underlying hu,Instr.slice,e1,hb,b9_ hj,b1_]
      by_cases q:cap=l<;>simp[q]
     ·simp only[Rep]
      right
      have hlen:((es.take u).drop l).length=u-l:=by simp;omega
      by_cases q:cap=l
      ·have:u-l=0:=by omega
       have hnil:(es.take u).drop l=[]:=by apply eq_nil_of_length_eq_zero;omega
       rw[hnil]
       refine⟨b,off,cap-l,c,by simp[q,this],by simp,e3,by simp,.inl trivial,by simp;omega,by simp[aj_]⟩
      ·refine⟨b,off+l * j.size,cap-l,c,by simp[q,hlen],by rw[hlen];omega,e3,fun e he=>?_,.inl trivial,?_,?_⟩
       ·exact e4 e (mem_of_mem_take (mem_of_mem_drop he))
       ·rw[hlen,hs]
        have:l * j.size+(u-l) * j.size≤es.length * j.size:=by
         rw[←Nat.add_mul];exact Nat.mul_le_mul_right _ (by omega)
        rw[hs]at e6
        omega
       ·have h3:=aj_.drop (k:=l) (aj_.take (k:=u) e7) (sz:=s) (fun e he=>e4 e (mem_of_mem_take he))
        rw[drop_drop,hs]at h3
        exact h3
   ·simp at hv
  ·simp at hv
 ·rename_i k n ex
  rw[ex]at rx
  simp only[Rep]at rx
  obtain⟨e0,inf,e1,e2,e3⟩:=rx
  split at hv
  ·rename_i r hl
   split at hv
   ·rename_i l u hlo hhi
    split at hv
    ·rename_i hc
     obtain⟨hs,hlen,hlu,hun⟩:=hc
     simp only[Option.some.injEq]at hv
     subst hv
     obtain⟨k1,k2,k3,k4⟩:=hm.rows k inf r e1 hl
     have e3':=e3 (by omega)
     cases hb:inf.blk with
     | none =>
      rw[hb]at k4
      have hn0:n=0:=by simp[k4.1]at hlen;omega
      subst hn0
      have hu0:u=0:=by omega
      have hl0:l=0:=by omega
      subst hu0 hl0
      have hxx:∃p,a.eval x=.slice p 0 0:=by
       rcases e3' with q|⟨_,q⟩
       ·exact⟨none,by simpa[sliceAt,hb]using q⟩
       ·exact q
      obtain⟨p,hxx⟩:=hxx
      have hbb:=e0_ (P:=P) (w:=w) hr h1 h2 (len:=0) (cap:=0) true hlo hhi (Nat.le_refl _) (Nat.le_refl _) (Nat.le_refl _)
      refine⟨.slice p 0 0,?_,?_⟩
      ·simp[execOp,hop,Instr.sliceAt,run_underlying hu,Instr.slice,hxx,hbb,b9_ hj]
      ·simp only[Rep]
       exact⟨⟨_,_,_,rfl⟩,inf,e1,e2,fun _=>⟨Nat.le_refl _,Nat.le_refl _,.inl ⟨hb,p,rfl⟩⟩⟩
     | some b =>
      simp only[sliceAt,hb,reduceCtorEq,false_and,or_false]at e3'
      rw[hb]at k4
      have hil:inf.len=n:=by omega
      rw[hil]at e3'
      have hcap:n≤inf.cap:=by
       by_cases hne:r.es=[]
       ·rw[hne]at hlen;simp at hlen;omega
       ·obtain⟨_,_,_,_,_,_,q,_⟩:=k4.2.cells (.inl hne)
        omega
      have hbb:=e0_ (P:=P) (w:=w) hr h1 h2 (cap:=inf.cap) true hlo hhi hlu hun hcap
      refine⟨.slice (some (if inf.cap=l then⟨b,0,none⟩else⟨b,0+l * j.size,none⟩)) (u-l) (inf.cap-l),?_,?_⟩
      ·simp[execOp,hop,Instr.sliceAt,run_underlying hu,Instr.slice,e3',hbb,b9_ hj,b1_]
       by_cases q:inf.cap=l<;>simp[q]
      ·simp only[Rep]
       refine⟨⟨_,_,_,rfl⟩,inf,e1,e2,fun _=>⟨hlu,by omega,.inr ?_⟩⟩
       by_cases q:inf.cap=l
       ·exact⟨b,0,hb,by simp[q],fun z=>by omega⟩
       ·exact⟨b,0+l * j.size,hb,by simp[q],fun _=>by rw[Nat.zero_add,k2,hs]⟩
    ·simp at hv
   ·simp at hv
  ·simp at hv
 ·rename_i k n c d ex
  rw[ex]at rx
  simp only[Rep]at rx
  obtain⟨e0,inf,e1,e2,e3⟩:=rx
  split at hv
  ·rename_i r hl
   split at hv
   ·rename_i l u hlo hhi
    split at hv
    ·rename_i hc
     obtain⟨hs,hlen,hlu,hun⟩:=hc
     simp only[Option.some.injEq]at hv
     subst hv
     obtain⟨k1,k2,k3,k4⟩:=hm.rows k inf r e1 hl
     obtain⟨g1,g2,g3⟩:=e3 (by omega)
     rcases g3 with ⟨hb,p,hxx⟩|⟨b,off,hb,hxx,hoff⟩
     ·rw[hb]at k4
      have hn0:n=0:=by simp[k4.1]at hlen;omega
      have hu0:u=0:=by omega
      have hl0:l=0:=by omega
      have hdc:d-c=0:=by omega
      subst hu0 hl0
      rw[hdc]at hhi
      have hbb:=e0_ (P:=P) (w:=w) hr h1 h2 (len:=0) (cap:=0) true hlo hhi (Nat.le_refl _) (Nat.le_refl _) (Nat.le_refl _)
      refine⟨.slice p 0 0,?_,?_⟩
      ·simp[execOp,hop,Instr.sliceAt,run_underlying hu,Instr.slice,hxx,hbb,b9_ hj]
      ·simp only[Rep]
       exact⟨⟨_,_,_,rfl⟩,inf,e1,e2,fun _=>⟨Nat.le_refl _,by omega,.inl ⟨hb,p,rfl⟩⟩⟩
     ·rw[hb]at k4
      have hcap:n≤inf.cap:=by
       by_cases hne:r.es=[]
       ·rw[hne]at hlen;simp at hlen;omega
       ·obtain⟨_,_,_,_,_,_,q,_⟩:=k4.2.cells (.inl hne)
        omega
      have hbb:=le_ (P:=P) (w:=w) hr h1 h2 (len:=d-c) (cap:=inf.cap-c) true hlo hhi hlu (by omega)
      refine⟨.slice (some (if inf.cap-c=l then⟨b,off,none⟩else⟨b,off+l * j.size,none⟩)) (u-l) (inf.cap-c-l),?_,?_⟩
      ·simp[execOp,hop,Instr.sliceAt,run_underlying hu,Instr.slice,hxx,hbb,b9_ hj,b1_]
       by_cases q:inf.cap-c=l<;>simp[q]
      ·simp only[Rep]
       have ee:c+u-(c+l)=u-l:=by omega
       have ef:inf.cap-(c+l)=inf.cap-c-l:=by omega
       refine⟨⟨_,_,_,rfl⟩,inf,e1,e2,fun _=>⟨by omega,by omega,.inr ?_⟩⟩
       rw[ee,ef]
       by_cases q:inf.cap-c=l
       ·exact⟨b,off,hb,by simp[q],fun z=>by omega⟩
       ·exact⟨b,off+l * j.size,hb,by simp[q],fun z=>by rw[hoff (by omega),k2,hs,Nat.add_mul]⟩
    ·simp at hv
   ·simp at hv
  ·simp at hv
 ·simp at hv
end
theorem ab_.immLt{S:Sit}{h:List Row}{w:World}(m:ab_ S h w){b:Nat}{c:Array Value}(e:S.imm b=some c):b<w.heap.size:=by
 obtain⟨E,fr,hb⟩:=m.imm b c e
 rcases Array.getElem?_eq_some_iff.1 hb with ⟨q,_⟩
 exact q
theorem ab_.ownLt{S:Sit}{h:List Row}{w:World}(m:ab_ S h w){b:Nat}(e:S.owns b):b<w.heap.size:=by
 obtain⟨l,i,h1,h2⟩:=e
 have hl:l<h.length:=by
  rw[←m.len]
  rcases List.getElem?_eq_some_iff.1 h1 with ⟨q,_⟩
  exact q
 obtain⟨_,_,_,k⟩:=m.rows l i h[l] h1 (getElem?_eq_getElem hl)
 rw[h2]at k
 exact k.2.lt
theorem ab_.ownNotImm{S:Sit}{h:List Row}{w:World}(m:ab_ S h w){b:Nat}(e:S.owns b):S.imm b=none:=by
 obtain⟨l,i,h1,h2⟩:=e
 have hl:l<h.length:=by
  rw[←m.len]
  rcases List.getElem?_eq_some_iff.1 h1 with ⟨q,_⟩
  exact q
 obtain⟨_,_,_,k⟩:=m.rows l i h[l] h1 (getElem?_eq_getElem hl)
 rw[h2]at k
 exact k.1
theorem tQ_(w:World)(o:Obj)(i:Nat)(h:i<w.heap.size):(w.alloc o).heap[i]?=w.heap[i]?:=by
 show(w.heap.push o)[i]?=_
 rw[Array.getElem?_push,if_neg (by omega)]
theorem ab_.moved{S:Sit}{h:List Row}{w w':World}(m:ab_ S h w)(e:w'.heap=w.heap):ab_ S h w':=by
 refine⟨fun b c hb=>by rw[e];exact m.imm b c hb,m.len,fun l i r h1 h2=>?_,m.one⟩
 have:=m.rows l i r h1 h2
 unfold wk_ ax_ at this⊢
 rw[e];exact this
theorem Sit.le_push(S:Sit)(i0:bV_):S.le { imm:=S.imm,rows:=S.rows++[i0] }:=by
 refine⟨fun _ _ q=>q,fun l i q=>⟨i,?_,Nat.le_refl _,fun _=>rfl⟩⟩
 have:l<S.rows.length:=by rcases List.getElem?_eq_some_iff.1 q with ⟨q,_⟩;exact q
 rw[getElem?_append_left this];exact q
theorem ab_.newRow{S:Sit}{h:List Row}{w w':World}(m:ab_ S h w){E:Tag}{sz cap:Nat}{es:List (List AV)}{ob:Obj}(hlen:∀e∈es,e.length=sz)
 (hst:ax_ { imm:=S.imm,rows:=S.rows++[⟨es.length,some w.heap.size,cap,sz⟩] } w' w.heap.size ⟨es.length,some w.heap.size,cap,sz⟩ ⟨E,sz,es⟩)
 (hheap:w'.heap=w.heap.push ob) (hos:w'.os=w.os) (htape:w'.tape=w.tape) (hout:w'.output=w.output) :
 ab_ { imm:=S.imm,rows:=S.rows++[⟨es.length,some w.heap.size,cap,sz⟩] } (h++[⟨E,sz,es⟩]) w' ∧
 a0_ S w { imm:=S.imm,rows:=S.rows++[⟨es.length,some w.heap.size,cap,sz⟩] } w':=by
 have hle:S.le { imm:=S.imm,rows:=S.rows++[⟨es.length,some w.heap.size,cap,sz⟩] }:=by
  refine⟨fun _ _ q=>q,fun l i q=>⟨i,?_,Nat.le_refl _,fun _=>rfl⟩⟩
  have:l<S.rows.length:=by rcases List.getElem?_eq_some_iff.1 q with ⟨q,_⟩;exact q
  rw[getElem?_append_left this];exact q
 have hold:∀b,b<w.heap.size→w'.heap[b]?=w.heap[b]?:=by
  intro b hb
  rw[hheap,Array.getElem?_push,if_neg (by omega)]
 have himm:S.imm w.heap.size=none:=by
  cases q:S.imm w.heap.size with
  | none=>rfl
  | some d=>have:=m.immLt q;omega
 have hrow:∀(l:Nat) (i:bV_),(S.rows++[⟨es.length,some w.heap.size,cap,sz⟩])[l]?=some i→S.rows[l]?=some i∨(l=S.rows.length∧i=⟨es.length,some w.heap.size,cap,sz⟩):=by
  intro l i q
  by_cases hl:l<S.rows.length
  ·rw[getElem?_append_left hl]at q;exact .inl q
  ·rw[getElem?_append_right (by omega)]at q
   have:l-S.rows.length=0:=by
    by_cases z:l-S.rows.length=0
    ·exact z
    ·obtain⟨k,hk⟩:=Nat.exists_eq_succ_of_ne_zero z
     rw[hk]at q;simp at q
   rw[this]at q
   simp at q
   exact .inr ⟨by omega,q.symm⟩
 have hblk:∀(l:Nat) (i:bV_),S.rows[l]?=some i→i.blk≠some w.heap.size:=by
  intro l i q e
  have:=m.ownLt ⟨l,i,q,e⟩
  omega
 refine⟨⟨fun b d q=>?_,by simp[m.len],fun l i r h1 h2=>?_,fun l l' i i' b h1 h2 h3 h4=>?_⟩,⟨hle,hos,htape,hout,by rw[hheap];simp,fun b hb _=>hold b hb,fun b q=>?_,fun b d q=>.inl q⟩⟩
 ·rw[hold b (m.immLt q)];exact m.imm b d q
 ·rcases hrow l i h1 with q|⟨q1,q2⟩
  ·have hl:l<h.length:=by
    rw[←m.len];rcases List.getElem?_eq_some_iff.1 q with ⟨q,_⟩;exact q
   rw[getElem?_append_left hl]at h2
   obtain⟨k1,k2,k3,k4⟩:=m.rows l i r q h2
   refine⟨k1,k2,k3,?_⟩
   cases hb:i.blk with
   | none=>rw[hb]at k4;exact k4
   | some b =>
    rw[hb]at k4
    exact⟨k4.1,k4.2.le hle (hold b (m.ownLt ⟨l,i,q,hb⟩))⟩
  ·subst q1 q2
   rw[m.len,getElem?_append_right (Nat.le_refl _)]at h2
   simp at h2
   subst h2
   exact⟨rfl,rfl,hlen,himm,hst⟩
 ·rcases hrow l i h1 with q|⟨q1,q2⟩<;>rcases hrow l' i' h2 with q'|⟨q1',q2'⟩
  ·exact m.one l l' i i' b q q' h3 h4
  ·subst q2';simp at h4;subst h4;exact absurd h3 (hblk l i q)
  ·subst q2;simp at h3;subst h3;exact absurd h4 (hblk l' i' q')
  ·omega
 ·obtain⟨l,i,q1,q2⟩:=q
  rcases hrow l i q1 with q|⟨_,q⟩
  ·exact .inl ⟨l,i,q,q2⟩
  ·subst q;simp at q2;subst q2;exact .inr (Nat.le_refl _)
theorem ab_.new{S:Sit}{h:List Row}{w w':World}(m:ab_ S h w){E:TypeId}{sz cap:Nat}{es:List (List AV)}{c:Array Value}
 (hrep:aj_ S es c.toList) (hlen:∀e∈es,e.length=sz) (hsize:c.size=cap * sz) (hcap:es.length≤cap) (hmax:cap≤maxLen)
 (hheap:w'.heap=w.heap.push (.cells c E (0,0))) (hos:w'.os=w.os) (htape:w'.tape=w.tape) (hout:w'.output=w.output) :
 ab_ { imm:=S.imm,rows:=S.rows++[⟨es.length,some w.heap.size,cap,sz⟩] } (h++[⟨E,sz,es⟩]) w' ∧
 a0_ S w { imm:=S.imm,rows:=S.rows++[⟨es.length,some w.heap.size,cap,sz⟩] } w' :=
 ab_.newRow m hlen ⟨c,by rw[hheap];simp,aj_.up (S.le_push _) _ _ hrep,hsize,hcap,hmax⟩ hheap hos htape hout
theorem io_(S:Sit)(n:Nat)(b cap sz:Nat)(R:List bV_):Rep { imm:=S.imm,rows:=R++[⟨n,some b,cap,sz⟩] } (.ptr R.length n 0 0) (.pointer (some ⟨b,0,none⟩)):=by
 simp[Rep]
theorem dj_(S:Sit)(n:Nat)(b cap sz:Nat)(R:List bV_):Rep { imm:=S.imm,rows:=R++[⟨n,some b,cap,sz⟩] } (.own R.length n) (.slice (some ⟨b,0,none⟩) n cap):=by
 simp[Rep,sliceAt]
theorem el_{S:Sit}{cs:List AV}{vs:List Value}(h:ae_ S cs vs):an_ S cs vs:=by
 have:=ae_.toPre (rest:=[]) h
 simpa using this
theorem fL_(S:Sit):∀(vs:List Value),ae_ S (vs.map .val) vs
 | []=>by simp[ae_]
 | v::vs=>by
  simp only[map_cons,ae_,Rep]
  exact⟨v,vs,rfl,rfl,fL_ S vs⟩
theorem gC_{S:Sit}{av:AV}{cs:List AV}{v:Value}(h:cellsOf av=some cs)(r:Rep S av v):ae_ S cs v.cells.toList∧cs.all AV.cell=true:=by
 have one:∀av:AV,(∀cs,av≠.agg cs)→cellsOf av=some cs→Rep S av v→ae_ S cs v.cells.toList∧cs.all AV.cell=true:=by
  intro av hne h r
  have h':(if av.cell then some [av]else none)=some cs:=by
   cases av<;>first|exact h|exact absurd rfl (hne _)
  split at h'
  ·rename_i hc
   simp at h'
   subst h'
   refine⟨?_,by simp[hc]⟩
   have:v.cells=#[v]:=by
    cases av with
    | val u =>
     simp only[Rep]at r;subst r
     cases v<;>first|rfl|simp[AV.cell,Value.oneCell']at hc
    | list tk sz es =>
     simp only[Rep]at r
     rcases r with ⟨_,_,_,_,e⟩|⟨_,_,_,_,e,_⟩<;>subst e<;>rfl
    | iptr cs=>simp only[Rep]at r;obtain⟨_,_,_,e,_⟩:=r;subst e;rfl
    | ptr l n i off=>simp only[Rep]at r;obtain⟨⟨_,e⟩,_⟩:=r;subst e;rfl
    | own l n=>simp only[Rep]at r;obtain⟨⟨_,_,_,e⟩,_⟩:=r;subst e;rfl
    | sub l n lo hi=>simp only[Rep]at r;obtain⟨⟨_,_,_,e⟩,_⟩:=r;subst e;rfl
    | mp l=>simp only[Rep]at r;obtain⟨⟨_,e⟩,_⟩:=r;subst e;rfl
    | fn f a b=>simp only[Rep]at r;obtain⟨_,_,e,_⟩:=r;subst e;rfl
    | agg cs=>exact absurd rfl (hne cs)
    | tup cs=>simp[AV.cell]at hc
    | undef=>simp[AV.cell]at hc
   rw[this]
   simp[ae_,r]
  ·simp at h'
 by_cases hne:∃cs',av=.agg cs'
 ·obtain⟨cs',e⟩:=hne
  subst e
  simp only[cellsOf]at h
  split at h
  ·rename_i hc
   simp at h;subst h
   simp only[Rep]at r
   obtain⟨vs,e,r⟩:=r
   subst e
   exact⟨r,hc⟩
  ·simp at h
 ·exact one av (fun cs' e=>hne ⟨cs',e⟩) h r
theorem iT_{S:Sit}:∀{cs:List AV} {vs:List Value},an_ S cs vs↔∀(j:Nat) (c:AV),cs[j]?=some c→∃v,vs[j]?=some v∧Rep S c v
 | [],vs=>by simp[an_]
 | c::cs,vs=>by
  constructor
  ·intro h j d hj
   simp only[an_]at h
   obtain⟨v,r,q,h1,h2⟩:=h
   subst q
   cases j with
   | zero=>simp at hj;subst hj;exact⟨v,rfl,h1⟩
   | succ j=>simp at hj;simpa using iT_.1 h2 j d hj
  ·intro h
   obtain⟨v,hv,h1⟩:=h 0 c rfl
   cases vs with
   | nil=>simp at hv
   | cons u r =>
    simp at hv;subst hv
    simp only[an_]
    exact⟨u,r,rfl,h1,iT_.2 fun j d hj=>by simpa using h (j+1) d (by simpa using hj)⟩
theorem bi_{S:Sit}{sz:Nat}:∀{es:List (List AV)} {vs:List Value},(∀e∈es,e.length=sz) →
 (aj_ S es vs↔∀(i:Nat) (e:List AV),es[i]?=some e→∀(j:Nat) (c:AV),e[j]?=some c→∃v,vs[i * sz+j]?=some v∧Rep S c v)
 | [],vs,_=>by simp[aj_]
 | d::es,vs,hl=>by
  have hd:d.length=sz:=hl d (by simp)
  have ih:=bi_ (S:=S) (sz:=sz) (es:=es) (vs:=vs.drop d.length) (fun e he=>hl e (by simp[he]))
  simp only[aj_,ih,iT_]
  constructor
  ·rintro⟨h1,h2⟩ i e he j c hc
   cases i with
   | zero=>simp at he;subst he;simpa using h1 j c hc
   | succ i =>
    simp at he
    obtain⟨v,hv,r⟩:=h2 i e he j c hc
    refine⟨v,?_,r⟩
    rw[getElem?_drop,hd]at hv
    rw[←hv]
    congr 1
    rw[Nat.add_mul];omega
  ·intro h
   refine⟨fun j c hc=>by simpa using h 0 d rfl j c hc,fun i e he j c hc=>?_⟩
   obtain⟨v,hv,r⟩:=h (i+1) e (by simpa using he) j c hc
   refine⟨v,?_,r⟩
   rw[getElem?_drop,hd,←hv]
   congr 1
   rw[Nat.add_mul];omega
theorem qY_{i j i' j' sz:Nat}(hj:j<sz)(hj':j'<sz)(h:i * sz+j=i' * sz+j'):i=i'∧j=j':=by
 have h1:(i * sz+j) / sz=i:=by
  rw[Nat.mul_comm,Nat.mul_add_div (by omega),Nat.div_eq_of_lt hj];omega
 have h2:(i' * sz+j') / sz=i':=by
  rw[Nat.mul_comm,Nat.mul_add_div (by omega),Nat.div_eq_of_lt hj'];omega
 have:i=i':=by rw[←h1,←h2,h]
 subst this
 exact⟨rfl,by omega⟩
theorem l2_(vs ns:List Value)(p q:Nat)(hp:p+ns.length≤vs.length) :
 (vs.take p++ns++vs.drop (p+ns.length))[q]?=if p≤q∧q<p+ns.length then ns[q-p]? else vs[q]?:=by
 have hp':(vs.take p).length=p:=by simp;omega
 by_cases h1:q<p
 ·rw[if_neg (by omega),append_assoc,getElem?_append_left (by omega),getElem?_take,if_pos h1]
 ·by_cases h2:q<p+ns.length
  ·rw[if_pos ⟨by omega,h2⟩,getElem?_append_left (by simp;omega),getElem?_append_right (by omega),hp']
  ·rw[if_neg (by omega),getElem?_append_right (by simp;omega),getElem?_drop]
   congr 1
   simp;omega
theorem oC_(vs ns:List AV)(p q:Nat)(hp:p+ns.length≤vs.length) :
 (vs.take p++ns++vs.drop (p+ns.length))[q]?=if p≤q∧q<p+ns.length then ns[q-p]? else vs[q]?:=by
 have hp':(vs.take p).length=p:=by simp;omega
 by_cases h1:q<p
 ·rw[if_neg (by omega),append_assoc,getElem?_append_left (by omega),getElem?_take,if_pos h1]
 ·by_cases h2:q<p+ns.length
  ·rw[if_pos ⟨by omega,h2⟩,getElem?_append_left (by simp;omega),getElem?_append_right (by omega),hp']
  ·rw[if_neg (by omega),getElem?_append_right (by simp;omega),getElem?_drop]
   congr 1
   simp;omega
theorem qO_{S:Sit}{sz:Nat}{es:List (List AV)}{vs ns:List Value}{i off:Nat}{e cs:List AV}(hl:∀e∈es,e.length=sz)(h:aj_ S es vs)(he:es[i]?=some e)
 (hc:ae_ S cs ns) (hoff:off+cs.length≤e.length) (hlen:es.length * sz≤vs.length) :
 aj_ S (es.set i (e.take off++cs++e.drop (off+cs.length))) (vs.take (i * sz+off)++ns++vs.drop (i * sz+off+ns.length))∧(∀d∈es.set i (e.take off++cs++e.drop (off+cs.length)),d.length=sz):=by
 have hn:=ae_.length hc
 have hesz:e.length=sz:=hl e (mem_of_getElem? he)
 have hi:i<es.length:=by rcases List.getElem?_eq_some_iff.1 he with ⟨q,_⟩;exact q
 have hbound:i * sz+off+ns.length≤vs.length:=by
  have:(i+1) * sz≤es.length * sz:=Nat.mul_le_mul_right _ hi
  rw[Nat.add_mul]at this;omega
 have hl':∀d∈es.set i (e.take off++cs++e.drop (off+cs.length)),d.length=sz:=by
  intro d hd
  rcases mem_or_eq_of_mem_set hd with q|q
  ·exact hl d q
  ·subst q;simp;omega
 refine⟨(bi_ hl').2 fun k d hd j c hcj=>?_,hl'⟩
 rw[l2_ _ _ _ _ hbound]
 have hjsz:j<sz:=by
  have:=hl' d (mem_of_getElem? hd)
  rcases List.getElem?_eq_some_iff.1 hcj with ⟨q,_⟩
  omega
 rw[getElem?_set]at hd
 by_cases hk:i=k
 ·subst hk
  simp[hi]at hd
  subst hd
  rw[←append_assoc,oC_ _ _ _ _ hoff]at hcj
  by_cases hin:off≤j∧j<off+cs.length
  ·rw[if_pos hin]at hcj
   rw[if_pos (by omega)]
   obtain⟨v,hv,r⟩:=ae_.get hc hcj
   refine⟨v,?_,r⟩
   rw[←hv];congr 1;omega
  ·rw[if_neg hin]at hcj
   rw[if_neg (by omega)]
   exact(bi_ hl).1 h i e he j c hcj
 ·simp[hk]at hd
  rw[if_neg]
  ·exact(bi_ hl).1 h k d hd j c hcj
  ·intro hq
   have:k=i∧j=(k * sz+j)-i * sz:=by
    have e2:k * sz+j=i * sz+(k * sz+j-i * sz):=by omega
    exact qY_ hjsz (by omega) e2
   omega
theorem ab_.putRow{S:Sit}{h:List Row}{w w':World}(m:ab_ S h w){l:Nat}{i:bV_}{r r':Row}{b:Nat}
 (h1:S.rows[l]?=some i) (h2:h[l]?=some r) (hb:i.blk=some b) (hes:r'.es.length=r.es.length) (hsz':r'.sz=r.sz) (hlen:∀e∈r'.es,e.length=r.sz)
 (hst:ax_ S w' b i r') (hold:∀k,k≠b→w'.heap[k]?=w.heap[k]?) (hsz:w'.heap.size=w.heap.size) (hos:w'.os=w.os) (htape:w'.tape=w.tape) (hout:w'.output=w.output) :
 ab_ S (h.set l r') w'∧a0_ S w S w':=by
 obtain⟨k1,k2,k3,k4⟩:=m.rows l i r h1 h2
 rw[hb]at k4
 have j1:=k4.1
 refine⟨⟨fun x y q=>?_,by simp[m.len],fun l' i' r' q1 q2=>?_,m.one⟩,⟨.refl S,hos,htape,hout,by omega,fun x hx ho=>?_,fun _ q=>.inl q,fun _ _ q=>.inl q⟩⟩
 ·have:x≠b:=fun e=>by subst e;rw[j1]at q;cases q
  rw[hold x this];exact m.imm x y q
 ·rw[getElem?_set]at q2
  by_cases e:l=l'
  ·subst e
   have hl:l<h.length:=by rcases List.getElem?_eq_some_iff.1 h2 with ⟨q,_⟩;exact q
   simp[hl]at q2
   subst q2
   rw[h1]at q1;simp at q1;subst q1
   refine⟨by rw[hes];exact k1,by rw[hsz'];exact k2,by rw[hsz'];exact hlen,?_⟩
   rw[hb]
   exact⟨j1,hst⟩
  ·simp[e]at q2
   obtain⟨n1,n2,n3,n4⟩:=m.rows l' i' r' q1 q2
   refine⟨n1,n2,n3,?_⟩
   cases hb':i'.blk with
   | none=>rw[hb']at n4;exact n4
   | some b' =>
    rw[hb']at n4
    have:b'≠b:=fun e'=>by subst e';exact e (m.one l l' i i' b' h1 q1 hb hb')
    exact⟨n4.1,n4.2.le (.refl S) (hold b' this)⟩
 ·exact hold x fun e=>ho ⟨l,i,h1,by rw[hb,e]⟩
theorem ab_.set{S:Sit}{h:List Row}{w w':World}(m:ab_ S h w){l:Nat}{i:bV_}{r:Row}{b:Nat}{E:TypeId}{c':Array Value}{es':List (List AV)}(hE:(r.E=.ty E∨r.E=.byt E)∨(r.E=.full E∧i.cap=i.len))
 (h1:S.rows[l]?=some i) (h2:h[l]?=some r) (hb:i.blk=some b) (hes:es'.length=r.es.length) (hrep:aj_ S es' c'.toList) (hlen:∀e∈es',e.length=r.sz) (hsize:c'.size=i.cap * i.sz)
 (hnew:∃fr,w'.heap[b]?=some (.cells c' E fr)∧frT r.E c' fr) (hold:∀k,k≠b→w'.heap[k]?=w.heap[k]?) (hsz:w'.heap.size=w.heap.size) (hos:w'.os=w.os) (htape:w'.tape=w.tape) (hout:w'.output=w.output) :
 ab_ S (h.set l { r with es:=es' }) w'∧a0_ S w S w':=by
 obtain⟨k1,k2,k3,k4⟩:=m.rows l i r h1 h2
 rw[hb]at k4
 have k5:=k4.2
 refine ab_.putRow (r':={ r with es:=es' }) m h1 h2 hb hes rfl hlen ?_ hold hsz hos htape hout
 obtain⟨fr,hnew,hfr⟩:=hnew
 rcases hE with (hE|hE)|⟨hE,hc⟩
 ·rw[ax_.ty hE]at k5
  obtain⟨d,_,_,_,j5,j6⟩:=k5
  rw[ax_.ty (r:={ r with es:=es' }) hE]
  rw[hE]at hfr
  simp only[frT]at hfr
  subst hfr
  exact⟨c',hnew,hrep,hsize,j5,j6⟩
 ·rw[ax_.byt hE]at k5
  obtain⟨d,_,_,_,_,j5,j6⟩:=k5
  rw[ax_.byt (r:={ r with es:=es' }) hE]
  rw[hE]at hfr
  exact⟨c',fr,⟨hnew,hfr⟩,hrep,hsize,j5,j6⟩
 ·rw[hE]at hfr
  simp only[frT]at hfr
  subst hfr
  rw[ax_.full hE]at k5
  obtain⟨⟨d,_,_,_,j5,j6⟩,_⟩:=k5
  rw[ax_.full (r:={ r with es:=es' }) hE]
  exact⟨⟨c',hnew,hrep,hsize,j5,j6⟩,hc⟩
def mi_(off:Nat)(cells:Array Value)(l:List (Value×Nat)):Array Value:=l.foldl (fun cs p=>cs.setIfInBounds (off+p.2) p.1) cells
theorem mz_(off:Nat):∀(l:List Value) (k:Nat) (cells:Array Value) (q:Nat),off+k+l.length≤cells.size →
 (mi_ off cells (l.zipIdx k))[q]?=if off+k≤q∧q<off+k+l.length then l[q-(off+k)]? else cells[q]?
 | [],k,cells,q,_=>by
  rw[if_neg (by simp)];rfl
 | v::l,k,cells,q,h=>by
  show(mi_ off (cells.setIfInBounds (off+k) v) (l.zipIdx (k+1)))[q]?=_
  rw[mz_ off l (k+1) _ q (by simp at h⊢;omega)]
  simp only[List.length_cons]at h⊢
  by_cases h1:off+(k+1)≤q∧q<off+(k+1)+l.length
  ·rw[if_pos h1,if_pos (by omega)]
   obtain⟨d,hd⟩:∃d,q-(off+k)=d+1:=⟨q-(off+k)-1,by omega⟩
   rw[hd,getElem?_cons_succ]
   congr 1;omega
  ·rw[if_neg h1]
   by_cases h2:q=off+k
   ·subst h2
    rw[if_pos (by omega)]
    have:off+k<cells.size:=by omega
    simp[this]
   ·rw[if_neg (by omega),Array.getElem?_setIfInBounds_ne (fun e=>h2 e.symm)]
theorem qT_(off:Nat)(xs cells:Array Value)(h:off+xs.size≤cells.size) :
 (xs.zipIdx.foldl (fun cs (c,j)=>cs.setIfInBounds (off+j) c) cells).toList=cells.toList.take off++xs.toList++cells.toList.drop (off+xs.toList.length):=by
 have e:xs.zipIdx.foldl (fun cs (c,j)=>cs.setIfInBounds (off+j) c) cells=mi_ off cells (xs.toList.zipIdx 0):=by
  rw[←Array.foldl_toList]
  simp[mi_,Array.toList_zipIdx]
 rw[e]
 apply ext_getElem?
 intro q
 rw[l2_ _ _ _ _ (by simpa using h)]
 have:=mz_ off xs.toList 0 cells q (by simpa using h)
 simpa using this
theorem sQ_{place:Nat→Option (Nat×Nat)}{cells:Array Value}{i off size:Nat}{v:Value}{rest:List (Nat×Value)}(hp:place i=some (off,size))(hs:v.cells.size=size)(hb:off+size≤cells.size) :
 ∃c',Instr.fill place cells ((i,v)::rest)=Instr.fill place c' rest∧c'.toList=cells.toList.take off++v.cells.toList++cells.toList.drop (off+v.cells.toList.length):=by
 refine⟨_,?_,qT_ off v.cells cells (by omega)⟩
 have h1:¬ (v.cells.size≠size):=by simp[hs]
 have h2:¬ (off+v.cells.size>cells.size):=by omega
 simp only[Instr.fill,hp]
 simp[h1,h2]
theorem lh_{S:Sit}{places:List (Nat×Nat)}{place:Nat→Option (Nat×Nat)}(hpl:∀i p,places[i]?=some p→place i=some p):∀(parts:List (Nat×AV)) (vals:List (Nat×Value)) (cs cs':List AV) (cells:Array Value),
 ae_ S cs cells.toList→(parts.map (·.1)=vals.map (·.1))→ae_ S (parts.map (·.2)) (vals.map (·.2))→co_ places cs parts=some cs' →
 ∃c',Instr.fill place cells vals=some c'∧ae_ S cs' c'.toList
 | [],vals,cs,cs',cells,hr,he,_,ha=>by
  simp at he
  have:vals=[]:=by simpa using he.symm
  subst this
  simp[co_]at ha;subst ha
  exact⟨cells,rfl,hr⟩
 | (i,v)::parts,[],cs,cs',cells,hr,he,_,ha=>by simp at he
 | (i,v)::parts,(i',x)::vals,cs,cs',cells,hr,he,hv,ha=>by
  simp only[map_cons,List.cons.injEq]at he
  obtain⟨e1,e2⟩:=he
  subst e1
  simp only[map_cons,ae_]at hv
  obtain⟨u,r,q,hv1,hv2⟩:=hv
  simp only[List.cons.injEq]at q
  obtain⟨q1,q2⟩:=q
  subst q1 q2
  simp only[co_]at ha
  split at ha
  ·rename_i off size ps hp hc
   split at ha
   ·rename_i hcond
    obtain⟨rc,_⟩:=gC_ hc hv1
    have hl:=ae_.length rc
    have hcl:=ae_.length hr
    simp only[Array.length_toList]at hl hcl
    obtain⟨c',hc1,hc2⟩:=sQ_ (rest:=vals) (cells:=cells) (hpl _ _ hp) (v:=x) (by omega) (by omega)
    rw[hc1]
    refine lh_ hpl parts vals _ cs' c' ?_ e2 hv2 ha
    rw[hc2,←hcond.1]
    have hA:ae_ S (cs.take off) (cells.toList.take off):=by
     have:=(an_.take (k:=off) (el_ hr)).toL
     rw[show(cs.take off).length=off by simp;omega]at this
     exact this
    have hB:ae_ S (cs.drop (off+ps.length)) (cells.toList.drop (off+x.cells.toList.length)):=by
     have:=(an_.drop (k:=off+ps.length) (el_ hr)).toL
     rw[ae_.length rc]
     rw[take_of_length_le (by simp;omega)]at this
     exact this
    have app:∀{A B:List AV} {X Y:List Value},ae_ S A X→ae_ S B Y→ae_ S (A++B) (X++Y):=by
     intro A
     induction A with
     | nil=>intro B X Y h1 h2;simp[ae_]at h1;subst h1;simpa using h2
     | cons a A ih =>
      intro B X Y h1 h2
      simp only[ae_]at h1
      obtain⟨v,r,e,g1,g2⟩:=h1
      subst e
      simp only[cons_append,ae_]
      exact⟨v,_,rfl,g1,ih g2 h2⟩
    exact app (app hA rc) hB
   ·simp at ha
  ·simp at ha
section
variable {P : Program} {S : Sit} {h : List Row} {w : World} {N : Nat} {t : Nat → AV} {a : Act} {o : Oper} {av : AV}
def fs_(N:Nat)(lo:LOp):Bool:=lo.operands.all (ag_ N)
theorem dO_{lo:LOp}(h:fs_ N lo=true):∀x∈lo.operands,ag_ N x=true:=by
 simpa[fs_]using h
theorem ef_{α:Type}{xs:Array α}{x:α}(h:xs.toList=[x]):xs=#[x]:=by cases xs;simp_all
theorem bJ_{α:Type}{xs:Array α}{x y:α}(h:xs.toList=[x,y]):xs=#[x,y]:=by cases xs;simp_all
theorem qy_{fs:List Field}:∀{pl:List (Nat×Nat)},(fs.mapM fun f=>(P.info? f.type).map fun i=>(f.offset,i.size))=some pl →
 (fs.mapM fun(f:Field)=>(do pure (f.offset,←sizeOf f.type):Sem (Nat×Nat))).run P w=.ok pl w:=by
 induction fs with
 | nil=>intro pl h;simp at h;subst h;rfl
 | cons f fs ih =>
  intro pl h
  rw[mapM_cons]at h
  cases hi:P.info? f.type with
  | none=>simp[hi]at h
  | some i =>
   simp only[hi,Option.map_some]at h
   cases hr:(fs.mapM fun f=>(P.info? f.type).map fun i=>(f.offset,i.size))with
   | none=>rw[hr]at h;simp at h
   | some pl' =>
    rw[hr]at h
    simp at h;subst h
    have:=ih hr
    rw[mapM_cons]
    simp only[Sem.run_bind,b9_ hi,Result.andThen_ok,Sem.run_pure,this]
theorem qq_{ty:TypeId}{fs:Array Field}{pl:List (Nat×Nat)}{i:TypeInfo}{z:Value}{parts:Array (Nat×Operand)}(hop:o.op=.build ty parts)(h1:P.underlying ty=some (.struct fs))
 (h2:(fs.toList.mapM fun f=>(P.info? f.type).map fun i=>(f.offset,i.size))=some pl) (h3:P.info? ty=some i) (h4:i.zero=some z) (hr:Rel S N t a) (hx:∀p∈parts.toList,ag_ N p.2=true)
 (hv:ai_ t h (.build z pl parts.toList)=some av):ce_ P S w a o av:=by
 simp only[ai_,Option.map_eq_some_iff]at hv
 obtain⟨cs',hf,e⟩:=hv
 subst e
 have hrl:ae_ S ((parts.toList.map fun p=>(p.1,ah_ t p.2)).map (·.2)) ((parts.toList.map fun p=>(p.1,a.eval p.2)).map (·.2)):=by
  have:=eG_ hr (xs:=parts.toList.map (·.2)) (by intro x hx';obtain⟨p,hp,e⟩:=mem_map.1 hx';subst e;exact hx p hp)
  simpa[map_map,Function.comp_def]using this
 unfold gi_ at hf
 obtain⟨c',hc1,hc2⟩:=lh_ (S:=S) (places:=pl) (place:=fun k=>pl[k]?) (by intro k p hk;exact hk) (parts.toList.map fun p=>(p.1,ah_ t p.2)) (parts.toList.map fun p=>(p.1,a.eval p.2)) _ cs' z.cells
  (fL_ S _) (by simp[map_map,Function.comp_def]) hrl hf
 refine⟨.agg c',?_,by simp only[Rep];exact⟨c',rfl,hc2⟩⟩
 have hm:(fs.mapM fun(f:Field)=>(do pure (f.offset,←sizeOf f.type):Sem (Nat×Nat))).run P w=.ok pl.toArray w:=by
  rw[Array.mapM_eq_mapM_toList]
  simp only[Sem.run_map,qy_ h2,Result.andThen_ok]
 simp only[execOp,hop,Instr.build,Sem.run_bind,zeroValue,eh_ h3,Result.andThen_ok,h4,Sem.run_pure,run_underlying h1,hm]
 have hp:(parts.map fun x=>(x.1,a.eval x.2)).toList=parts.toList.map fun p=>(p.1,a.eval p.2):=by simp
 rw[hp]
 simp only[getElem?_toArray]
 rw[hc1]
 rfl
theorem ej_{sz:Nat}{av:AV}{es:List (List AV)}{v:Value}(hm:ab_ S h w)(hs:dy_ h sz av=some es)(r:Rep S av v) :
 (∀e∈es,e.length=sz)∧((es=[]∧∃p c,v=.slice p 0 c)∨∃b off cap c E fr,v=.slice (some ⟨b,off,none⟩) es.length cap∧w.heap[b]?=some (.cells c E fr)∧off+es.length * sz≤c.size∧aj_ S es (c.toList.drop off)):=by
 unfold dy_ at hs
 split at hs
 ·rename_i tk s es'
  split at hs
  ·rename_i e
   simp at hs;subst hs
   simp only[Rep]at r
   rcases r with ⟨e0,_,e1⟩|⟨b,off,cap,c,e1,e2,e3,e4,e5,e6,e7⟩
   ·subst e0;exact⟨by simp,.inl ⟨rfl,e1⟩⟩
   ·obtain⟨E,fr,hb⟩:=hm.imm b c e3
    subst e
    exact⟨e4,.inr ⟨b,off,cap,c,E,fr,e1,hb,e6,aj_.up S.still_le _ _ e7⟩⟩
  ·simp at hs
 ·rename_i l n
  split at hs
  ·rename_i rw hl
   split at hs
   ·rename_i e
    simp at hs;subst hs
    simp only[Rep]at r
    obtain⟨_,i,e1,e2,e3⟩:=r
    obtain⟨k1,k2,k3,k4⟩:=hm.rows l i rw e1 hl
    have e3':=e3 (by omega)
    rw[←e.1]
    refine⟨k3,?_⟩
    cases hb:i.blk with
    | none =>
     rw[hb]at k4
     simp only[sliceAt,hb]at e3'
     rcases e3' with e3'|⟨_,p,e3'⟩
     ·exact .inl ⟨k4.1,_,_,e3'⟩
     ·exact .inl ⟨k4.1,_,_,e3'⟩
    | some b =>
     rw[hb]at k4
     simp only[sliceAt,hb,reduceCtorEq,false_and,or_false]at e3'
     by_cases hne:rw.es=[]
     ·refine .inl ⟨hne,some ⟨b,0,none⟩,i.cap,?_⟩
      rw[e3',k1,hne];rfl
     obtain⟨_,c,_,⟨_,j2,_⟩,j3,j4,j5,j6⟩:=k4.2.cells (.inl hne)
     refine .inr ⟨b,0,i.cap,c,_,_,by rw[e3',k1],j2,?_,by simpa using j3⟩
     rw[j4,←k1,←k2]
     simpa using Nat.mul_le_mul_right _ j5
   ·simp at hs
  ·simp at hs
 ·rename_i l n lo hi
  split at hs
  ·rename_i rw hl
   split at hs
   ·rename_i e
    simp at hs;subst hs
    simp only[Rep]at r
    obtain⟨_,i,e1,e2,e3⟩:=r
    obtain⟨k1,k2,k3,k4⟩:=hm.rows l i rw e1 hl
    obtain⟨g1,g2,g3⟩:=e3 (by omega)
    rw[←e.1]
    have hlen:((rw.es.take hi).drop lo).length=hi-lo:=by simp;omega
    refine⟨fun x hx=>k3 x (mem_of_mem_take (mem_of_mem_drop hx)),?_⟩
    by_cases hz:hi-lo=0
    ·refine .inl ⟨eq_nil_of_length_eq_zero (by omega),?_⟩
     rcases g3 with ⟨_,p,q⟩|⟨b,off,_,q,_⟩
     ·exact⟨p,0,q⟩
     ·exact⟨_,_,by rw[q,hz]⟩
    ·have hne:rw.es≠[]:=by intro q;have:=e.2;rw[q]at this;simp at this;omega
     rcases g3 with ⟨hb,p,q⟩|⟨b,off,hb,q,hoff⟩
     ·rw[hb]at k4;exact absurd k4.1 hne
     ·rw[hb]at k4
      obtain⟨_,c,_,⟨_,j2,_⟩,j3,j4,j5,j6⟩:=k4.2.cells (.inl hne)
      rw[hoff (by omega)]at q
      refine .inr ⟨b,lo * i.sz,i.cap-lo,c,_,_,by rw[q,hlen],j2,?_,?_⟩
      ·rw[hlen,j4,←k2,←Nat.add_mul]
       exact Nat.mul_le_mul_right _ (by omega)
      ·rw[k2]
       exact aj_.drop (aj_.take (k:=hi) j3) (sz:=rw.sz) (fun x hx=>k3 x (mem_of_mem_take hx))
   ·simp at hs
  ·simp at hs
 ·simp at hs
theorem oe_:∀{es:List (List AV)} {bs:List UInt8},es.mapM fj_=some bs→bs.length=es.length∧∀(j:Nat) (b:UInt8),bs[j]?=some b→es[j]?=some [.val (.int .u8 (b.toNat:Int))]
 | [],bs,h=>by simp at h;subst h;simp
 | e::es,bs,h=>by
  rw[mapM_cons]at h
  cases h1:fj_ e with
  | none=>simp[h1]at h
  | some b =>
   cases h2:es.mapM fj_ with
   | none=>simp[h1,h2]at h
   | some bs' =>
    simp[h1,h2]at h
    subst h
    obtain⟨k1,k2⟩:=oe_ h2
    refine⟨by simp[k1],fun j c hj=>?_⟩
    cases j with
    | zero =>
     simp at hj;subst hj
     unfold fj_ at h1
     split at h1
     ·rename_i n
      split at h1
      ·rename_i hn
       simp only[Option.some.injEq]at h1
       subst h1
       show some [AV.val (Value.int .u8 n)]=some [AV.val (Value.int .u8 ((UInt8.ofNat n.toNat).toNat:Int))]
       rw[hn]
      ·simp at h1
     ·simp at h1
    | succ j=>simp at hj⊢;exact k2 j c hj
theorem qL_{src dst e:TypeId}{x:Operand}(hop:o.op=.convert src dst x)(hs:P.underlying src=some (.slice e))(he:P.underlying e=some (.int .u8))(hd:P.underlying dst=some .string)(hm:ab_ S h w)(hr:Rel S N t a)(hx:ag_ N x=true)
 (hv:ai_ t h (.toStr x)=some av):ce_ P S w a o av:=by
 have rx:=hr.eval hx
 simp only[ai_]at hv
 cases hsrc:dy_ h 1 (ah_ t x)with
 | none=>rw[hsrc]at hv;simp at hv
 | some es =>
  rw[hsrc]at hv
  simp only[Option.map_eq_some_iff]at hv
  obtain⟨bs,hb,e1⟩:=hv
  subst e1
  obtain⟨hl,hc⟩:=oe_ hb
  obtain⟨h1,h2⟩:=ej_ hm hsrc rx
  have run:∀v,(convert src dst (a.eval x)).run P w=.ok v w→(execOp a.eval o).run P w=.ok (.value v) w:=by
   intro v e
   simp only[execOp,hop,Sem.run_bind,e,Result.andThen_ok]
   rfl
  rcases h2 with ⟨e0,p,c,ev⟩|⟨b,off,cap,c,E,fr,ev,hw,hsz,hrep⟩
  ·subst e0
   simp at hb;subst hb
   refine⟨.string ⟨#[]⟩,run _ ?_,by simp[Rep]⟩
   rw[ev]
   cases p with
   | none=>rw[run_convert_bytes_string w src dst e none 0 c hs he hd];rfl
   | some ad=>exact run_convert_bytes_back w src dst e ad c [] hs he hd (by simp)
  ·refine⟨.string ⟨bs.toArray⟩,run _ ?_,by simp[Rep]⟩
   rw[ev,←hl]
   refine run_convert_bytes_back w src dst e ⟨b,off,none⟩ cap bs hs he hd ?_
   intro j hj
   have hj':=hc j bs[j] (getElem?_eq_getElem hj)
   obtain⟨v,hv1,hv2⟩:=(bi_ h1).1 hrep j _ hj' 0 _ rfl
   simp only[Rep]at hv2
   subst hv2
   simp only[Nat.mul_one,Nat.add_zero,getElem?_drop,Array.getElem?_toList]at hv1
   by_cases h0:j=0
   ·subst h0
    simp only[Nat.add_zero]at hv1
    simp[World.cell?,Addr.add,hw,hv1]
   ·simp[World.cell?,Addr.add,h0,hw,hv1]
theorem iA_:∀(arr:List MapEntry) (ents:List (Int×Value)) (n:Int) (j:Nat),arr.map (fun e=>(e.key,e.val))=ents.map (fun p=>(Value.int .i64 p.1,p.2)) →
 ∃f,Instr.findNow (.int .i64) (.int .i64 n) arr j=some f∧f.map (·.2)=ents.lookup n∧∀i v,f=some (i,v)→∃(k:Nat) (e:MapEntry),i=j+k∧arr[k]?=some e∧e.key=.int .i64 n ∧
  (∀(v':Value),(arr.modify k fun e=>{ e with key:=.int .i64 n,val:=v' }).map (fun e=>(e.key,e.val))=(ew_ ents n v').map fun p=>(Value.int .i64 p.1,p.2))
 | [],ents,n,j,h=>by
  have:ents=[]:=by cases ents<;>simp_all
  subst this
  exact⟨none,rfl,rfl,by simp⟩
 | e::arr,[],n,j,h=>by simp at h
 | e::arr,(k,u)::ents,n,j,h=>by
  simp only[map_cons,List.cons.injEq,Prod.mk.injEq]at h
  obtain⟨⟨h1,h2⟩,h3⟩:=h
  simp only[Instr.findNow,h1,Instr.sameNow,if_true]
  by_cases hk:n=k
  ·subst hk
   refine⟨some (j,e.val),by simp,by simp[List.lookup,h2],?_⟩
   intro i v q
   simp only[Option.some.injEq,Prod.mk.injEq]at q
   refine⟨0,e,by omega,rfl,h1,fun v'=>?_⟩
   simp[ew_,h3]
  ·have hb:(n==k)=false:=by simpa using hk
   obtain⟨f,f1,f2,f3⟩:=iA_ arr ents n (j+1) h3
   refine⟨f,by simp[hb,f1],by simp[List.lookup,hb,f2],?_⟩
   intro i v q
   obtain⟨c,e',c1,c2,c3,c4⟩:=f3 i v q
   refine⟨c+1,e',by omega,by simpa using c2,c3,fun v'=>?_⟩
   have hk':¬ k=n:=fun e=>hk e.symm
   simp only[modify_succ_cons,map_cons,ew_,if_neg hk',h1,h2,c4 v']
theorem fP_{kt:TypeId}(hk:P.underlying kt=some (.int .i64))(q:Bool)(d:Nat)(n:Int):(Instr.checkKey q (d+1) kt (.int .i64 n)).run P w=.ok () w:=by
 rw[Instr.checkKey]
 simp only[Sem.run_bind,run_underlying hk,Result.andThen_ok]
 rfl
theorem p3_{ty kt e:TypeId}{i:TypeInfo}{z:Value}{x k:Operand}{q:Bool}(hop:o.op=.lookup ty x k q)(hu:P.underlying ty=some (.map kt e))(hk:P.underlying kt=some (.int .i64))(hi:P.info? e=some i)(hz:i.zero=some z)
 (hm:ab_ S h w) (hr:Rel S N t a) (hx:ag_ N x=true) (hkk:ag_ N k=true) (hv:ai_ t h (.lookup z q x k)=some av):ce_ P S w a o av:=by
 have rx:=hr.eval hx
 have rk:=hr.eval hkk
 simp only[ai_]at hv
 split at hv
 ·rename_i l n ex ek
  rw[ex]at rx;rw[ek]at rk
  simp only[Rep]at rx rk
  obtain⟨_,inf,e1,e3⟩:=rx
  split at hv
  ·rename_i r hl
   split at hv
   ·rename_i ents hE
    simp only[Option.some.injEq]at hv
    obtain⟨k1,k2,k3,k4⟩:=hm.rows l inf r e1 hl
    have hes:r.es=[]:=by
     cases hb:inf.blk with
     | none=>rw[hb]at k4;exact k4.1
     | some b=>rw[hb]at k4;have:=k4.2;unfold ax_ at this;rw[hE]at this;exact this.1
    obtain⟨b,hb,hxx⟩:=e3 (by rw[k1,hes];rfl)
    rw[hb]at k4
    have hst:=k4.2
    unfold ax_ at hst
    rw[hE]at hst
    obtain⟨_,_,arr,clock,hh,hents⟩:=hst
    obtain⟨f,f1,f2,_⟩:=iA_ arr.toList ents n 0 hents
    have hrun:∀v,(match f with|some (_,u)=>(u,true)|none=>(z,false))=v→(execOp a.eval o).run P w=.ok (.value (if q then .tuple #[v.1,.bool v.2]else v.1)) w:=by
     intro v hv
     subst hv
     have hg:(getObj b).run P w=.ok (.map arr clock) w:=by simp[getObj,Sem.run,hh]
     have hck:∀q,(Instr.checkKey q 10000 kt (.int .i64 n)).run P w=.ok () w:=fun q=>fP_ hk q 9999 n
     have hfk:(Instr.findKey kt (.int .i64 n) arr.toList).run P w=.ok f w:=by simp[Instr.findKey,run_underlying hk,f1]
     have hzz:(zeroValue e).run P w=.ok z w:=by simp[zeroValue,eh_ hi,hz]
     cases f with
     | none=>simp[execOp,hop,Instr.lookup,run_underlying hu,hxx,rk,hg,hck,hfk,hzz]
     | some p=>simp[execOp,hop,Instr.lookup,run_underlying hu,hxx,rk,hg,hck,hfk]
    refine⟨_,hrun _ rfl,?_⟩
    subst hv
    cases f with
    | none =>
     simp only[Option.map_none]at f2
     rw[←f2]
     cases q<;>simp[Rep,ae_]
    | some p =>
     simp only[Option.map_some]at f2
     rw[←f2]
     cases q<;>simp[Rep,ae_]
   ·simp at hv
  ·simp at hv
 ·simp at hv
theorem j0_{S:Sit}{as0 bs0:List AV}{xs ys:Array Value}(hx:ae_ S as0 xs.toList)(hy:ae_ S bs0 ys.toList)(d:Nat):∀(fs:List Field) (i:Nat) (ks:List Nat) (r:Bool),e3_ P fs i=some ks→ea_ ks (as0.drop i) (bs0.drop i)=some r →
 (Op.eqFields (d+1) xs ys fs).run P w=.ok r w
 | [],i,ks,r,hk,he=>by
  simp only[e3_,Option.some.injEq]at hk
  subst hk
  simp only[ea_,Option.some.injEq]at he
  subst he
  simp[Op.eqFields]
 | f::fs,i,ks,r,hk,he=>by
  unfold e3_ at hk
  split at hk
  ·rename_i ho
   split at hk
   ·rename_i k ks' h1 h2
    simp only[Option.some.injEq]at hk
    subst hk
    cases hda:as0.drop i with
    | nil=>rw[hda]at he;simp[ea_]at he
    | cons a ra =>
     cases hdb:bs0.drop i with
     | nil=>rw[hda,hdb]at he;simp[ea_]at he
     | cons b rb =>
      rw[hda,hdb]at he
      simp only[ea_]at he
      split at he
      ·rename_i p q h3 h4
       simp only[Option.some.injEq]at he
       have hra:as0.drop (i+1)=ra:=by rw[←tail_drop,hda];rfl
       have hrb:bs0.drop (i+1)=rb:=by rw[←tail_drop,hdb];rfl
       have ih:=j0_ hx hy d fs (i+1) ks' q h2 (by rw[hra,hrb];exact h4)
       unfold n3_ at h1
       split at h1
       ·simp at h1
       ·rename_i hname
        have hty:eC_ P f.type=some none∧((k=0∧∃kk,P.underlying f.type=some (.int kk))∨(k=1∧P.underlying f.type=some .string)∨(k=2∧P.underlying f.type=some .bool)):=by
         split at h1
         ·rename_i kk hu
          simp only[Option.some.injEq]at h1;subst h1
          exact⟨by simp[eC_,hu],.inl ⟨rfl,kk,hu⟩⟩
         ·rename_i hu
          simp only[Option.some.injEq]at h1;subst h1
          exact⟨by simp[eC_,hu],.inr (.inl ⟨rfl,hu⟩)⟩
         ·rename_i hu
          simp only[Option.some.injEq]at h1;subst h1
          exact⟨by simp[eC_,hu],.inr (.inr ⟨rfl,hu⟩)⟩
         ·simp at h1
        obtain⟨hagg,hkind⟩:=hty
        obtain⟨va,pa,ra'⟩:=i7_ (P:=P) (w:=w) (off:=f.offset) hagg hx (av:=a) (by rw[ho,hda];rfl)
        obtain⟨vb,pb,rb'⟩:=i7_ (P:=P) (w:=w) (off:=f.offset) hagg hy (av:=b) (by rw[ho,hdb];rfl)
        have heq:(Op.equalIn (d+1) f.type va vb).run P w=.ok p w:=by
         unfold hC_ at h3
         split at h3
         ·rename_i k1 m k2 n
          simp only[Rep]at ra' rb'
          subst ra' rb'
          split at h3
          ·rename_i e;subst e
           simp only[Option.some.injEq]at h3;subst h3
           rcases hkind with ⟨_,kk,hu⟩|⟨e,_⟩|⟨e,_⟩
           ·exact run_equalIn_int w d f.type _ kk _ _ hu
           ·cases e
           ·cases e
          ·simp at h3
         ·simp only[Rep]at ra' rb'
          subst ra' rb'
          simp only[Option.some.injEq]at h3;subst h3
          rcases hkind with ⟨e,_⟩|⟨_,hu⟩|⟨e,_⟩
          ·cases e
          ·exact run_equalIn_string w d f.type _ _ hu
          ·cases e
         ·simp only[Rep]at ra' rb'
          subst ra' rb'
          simp only[Option.some.injEq]at h3;subst h3
          rcases hkind with ⟨e,_⟩|⟨e,_⟩|⟨_,hu⟩
          ·cases e
          ·cases e
          ·exact run_equalIn_bool' w d f.type _ _ hu
         ·simp at h3
        simp only[Op.eqFields,ne_eq,hname,not_false_eq_true,if_true,Sem.run_bind,pa,pb,heq,Result.andThen_ok]
        cases p
        ·simp at he;subst he
         simp
        ·simp at he;subst he
         simpa using ih
      ·simp at he
   ·simp at hk
  ·simp at hk
theorem rX_{op:BinOp}{ty ty':TypeId}{x y:Operand}{neg:Bool}{ks:List Nat}(hop:o.op=.binOp op ty x y ty')(hn:kc_ P op ty=some (neg,ks))(hr:Rel S N t a)(hx:ag_ N x=true)(hy:ag_ N y=true)(hv:ai_ t h (.eqSt neg ks x y)=some av):ce_ P S w a o av:=by
 have rx:=hr.eval hx
 have ry:=hr.eval hy
 simp only[ai_]at hv
 split at hv
 ·rename_i as bs ex ey
  rw[ex]at rx;rw[ey]at ry
  simp only[Rep]at rx ry
  obtain⟨xs,x1,x2⟩:=rx
  obtain⟨ys,y1,y2⟩:=ry
  simp only[Option.map_eq_some_iff]at hv
  obtain⟨r,hr1,hr2⟩:=hv
  subst hr2
  unfold kc_ at hn
  split at hn
  ·rename_i fs hu
   split at hn
   ·simp at hn
   ·rename_i hg
    simp only[Bool.or_eq_true,not_or,Bool.not_eq_true]at hg
    have hfs:P.fieldsOf ty=fs:=by unfold Program.fieldsOf;rw[hu]
    have hrun:∀ks',e3_ P fs.toList 0=some ks'→ea_ ks' as bs=some r→(Op.equalIn 10000 ty (.agg xs) (.agg ys)).run P w=.ok r w:=by
     intro ks' h1 h2
     rw[run_equalIn_agg w 9999 ty xs ys (by rw[hfs];exact hu) hg.1,hfs]
     exact j0_ x2 y2 9998 fs.toList 0 ks' r h1 (by simpa using h2)
    split at hn
    ·rename_i ks' h1
     simp only[Option.some.injEq,Prod.mk.injEq]at hn
     obtain⟨rfl,rfl⟩:=hn
     exact⟨.bool r,by simp[execOp,hop,x1,y1,run_eqGuard_agg w .eql ty x y xs ys hg.2,run_eql_struct,hrun _ h1 hr1],by simp[Rep]⟩
    ·rename_i ks' h1
     simp only[Option.some.injEq,Prod.mk.injEq]at hn
     obtain⟨rfl,rfl⟩:=hn
     exact⟨.bool (!r),by simp[execOp,hop,x1,y1,run_eqGuard_agg w .neq ty x y xs ys hg.2,run_neq_struct,hrun _ h1 hr1],by simp[Rep]⟩
    ·simp at hn
  ·simp at hn
 ·simp at hv
theorem mG_{lo:LOp}(hlow:aw_ P o.op=some lo)(hok:fs_ N lo=true)(hm:ab_ S h w)(hr:Rel S N t a)(hv:ai_ t h lo=some av):ce_ P S w a o av:=by
 have hmem:=dO_ hok
 cases hop:o.op with
 | move x =>
  simp only[hop,aw_,Option.some.injEq]at hlow;subst hlow
  simp only[ai_,Option.some.injEq]at hv;subst hv
  exact on_ (.inl hop) hr (hmem x (by simp[LOp.operands]))
 | assign x =>
  simp only[hop,aw_,Option.some.injEq]at hlow;subst hlow
  simp only[ai_,Option.some.injEq]at hv;subst hv
  exact on_ (.inr hop) hr (hmem x (by simp[LOp.operands]))
 | pick c x y =>
  simp only[hop,aw_,Option.some.injEq]at hlow;subst hlow
  exact sg_ hop hr (hmem c (by simp[LOp.operands])) (hmem x (by simp[LOp.operands])) (hmem y (by simp[LOp.operands])) hv
 | load ty x =>
  simp only[hop,aw_,Option.map_eq_some_iff]at hlow
  obtain⟨n,hn,e⟩:=hlow;subst e
  exact mo_ hop hn hm hr (hmem x (by simp[LOp.operands])) hv
 | fieldAddr s x f =>
  simp only[hop,aw_]at hlow
  split at hlow
  ·rename_i fs h1
   split at hlow
   ·rename_i fl h2
    simp only[Option.bind_eq_some_iff]at hlow
    obtain⟨i,h3,h4⟩:=hlow
    split at h4
    ·simp at h4
    ·rename_i h5
     simp only[Option.some.injEq]at h4;subst h4
     exact mk_ hop h1 h2 h3 h5 rfl hr (hmem x (by simp[LOp.operands])) hv hm
   ·simp at hlow
  ·simp at hlow
 | field s x f =>
  simp only[hop,aw_]at hlow
  split at hlow
  ·rename_i fs h1
   split at hlow
   ·rename_i fl h2
    simp only[Option.map_eq_some_iff]at hlow
    obtain⟨n,h3,h4⟩:=hlow
    subst h4
    exact qX_ hop h1 h2 h3 rfl hr (hmem x (by simp[LOp.operands])) hv
   ·simp at hlow
  ·simp at hlow
 | indexAddr ty x i =>
  simp only[hop,aw_]at hlow
  split at hlow
  ·rename_i e h1
   simp only[Option.map_eq_some_iff]at hlow
   obtain⟨j,h3,h4⟩:=hlow
   subst h4
   exact lT_ hop h1 h3 hm hr (hmem x (by simp[LOp.operands])) (hmem i (by simp[LOp.operands])) hv
  ·simp at hlow
 | index ty x i =>
  simp only[hop,aw_]at hlow
  split at hlow
  ·rename_i h1
   simp only[Option.some.injEq]at hlow;subst hlow
   exact nk_ hop h1 hr (hmem x (by simp[LOp.operands])) (hmem i (by simp[LOp.operands])) hv
  ·simp at hlow
 | binOp op ty x y ty' =>
  simp only[hop,aw_]at hlow
  split at hlow
  ·simp only[Option.some.injEq]at hlow;subst hlow;simp[ai_]at hv
  ·split at hlow
   ·rename_i neg hn
    simp only[Option.some.injEq]at hlow;subst hlow
    cases hv
   split at hlow
   ·rename_i neg ks hn
    simp only[Option.some.injEq]at hlow;subst hlow
    exact rX_ hop hn hr (hmem x (by simp[LOp.operands])) (hmem y (by simp[LOp.operands])) hv
   simp only[Option.some.injEq]at hlow;subst hlow
   exact s8_ hop rfl hr (hmem x (by simp[LOp.operands])) (hmem y (by simp[LOp.operands])) hv
 | unOp op ty x =>
  simp only[hop,aw_,Option.some.injEq]at hlow;subst hlow
  exact uO_ hop hr (hmem x (by simp[LOp.operands])) hv
 | extract x i =>
  simp only[hop,aw_,Option.some.injEq]at hlow;subst hlow
  exact oD_ hop hr (hmem x (by simp[LOp.operands])) hv
 | makeFunc fn first caps =>
  cases fn with
  | func f =>
   simp only[hop,aw_,Option.some.injEq]at hlow;subst hlow
   simp only[ai_,Option.some.injEq]at hv;subst hv
   exact pk_ hop hr (fun x hx=>hmem x (by simp[LOp.operands];simp at hx;exact .inl hx)) (fun x hx=>hmem x (by simp[LOp.operands];simp at hx;exact .inr hx))
  | _=>simp[hop,aw_]at hlow
 | nilCheck x =>
  simp only[hop,aw_,Option.some.injEq]at hlow;subst hlow
  exact na_ hop hm hr (hmem x (by simp[LOp.operands])) hv
 | convert s d x =>
  simp only[hop,aw_]at hlow
  split at hlow
  ·rename_i q k h0 h1
   simp only[Option.some.injEq]at hlow;subst hlow
   exact os_ hop ⟨q,h0⟩ h1 hr (hmem x (by simp[LOp.operands])) hv
  ·rename_i e h0 h1
   split at hlow
   ·rename_i he
    simp only[Option.some.injEq]at hlow;subst hlow
    exact qL_ hop h0 (n9_ he) h1 hm hr (hmem x (by simp[LOp.operands])) hv
   ·simp at hlow
  ·split at hlow
   ·simp only[Option.some.injEq]at hlow;subst hlow;simp[ai_]at hv
   ·simp at hlow
  ·simp at hlow
 | slice ty x lo hi mx =>
  cases mx with
  | some _ =>
   cases lo with
   | none =>
    simp only[hop,aw_]at hlow
    split at hlow
    ·split at hlow
     ·simp only[Option.map_eq_some_iff]at hlow
      obtain⟨_,_,e⟩:=hlow;subst e;simp[ai_]at hv
     ·simp at hlow
    ·simp at hlow
   | some _ =>
    cases hi with
    | none=>simp[hop,aw_]at hlow
    | some _ =>
     simp only[hop,aw_]at hlow
     split at hlow
     ·simp only[Option.map_eq_some_iff]at hlow
      obtain⟨_,_,e⟩:=hlow;subst e;simp[ai_]at hv
     ·simp at hlow
  | none =>
   simp only[hop,aw_]at hlow
   split at hlow
   ·rename_i h1
    simp only[Option.some.injEq]at hlow;subst hlow
    exact ni_ hop h1 hr (hmem x (by simp[LOp.operands])) (fun y hy=>hmem y (by simp at hy;simp[LOp.operands,hy])) (fun y hy=>hmem y (by simp at hy;simp[LOp.operands,hy])) hv
   ·rename_i e h1
    simp only[Option.map_eq_some_iff]at hlow
    obtain⟨j,h3,h4⟩:=hlow
    subst h4
    exact oP_ hop h1 h3 hm hr (hmem x (by simp[LOp.operands])) (fun y hy=>hmem y (by simp at hy;simp[LOp.operands,hy])) (fun y hy=>hmem y (by simp at hy;simp[LOp.operands,hy])) hv
   ·simp at hlow
 | call c =>
  simp only[hop,aw_,di_]at hlow
  split at hlow
  ·split at hlow
   ·simp only[Option.some.injEq]at hlow;subst hlow;simp[ai_]at hv
   ·split at hlow
    ·split at hlow
     ·simp only[Option.some.injEq]at hlow;subst hlow;simp[ai_]at hv
     ·simp at hlow
    ·simp at hlow
  ·simp only[Option.some.injEq]at hlow;subst hlow;simp[ai_]at hv
  ·rename_i hc
   split at hlow
   ·rename_i x ty ha ht
    split at hlow
    ·rename_i hu
     simp only[Option.some.injEq]at hlow;subst hlow
     exact qk_ hop hc (ef_ ha) (ef_ ht) hu hr (hmem x (by simp[LOp.operands])) hv
    ·rename_i e hu
     simp only[Option.some.injEq]at hlow;subst hlow
     exact qw_ hop hc (ef_ ha) (ef_ ht) hu hm hr (hmem x (by simp[LOp.operands])) hv
    ·simp at hlow
   ·simp at hlow
  ·split at hlow
   ·split at hlow
    ·split at hlow
     ·split at hlow
      ·split at hlow
       ·split at hlow
        ·simp only[Option.some.injEq]at hlow;subst hlow;simp[ai_]at hv
        ·simp at hlow
       ·simp at hlow
      ·simp at hlow
     ·simp at hlow
    ·split at hlow
     ·split at hlow
      ·split at hlow
       ·split at hlow
        ·simp only[Option.some.injEq]at hlow;subst hlow;simp[ai_]at hv
        ·simp at hlow
       ·simp at hlow
      ·simp at hlow
     ·split at hlow
      ·split at hlow
       ·split at hlow
        ·simp only[Option.some.injEq]at hlow;subst hlow;simp[ai_]at hv
        ·simp at hlow
       ·simp at hlow
      ·simp at hlow
     ·simp at hlow
   ·simp at hlow
  ·split at hlow
   ·split at hlow
    ·split at hlow
     ·split at hlow
      ·split at hlow
       ·simp only[Option.some.injEq]at hlow;subst hlow;simp[ai_]at hv
       ·simp at hlow
      ·simp at hlow
     ·simp at hlow
    ·simp at hlow
   ·simp at hlow
  ·split at hlow
   ·split at hlow
    ·simp only[Option.some.injEq]at hlow;subst hlow;simp[ai_]at hv
    ·simp at hlow
   ·simp at hlow
  ·split at hlow
   ·split at hlow
    ·split at hlow
     ·split at hlow
      ·simp only[Option.some.injEq]at hlow;subst hlow;simp[ai_]at hv
      ·simp at hlow
     ·simp at hlow
    ·simp at hlow
   ·simp at hlow
  ·rename_i hc
   split at hlow
   ·rename_i x y ha
    simp only[Option.some.injEq]at hlow;subst hlow
    simp only[ai_]at hv;split at hv<;>cases hv
   ·simp at hlow
  ·rename_i hc
   split at hlow
   ·rename_i x y ha
    simp only[Option.some.injEq]at hlow;subst hlow
    simp only[ai_]at hv;split at hv<;>cases hv
   ·simp at hlow
  ·simp at hlow
 | makeMap ty r =>
  cases r with
  | some _=>simp[hop,aw_]at hlow
  | none =>
   simp only[hop,aw_]at hlow
   split at hlow
   ·split at hlow
    ·simp only[Option.some.injEq]at hlow;subst hlow;simp[ai_]at hv
    ·simp at hlow
   ·simp at hlow
 | lookup ty x k q =>
  simp only[hop,aw_]at hlow
  split at hlow
  ·rename_i kt e hu
   split at hlow
   ·rename_i hk
    simp only[Option.bind_eq_some_iff]at hlow
    obtain⟨i,hi,z,hz,e1⟩:=hlow
    split at e1
    ·simp only[Option.some.injEq]at e1;subst e1
     exact p3_ hop hu hk hi hz hm hr (hmem x (by simp[LOp.operands])) (hmem k (by simp[LOp.operands])) hv
    ·simp at e1
   ·simp at hlow
  ·simp at hlow
 | mapUpdate ty m k v =>
  simp only[hop,aw_]at hlow
  split at hlow
  ·split at hlow
   ·simp only[Option.some.injEq]at hlow;subst hlow;simp[ai_]at hv
   ·simp at hlow
  ·simp at hlow
 | build ty parts =>
  simp only[hop,aw_]at hlow
  split at hlow
  ·rename_i fs h1
   split at hlow
   ·rename_i pl h2
    simp only[Option.bind_eq_some_iff,Option.map_eq_some_iff]at hlow
    obtain⟨i,h3,z,h4,e⟩:=hlow
    subst e
    exact qq_ hop h1 h2 h3 h4 hr (fun p hp=>hmem p.2 (by simp only[LOp.operands];exact mem_map.2 ⟨p,hp,rfl⟩)) hv
   ·simp at hlow
  ·simp at hlow
 | alloc E =>
  simp only[hop,aw_,Option.bind_eq_some_iff,Option.map_eq_some_iff]at hlow
  obtain⟨i,_,z,_,e⟩:=hlow;subst e;simp[ai_]at hv
 | box E x=>simp only[hop,aw_,Option.some.injEq]at hlow;subst hlow;simp[ai_]at hv
 | store ty x y =>
  simp only[hop,aw_,Option.map_eq_some_iff]at hlow
  obtain⟨i,_,e⟩:=hlow;subst e;simp[ai_]at hv
 | makeSlice ty l c =>
  simp only[hop,aw_]at hlow
  split at hlow
  ·simp only[Option.bind_eq_some_iff]at hlow
   obtain⟨i,_,z,_,e⟩:=hlow
   split at e
   ·simp only[Option.some.injEq]at e;subst e;simp[ai_]at hv
   ·simp at e
  ·simp at hlow
 | buildSlice ty len parts =>
  simp only[hop,aw_]at hlow
  split at hlow
  ·simp only[Option.bind_eq_some_iff]at hlow
   obtain⟨i,_,z,_,e⟩:=hlow
   split at e
   ·simp only[Option.some.injEq]at e;subst e;simp[ai_]at hv
   ·simp at e
  ·simp at hlow
 | _=>simp[hop,aw_]at hlow
end
section
variable {P : Program} {S : Sit} {h : List Row} {w : World} {N : Nat} {t : Nat → AV} {a : Act} {o : Oper} {K : AV → List Row → Prop} {next : Act → World → Prop} {Q : Exit → Act → World → Prop}
def bI_(S:Sit)(w:World)(a:Act)(o:Oper)(K:AV→List Row→Prop)(next:Act→World→Prop):Prop :=
 ∀v av S' h' w',a0_ S w S' w'→ab_ S' h' w'→Rep S' av v→K av h'→next (a.put o.dst v) w'
theorem lf_{av:AV}(g:ce_ P S w a o av)(hm:ab_ S h w)(hk:K av h)(hh:bI_ S w a o K next):o.wp P a w next Q:=by
 obtain⟨v,h1,h2⟩:=g
 unfold Oper.wp
 rw[h1]
 exact hh v av S h w (a0_.refl _ _) hm h2 hk
theorem a2_{v:Value}{w':World}(hr:(execOp a.eval o).run P w=.ok (.value v) w')(hn:next (a.put o.dst v) w'):o.wp P a w next Q:=by
 unfold Oper.wp;rw[hr];exact hn
theorem hb_{w':World}(hr:(execOp a.eval o).run P w=.ok .skip w')(hn:next (a.put o.dst Go.undef) w'):o.wp P a w next Q:=by
 unfold Oper.wp;rw[hr];exact hn
theorem ug_{E:TypeId}{i:TypeInfo}{z:Value}(hop:o.op=.alloc E)(hi:P.info? E=some i)(hz:i.zero=some z)(hm:ab_ S h w)
 (hk:K (.ptr h.length 1 0 0) (h++[⟨E,z.cells.size,[z.cells.toList.map .val]⟩])) (hh:bI_ S w a o K next):o.wp P a w next Q:=by
 have hr:(execOp a.eval o).run P w=.ok (.value (.pointer (some ⟨w.heap.size,0,none⟩))) (w.alloc (.cells z.cells E)):=by
  simp[execOp,hop,Instr.alloc,zeroValue,eh_ hi,hz,newVar,newRow]
 have hnew:=ab_.new (w':=w.alloc (.cells z.cells E)) hm (E:=E) (sz:=z.cells.size) (cap:=1) (es:=[z.cells.toList.map .val]) (c:=z.cells)
  (by simp only[aj_];exact⟨el_ (fL_ S _),trivial⟩) (by simp) (by simp) (by simp) (by simp[maxLen]) rfl rfl rfl rfl
 refine a2_ hr (hh _ _ _ _ _ hnew.2 hnew.1 ?_ hk)
 rw[←hm.len]
 exact io_ S 1 _ _ _ _
theorem xO_{E:TypeId}{x:Operand}{cs:List AV}(hop:o.op=.box E x)(hm:ab_ S h w)(hr:Rel S N t a)(hx:ag_ N x=true)(hc:cellsOf (ah_ t x)=some cs)
 (hk:K (.ptr h.length 1 0 0) (h++[⟨E,cs.length,[cs]⟩])) (hh:bI_ S w a o K next):o.wp P a w next Q:=by
 obtain⟨rc,_⟩:=gC_ hc (hr.eval hx)
 have hrun:(execOp a.eval o).run P w=.ok (.value (.pointer (some ⟨w.heap.size,0,none⟩))) (w.alloc (.cells (a.eval x).cells E)):=by
  simp[execOp,hop,Instr.box,newVar,newRow]
 have hlen:=ae_.length rc
 have hnew:=ab_.new (w':=w.alloc (.cells (a.eval x).cells E)) hm (E:=E) (sz:=cs.length) (cap:=1) (es:=[cs]) (c:=(a.eval x).cells)
  (by simp only[aj_];exact⟨el_ rc,trivial⟩) (by simp) (by simpa using hlen) (by simp) (by simp[maxLen]) rfl rfl rfl rfl
 refine a2_ hrun (hh _ _ _ _ _ hnew.2 hnew.1 ?_ hk)
 rw[←hm.len]
 exact io_ S 1 _ _ _ _
theorem ll_{S:Sit}{av:AV}{v:Value}(h:av.cell=true)(r:Rep S av v):v.oneCell'=true:=by
 cases av with
 | val u=>simp only[Rep]at r;subst r;exact h
 | list tk sz es =>
  simp only[Rep]at r
  rcases r with ⟨_,_,_,_,e⟩|⟨_,_,_,_,e,_⟩<;>subst e<;>rfl
 | iptr cs=>simp only[Rep]at r;obtain⟨_,_,_,e,_⟩:=r;subst e;rfl
 | ptr l n i off=>simp only[Rep]at r;obtain⟨⟨_,e⟩,_⟩:=r;subst e;rfl
 | own l n=>simp only[Rep]at r;obtain⟨⟨_,_,_,e⟩,_⟩:=r;subst e;rfl
 | sub l n lo hi=>simp only[Rep]at r;obtain⟨⟨_,_,_,e⟩,_⟩:=r;subst e;rfl
 | mp l=>simp only[Rep]at r;obtain⟨⟨_,e⟩,_⟩:=r;subst e;rfl
 | fn f a b=>simp only[Rep]at r;obtain⟨_,_,e,_⟩:=r;subst e;rfl
 | agg cs=>simp[AV.cell]at h
 | tup cs=>simp[AV.cell]at h
 | undef=>simp[AV.cell]at h
theorem kB_{S:Sit}:∀{cs:List AV} {vs:List Value},cs.all AV.cell=true→ae_ S cs vs→∀v∈vs,v.oneCell'=true
 | [],vs,_,r,v,hv=>by simp[ae_]at r;subst r;simp at hv
 | c::cs,vs,hc,r,v,hv=>by
  simp only[ae_]at r
  obtain⟨u,rest,e,r1,r2⟩:=r
  subst e
  simp only[all_cons,Bool.and_eq_true]at hc
  rcases mem_cons.1 hv with q|q
  ·subst q;exact ll_ hc.1 r1
  ·exact kB_ hc.2 r2 v q
theorem g2_(g o:Nat)(t:TypeId)(fr:Nat×Nat)(vs:List Value):∀(i:Nat) (cur:Array Value) (w:World),w.heap[g]?=some (.cells cur t fr)→(∀k,k<cur.size→¬ (fr.1≤k∧k<fr.2))→o+i+vs.length≤cur.size →
 (∀v∈vs,v.oneCell'=true)→(storeCells ⟨g,o,none⟩ vs i).run P w=.ok () (w.setRow g (cur.toList.take (o+i)++vs++cur.toList.drop (o+i+vs.length)).toArray):=by
 induction vs with
 | nil =>
  intro i cur w hg _ _ _
  have e:(cur.toList.take (o+i)++([]:List Value)++cur.toList.drop (o+i+([]:List Value).length)).toArray=cur:=by
   rw[append_nil,List.length_nil,Nat.add_zero,take_append_drop]
  rw[e,setRow_self w g cur t fr hg]
  rfl
 | cons v rest ih =>
  intro i cur w hg hf hl h1
  rw[List.length_cons]at hl
  have hi:o+i<cur.size:=by omega
  have hadd:(⟨g,o,none⟩:Addr).add i=⟨g,o+i,none⟩:=by
   unfold Addr.add
   split<;>simp_all
  have hfro:w.frozen? ⟨g,o+i,none⟩=false:=by
   have:=hf (o+i) hi
   simp only[World.frozen?,hg,Bool.and_eq_false_iff,decide_eq_false_iff_not]
   omega
  have hc:w.cell? ⟨g,o+i,none⟩=some cur[o+i]:=by simp[World.cell?,hg,hi]
  have hst:(store ((⟨g,o,none⟩:Addr).add i) v).run P w=.ok () (w.setRow g (cur.setIfInBounds (o+i) v)):=by
   rw[hadd,run_store P w _ v _ (h1 v mem_cons_self),hc]
   simp[hfro,setCell_eq_setRow w g (o+i) cur t fr v hg]
  have hs:(cur.setIfInBounds (o+i) v).size=cur.size:=Array.size_setIfInBounds
  have q:=ih (i+1) (cur.setIfInBounds (o+i) v) (w.setRow g (cur.setIfInBounds (o+i) v)) (setRow_heap w g cur _ t fr hg) (by rw[hs];exact hf) (by rw[hs];omega) (fun x hx=>h1 x (mem_cons_of_mem _ hx))
  have e:=list_seg_step cur.toList (o+i) v rest (by simp only[Array.length_toList];omega)
  simp only[storeCells,Sem.run_bind,hst,Result.andThen_ok,q,setRow_setRow]
  congr 3
  simpa[Array.toList_setIfInBounds,Nat.add_assoc]using e
theorem vE_{ty:TypeId}{i:TypeInfo}{p x:Operand}{l k j off:Nat}{cs e:List AV}{r:Row}(hop:o.op=.store ty p x)(hi:P.info? ty=some i)(hm:ab_ S h w)(hr:Rel S N t a)
 (hp:ag_ N p=true) (hx:ag_ N x=true) (h1:ah_ t p=.ptr l k j off) (h2:cellsOf (ah_ t x)=some cs) (h3:h[l]?=some r) (h4:r.es[j]?=some e)
 (h5:r.es.length=k) (h6:cs.length=i.size) (h7:off+i.size≤e.length)
 (hk:K .undef (h.set l { r with es:=r.es.set j (e.take off++cs++e.drop (off+i.size)) })) (hh:bI_ S w a o K next):o.wp P a w next Q:=by
 obtain⟨rc,rcell⟩:=gC_ h2 (hr.eval hx)
 have rp:=hr.eval hp
 rw[h1]at rp
 simp only[Rep]at rp
 obtain⟨_,inf,e1,e2,e3⟩:=rp
 obtain⟨k1,k2,k3,k4⟩:=hm.rows l inf r e1 h3
 obtain⟨b,hb,hxp⟩:=e3 (by omega)
 have k4':=k4
 rw[hb]at k4
 obtain⟨E,c,hE,⟨fr,j2,hfr⟩,j3,j4,j5,j6⟩:=k4.2.cells (.inl (by intro q;rw[q]at h4;simp at h4))
 have hlen:=ae_.length rc
 have hjl:j<r.es.length:=by rcases List.getElem?_eq_some_iff.1 h4 with ⟨q,_⟩;exact q
 have hel:e.length=r.sz:=k3 e (mem_of_getElem? h4)
 have hcs:r.es.length * r.sz≤c.toList.length:=by
  simp only[Array.length_toList,j4,←k1,k2]
  exact Nat.mul_le_mul_right _ j5
 have hbound:j * inf.sz+off+0+(a.eval x).cells.toList.length≤c.size:=by
  have:(j+1) * r.sz≤r.es.length * r.sz:=Nat.mul_le_mul_right _ hjl
  rw[Nat.add_mul]at this
  simp only[Array.length_toList]at hcs hlen⊢
  rw[k2];omega
 have hst:=g2_ (P:=P) b (j * inf.sz+off) E fr (a.eval x).cells.toList 0 c w j2 (fun o ho=>hfr.free o ho) hbound (kB_ rcell rc)
 simp only[Nat.add_zero]at hst
 have hcsz:(a.eval x).cells.size=i.size:=by simpa[h6]using hlen
 have hrun:(execOp a.eval o).run P w=.ok .skip (w.setRow b (c.toList.take (j * inf.sz+off)++(a.eval x).cells.toList++c.toList.drop (j * inf.sz+off+(a.eval x).cells.toList.length)).toArray):=by
  simp[execOp,hop,Instr.storeAt,hxp,Instr.sureAddr,storeVar,b9_ hi,hcsz]at hst⊢
  simp[hst]
 have hstore:=qO_ k3 j3 h4 rc (by rw[h6];exact h7) hcs
 rw[h6]at hstore
 have hlist:((c.toList.take (j * inf.sz+off)++(a.eval x).cells.toList++c.toList.drop (j * inf.sz+off+(a.eval x).cells.toList.length)).toArray).size=c.size:=by
  simp only[Array.length_toList,size_toArray,List.length_append,length_take,length_drop]at hbound⊢
  omega
 have hset:=ab_.set (w':=w.setRow b (c.toList.take (j * inf.sz+off)++(a.eval x).cells.toList++c.toList.drop (j * inf.sz+off+(a.eval x).cells.toList.length)).toArray) hm hE e1 h3 hb
  (es':=r.es.set j (e.take off++cs++e.drop (off+i.size))) (c':=(c.toList.take (j * inf.sz+off)++(a.eval x).cells.toList++c.toList.drop (j * inf.sz+off+(a.eval x).cells.toList.length)).toArray)
  (by simp) (by rw[k2];simpa using hstore.1) hstore.2 (by rw[hlist,j4]) ⟨fr,setRow_heap w b c _ E _ j2,hfr.size hlist⟩ (fun q hq=>setRow_other w b q _ hq) (setRow_size _ _ _) rfl rfl rfl
 exact hb_ hrun (hh _ _ _ _ _ hset.2 hset.1 (by simp[Rep]) hk)
theorem jA_{S:Sit}(z:Array Value)(n:Nat):aj_ S (List.replicate n (z.toList.map .val)) (madeCells z (n * z.size)).toList:=by
 refine(bi_ (sz:=z.size) (by intro q hq;rw[eq_of_mem_replicate hq];simp)).2 fun k d hd j c hc=>?_
 have hk:k<n:=by
  rcases List.getElem?_eq_some_iff.1 hd with ⟨q,_⟩
  simpa using q
 have hd':d=z.toList.map .val:=by
  have:=mem_of_getElem? hd
  exact eq_of_mem_replicate this
 subst hd'
 have hj:j<z.size:=by
  rcases List.getElem?_eq_some_iff.1 hc with ⟨q,_⟩
  simpa using q
 have hlt:k * z.size+j<n * z.size:=by
  have:(k+1) * z.size≤n * z.size:=Nat.mul_le_mul_right _ hk
  rw[Nat.add_mul]at this;omega
 have hmod:(k * z.size+j) % z.size=j:=by
  rw[Nat.mul_comm,Nat.mul_add_mod,Nat.mod_eq_of_lt hj]
 simp[hj]at hc
 subst hc
 refine⟨z[j],?_,by simp[Rep]⟩
 simp[madeCells,hlt,hmod,hj]
theorem sv_{ty e:TypeId}{i:TypeInfo}{z:Value}{l c:Operand}{k k':IntKind}{n:Int}(hop:o.op=.makeSlice ty l c)(hu:P.underlying ty=some (.slice e))(hi:P.info? e=some i)(hz:i.zero=some z)
 (hzs:i.size=z.cells.size) (hpos:0<i.size) (hm:ab_ S h w) (hr:Rel S N t a) (hl:ag_ N l=true) (hc:ag_ N c=true) (e1:ah_ t l=.val (.int k n)) (e2:ah_ t c=.val (.int k' n))
 (h0:0≤n) (hbytes:n * i.bytes≤140737488355328) (h63:n≤9223372036854775807)
 (hk:K (.own h.length n.toNat) (h++[⟨e,i.size,List.replicate n.toNat (z.cells.toList.map .val)⟩])) (hh:bI_ S w a o K next):o.wp P a w next Q:=by
 have r1:=hr.eval hl
 have r2:=hr.eval hc
 rw[e1]at r1;rw[e2]at r2
 simp only[Rep]at r1 r2
 have hmk:=run_make (P:=P) w ty e i z hu hi hz k k' n n h0 (Int.le_refl _) (by rw[Int.mul_comm];omega) h63
 have hrun:(execOp a.eval o).run P w=.ok (.value (.slice (some ⟨w.heap.size,0,none⟩) n.toNat n.toNat)) (w.alloc (.cells (madeCells z.cells (n.toNat * i.size)) e)):=by
  simp[execOp,hop,r1,r2,hmk]
 have hnew:=ab_.new (w':=w.alloc (.cells (madeCells z.cells (n.toNat * i.size)) e)) hm (E:=e) (sz:=i.size) (cap:=n.toNat) (es:=List.replicate n.toNat (z.cells.toList.map .val)) (c:=madeCells z.cells (n.toNat * i.size))
  (by rw[hzs];exact jA_ z.cells n.toNat) (by intro q hq;rw[eq_of_mem_replicate hq];simp[hzs]) (by simp[madeCells]) (by simp) (by simp[maxLen];omega) rfl rfl rfl rfl
 refine a2_ hrun (hh _ _ _ _ _ hnew.2 hnew.1 ?_ hk)
 rw[←hm.len]
 simpa using dj_ S n.toNat w.heap.size n.toNat i.size S.rows
end
end Go.AW
