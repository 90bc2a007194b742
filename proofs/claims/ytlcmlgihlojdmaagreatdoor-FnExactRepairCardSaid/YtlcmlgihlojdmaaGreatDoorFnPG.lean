/-
 Contracts of functions. Conditions: as each theorem says.
-/
import Derived.Test.YtlcmlgihlojdmaaGreatDoorFnPB
import Derived.Test.YtlcmlgihlojdmaaGreatDoorAwSortI
namespace Go.Proofs.YtlcmlgihlojdmaaGreatDoor
open List
open Go.AW
set_option linter.unusedVariables false
set_option linter.unusedSimpArgs false
set_option maxRecDepth 4000
def cf_(p:ai_):List ad_:=if(p.Leaf&&pageB p)=true then List.zipWith ad_.mk p.Keys p.Vals else []
def dc_(sl:List aa_):List ad_:=sl.flatMap fun s=>cf_ s.Page
def c1_(l:List ad_)(r:ad_):List ad_ :=
 if bQ_ (l.map ad_.Key) r.Key=true then l else l.take (lbK (l.map ad_.Key) r.Key)++r::l.drop (lbK (l.map ad_.Key) r.Key)
def dI_(l:List ad_)(r:ad_):List ad_:=if(l.any fun x=>decide (x.Key=r.Key))=true then l else l++[r]
theorem nQ_{l:List ad_}{k:ByteArray}:(l.any fun x=>decide (x.Key=k))=true↔k∈l.map ad_.Key:=by
 simp only[any_eq_true,decide_eq_true_eq,mem_map]
def ey_(sl:List aa_):List ad_:=(dc_ sl).foldl c1_ []
def mb_(l:List ad_):Prop:=Srt (l.map ad_.Key)
theorem ts_{xs:List ByteArray}(h:Srt xs){key:ByteArray}:bQ_ xs key=true↔key∈xs:=by
 constructor
 ·intro q
  have hlt:=g7_ q
  rw[bQ_,decide_eq_true_eq,getElem?_eq_getElem hlt]at q
  rw[←Option.some.inj q]
  exact getElem_mem hlt
 ·intro q
  cases hf:bQ_ xs key with
  | true=>rfl
  | false =>
   exfalso
   rw[←take_append_drop (lbK xs key) xs]at q
   rcases mem_append.1 q with e|e
   ·have:=nY_ _ e
    rw[da_]at this;cases this
   ·have:=jr_ h hf _ e
    rw[da_]at this;cases this
theorem uP_(l:List ad_)(r:ad_):(c1_ l r).map ad_.Key=if bQ_ (l.map ad_.Key) r.Key=true then l.map ad_.Key else(l.map ad_.Key).take (lbK (l.map ad_.Key) r.Key)++r.Key::(l.map ad_.Key).drop (lbK (l.map ad_.Key) r.Key):=by
 unfold c1_
 split
 ·rfl
 ·rw[map_append,map_cons,map_take,map_drop]
theorem vL_{l:List ad_}(h:mb_ l)(r:ad_):mb_ (c1_ l r):=by
 unfold mb_
 rw[uP_]
 split
 ·exact h
 ·rename_i hf
  exact nZ_ h nY_ (jr_ h (by simpa using hf))
theorem uW_{l m:List ad_}(h:mb_ l)(hp:m.Perm l)(r:ad_):(dI_ m r).Perm (c1_ l r):=by
 have hk:=(hp.map ad_.Key).mem_iff (a:=r.Key)
 have hf:=ts_ h (key:=r.Key)
 unfold dI_ c1_
 by_cases q:(m.any fun x=>decide (x.Key=r.Key))=true
 ·rw[if_pos q,if_pos (hf.2 (hk.1 (nQ_.1 q)))]
  exact hp
 ·rw[if_neg q,if_neg (fun e=>q (nQ_.2 (hk.2 (hf.1 e))))]
  refine(perm_append_comm.trans ?_)
  show(r::m).Perm _
  refine List.Perm.trans (hp.cons r) ?_
  have:(r::l).Perm (r::(l.take (lbK (l.map ad_.Key) r.Key)++l.drop (lbK (l.map ad_.Key) r.Key))):=by rw[take_append_drop]
  exact this.trans perm_middle.symm
theorem kJ_:∀(rs l m:List ad_),mb_ l→m.Perm l→mb_ (rs.foldl c1_ l)∧(rs.foldl dI_ m).Perm (rs.foldl c1_ l)
 | [],l,m,h,hp=>⟨h,hp⟩
 | r::rs,l,m,h,hp=>kJ_ rs _ _ (vL_ h r) (uW_ h hp r)
theorem wW_(sl:List aa_):mb_ (ey_ sl):=(kJ_ (dc_ sl) [] [] List.Pairwise.nil (List.Perm.refl _)).1
theorem kR_(sl:List aa_):((dc_ sl).foldl dI_ []).Perm (ey_ sl):=(kJ_ (dc_ sl) [] [] List.Pairwise.nil (List.Perm.refl _)).2
theorem pa_{α β:Type}{f:List α→β→List α}{P:α→Prop}{Q:β→Prop}(hf:∀l r,(∀x∈l,P x)→Q r→∀x∈f l r,P x):∀(rs:List β) (l:List α),(∀x∈l,P x)→(∀r∈rs,Q r)→∀x∈rs.foldl f l,P x
 | [],_,h,_=>h
 | r::rs,l,h,hq=>pa_ hf rs _ (hf l r h (hq r mem_cons_self)) fun r hr=>hq r (mem_cons_of_mem _ hr)
theorem xj_(l:List ad_)(r:ad_):∀x∈c1_ l r,x=r∨x∈l:=by
 intro x hx
 unfold c1_ at hx
 split at hx
 ·exact .inr hx
 ·simp only[mem_append,mem_cons]at hx
  rcases hx with q|q|q
  ·exact .inr (mem_of_mem_take q)
  ·exact .inl q
  ·exact .inr (mem_of_mem_drop q)
def k9_(r:ad_):Prop:=b5_ r.Key=true∧r.Value.size≤64
theorem w7_(p:ai_):∀r∈cf_ p,k9_ r:=by
 intro r hr
 unfold cf_ at hr
 split at hr
 ·rename_i q
  rw[Bool.and_eq_true]at q
  have hp:=iI_ q.2
  obtain⟨j,hj,rfl⟩:=mem_iff_getElem.1 hr
  rw[getElem_zipWith]
  exact⟨hp.keys _ (getElem_mem _),hp.vals _ (getElem_mem _)⟩
 ·cases hr
theorem kn_(p:ai_):(cf_ p).length≤6:=by
 unfold cf_
 split
 ·rename_i q
  rw[Bool.and_eq_true]at q
  have:=((iI_ q.2).leaf q.1).1
  rw[length_zipWith];omega
 ·exact Nat.zero_le _
theorem uE_(sl:List aa_):(dc_ sl).length≤sl.length * 6:=by
 unfold dc_
 induction sl with
 | nil=>simp
 | cons s sl ih =>
  have:=kn_ s.Page
  rw[flatMap_cons,la_,lc_,Nat.add_mul]
  omega
theorem vQ_(sl:List aa_):∀r∈dc_ sl,k9_ r:=by
 intro r hr
 obtain⟨s,_,h⟩:=mem_flatMap.1 hr
 exact w7_ _ r h
theorem ol_(sl:List aa_):∀r∈ey_ sl,k9_ r :=
 pa_ (P:=k9_) (Q:=k9_) (fun l r hl hr x hx=>by
  rcases xj_ l r x hx with q|q
  ·rw[q];exact hr
  ·exact hl x q) (dc_ sl) [] (fun x hx=>by cases hx) (vQ_ sl)
theorem xt_(l:List ad_)(r:ad_):(dI_ l r).length≤l.length+1:=by
 unfold dI_
 split
 ·omega
 ·simp
theorem pf_:∀(rs l:List ad_),(rs.foldl dI_ l).length≤l.length+rs.length
 | [],l=>by simp
 | r::rs,l=>by
  have h1:=pf_ rs (dI_ l r)
  have h2:=xt_ l r
  simp only[foldl_cons,lc_]
  omega
theorem qi_(sl:List aa_):(ey_ sl).length≤sl.length * 6:=by
 have h1:=(kR_ sl).length_eq
 have h2:=pf_ (dc_ sl) []
 have h3:=uE_ sl
 simp only[ln_]at h2
 omega
def leS(a b:ByteArray):Bool:=!aP_ b a
theorem nd_:∀{a b:List ByteArray},Srt a→Srt b→(∀x,x∈a↔x∈b)→a=b
 | [],[],_,_,_=>rfl
 | [],y::b,_,_,h=>by have:=(h y).2 mem_cons_self;cases this
 | x::a,[],_,_,h=>by have:=(h x).1 mem_cons_self;cases this
 | x::a,y::b,ha,hb,h=>by
  obtain⟨a1,a2⟩:=pairwise_cons.1 ha
  obtain⟨b1,b2⟩:=pairwise_cons.1 hb
  have e:x=y:=by
   rcases mem_cons.1 ((h x).1 mem_cons_self)with q|q
   ·exact q
   ·rcases mem_cons.1 ((h y).2 mem_cons_self)with q2|q2
    ·exact q2.symm
    ·have h1:=b1 x q
     have h2:=a1 y q2
     rw[eJ_ h1]at h2;cases h2
  subst e
  rw[nd_ a2 b2 fun z=>?_]
  constructor
  ·intro hz
   rcases mem_cons.1 ((h z).1 (mem_cons_of_mem _ hz))with q|q
   ·have:=a1 z hz
    rw[q,da_]at this;cases this
   ·exact q
  ·intro hz
   rcases mem_cons.1 ((h z).2 (mem_cons_of_mem _ hz))with q|q
   ·have:=b1 z hz
    rw[q,da_]at this;cases this
   ·exact q
theorem sX_{xs:List ByteArray}(hn:xs.Nodup):Srt (xs.mergeSort leS):=by
 have h1:(xs.mergeSort leS).Pairwise (fun a b=>leS a b=true):=pairwise_mergeSort (le:=leS) (fun a b c h1 h2=>by
  unfold leS at *
  rw[Bool.not_eq_true']at *
  exact qr_ h1 h2) (fun a b=>by
  unfold leS
  cases e:aP_ b a with
  | false=>rfl
  | true=>rw[eJ_ e];rfl) _
 have h2:(xs.mergeSort leS).Nodup:=(mergeSort_perm xs leS).nodup_iff.2 hn
 refine List.Pairwise.imp₂ (fun a b q1 q2=>?_) h1 h2
 unfold leS at q1
 rw[Bool.not_eq_true']at q1
 cases e:aP_ a b with
 | true=>rfl
 | false=>exact absurd (fI_ e q1) q2
theorem jG_:∀(rs l:List ad_),(l.map ad_.Key).Nodup→((rs.foldl dI_ l).map ad_.Key).Nodup
 | [],_,h=>h
 | r::rs,l,h=>jG_ rs _ (by
  unfold dI_
  split
  ·exact h
  ·rename_i q
   rw[map_append,nodup_append]
   exact⟨h,by simp,fun a ha b hb e=>q (nQ_.2 (by rw[map_cons,map_nil,mem_singleton]at hb;rw[←hb,←e];exact ha))⟩)
def fe_(l:List ad_)(k:ByteArray):ad_:=(l.find? fun r=>decide (r.Key=k)).getD ⟨k,⟨#[]⟩⟩
theorem oK_{l:List ad_}(hn:(l.map ad_.Key).Nodup){r:ad_}(h:r∈l):fe_ l r.Key=r:=by
 unfold fe_
 induction l with
 | nil=>cases h
 | cons x l ih =>
  rw[map_cons,nodup_cons]at hn
  rw[find?_cons]
  rcases mem_cons.1 h with q|q
  ·rw[q];simp
  ·have:¬ x.Key=r.Key:=fun e=>hn.1 (by rw[e];exact mem_map.2 ⟨r,q,rfl⟩)
   rw[decide_eq_false this]
   exact ih hn.2 q
theorem uG_(l:List ad_)(k:ByteArray):(fe_ l k).Key=k:=by
 unfold fe_
 cases h:l.find? fun r=>decide (r.Key=k)with
 | none=>rfl
 | some r=>simpa using find?_some h
theorem uo_{l:List ad_}(hn:(l.map ad_.Key).Nodup):(l.map ad_.Key).map (fe_ l)=l:=by
 rw[map_map]
 conv=>rhs;rw[←map_id l]
 exact map_congr_left fun r hr=>oK_ hn hr
theorem ul_(sl:List aa_):((((dc_ sl).foldl dI_ []).map ad_.Key).mergeSort leS).map (fe_ ((dc_ sl).foldl dI_ []))=ey_ sl:=by
 have hn:(((dc_ sl).foldl dI_ []).map ad_.Key).Nodup:=jG_ (dc_ sl) [] nodup_nil
 have hp:=kR_ sl
 have hs:=wW_ sl
 generalize (dc_ sl).foldl dI_ []=m at *
 have e:(m.map ad_.Key).mergeSort leS=(ey_ sl).map ad_.Key:=nd_ (sX_ hn) hs fun x=>((mergeSort_perm _ _).mem_iff).trans (hp.map ad_.Key).mem_iff
 rw[e,map_map]
 conv=>rhs;rw[←map_id (ey_ sl)]
 exact map_congr_left fun r hr=>oK_ hn (hp.mem_iff.2 hr)
theorem oG_(l:List ad_):∀e∈l.map ad_.cells,e.all AV.flat=true:=by
 intro e he
 obtain⟨x,_,q⟩:=mem_map.1 he;subst q;rfl
theorem oX_(l:List ad_):∀e∈l.map ad_.cells,e.all AV.cell=true:=by
 intro e he
 obtain⟨x,_,q⟩:=mem_map.1 he;subst q;rfl
def Br_:LC :=
 .q [.o [.bx 3 55 1,.nl 4],.o [.ki 5 0],.block 0 (.loop (.q [.q [.dops [.m 7 5,.m 8 0,.ll 9 8,.bb 10 .lss false 7 9,.m 11 10,.gm 12 11 true 0,.gm 13 11 true 5,.g 14 11 true (.indexAddr 2 (.tmp 12) (.tmp 13)),
 .gf 15 11 true 0 14,.gn 16 11 true 15,.gf 17 11 true 0 3,.gn 18 11 true 17,.g 19 11 true (.bin .lss false (.tmp 16) (.tmp 18)),.pf 20 11 19],.k 20 .skip (.exit 0)],.block 1 (.o [.m 21 5,.bk 22 .add false 21 1,.m
 5 22])])),.q [.dops [.m 23 5,.m 24 0,.ll 25 24,.bb 26 .lss false 23 25,.m 27 26,.gm 28 27 true 0,.gm 29 27 true 5,.g 30 27 true (.indexAddr 2 (.tmp 28) (.tmp 29)),.gf 31 27 true 0 30,.gn 32 27 true 31,.gf 33
 27 true 0 3,.gn 34 27 true 33,.g 35 27 true (.bin .eql false (.tmp 32) (.tmp 34)),.pf 36 27 35],.k 36 (.q [.o [.m 37 0,.m 4 37],.ret]) .skip],.o [.s 38 (.buildSlice 55 2 (.agg #[.string ⟨#[]⟩,.string ⟨#[]⟩]) 0
 []),.m 39 0,.m 40 5,.s 41 (.sliceSl 2 (.tmp 39) none (some (.tmp 40))),.ap 42 55 2 32 38 41,.m 6 42],.o [.m 43 6,.ld 44 2 3,.s 45 (.buildSlice 55 2 (.agg #[.string ⟨#[]⟩,.string ⟨#[]⟩]) 1 [(0,.tmp 44)]),.ap 46
 55 2 32 43 45,.m 6 46],.o [.m 47 6,.m 48 0,.m 49 5,.s 50 (.sliceSl 2 (.tmp 48) (some (.tmp 49)) none),.ap 51 55 2 32 47 50,.m 4 51],.ret]
def x1_:LF:=⟨2,52,Br_,[.tmp 4]⟩
theorem A7_:az_ Tryz.prog Tryz.f107 x1_:=at_
def c60:LC :=
 .q [.o [.bx 1 28 0,.nl 2,.ki 3 0],.q [.o [.fa 8 1 1,.ln 9 8,.ll 10 9,.bk 11 .gtr false 10 64],.k 11 (.q [.o [.nl 2,.ki 3 1],.ret]) .skip],.o [.s 12 (.buildSlice 55 2 (.agg #[.string ⟨#[]⟩,.string ⟨#[]⟩]) 0
 []),.m 4 12],.q [.o [.ki 5 0],.block 0 (.loop (.q [.q [.o [.m 13 5,.fa 14 1 1,.ln 15 14,.ll 16 15,.bb 17 .lss false 13 16],.k 17 .skip (.exit 0)],.block 1 (.q [.o [.fa 20 1 1,.ln 21 20,.m 22 5,.ia 23 5 21 22,
 .fa 24 1 23,.ld 25 4 24,.s 6 (.alloc 77 z1z),.st 4 6 25],.o [.ki 7 0],.block 2 (.loop (.q [.q [.o [.fa 26 0 6,.ln 27 26,.m 28 27,.gl 29 28 true 4 6,.gc 30 28 true 58 29,.pf 31 28 30,.m 32 31,.gm 33 32 true 7,
 .gf 34 32 true 1 6,.gn 35 32 true 34,.g 36 32 true (.lenSl (.tmp 35)),.g 37 32 true (.bin .lss false (.tmp 33) (.tmp 36)),.pf 38 32 37],.k 38 .skip (.exit 2)],.block 3 (.dops [.m 41 4,.fa 42 1 6,.ln 43 42,.m 44
 7,.ia 45 1 43 44,.ln 46 45,.fa 47 2 6,.ln 48 47,.m 49 7,.ia 50 1 48 49,.ln 51 50,.s 52 (.build (.agg #[.string ⟨#[]⟩,.string ⟨#[]⟩]) [(0,1),(1,1)] [(0,.tmp 46),(1,.tmp 51)]),.c2 53 107 41 52,.m 4 53]),
 .o [.m 39 7,.bk 40 .add false 39 1,.m 7 40]]))]),.o [.m 18 5,.bk 19 .add false 18 1,.m 5 19]]))],.o [.m 54 4,.m 2 54,.ki 3 0],.ret]
def vX_:LF:=⟨1,55,c60,[.tmp 2,.tmp 3]⟩
theorem xO_:az_ Tryz.prog Tryz.f60 vX_:=at_
def c61:LC :=
 .q [.o [.s 0 (.alloc 28 z0z)],.o [.s 1 (.build z1z [(0,1),(1,1),(2,1),(3,1)] [(0,.const (.bool true))]),.s 2 (.build z2z [(0,1),(1,4)] [(0,.const (.int .i64 1)),(1,.tmp 1)]),.s 3 (.buildSlice 79 5 z2z 1
 [(0,.tmp 2)]),.s 4 (.build z0z [(0,1),(1,1)] [(0,.const (.int .i64 1)),(1,.tmp 3)]),.st 2 0 4],.ret]
def A9_:LF:=⟨0,5,c61,[.cell 0 (some 2)]⟩
theorem CZ_:az_ Tryz.prog Tryz.f61 A9_:=at_
theorem sB_{l:List ad_}{r:ad_}{k:Nat}(hk:k≤l.length)(h1:∀j,j<k→∀hj:j<l.length,aP_ l[j].Key r.Key=true)(h2:∀h:k<l.length,aP_ l[k].Key r.Key=false):lbK (l.map ad_.Key) r.Key=k :=
 mq_ (by simpa using hk) (fun j hj hj2=>by rw[getElem_map];exact h1 j hj (by simpa using hj2)) fun h=>by rw[getElem_map];exact h2 (by simpa using h)
theorem vA_{l:List ad_}{r:ad_}{k:Nat}(hlb:lbK (l.map ad_.Key) r.Key=k)(hn:∀h:k<l.length,decide (l[k].Key=r.Key)=false):c1_ l r=l.take k++r::l.drop k:=by
 have:bQ_ (l.map ad_.Key) r.Key=false:=by
  rw[bQ_,hlb,decide_eq_false_iff_not]
  intro e
  obtain⟨hk,e⟩:=List.getElem?_eq_some_iff.1 e
  rw[getElem_map]at e
  have:=hn (by simpa using hk)
  rw[decide_eq_true e]at this;cases this
 rw[c1_,this,hlb];rfl
theorem wN_{l:List ad_}{r:ad_}{k:Nat}(hlb:lbK (l.map ad_.Key) r.Key=k)(hk:k<l.length)(hn:decide (l[k].Key=r.Key)=true):c1_ l r=l:=by
 have:bQ_ (l.map ad_.Key) r.Key=true:=by
  rw[bQ_,hlb,decide_eq_true_eq,getElem?_map,getElem?_eq_getElem hk]
  rw[decide_eq_true_eq]at hn
  rw[←hn];rfl
 rw[c1_,this];rfl
theorem ov_(l:List ad_)(r:ad_)(hx:l.length≤1048576)(h:List Row):PureCall Tryz.prog 107 [.list 0 2 (l.map ad_.cells),.agg (ad_.cells r)] h (.list 0 2 ((c1_ l r).map ad_.cells)):=by
 refine ar_ mixed Tryz.func107 A7_ rfl rfl ?_ h
 simp(disch:=omega)only[x1_,Br_,show ad_.cells r=[.val (.string r.Key),.val (.string r.Value)]from rfl,go_sem,Nat.reduceAdd,↓reduceIte]
 refine aL_ (fun n t H=>∃k:Nat,t 0=.list 0 2 (l.map ad_.cells)∧t 3=.ptr 0 1 0 0∧t 5=.val (.int .i64 k)∧H[0]?=some ⟨.ty 55,2,[[.val (.string r.Key),.val (.string r.Value)]]⟩∧n=l.length-k∧k≤l.length∧1≤H.length∧∀j,j<k→∀hj:j<l.length,aP_ l[j].Key r.Key=true) l.length ?_ ?_
 ·exact⟨0,rfl,rfl,rfl,rfl,rfl,Nat.zero_le _,Nat.le_refl _,fun j hj=>absurd hj (Nat.not_lt_zero j)⟩
 ·rintro J hJ n t H ⟨k,t0,t3,t5,o0,rfl,hk,hlen,hS⟩
  have fin:lbK (l.map ad_.Key) r.Key=k→(∀h:k<l.length,decide (l[k].Key=r.Key)=false)→∀H2:List Row,H2[H.length]?=some ⟨.ty 55,2,List.take k (l.map ad_.cells)++[.val (.string r.Key),.val (.string r.Value)]::List.drop k (List.take l.length (l.map ad_.cells))⟩ →
   (List.take k (l.map ad_.cells)).length * 32≤140737488355328∧(List.take k (l.map ad_.cells)).length≤9223372036854775807∧(∀(e:List AV),e∈List.take k (l.map ad_.cells)→e.all AV.cell=true)∧((List.take k (l.map ad_.cells)).length+1) * 32≤140737488355328∧(List.take k (l.map ad_.cells)).length≤9223372036854775806 ∧
   ((List.take k (l.map ad_.cells)).length+1+(List.drop k (List.take l.length (l.map ad_.cells))).length) * 32≤140737488355328∧(List.take k (l.map ad_.cells)).length+1+(List.drop k (List.take l.length (l.map ad_.cells))).length≤9223372036854775807∧(∀(e:List AV),e∈List.drop k (List.take l.length (l.map ad_.cells))→e.all AV.cell=true) ∧
   ∃n,AW.resolve H2 n (.own H.length ((List.take k (l.map ad_.cells)).length+1+(List.drop k (List.take l.length (l.map ad_.cells))).length))=some (.list 0 2 ((c1_ l r).map ad_.cells)):=by
   intro h1 h2 H2 hr
   have e0:List.take l.length (l.map ad_.cells)=l.map ad_.cells:=take_of_length_le (by simp)
   rw[e0]at hr⊢
   have e:List.take k (l.map ad_.cells)++[.val (.string r.Key),.val (.string r.Value)]::List.drop k (l.map ad_.cells)=(c1_ l r).map ad_.cells:=by
    rw[vA_ h1 h2,map_append,map_cons,map_take,map_drop];rfl
   have el:(List.take k (l.map ad_.cells)).length+1+(List.drop k (l.map ad_.cells)).length=((c1_ l r).map ad_.cells).length:=by
    rw[←e];simp only[la_,lc_];omega
   have n1:(List.take k (l.map ad_.cells)).length≤1048576:=by rw[length_take,length_map];omega
   have n2:(List.drop k (l.map ad_.cells)).length≤1048576:=by rw[length_drop,length_map];omega
   refine⟨by omega,by omega,fun e he=>oX_ l e (mem_of_mem_take he),by omega,by omega,by omega,by omega,fun e he=>oX_ l e (mem_of_mem_drop he),3,?_⟩
   rw[e]at hr
   rw[el]
   exact em_ (n:=1) hr rfl (oG_ _)
  by_cases hlt:k<l.length
  ·cases hs:aP_ l[k].Key r.Key with
   | true =>
    simp(disch:=first|omega|simp only[lzz0_];first|done|omega)only[go_sem,seval,t0,t3,t5,o0,hlt,hs,ad_.cells,aw_]
    refine⟨l.length-(k+1),by omega,hJ _ _ _ ⟨k+1,by simp[upd,t0],by simp[upd,t3],by simp[upd],o0,rfl,by omega,hlen,fun j hj hj2=>?_⟩⟩
    by_cases e:j=k
    ·subst e;exact hs
    ·exact hS j (by omega) hj2
   | false =>
    have hlb:=sB_ hk hS fun _=>hs
    cases hk2:decide (l[k].Key=r.Key)with
    | false =>
     simp(disch:=first|omega|simp only[lzz0_];first|done|omega)only[ab_,as_,aX_,go_sem,seval,t0,t3,t5,o0,hlt,hs,hk2,ad_.cells]
     exact fin hlb (fun _=>hk2) _ (by rw[getElem?_append_right (Nat.le_refl _),Nat.sub_self];rfl)
    | true =>
     rw[wN_ hlb hlt hk2]
     simp(disch:=first|omega|simp only[lzz0_];first|done|omega)only[go_sem,seval,t0,t3,t5,o0,hlt,hs,hk2,ad_.cells]
     exact⟨2,rfl⟩
  ·have hlb:=sB_ hk hS fun h=>absurd h hlt
   simp(disch:=first|omega|simp only[lzz0_];first|done|omega)only[ab_,as_,aX_,go_sem,seval,t0,t3,t5,o0,hlt]
   exact fin hlb (fun h=>absurd h hlt) _ (by rw[getElem?_append_right (Nat.le_refl _),Nat.sub_self];rfl)
theorem mQ_(s:aa_)(sl:List aa_):dc_ (s::sl)=cf_ s.Page++dc_ sl:=rfl
theorem p7_{xs ys:List ByteArray}{j:Nat}(h1:j<xs.length)(h2:j<ys.length):(List.zipWith ad_.mk xs ys).drop j=⟨xs[j],ys[j]⟩::(List.zipWith ad_.mk xs ys).drop (j+1):=by
 rw[drop_eq_getElem_cons (by rw[length_zipWith];omega),getElem_zipWith]
theorem wA_(l:List ad_)(r:ad_):(c1_ l r).length≤l.length+1:=by
 unfold c1_
 split
 ·omega
 ·simp only[la_,lc_,length_take,length_drop];omega
def eQ_(H:List Row)(a:AV)(out:List ad_):Prop:=AW.resolve H 3 a=some (.list 0 2 (out.map ad_.cells))
theorem eQ_.more{H H':List Row}{a:AV}{out:List ad_}(h1:H[1]?=some ⟨.ty 55,2,[]⟩)(ha:a=.own 1 0∨∃es,a=.list 0 2 es)(h:eQ_ H a out)(h2:H'[1]?=some ⟨.ty 55,2,[]⟩):eQ_ H' a out:=by
 unfold eQ_ at *
 rcases ha with rfl|⟨es,rfl⟩
 ·have e1:AW.resolve H 3 (.own 1 0)=some (.list 0 2 []):=em_ (n:=1) h1 rfl (by simp)
  have e2:AW.resolve H' 3 (.own 1 0)=some (.list 0 2 []):=em_ (n:=1) h2 rfl (by simp)
  rw[e1]at h
  rw[e2]
  exact h
 ·exact h
theorem eQ_.list(H:List Row)(out:List ad_):eQ_ H (.list 0 2 (out.map ad_.cells)) out:=rfl
theorem zi_{S:Sit}{H:List Row}{w:World}{l sz:Nat}{E:TypeId}{x:Value}(hm:ac_ S H w)(hl:H[l]?=some ⟨.ty E,sz,[]⟩)(r:Rep S (.own l 0) x):Rep S (.list 0 sz []) x:=by
 simp only[Rep]at r
 obtain⟨_,i,q1,q2,q3⟩:=r
 obtain⟨k1,k2,k3,k4⟩:=hm.rows l i _ q1 hl
 have hil:i.len=0:=by rw[k1];rfl
 have hx:∃p cap,x=.slice p 0 cap:=by
  rcases q3 hil.symm with q|⟨_,p,q⟩
  ·unfold sliceAt at q
   split at q
   ·rw[hil]at q;exact⟨_,_,q⟩
   ·exact⟨_,_,q⟩
  ·exact⟨_,_,q⟩
 obtain⟨p,cap,rfl⟩:=hx
 simp only[Rep]
 exact .inl ⟨trivial,trivial,p,cap,rfl⟩
theorem nX_{H:List Row}{a:AV}{o:List ad_}{r:ad_}(h1:H[1]?=some ⟨.ty 55,2,[]⟩)(ha:a=.own 1 0∨∃es,a=.list 0 2 es)(h:eQ_ H a o)(hx:o.length≤1048576):PureCall Tryz.prog 107 [a,.agg [.val (.string r.Key),.val (.string r.Value)]] H (.list 0 2 ((c1_ o r).map ad_.cells)):=by
 have base:=ov_ o r hx H
 rcases ha with rfl|⟨es,rfl⟩
 ·have e1:AW.resolve H 3 (.own 1 0)=some (.list 0 2 []):=em_ (n:=1) h1 rfl (by simp)
  have e2:o.map ad_.cells=[]:=by
   have:=h.symm.trans e1
   simpa using this
  rw[e2]at base
  intro K hK S w vals hm hgl hr
  refine base K hK S w vals hm hgl ?_
  obtain⟨v,q,e,r1,r2⟩:=hr
  exact⟨v,q,e,zi_ hm h1 r1,r2⟩
 ·have:es=o.map ad_.cells:=by
   have h':some (AV.list 0 2 es)=some (.list 0 2 (o.map ad_.cells)):=h
   simpa using h'
  rw[this]
  exact base
theorem lQ_(b:ae_)(hx:64<b.Slots.length)(hx2:b.Slots.length≤1048576)(h:List Row) :
 PureCall Tryz.prog 60 [.agg (ae_.cells b)] h (.tup [.val (.slice none 0 0),.val (.int .i64 1)]):=by
 refine ar_ mixed Tryz.func60 xO_ rfl rfl ?_ h
 have q0:((b.Slots.length:Int)>64)=True:=eq_true (by omega)
 simp(disch:=omega)only[vX_,c60,ae_.cells,q0,go_sem,seval]
 exact⟨2,rfl⟩
theorem m5_(b:ae_)(hx:b.Slots.length≤64)(hsm:∀s∈b.Slots,smallP s.Page)(hsz:∀s∈b.Slots,f0_ s.Page.Keys)(h:List Row) :
 PureCall Tryz.prog 60 [.agg (ae_.cells b)] h (.tup [.list 0 2 ((ey_ b.Slots).map ad_.cells),.val (.int .i64 0)]):=by
 refine ar_ mixed Tryz.func60 xO_ rfl rfl ?_ h
 have q0:((b.Slots.length:Int)>64)=False:=eq_false (by omega)
 simp(disch:=omega)only[vX_,c60,ae_.cells,q0,go_sem,seval]
 refine aL_ (fun n t H=>∃(k:Nat) (out:List ad_),t 1=.ptr 0 1 0 0∧eQ_ H (t 4) out∧t 5=.val (.int .i64 k)∧n=b.Slots.length-k∧k≤b.Slots.length∧2≤H.length∧H[0]?=some ⟨.ty 28,2,[[.val (.int .i64 b.Root),.list 0 5 (b.Slots.map aa_.cells)]]⟩∧H[1]?=some ⟨.ty 55,2,[]⟩∧(t 4=.own 1 0∨∃es,t 4=.list 0 2 es)∧ey_ b.Slots=(dc_ (b.Slots.drop k)).foldl c1_ out∧out.length≤k * 6) b.Slots.length ?_ ?_
 ·exact⟨0,[],rfl,rfl,rfl,rfl,Nat.zero_le _,Nat.le_refl _,rfl,rfl,.inl rfl,rfl,Nat.zero_le _⟩
 ·rintro J hJ n t H ⟨k,out,t1,t4,t5,rfl,hk,hlen,o0,o1,h4,hS,hol⟩
  by_cases hlt:k<b.Slots.length
  ·obtain⟨z1,z2,z3⟩:=hsm _ (getElem_mem hlt)
   have z4:=hsz _ (getElem_mem hlt)
   rw[drop_eq_getElem_cons hlt,mQ_,foldl_append]at hS
   have hpk:=fun h=>og_ b.Slots[k].Page z1 z2 z3 z4 h
   generalize hp:b.Slots[k].Page=p at *
   unfold ai_.cells at hpk
   obtain⟨a,ha⟩:∃a,t 4=a:=⟨_,rfl⟩
   rw[ha]at t4 h4
   simp(disch:=first|omega|simp only[lzz0_];first|done|omega)only[as_,go_sem,seval,t1,t5,o0,hlt,aa_.cells,hp]
   refine aL_ (fun m t' H'=>∃(j:Nat) (o:List ad_),t' 1=.ptr 0 1 0 0∧t' 5=.val (.int .i64 k)∧t' 6=.ptr H.length 1 0 0∧t' 7=.val (.int .i64 j)∧eQ_ H' (t' 4) o∧(t' 4=.own 1 0∨∃es,t' 4=.list 0 2 es)∧m=(cf_ p).length-j∧j≤(cf_ p).length∧H'=H++([⟨.ty 77,4,[[.val (.bool p.Leaf),.list 0 1 (p.Keys.map ah_),.list 0 1 (p.Vals.map ah_),.list 0 1 (p.Kids.map aB_)]]⟩]:List Row)∧(cf_ p).foldl c1_ out=((cf_ p).drop j).foldl c1_ o∧o.length≤k * 6+j) (cf_ p).length ?_ ?_
   ·exact⟨0,out,by simp[upd,t1],by simp[upd,t5],by simp[upd],by simp[upd],by simpa[upd,ha]using(show eQ_ (H++([⟨.ty 77,4,[[.val (.bool p.Leaf),.list 0 1 (p.Keys.map ah_),.list 0 1 (p.Vals.map ah_),.list 0 1 (p.Kids.map aB_)]]⟩]:List Row)) a out from(eQ_.more o1 h4 t4 ((ab_ (by omega)).trans o1))),by simpa[upd,ha]using h4,rfl,Nat.zero_le _,by simp,rfl,by omega⟩
   ·rintro J2 hJ2 m t' H' ⟨j,o,u1,u5,u6,u7,u4,g4,rfl,hj,rfl,hS2,hol2⟩
    obtain⟨a2,ha2⟩:∃a,t' 4=a:=⟨_,rfl⟩
    rw[ha2]at u4 g4
    have hrl:=kn_ p
    have next:j=(cf_ p).length→∀(t2:Nat→AV) (row:Row),t2 1=.ptr 0 1 0 0→t2 4=a2→t2 5=.val (.int .i64 ((k:Int)+1))→∃m,m<b.Slots.length-k∧J m t2 (H++[row]):=fun e t2 row v1 v4 v5=>by
     rw[e,drop_length,foldl_nil]at hS2
     rw[hS2]at hS
     exact⟨b.Slots.length-(k+1),by omega,hJ _ _ _ ⟨k+1,o,v1,by rw[v4];exact eQ_.more ((ab_ (by omega)).trans o1) g4 u4 ((ab_ (by omega)).trans o1),v5,rfl,by omega,by simp;omega,(ab_ (by omega)).trans o0,(ab_ (by omega)).trans o1,by rw[v4];exact g4,hS,by omega⟩⟩
    cases hl:p.Leaf with
    | false =>
     have e0:cf_ p=[]:=by unfold cf_;rw[hl];rfl
     simp(disch:=first|omega|simp only[lzz0_];first|done|omega)only[as_,go_sem,seval,u5,u6,aw_]
     exact next (by rw[e0]at hj⊢;simpa using hj) _ _ (by simp[upd,u1]) (by simp[upd,ha2]) (by simp[upd])
    | true =>
     rw[hl]at hpk
     cases hpb:pageB p with
     | false =>
      have e0:cf_ p=[]:=by unfold cf_;rw[hpb,Bool.and_false];rfl
      simp(disch:=first|omega|simp only[lzz0_];first|done|omega)only[as_,go_sem,seval,u6]
      first|refine PureCall.q (hpk _) ?_|refine PureCall.call (hpk _) ?_
      simp(disch:=first|omega|simp only[lzz0_];first|done|omega)only[go_sem,seval,u5,hpb,aw_]
      exact next (by rw[e0]at hj⊢;simpa using hj) _ _ (by simp[upd,u1]) (by simp[upd,ha2]) (by simp[upd])
     | true =>
      have e0:cf_ p=List.zipWith ad_.mk p.Keys p.Vals:=by unfold cf_;rw[hpb,hl];rfl
      have hkl:(cf_ p).length=p.Keys.length:=by
       have:=(cQ_ hpb hl).2.2.1
       rw[e0,length_zipWith];omega
      have hvl:=(cQ_ hpb hl).2.2.1
      by_cases hlt2:j<p.Keys.length
      ·simp(disch:=first|omega|simp only[lzz0_];first|done|omega)only[as_,go_sem,seval,u6]
       first|refine PureCall.q (hpk _) ?_|refine PureCall.call (hpk _) ?_
       have hlv:j<p.Vals.length:=by omega
       simp(disch:=first|omega|simp only[lzz0_];first|done|omega)only[as_,go_sem,seval,ha2,u6,u7,hpb,hlt2,ah_,bT_,Option.map_some,aw_]
       refine⟨_,nX_ (r:=⟨p.Keys[j],p.Vals[j]⟩) ((ab_ (by omega)).trans o1) g4 (eQ_.more ((ab_ (by omega)).trans o1) g4 u4 ((ab_ (by omega)).trans o1)) (by omega),?_⟩
       rw[e0,p7_ (by omega) (by omega),←e0,foldl_cons]at hS2
       exact⟨(cf_ p).length-(j+1),by omega,hJ2 _ _ _ ⟨j+1,c1_ o ⟨p.Keys[j],p.Vals[j]⟩,by simp[upd,u1],by simp[upd,u5],by simp[upd,u6],by simp[upd],(by show eQ_ _ (.list 0 2 ((c1_ o ⟨p.Keys[j],p.Vals[j]⟩).map ad_.cells)) _;rfl),.inr ⟨(c1_ o ⟨p.Keys[j],p.Vals[j]⟩).map ad_.cells,by simp[upd]⟩,rfl,by omega,by rw[hl],hS2,by have:=wA_ o ⟨p.Keys[j],p.Vals[j]⟩;omega⟩⟩
      ·simp(disch:=first|omega|simp only[lzz0_];first|done|omega)only[as_,go_sem,seval,u6]
       first|refine PureCall.q (hpk _) ?_|refine PureCall.call (hpk _) ?_
       simp(disch:=first|omega|simp only[lzz0_];first|done|omega)only[as_,go_sem,seval,u5,u6,u7,hpb,hlt2,aw_]
       exact next (by omega) _ _ (by simp[upd,u1]) (by simp[upd,ha2]) (by simp[upd])
  ·have hkl:k=b.Slots.length:=by omega
   rw[hkl,drop_length]at hS
   simp(disch:=first|omega|simp only[lzz0_];first|done|omega)only[go_sem,seval,t1,t5,o0,hlt]
   have hS:ey_ b.Slots=out:=hS
   rw[hS]
   refine⟨4,?_⟩
   show(List.mapM (AW.resolve _ 3) [t 4,.val (.int .i64 0)]).map AV.tup=_
   rw[mapM_cons,t4]
   rfl
theorem PureCall.conv{P:Program}{f:FuncId}{args:List AV}{h:List Row}{r r':AV}(hc:PureCall P f args h r)(hr:∀S x,Rep S r x→Rep S r' x):PureCall P f args h r':=fun K hk S w vals m g rp =>
 (hc (fun a h'=>a=r∧h'=h) ⟨rfl,rfl⟩ S w vals m g rp).mono fun _ _ ⟨v,av,S',h',e,s,m',r2,q⟩=>by
  obtain⟨rfl,rfl⟩:=q
  exact⟨v,_,S',_,e,s,m',hr _ _ r2,hk⟩
def bt1:ae_:=⟨1,[⟨1,⟨true,[],[],[]⟩⟩]⟩
theorem bt1_fit:Fit bt1 0 [1]:=by
 have hb:pageB ⟨true,[],[],[]⟩=true:=by decide
 have hst:∀id p,ag_ bt1.Slots id=some p→id=1∧p=⟨true,[],[],[]⟩:=fun id p h=>by
  unfold bt1 at h
  rw[bE_]at h
  split at h
  ·rename_i q
   exact⟨q.symm,(Option.some.inj h).symm⟩
  ·cases h
 exact⟨⟨by simp[dD_,bt1],fun id p hp=>by
  obtain⟨rfl,rfl⟩:=hst id p hp
  exact⟨by omega,by omega,d4_ hb⟩⟩,⟨_,rfl,rfl,hb,rfl,.inl rfl,rfl⟩,by simp⟩
def fV_:List ad_→ae_→ae_×Int
 | [],b=>(b,0)
 | r::rs,b=>if(dg_ 65 b r.Key r.Value).2=0 then fV_ rs (dg_ 65 b r.Key r.Value).1 else(bt0,(dg_ 65 b r.Key r.Value).2)
def cm_(b:ae_):ae_×Int:=if 64<b.Slots.length then(bt0,1)else fV_ (ey_ b.Slots) bt1
theorem nm_{b:ae_}{hh:Nat}{ids:List Int}(f:Fit b hh ids){key value:ByteArray}(h2:b5_ key=true)(hv64:value.size≤64)(h:List Row) :
 PureCall Tryz.prog 33 [.agg (ae_.cells b),.val (.string key),.val (.string value)] h (.tup [.agg (ae_.cells (if(dg_ 65 b key value).2=0 then(dg_ 65 b key value).1 else bt0)),.val (.int .i64 (dg_ 65 b key value).2)]):=by
 have hlt:=f.ht
 have z2:∀s∈b.Slots,smallP s.Page:=fun s hs=>(f.ok.page hs).smallP
 obtain⟨wok,ql,lf,has,p,e1,e2,e3,e4,e5,e6,e7,e8⟩:=kh_ h2 hv64 b.Root hh 65 b.Slots true b.Root _ _ ids hlt f.ok f.tree f.nodup
 obtain⟨m1,m2⟩:=e8 [] (ql++[lf]) rfl
 have hw:(ql++[lf])[hh]'(by simp;omega)=lf:=by
  subst e2
  simp
 have hpl:=cQ_ e5 e4
 have hle:=eV_ p key
 have hput:=nK_ 65 (by omega) b key value (by have:=f.ok.len;omega) f.ok.rise z2 wok (ql++[lf]) has e1 (by simp;omega) hh (by simp;omega) p (by rw[hw];exact e3)
  (fun hs=>⟨by rw[hw,e6,gu_ e4];have:=g7_ (xs:=p.Keys) (key:=key) (by rw[←hs,e7,gu_ e4]);omega,m8_ e5⟩) (fun _=>by rw[hw,e6];omega) (by rw[hw];exact m2 (fun _ _ e=>absurd rfl e)) h
 rw[uc_ f hlt h2 hv64]at hput
 by_cases hc:(dg_ 65 b key value).2=0
 ·rw[if_pos hc]at hput
  rw[if_pos hc,hc]
  exact hput
 ·rw[if_neg hc]at hput
  rw[if_neg hc]
  exact hput
theorem vM_{sz:Nat}{e d:List AV}(hl:e.length=d.length)(h:∀(S:Sit) (vs:List Value),au_ S e vs→au_ S d vs):∀(S:Sit) (x:Value),Rep S (.list 0 sz [e]) x→Rep S (.list 0 sz [d]) x:=by
 intro S x hx
 simp only[Rep]at hx⊢
 rcases hx with ⟨h1,_⟩|⟨b,off,cap,c,e1,h2,h3,h4,h5,h6,h7⟩
 ·cases h1
 ·right
  refine⟨b,off,cap,c,e1,h2,h3,fun y hy=>?_,h5,by simpa using h6,?_⟩
  ·rw[mem_singleton]at hy
   rw[hy,←hl]
   exact h4 e mem_cons_self
  ·simp only[ap_]at h7⊢
   exact⟨h _ _ h7.1,trivial⟩
theorem hS_{c d:AV}{cs ds:List AV}(h:∀S x,Rep S c x→Rep S d x)(hs:∀S xs,au_ S cs xs→au_ S ds xs):∀(S:Sit) (xs:List Value),au_ S (c::cs) xs→au_ S (d::ds) xs:=by
 rintro S xs ⟨v,r,e,h1,h2⟩
 exact⟨v,r,e,h S v h1,hs S r h2⟩
theorem ud_:∀(S:Sit) (x:Value),Rep S (.agg [.val (.int .i64 1),.list 0 5 [[.val (.int .i64 1),.val (.bool true),.val (.slice none 0 0),.val (.slice none 0 0),.val (.slice none 0 0)]]]) x→Rep S (.agg (ae_.cells bt1)) x :=
 gf_ (aU_ (bs_ _) (aU_ (vM_ rfl (hS_ (bs_ _) (hS_ (bs_ _) (hS_ (fC_ 1) (hS_ (fC_ 1) (hS_ (fC_ 1) fun _ _ h=>h)))))) dy_))
def c21:LC :=
 .q [.o [.s 0 (.alloc 28 z0z)],.o [.s 1 (.build z1z [(0,1),(1,1),(2,1),(3,1)] [(0,.const (.bool true))]),.s 2 (.build z2z [(0,1),(1,4)] [(0,.const (.int .i64 1)),(1,.tmp 1)]),.s 3 (.buildSlice 79 5 z2z 1
 [(0,.tmp 2)]),.s 4 (.build z0z [(0,1),(1,1)] [(0,.const (.int .i64 1)),(1,.tmp 3)]),.st 2 0 4],.ret]
def A5_:LF:=⟨0,5,c21,[.cell 0 (some 2)]⟩
theorem DB_:az_ Tryz.prog Tryz.f21 A5_:=at_
def c29:LC :=
 .q [.o [.bx 1 28 0,.s 2 (.alloc 28 z0z),.ki 3 0],.o [.ld 11 2 1,.c1 12 60 11,.m 10 12,.ex 13 10 0,.ex 14 10 1,.m 4 13,.m 5 14],.q [.o [.m 15 5,.bk 16 .neq false 15 0],.k 16 (.q [.o [.s 17 (.build z0z [(0,1),
 (1,1)] []),.m 18 5,.st 2 2 17,.m 3 18],.ret]) .skip],.o [.s 19 (.call 61 []),.s 6 (.alloc 28 z0z),.st 2 6 19],.q [.o [.ki 7 0],.block 0 (.loop (.q [.q [.o [.m 20 7,.m 21 4,.ll 22 21,.bb 23 .lss false 20 22],
 .k 23 .skip (.exit 0)],.block 1 (.q [.gops [.ld 27 2 6,.m 28 4,.m 29 7,.ia 30 2 28 29,.fa 31 0 30,.ln 32 31,.m 33 4,.m 34 7,.ia 35 2 33 34,.fa 36 1 35,.ln 37 36] [(.c3 38 33 27 32 37,[]),(.m 26 38,[]),(.ex
 39 26 0,[]),(.ex 40 26 1,[]),(.s 8 (.alloc 28 z0z),[.ld 27 2 6,.m 28 4,.m 29 7,.ia 30 2 28 29,.fa 31 0 30,.ln 32 31,.m 33 4,.m 34 7,.ia 35 2 33 34,.fa 36 1 35,.ln 37 36]),(.st 2 8 39,[]),(.m 9 40,[])],
 .q [.o [.m 41 9,.bk 42 .neq false 41 0],.k 42 (.q [.o [.s 43 (.build z0z [(0,1),(1,1)] []),.m 44 9,.st 2 2 43,.m 3 44],.ret]) .skip],.o [.ld 45 2 8,.st 2 6 45]]),.o [.m 24 7,.bk 25 .add false 24 1,.m 7
 25]]))],.o [.ld 46 2 6,.st 2 2 46,.ki 3 0],.ret]
def CH_:LF:=⟨1,47,c29,[.cell 2 (some 2),.tmp 3]⟩
theorem Dj_:az_ Tryz.prog Tryz.f29 CH_:=gM_
theorem l1_(h:List Row):PureCall Tryz.prog 61 [] h (.agg (ae_.cells bt1)):=by
 refine Go.Proofs.YtlcmlgihlojdmaaGreatDoor.PureCall.conv (r:=.agg [.val (.int .i64 1),.list 0 5 [[.val (.int .i64 1),.val (.bool true),.val (.slice none 0 0),.val (.slice none 0 0),.val (.slice none 0 0)]]]) ?_ ud_
 refine ar_ mixed Tryz.func61 CZ_ rfl rfl ?_ h
 simp(disch:=omega)only[A9_,c61,bT_,Option.map_some,go_sem,seval]
 exact⟨4,rfl⟩
theorem lY_(h:List Row):PureCall Tryz.prog 21 [] h (.agg (ae_.cells bt1)):=by
 refine Go.Proofs.YtlcmlgihlojdmaaGreatDoor.PureCall.conv (r:=.agg [.val (.int .i64 1),.list 0 5 [[.val (.int .i64 1),.val (.bool true),.val (.slice none 0 0),.val (.slice none 0 0),.val (.slice none 0 0)]]]) ?_ ud_
 refine ar_ mixed Tryz.func21 DB_ rfl rfl ?_ h
 simp(disch:=omega)only[A5_,c21,bT_,Option.map_some,go_sem,seval]
 exact⟨4,rfl⟩
theorem pl_{l:List ad_}{k:Nat}(h:k<l.length)(b:ae_):fV_ (l.drop k) b=if(dg_ 65 b l[k].Key l[k].Value).2=0 then fV_ (l.drop (k+1)) (dg_ 65 b l[k].Key l[k].Value).1 else(bt0,(dg_ 65 b l[k].Key l[k].Value).2):=by
 rw[drop_eq_getElem_cons h,fV_]
theorem nj_(b:ae_)(z1:b.Slots.length≤1048576)(z2:∀s∈b.Slots,smallP s.Page)(z3:∀s∈b.Slots,f0_ s.Page.Keys)(h:List Row) :
 PureCall Tryz.prog 29 [.agg (ae_.cells b)] h (.tup [.agg (ae_.cells (cm_ b).1),.val (.int .i64 (cm_ b).2)]):=by
 intro K hK
 refine callSem.weaken (k1_ (R:=fun r=>∀S x,Rep S r x→Rep S (.tup [.agg (ae_.cells (cm_ b).1),.val (.int .i64 (cm_ b).2)]) x) rfl ?_ h _ (fun r hr=>⟨_,hr,hK⟩))
 clear hK
 refine aJ_ mixed Tryz.func29 Dj_ (bi_ rfl ?_)
 simp(disch:=omega)only[CH_,c29,show ae_.cells b=[.val (.int .i64 b.Root),.list 0 5 (b.Slots.map aa_.cells)]from rfl,go_sem,Nat.reduceEqDiff,Nat.reduceAdd,↓reduceIte]
 have q1:(!decide ((1:Int)=0))=true:=rfl
 have bad:∀(H:List Row) (c:Int),∃n r,AW.resolve H n (.tup [.agg [.val (.int .i64 0),.val (.slice none 0 0)],.val (.int .i64 c)])=some r∧∀(S:Sit) (x:Value),Rep S r x→Rep S (.tup [.agg (ae_.cells bt0),.val (.int .i64 c)]) x:=fun H c =>
  ⟨4,_,rfl,m6_ (aU_ (gf_ (aU_ (bs_ _) (aU_ (fC_ 5) dy_))) (aU_ (bs_ _) dy_))⟩
 by_cases hx:64<b.Slots.length
 ·have hsv:=fun h=>lQ_ b hx z1 h
  unfold ae_.cells at hsv
  have e:cm_ b=(bt0,1):=by rw[cm_,if_pos hx]
  rw[e]
  refine PureCall.call (hsv _) ?_
  simp(disch:=first|omega|simp only[lzz0_];first|done|omega)only[go_sem,seval,q1,bT_,Option.map_some,hL_]
  exact bad _ _
 ·have hsv:=fun h=>m5_ b (by omega) z2 z3 h
  unfold ae_.cells at hsv
  have hsl:=qi_ b.Slots
  have hso:=ol_ b.Slots
  have e:cm_ b=fV_ (ey_ b.Slots) bt1:=by rw[cm_,if_neg hx]
  rw[e]
  generalize ey_ b.Slots=l at *
  refine PureCall.call (hsv _) ?_
  simp(disch:=first|omega|simp only[lzz0_];first|done|omega)only[go_sem,seval]
  refine PureCall.call (l1_ _) ?_
  simp(disch:=first|omega|simp only[lzz0_];first|done|omega)only[go_sem,Nat.reduceEqDiff,Nat.reduceAdd,↓reduceIte,show ae_.cells bt1=[.val (.int .i64 bt1.Root),.list 0 5 (bt1.Slots.map aa_.cells)]from rfl]
  refine aL_ (fun n t H=>∃(k:Nat) (x:ae_),t 2=.ptr 1 1 0 0∧t 3=.val (.int .i64 0)∧t 4=.list 0 2 (l.map ad_.cells)∧t 6=.ptr 2 1 0 0∧t 7=.val (.int .i64 k)∧n=l.length-k∧k≤l.length∧3≤H.length∧H[1]?=some ⟨.ty 28,2,[[.val (.int .i64 0),.val (.slice none 0 0)]]⟩∧H[2]?=some ⟨.ty 28,2,[[.val (.int .i64 x.Root),.list 0 5 (x.Slots.map aa_.cells)]]⟩∧(∃hh ids,Fit x hh ids)∧fV_ l bt1=fV_ (l.drop k) x) l.length ?_ ?_
  ·exact⟨0,bt1,rfl,rfl,rfl,rfl,rfl,rfl,Nat.zero_le _,Nat.le_refl _,rfl,rfl,⟨_,_,bt1_fit⟩,rfl⟩
  ·rintro J hJ n t H ⟨k,x,t2,t3,t4,t6,t7,rfl,hk,hlen,o1,o2,⟨hh,ids,ft⟩,hS⟩
   by_cases hlt:k<l.length
   ·obtain⟨r1,r2⟩:=hso _ (getElem_mem hlt)
    have hput:=fun h=>nm_ ft r1 r2 h
    have hfit:=nJ_ ft ft.ht r1 r2
    rw[pl_ hlt]at hS
    unfold ae_.cells at hput
    generalize dg_ 65 x l[k].Key l[k].Value=R at *
    simp(disch:=first|omega|simp only[lzz0_];first|done|omega)only[go_sem,seval,t4,t6,t7,o2,hlt,ad_.cells]
    refine PureCall.call (hput _) ?_
    by_cases hc:R.2=0
    ·rw[if_pos hc]at hS⊢
     simp(disch:=first|omega|simp only[lzz0_];first|done|omega)only[ab_,as_,go_sem,seval,t4,t6,t7,o2,hc,Option.map_some,aw_]
     refine⟨rfl,l.length-(k+1),by omega,hJ _ _ _ ⟨k+1,R.1,by simp[upd,t2],by simp[upd,t3],by simp[upd,t4],by simp[upd,t6],by simp[upd],rfl,by omega,by simp only[ls_,la_,lc_,ln_];omega,?_,?_,hfit hc,hS⟩⟩
     ·(repeat(first|rw[am_ (by omega)]|rw[ab_ (by first|omega|(simp only[ls_,la_,lc_,ln_];omega))]));exact o1
     ·exact getElem?_set_self (by simp only[la_,lc_,ln_];omega)
    ·rw[if_neg hc]at hS⊢
     simp(disch:=first|omega|simp only[lzz0_];first|done|omega)only[aq_,ab_,as_,go_sem,seval,t2,t4,t6,t7,o1,o2,hc,bT_,Option.map_some,hL_]
     rw[hS]
     exact⟨rfl,bad _ _⟩
   ·have hkl:k=l.length:=by omega
    rw[hkl,drop_length,fV_]at hS
    simp(disch:=first|omega|simp only[lzz0_];first|done|omega)only[aq_,go_sem,seval,t2,t4,t6,t7,o1,o2,hlt,hL_]
    rw[hS]
    exact⟨4,_,rfl,fun _ _ q=>q⟩
end Go.Proofs.YtlcmlgihlojdmaaGreatDoor
