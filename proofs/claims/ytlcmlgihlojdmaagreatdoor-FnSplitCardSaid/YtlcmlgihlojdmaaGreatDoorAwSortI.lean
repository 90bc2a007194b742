/-
 AW: rows whose elements begin with a number of their own; a sort of the library's by these numbers, taken over.
-/
import Derived.Test.YtlcmlgihlojdmaaGreatDoorAwC
import Derived.Shelf.GgSortFunc.RowK
namespace Go.AW
open List
open Go.RowKit (Below)
open Go.Sort (Holds putRow grow mapBlock onCells putCells HoldsK putRowK flatK)
set_option linter.unusedVariables false
set_option linter.unusedSimpArgs false
theorem pn_{κ:Type}[Inhabited κ](V:κ→List Value)(sz:Nat)(hsz:0<sz)(hV:∀x,(V x).length=sz)(ids:List κ)(t:Nat)(h:t<ids.length * sz):(flatK V sz ids.toArray)[t]! = (V (ids[t / sz]'(Nat.div_lt_of_lt_mul (by rw[Nat.mul_comm];exact h))))[t % sz]'(by rw[hV];exact Nat.mod_lt _ hsz):=by
 rw[Go.Sort.get_flatK _ _ _ _ (by simpa using h)]
 have hj:t / sz<ids.length:=Nat.div_lt_of_lt_mul (by rw[Nat.mul_comm];exact h)
 have e:ids.toArray[t / sz]! = ids[t / sz]:=by
  rw[getElem!_pos _ _ (by simpa using hj)];simp
 rw[e,getElem!_pos _ _ (by rw[hV];exact Nat.mod_lt _ hsz)]
def leI(a b:Int):Bool:=decide (a≤b)
theorem uk_{κ:Type}[Inhabited κ][DecidableEq κ](enc:κ→Value)(he1:∀x,(enc x).oneCell'=true)(le:κ→κ→Bool){P:Program}{f:FuncId}{E:TypeId}{g:FuncId}{sz:Nat}(hsz:0<sz)
 (hS:∀(V:κ→List Value),(∀x,(V x).length=sz)→(∀x,∀v∈V x,v.oneCell'=true)→(∀x,∃r,V x=enc x::r)→∀(blk off cap:Nat) (ids:List κ) (w:World),HoldsK V sz w blk off ids.toArray→blk<w.heap.size→ids.length<4611686018427387904 →
   Calls P f #[.slice (some ⟨blk,off,none⟩) ids.length cap,.func (.func g) #[] #[]] w fun e w'=>e=.returned (.tuple #[])∧∃n os,w'=grow (putRowK V sz (Go.Sort.ahead w n) blk off (ids.mergeSort le).toArray) os)
 (h0:∀(p:Option Addr) (cap:Nat) (w:World),Calls P f #[.slice p 0 cap,.func (.func g) #[] #[]] w fun e w'=>e=.returned (.tuple #[])∧w'=w)
 {ids:List κ} {F:κ→List AV} (hF:∀i∈ids,(∃r,F i=.val (enc i)::r)∧(F i).length=sz∧(F i).all AV.cell=true) (hnd:ids.Nodup) {l:Nat} {H:List Row} (hl:H[l]?=some ⟨.ty E,sz,ids.map F⟩) (hlen:ids.length<4611686018427387904) {K:AV→List Row→Prop} (hk:K (.tup []) (H.set l ⟨.ty E,sz,(ids.mergeSort le).map F⟩)) :
 callSem P f [.own l ids.length,.fn g [] []] H K:=by
 intro S w vals hm hgl hr
 simp only[ae_]at hr
 obtain⟨x,r,e,rx,y,r2,e2,ry,e3⟩:=hr
 subst e3 e2
 simp only[Rep]at ry
 obtain⟨vs,us,rfl,r5,r6⟩:=ry
 simp only[ae_]at r5 r6
 have ev:vs=#[]:=by cases vs;simp at r5;rw[r5]
 have eu:us=#[]:=by cases us;simp at r6;rw[r6]
 subst ev eu
 have e':vals=#[x,.func (.func g) #[] #[]]:=by cases vals;simp at e;rw[e]
 subst e'
 simp only[Rep]at rx
 obtain⟨_,i,q1,q2,q3⟩:=rx
 obtain⟨k1,k2,k3,k4⟩:=hm.rows l i _ q1 hl
 have hil:i.len=ids.length:=by rw[k1];simp
 have hml:(ids.mergeSort le).length=ids.length:=length_mergeSort _
 by_cases hz:ids=[]
 ·subst hz
  have hx:∃p cap,x=.slice p 0 cap:=by
   rcases q3 (by simpa using hil.symm)with q|⟨_,p,q⟩
   ·unfold sliceAt at q
    split at q
    ·rw[hil]at q;exact⟨_,_,q⟩
    ·exact⟨_,_,q⟩
   ·exact⟨_,_,q⟩
  obtain⟨p,cap,hx⟩:=hx
  subst hx
  refine(h0 p cap w).mono ?_
  rintro e w' ⟨rfl,rfl⟩
  refine⟨_,.tup [],S,H,rfl,a0_.refl _ _,hm,by simp[Rep,ae_],?_⟩
  have:H.set l ⟨.ty E,sz,(([]:List κ).mergeSort le).map F⟩=H:=by
   have:=jb_ hl
   simpa using this
  rw[this]at hk;exact hk
 ·have hpos:0<ids.length:=length_pos_iff.2 hz
  have hne:ids.map F≠[]:=by intro q;have:=congrArg List.length q;simp at this;exact hz this
  cases hb:i.blk with
  | none=>rw[hb]at k4;exact absurd k4.1 hne
  | some b =>
   rw[hb]at k4
   have hx:x=.slice (some ⟨b,0,none⟩) ids.length i.cap:=by
    rcases q3 (by omega)with q|⟨q,_⟩
    ·rw[q];simp only[sliceAt,hb,hil]
    ·rw[hb]at q;cases q
   subst hx
   have k5:=k4.2
   rw[ax_.ty (E:=E) rfl]at k5
   obtain⟨c,j2,j3,j4,j5,j6⟩:=k5
   have k3':∀e∈ids.map F,e.length=sz:=k3
   have j3':=(bi_ k3').1 j3
   have hblt:b<w.heap.size:=(Array.getElem?_eq_some_iff.1 j2).1
   have hsz2:i.sz=sz:=k2
   have hcs:ids.length * sz≤c.size:=by
    rw[j4,hsz2]
    exact Nat.mul_le_mul_right _ (by omega)
   let V:κ→List Value:=fun n=>if n∈ids then(c.toList.drop (ids.idxOf n * sz)).take sz else enc n::List.replicate (sz-1) (.bool false)
   have hVin:∀n∈ids,V n=(c.toList.drop (ids.idxOf n * sz)).take sz:=fun n hn=>if_pos hn
   have hidx:∀n∈ids,ids.idxOf n<ids.length:=fun n hn=>idxOf_lt_length_of_mem hn
   have hplace:∀n∈ids,ids.idxOf n * sz+sz≤c.size:=fun n hn=>by
    have h1:=hidx n hn
    have h2:(ids.idxOf n+1) * sz≤ids.length * sz:=Nat.mul_le_mul_right _ h1
    rw[Nat.add_mul]at h2
    omega
   have hVlen:∀n,(V n).length=sz:=by
    intro n
    by_cases hn:n∈ids
    ·have:=hplace n hn
     rw[hVin n hn,length_take,length_drop,Array.length_toList]
     omega
    ·show(if n∈ids then _ else _:List Value).length=sz
     rw[if_neg hn]
     simp;omega
   have hVat:∀n (hn:n∈ids) (q:Nat) (hq:q<sz),∃v,c.toList[ids.idxOf n * sz+q]?=some v∧(V n)[q]?=some v∧∃a,(F n)[q]?=some a∧Rep S a v:=by
    intro n hn q hq
    have h1:=hidx n hn
    obtain⟨_,h3,_⟩:=hF n hn
    have h2:(ids.map F)[ids.idxOf n]?=some (F n):=by
     rw[getElem?_map,getElem?_eq_getElem h1,getElem_idxOf];rfl
    have h4:(F n)[q]?=some ((F n)[q]'(by omega)):=getElem?_eq_getElem (by omega)
    obtain⟨v,h5,h6⟩:=j3' _ _ h2 q _ h4
    refine⟨v,h5,?_,_,h4,h6⟩
    rw[hVin n hn,getElem?_take,if_pos hq,getElem?_drop]
    exact h5
   have hVone:∀n,∀v∈V n,v.oneCell'=true:=by
    intro n v hv
    by_cases hn:n∈ids
    ·obtain⟨q,hq,rfl⟩:=mem_iff_getElem.1 hv
     rw[hVlen]at hq
     obtain⟨v',h1,h2,a,h3,h4⟩:=hVat n hn q hq
     rw[getElem?_eq_getElem (by rw[hVlen];exact hq)]at h2
     rw[Option.some.inj h2]
     have:=(hF n hn).2.2
     rw[all_eq_true]at this
     exact ll_ (this a (mem_of_getElem? h3)) h4
    ·have hv':v∈(if n∈ids then(c.toList.drop (ids.idxOf n * sz)).take sz else enc n::List.replicate (sz-1) (.bool false):List Value):=hv
     rw[if_neg hn]at hv'
     rcases mem_cons.1 hv' with q|q
     ·rw[q];exact he1 _
     ·rw[eq_of_mem_replicate q];rfl
   have hVhd:∀n,∃r,V n=enc n::r:=by
    intro n
    by_cases hn:n∈ids
    ·obtain⟨v,h1,h2,a,h3,h4⟩:=hVat n hn 0 hsz
     obtain⟨⟨r,h5⟩,_⟩:=hF n hn
     rw[h5]at h3
     simp only[getElem?_cons_zero,Option.some.injEq]at h3
     subst h3
     simp only[Rep]at h4
     subst h4
     cases hv:V n with
     | nil=>rw[hv]at h2;cases h2
     | cons u r =>
      rw[hv]at h2
      simp only[getElem?_cons_zero,Option.some.injEq]at h2
      rw[h2]
      exact⟨r,rfl⟩
    ·exact⟨_,if_neg hn⟩
   have hH:HoldsK V sz w b 0 ids.toArray:=by
    intro t ht
    have ht':t<ids.length * sz:=by simpa using ht
    have htj:t / sz<ids.length:=Nat.div_lt_of_lt_mul (by rw[Nat.mul_comm];exact ht')
    have hc:c[t]?=some ((flatK V sz ids.toArray)[t]!):=by
     rw[pn_ V sz hsz hVlen ids t ht']
     have hq:=Nat.mod_lt t hsz
     obtain⟨v,h1,h2,_⟩:=hVat _ (getElem_mem htj) (t % sz) hq
     rw[hnd.idxOf_getElem _ htj]at h1
     rw[getElem?_eq_getElem (by rw[hVlen];exact hq)]at h2
     rw[h2,←h1]
     have:t / sz * sz+t % sz=t:=by rw[Nat.mul_comm];exact Nat.div_add_mod t sz
     rw[this];simp
    constructor
    ·simp only[World.cell?,j2,Nat.zero_add,hc]
     rfl
    ·simp[World.frozen?,j2]
   refine(hS V hVlen hVone hVhd b 0 i.cap ids w hH hblt hlen).mono ?_
   rintro e w' ⟨rfl,n,os,rfl⟩
   have hset:=ab_.set (w':=putRowK V sz (Go.Sort.ahead w n) b 0 (ids.mergeSort le).toArray) hm (r:=⟨.ty E,sz,ids.map F⟩) (.inl (.inl rfl)) q1 hl hb (es':=(ids.mergeSort le).map F) (c':=putCells id 0 (flatK V sz (ids.mergeSort le).toArray) c)
    (by rw[length_map,length_map,hml])
    (by
      have hw2:∀e∈(ids.mergeSort le).map F,e.length=sz:=by
       intro e he
       obtain⟨n,hn,rfl⟩:=mem_map.1 he
       exact(hF n (mem_mergeSort.1 hn)).2.1
      refine(bi_ hw2).2 fun j e he q a ha=>?_
      have hj:j<(ids.mergeSort le).length:=by
       have:=(List.getElem?_eq_some_iff.1 he).1
       simpa using this
      rw[getElem?_map,getElem?_eq_getElem hj]at he
      have he:=Option.some.inj he
      have hmem:(ids.mergeSort le)[j]∈ids:=mem_mergeSort.1 (getElem_mem hj)
      have hq:q<sz:=by
       have h1:=(List.getElem?_eq_some_iff.1 ha).1
       rw[←he,(hF _ hmem).2.1]at h1;exact h1
      obtain⟨v,h1,h2,a',h3,h4⟩:=hVat _ hmem q hq
      rw[he]at h3
      rw[ha]at h3
      have h3:=Option.some.inj h3
      subst h3
      refine⟨v,?_,h4⟩
      have ht:j * sz+q<(ids.mergeSort le).length * sz:=by
       have h5:(j+1) * sz≤(ids.mergeSort le).length * sz:=Nat.mul_le_mul_right _ hj
       rw[Nat.add_mul]at h5
       omega
      have htc:j * sz+q<c.size:=by rw[hml]at ht;omega
      simp only[putCells,Array.toList_mapIdx,getElem?_mapIdx,Array.getElem?_toList,Array.getElem?_eq_getElem htc,Option.map_some]
      have ht2:j * sz+q<ids.length * sz:=by rw[hml]at ht;exact ht
      rw[if_pos ⟨Nat.zero_le _,by simp;exact ht2⟩]
      simp only[Nat.sub_zero,id_eq,pn_ V sz hsz hVlen (ids.mergeSort le) _ ht]
      have d1:(j * sz+q) / sz=j:=by rw[Nat.add_comm,Nat.add_mul_div_right _ _ hsz,Nat.div_eq_of_lt hq,Nat.zero_add]
      have d2:(j * sz+q) % sz=q:=by rw[Nat.add_comm,Nat.add_mul_mod_self_right,Nat.mod_eq_of_lt hq]
      simp only[d1,d2]
      rw[←h2,getElem?_eq_getElem (by rw[hVlen];exact hq)])
    (by
      intro e he
      obtain⟨n,hn,rfl⟩:=mem_map.1 he
      exact(hF n (mem_mergeSort.1 hn)).2.1) (by simp[putCells,j4])
    ⟨(0,0),by
     show(w.heap.modify b _)[b]?=_
     rw[Array.getElem?_modify,if_pos rfl,j2];rfl,.zero _ _⟩
    (fun q hq=>by
      show(w.heap.modify b _)[q]?=_
      rw[Array.getElem?_modify,if_neg (Ne.symm hq)])
    (by show(w.heap.modify b _).size=_;simp) rfl rfl rfl
   have hB:Below (putRowK V sz (Go.Sort.ahead w n) b 0 (ids.mergeSort le).toArray).heap.size (putRowK V sz (Go.Sort.ahead w n) b 0 (ids.mergeSort le).toArray) (grow (putRowK V sz (Go.Sort.ahead w n) b 0 (ids.mergeSort le).toArray) os) :=
    ⟨rfl,rfl,rfl,by simp[grow],fun q hq=>by
     show(_++os)[q]?=_
     rw[Array.getElem?_append_left hq]⟩
   exact⟨_,.tup [],S,_,rfl,hset.2.trans (a0_.below hB),hset.1.below hB,by simp[Rep,ae_],hk⟩
theorem uY_{P:Program}{f:FuncId}{E:TypeId}{g:FuncId}{sz:Nat}(hsz:0<sz)
 (hS:∀(V:Int→List Value),(∀x,(V x).length=sz)→(∀x,∀v∈V x,v.oneCell'=true)→(∀x,∃r,V x=.int .i64 x::r)→∀(blk off cap:Nat) (ids:List Int) (w:World),HoldsK V sz w blk off ids.toArray→blk<w.heap.size→ids.length<4611686018427387904 →
   Calls P f #[.slice (some ⟨blk,off,none⟩) ids.length cap,.func (.func g) #[] #[]] w fun e w'=>e=.returned (.tuple #[])∧∃n os,w'=grow (putRowK V sz (Go.Sort.ahead w n) blk off (ids.mergeSort leI).toArray) os)
 (h0:∀(p:Option Addr) (cap:Nat) (w:World),Calls P f #[.slice p 0 cap,.func (.func g) #[] #[]] w fun e w'=>e=.returned (.tuple #[])∧w'=w)
 {ids:List Int} {F:Int→List AV} (hF:∀i∈ids,(∃r,F i=.val (.int .i64 i)::r)∧(F i).length=sz∧(F i).all AV.cell=true) (hnd:ids.Nodup) {l:Nat} {H:List Row} (hl:H[l]?=some ⟨.ty E,sz,ids.map F⟩) (hlen:ids.length<4611686018427387904) {K:AV→List Row→Prop} (hk:K (.tup []) (H.set l ⟨.ty E,sz,(ids.mergeSort leI).map F⟩)) :
 callSem P f [.own l ids.length,.fn g [] []] H K :=
 uk_ (fun n=>.int .i64 n) (fun _=>rfl) leI hsz hS h0 hF hnd hl hlen hk
end Go.AW
