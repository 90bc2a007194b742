/-
 Contracts of functions. Conditions: as each theorem says.
-/
import Derived.Test.YtlcmlgihlojdmaaGreatDoorShelfF
import Derived.Test.YtlcmlgihlojdmaaGreatDoorAwSortI
import Derived.Test.YtlcmlgihlojdmaaGreatDoorBase
import Derived.Test.YtlcmlgihlojdmaaGreatDoorFnBW
import Derived.Test.YtlcmlgihlojdmaaGreatDoorFnBS
import Derived.Test.YtlcmlgihlojdmaaGreatDoorPlKey
import Derived.StillTailTactics
import Derived.WalkKit
import Derived.WalkSmall
import Derived.Sort.Grow
namespace Go.Proofs.YtlcmlgihlojdmaaGreatDoor
open Go.AW
open Go.Shelf Go.RowKit Go.Lib
set_option linter.unusedVariables false
set_option linter.unusedSimpArgs false
set_option linter.unnecessarySimpa false
open List
set_option maxRecDepth 4000
section
open Go.Sort
set_option maxHeartbeats 4000000
set_option maxRecDepth 100000
theorem yE_(x:Int)(w:World):Calls Tryz.prog 138 #[.int .i64 x] w fun e w'=>e=.returned (.bool false)∧w'=w:=by
 go_enter Tryz.func138,Tryz.ntmps138
 go_wp2
 go_ret
 exact⟨by simp,rfl⟩
theorem u5_(x y:Int)(w:World):Calls Tryz.prog 84 #[.int .i64 x,.int .i64 y] w fun e w'=>e=.returned (.int .i64 (Lib.compareInt x y))∧w'=w:=by
 go_enter Tryz.func84,Tryz.ntmps84
 go_wp2_with (go_at_call 138;refine(yE_ _ _).mono ?_;rintro e w' ⟨rfl,hw⟩;rw[hw])
 all_goals(go_ret;refine⟨?_,rfl⟩;unfold Lib.compareInt;(repeat' split)<;>first|rfl|(exfalso;omega))
theorem CM_(x y:Int)(a b c d a' b' c' d':Value)(W:World):Calls Tryz.prog 83 #[.agg #[.int .i64 x,a,b,c,d],.agg #[.int .i64 y,a',b',c',d']] W fun e w'=>e=.returned (.int .i64 (Lib.compareInt x y))∧∃q os',w'=grow (W.drewN q) os':=by
 have hc:=fun(w:World)=>u5_ x y w
 generalize Lib.compareInt x y=A at hc⊢
 go_enter Tryz.func83,Tryz.ntmps83
 go_wp2_with (go_at_call 84;refine(hc _).mono ?_;rintro e w' ⟨rfl,rfl⟩)
 go_ret
 refine⟨rfl,0,#[.cells #[.int .i64 x,a,b,c,d] 79,.cells #[.int .i64 y,a',b',c',d'] 79],?_⟩
 rfl
end
theorem ltI(x y:Int):ltOf Lib.compareInt x y=decide (x<y):=by
 rw[Bool.eq_iff_iff,decide_eq_true_iff]
 unfold ltOf Lib.compareInt
 by_cases h1:x<y
 ·simp[h1]
 ·by_cases h2:y<x
  ·simp[h1,h2]
  ·simp[h1,h2]
theorem Dc_:Go.Sort.SWO (ltOf Lib.compareInt) where
 irrefl x:=by rw[ltI,decide_eq_false_iff_not];omega
 trans x y z h1 h2:=by rw[ltI,decide_eq_true_iff]at *;omega
 ntrans x y z h1 h2:=by rw[ltI,decide_eq_false_iff_not]at *;omega
theorem Aw_{V:List Value}(h:V.length=5){x:Value}(hx:∃r,V=x::r):∃a b c d,V=[x,a,b,c,d]:=by
 obtain⟨r,rfl⟩:=hx
 match r,h with
 | [a,b,c,d],_=>exact⟨a,b,c,d,rfl⟩
theorem s8_(V:Int→List Value)(hV:∀x,(V x).length=5)(h1:∀x,∀v∈V x,v.oneCell'=true)(hh:∀x,∃r,V x=.int .i64 x::r)(blk off cap:Nat)(ids:List Int)(w:World)(hH:Go.Sort.HoldsK V 5 w blk off ids.toArray)(hblk:blk<w.heap.size)(hsz:ids.length<4611686018427387904) :
 Calls Tryz.prog 82 #[.slice (some ⟨blk,off,none⟩) ids.length cap,.func (.func 83) #[] #[]] w fun e w'=>e=.returned (.tuple #[])∧∃n os,w'=Go.Sort.grow (Go.Sort.putRowK V 5 (Go.Sort.ahead w n) blk off (ids.mergeSort leI).toArray) os:=by
 have eg:∀args w,(callFunc 83 args).run Tryz.prog w=.ok (.enter 83 args) w:=enters_of Tryz.func83 (by kernel_rfl) rfl
 have h:=AnyQ.slices_SortFunc_total Tryz.sortF 5 Tryz.isAgg79 Tryz.sizeOf79 V hV h1 Lib.compareInt Dc_ 83 #[] blk off cap ids.toArray w eg (fun _ _ _ _ x y=>by
  obtain⟨a,b,c,d,e1⟩:=Aw_ (hV x) (hh x)
  obtain⟨a',b',c',d',e2⟩:=Aw_ (hV y) (hh y)
  rw[e1,e2]
  exact CM_ x y a b c d a' b' c' d' _) hH hblk (by simpa using hsz)
  (fun x y h1 h2=>by
    rw[ltI,decide_eq_false_iff_not]at h1 h2
    omega)
 have e:(fun x y:Int=>!(ltOf Lib.compareInt) y x)=leI:=by
  funext x y
  rw[ltI,leI,Bool.eq_iff_iff]
  simp
 rw[e]at h
 refine Calls.mono (show Calls Tryz.prog 82 #[.slice (some ⟨blk,off,none⟩) ids.length cap,.func (.func 83) #[] #[]] w _ from h) ?_
 rintro e w' ⟨he,n,os,hw⟩
 exact⟨he,n,os,hw⟩
theorem gz_{ids:List Int}{F:Int→List AV}(hF:∀i∈ids,(∃r,F i=.val (.int .i64 i)::r)∧(F i).length=5∧(F i).all AV.cell=true)(hnd:ids.Nodup){l:Nat}{H:List Row}(hl:H[l]?=some ⟨.ty 79,5,ids.map F⟩)(hlen:ids.length≤4000000){K:AV→List Row→Prop}(hk:K (.tup []) (H.set l ⟨.ty 79,5,(ids.mergeSort leI).map F⟩)) :
 callSem Tryz.prog 82 [.own l ids.length,.fn 83 [] []] H K :=
 vY_ (by omega) (fun V h1 h2 h3 blk off cap ids w h4 h5 h6=>s8_ V h1 h2 h3 blk off cap ids w h4 h5 h6) (fun p cap w=>AnyF.slices_SortFunc_none Tryz.sortF p cap _ w) hF hnd hl (by omega) hk
theorem f1_{α β:Type}{f:α→β}:∀{l:List α},(l.map f).Nodup→∀{a b:α},a∈l→b∈l→f a=f b→a=b
 | [],_,a,b,ha,_,_=>by cases ha
 | x::l,hn,a,b,ha,hb,e=>by
  rw[map_cons,nodup_cons]at hn
  rcases mem_cons.1 ha with q|q
  ·rcases mem_cons.1 hb with q2|q2
   ·rw[q,q2]
   ·exact absurd (mem_map.2 ⟨b,q2,by rw[←e,q]⟩) hn.1
  ·rcases mem_cons.1 hb with q2|q2
   ·exact absurd (mem_map.2 ⟨a,q,by rw[e,q2]⟩) hn.1
   ·exact f1_ hn.2 q q2 e
theorem t0_{ents:List (Int×Nat×AV)}(hn:(ents.map (·.2.1)).Nodup){e:Int×Nat×AV}(he:e∈ents):ents.find? (fun q=>q.2.1==e.2.1)=some e:=by
 cases h:ents.find? (fun q=>q.2.1==e.2.1)with
 | none =>
  have:=find?_eq_none.1 h e he
  simp at this
 | some q =>
  have h1:=mem_of_find?_eq_some h
  have h2:=find?_some h
  rw[f1_ hn h1 he (by simpa using h2)]
theorem lA_.page{ents:List (Int×Nat×AV)}{ck:Nat}{B:List PB}(h:lA_ ents ck B){e:Int×Nat×AV}(he:e∈ents):∃x∈B,e.1=x.id∧e.2.2=.ptr x.b 1 0 0:=by
 have:(e.1,e.2.2)∈ents.map (fun e=>(e.1,e.2.2)):=mem_map.2 ⟨e,he,rfl⟩
 rw[h.same]at this
 obtain⟨x,hx,q⟩:=mem_map.1 this
 exact⟨x,hx,(Prod.mk.inj q).1.symm,(Prod.mk.inj q).2.symm⟩
theorem lA_.ids{ents:List (Int×Nat×AV)}{ck:Nat}{B:List PB}(h:lA_ ents ck B):ents.map (·.1)=B.map PB.id:=by
 have:=congrArg (List.map Prod.fst) h.same
 simpa[map_map,Function.comp_def]using this
def fx_(z:PB×Nat×Nat×Nat):Tr :=
 ⟨[.val (.int .i64 z.1.id),.val (.bool z.1.pg.Leaf),.sub z.2.1 z.1.pg.Keys.length 0 z.1.pg.Keys.length,.sub z.2.2.1 z.1.pg.Vals.length 0 z.1.pg.Vals.length,.sub z.2.2.2 z.1.pg.Kids.length 0 z.1.pg.Kids.length],ab_.cells z.1.slot,[z.2.1,z.2.2.1,z.2.2.2]⟩
theorem mQ_{H:List Row}{n:Nat}:∀us:List Value,aX_ (Own H (n+1)) (us.map fun u=>[AV.val u]) (us.map fun u=>[AV.val u]) []
 | []=>⟨rfl,rfl⟩
 | u::us=>⟨[.val u],us.map fun u=>[AV.val u],[],[],rfl,rfl,⟨.val u,[],[],[],rfl,rfl,⟨rfl,.inl rfl⟩,rfl,rfl⟩,mQ_ us⟩
theorem kM_{H:List Row}{n l:Nat}{E:TypeId}{us:List Value}(hl:H[l]?=some ⟨.ty E,1,us.map fun u=>[AV.val u]⟩):Own H (n+2) (.sub l us.length 0 us.length) (.list 0 1 (us.map fun u=>[AV.val u])) [l] :=
 ⟨_,us.map fun u=>[AV.val u],[],hl,by simp,mQ_ us,by rw[take_of_length_le (by simp),drop_zero],rfl⟩
theorem mB_{H:List Row}{n l:Nat}{E:TypeId}{xs:List ByteArray}(hl:H[l]?=some ⟨.ty E,1,xs.map ag_⟩):Own H (n+2) (.sub l xs.length 0 xs.length) (.list 0 1 (xs.map ag_)) [l]:=by
 have e:xs.map ag_=(xs.map Value.string).map (fun u=>[AV.val u]):=by rw[map_map];rfl
 rw[e]at hl⊢
 have:=kM_ (n:=n) hl
 rwa [length_map]at this
theorem u8_{H:List Row}{n l:Nat}{E:TypeId}{xs:List Int}(hl:H[l]?=some ⟨.ty E,1,xs.map ay_⟩):Own H (n+2) (.sub l xs.length 0 xs.length) (.list 0 1 (xs.map ay_)) [l]:=by
 have e:xs.map ay_=(xs.map (Value.int .i64)).map (fun u=>[AV.val u]):=by rw[map_map];rfl
 rw[e]at hl⊢
 have:=kM_ (n:=n) hl
 rwa [length_map]at this
theorem v2_{H:List Row}{x:PB}{k v d:Nat}(h1:H[k]?=some ⟨.ty 9,1,x.pg.Keys.map ag_⟩)(h2:H[v]?=some ⟨.ty 9,1,x.pg.Vals.map ag_⟩)(h3:H[d]?=some ⟨.ty 2,1,x.pg.Kids.map ay_⟩):aJ_ (Own H 2) (fx_ (x,k,v,d)).c (fx_ (x,k,v,d)).d (fx_ (x,k,v,d)).f :=
 ⟨_,_,[],[k,v,d],rfl,rfl,⟨rfl,.inl rfl⟩,_,_,[],[k,v,d],rfl,rfl,⟨rfl,.inl rfl⟩,_,_,[k],[v,d],rfl,rfl,mB_ h1,_,_,[v],[d],rfl,rfl,mB_ h2,_,_,[d],[],rfl,rfl,u8_ h3,rfl,rfl⟩
def VI(H h:List Row)(ents:List (Int×Nat×AV))(B:List PB)(l:Nat)(seen:List Nat)(vis:List (PB×Nat×Nat×Nat)):Prop :=
 ck_ l h 79 5 l vis.length (vis.map fx_)∧(∀z∈vis,z.1∈B)∧(vis.map (fun z=>z.1.id)).Nodup∧∀e∈ents,(e.2.1∈seen↔e.1∈vis.map fun z=>z.1.id)
theorem ck_.low{lo lo' E sz l m:Nat}{H:List Row}{ts:List Tr}(s:ck_ lo H E sz l m ts)(h:lo'≤lo):ck_ lo' H E sz l m ts:=⟨s.row,s.le,s.wide,s.tree,s.one,fun x hx=>⟨Nat.le_trans h (s.lows x hx).1,(s.lows x hx).2⟩⟩
def pO_(vis:List (PB×Nat×Nat×Nat))(i:Int):Option (PB×Nat×Nat×Nat):=vis.find? fun z=>z.1.id==i
theorem ue_{vis:List (PB×Nat×Nat×Nat)}(hn:(vis.map (fun z=>z.1.id)).Nodup){z:PB×Nat×Nat×Nat}(hz:z∈vis):pO_ vis z.1.id=some z:=by
 unfold pO_
 cases h:vis.find? (fun q=>q.1.id==z.1.id)with
 | none =>
  have:=find?_eq_none.1 h z hz
  simp at this
 | some q =>
  have h1:=mem_of_find?_eq_some h
  have h2:=find?_some h
  rw[f1_ (f:=fun z:PB×Nat×Nat×Nat=>z.1.id) hn h1 hz (by simpa using h2)]
def qg_(vis:List (PB×Nat×Nat×Nat))(i:Int):Tr:=match pO_ vis i with|some z=>fx_ z|none=>⟨[],[],[]⟩
def lr_(vis:List (PB×Nat×Nat×Nat))(i:Int):am_:=match pO_ vis i with|some z=>z.1.pg|none=>⟨false,[],[],[]⟩
theorem gJ_{vis:List (PB×Nat×Nat×Nat)}(hn:(vis.map (fun z=>z.1.id)).Nodup){z:PB×Nat×Nat×Nat}(hz:z∈vis):qg_ vis z.1.id=fx_ z∧lr_ vis z.1.id=z.1.pg:=by
 unfold qg_ lr_;rw[ue_ hn hz];exact⟨rfl,rfl⟩
theorem wZ_{B:List PB}{sl:List ab_}{ents:List (Int×Nat×AV)}{ck l:Nat}{h:List Row}{seen:List Nat}{vis:List (PB×Nat×Nat×Nat)}(ok:c2_ sl)(hsame:∀id,aj_ (B.map PB.slot) id=aj_ sl id)(hbox:∀x∈B,aj_ sl x.id=some x.pg)(hids:(B.map PB.id).Nodup)(hents:lA_ ents ck B)(hall:∀e∈ents,e.2.1∈seen)(sA:ck_ l h 79 5 l vis.length (vis.map fx_))(hvB:∀z∈vis,z.1∈B)(hvn:(vis.map (fun z=>z.1.id)).Nodup)(hvs:∀e∈ents,(e.2.1∈seen↔e.1∈vis.map fun z=>z.1.id))(K:AV→List Row→Prop)
 (hK:∀H' ts,(∀x,x<l→H'[x]?=h[x]?)→ck_ l H' 79 5 l sl.length ts→ts.length=sl.length→ts.map Tr.d=sl.map ab_.cells→vis.length=sl.length→K (.tup []) H') :
 callSem Tryz.prog 82 [.own l vis.length,.fn 83 [] []] h K:=by
 have e1:vis.map fx_=(vis.map (fun z=>z.1.id)).map (qg_ vis):=by
  rw[map_map]
  exact map_congr_left fun z hz=>(gJ_ hvn hz).1.symm
 have hperm:((vis.map (fun z=>z.1.id)).mergeSort leI).Perm (vis.map (fun z=>z.1.id)):=mergeSort_perm _ _
 have hrise:ed_ (((vis.map (fun z=>z.1.id)).mergeSort leI).map fun i=>(⟨i,lr_ vis i⟩:ab_)):=by
  have h1:((vis.map (fun z=>z.1.id)).mergeSort leI).Pairwise (fun a b=>leI a b=true):=pairwise_mergeSort (le:=leI) (fun a b c=>by simp only[leI,decide_eq_true_iff];omega) (fun a b=>by simp only[leI,Bool.or_eq_true,decide_eq_true_iff];omega) _
  have h2:((vis.map (fun z=>z.1.id)).mergeSort leI).Nodup:=hperm.nodup_iff.2 hvn
  refine pairwise_map.2 ((h1.and h2).imp ?_)
  rintro a b ⟨q1,q2⟩
  simp only[leI,decide_eq_true_iff]at q1
  show a<b
  omega
 have hsl:((vis.map (fun z=>z.1.id)).mergeSort leI).map (fun i=>(⟨i,lr_ vis i⟩:ab_))=sl:=by
  refine qA_ hrise ok.rise fun id=>Option.ext fun p=>⟨fun hp=>?_,fun hp=>?_⟩
  ·obtain⟨i,hi,e⟩:=mem_map.1 (ff_ hp)
   obtain⟨z,hz,rfl⟩:=mem_map.1 (hperm.mem_iff.1 hi)
   have e2:=congrArg ab_.Id e
   have e3:=congrArg ab_.Page e
   simp only at e2 e3
   rw[(gJ_ hvn hz).2]at e3
   rw[←e2,←e3]
   exact hbox _ (hvB z hz)
  ·have hp2:=hp
   rw[←hsame]at hp2
   obtain⟨x,hx,e⟩:=mem_map.1 (ff_ hp2)
   have e2:x.id=id:=congrArg ab_.Id e
   have e3:x.pg=p:=congrArg ab_.Page e
   have hxi:x.id∈ents.map (·.1):=by rw[hents.ids];exact mem_map_of_mem hx
   obtain⟨q,hq,e4⟩:=mem_map.1 hxi
   have h5:=(hvs q hq).1 (hall q hq)
   rw[e4]at h5
   obtain⟨z,hz,e6⟩:=mem_map.1 h5
   have e7:z.1=x:=f1_ hids (hvB z hz) hx e6
   have h8:(⟨z.1.id,lr_ vis z.1.id⟩:ab_)∈((vis.map (fun z=>z.1.id)).mergeSort leI).map fun i=>(⟨i,lr_ vis i⟩:ab_):=mem_map.2 ⟨z.1.id,hperm.mem_iff.2 (mem_map.2 ⟨z,hz,rfl⟩),rfl⟩
   have h9:=n8_ hrise h8
   rw[(gJ_ hvn hz).2,e7,e2,e3]at h9
   exact h9
 have hlen:vis.length=sl.length:=by
  have:=congrArg List.length hsl
  simpa using this
 have hrow:=sA.row
 have hl:=sA.lt
 rw[e1,map_map]at hrow
 have hm:=gz_ (ids:=vis.map fun z:PB×Nat×Nat×Nat=>z.1.id) (F:=fun i=>(qg_ vis i).c) (l:=l) (H:=h) (K:=K) (fun i hi=>by
  obtain⟨z,hz,rfl⟩:=mem_map.1 hi
  simp only[(gJ_ hvn hz).1]
  exact⟨⟨_,rfl⟩,rfl,rfl⟩) hvn hrow (by simp only[length_map];have:=ok.len;omega)
 rw[length_map]at hm
 refine hm (hK _ (((vis.map (fun z=>z.1.id)).mergeSort leI).map (qg_ vis)) (fun x hx=>getElem?_set_ne (by omega)) ?_ (by simp[hlen]) ?_ hlen)
 ·refine ck_.renew (new:=[]) (old:=vis.map fx_) sA (by rw[getElem?_set_self hl,map_map];rfl) (by simp[hlen]) (by rw[nil_append,e1];exact hperm.map _) (List.Sublist.refl _) (fun t ht=>(by cases ht)) ⟨0,fun t ht=>(by cases ht)⟩ (by simp) (fun x hx=>(by cases hx)) (fun x hx=>?_) (.inl rfl) (by simp)
  refine getElem?_set_ne (fun e=>?_)
  subst e
  exact(nodup_cons.1 sA.one).1 hx
 ·rw[map_map]
  conv=>rhs;rw[←hsl]
  rw[map_map]
  refine map_congr_left fun i hi=>?_
  obtain⟨z,hz,rfl⟩:=mem_map.1 (hperm.mem_iff.1 hi)
  simp only[Function.comp,(gJ_ hvn hz).1,(gJ_ hvn hz).2]
  rfl
def c40:LC :=
 .q [.o [.s 2 (.alloc 28 z1z)],.o [.m 6 0,.nc 7 6,.fa 8 0 7,.ln 9 8,.s 10 (.build z1z [(0,1),(1,1)] [(0,.tmp 9)]),.s 3 (.alloc 28 z1z),.st 2 3 10],.q [.o [.m 11 0,.nc 12 11,.fa 13 1 12,.ln 14 13,.s 15
 (.ext (.rng (.tmp 14)))],.block 0 (.ghost (.loop (.q [.o [.s 16 (.ext (.nxt (.tmp 15))),.ex 17 16 0],.k 17 .skip (.exit 0),.block 1 (.q [.o [.s 18 (.ext (.ent (.tmp 15))),.ex 19 18 0,.ex 20 18 1,.m 4 19,.m 5 20],
 .gops [.fa 21 1 3,.ln 22 21,.m 23 4,.m 24 5,.nc 25 24,.ld 26 4 25] [(.c1 27 79 26,[.fa 21 1 3,.ln 22 21,.m 23 4]),(.s 28 (.build z2z [(0,1),(1,4)] [(0,.tmp 23),(1,.tmp 27)]),[.fa 21 1 3,.ln 22 21]),(.s
 29 (.buildSlice 79 5 z2z 1 [(0,.tmp 28)]),[.fa 21 1 3,.ln 22 21]),(.ap 30 79 5 88 22 29,[]),(.fa 31 1 3,[]),(.st 1 31 30,[])]])])))],.o [.fa 32 1 3,.ln 33 32,.s 34 (.call 82 [.tmp 33,.func 83])],.o [.ld 35
 2 3,.st 2 2 35],.ret]
def zA_:LF:=⟨1,36,c40,[.cell 2 (some 2)]⟩
theorem Ci_:aA_ Tryz.prog Tryz.f40 zA_:=fh_
theorem pI_{T M:Nat}{root:Int}{lo mx:Nat}{sl:List ab_}{H:List Row}{B:List PB}(ok:c2_ sl)(g:PgS H T M root B lo mx sl)(K:AV→List Row→Prop)
 (hK:∀H' l ts,bd_ H H'→ck_ H.length H' 79 5 l sl.length ts→ts.length=sl.length→ts.map Tr.d=sl.map ab_.cells→K (.agg [.val (.int .i64 root),.own l sl.length]) H') :
 callSem Tryz.prog 40 [.ptr T 1 0 0] H K:=by
 obtain⟨ents,ck,g0⟩:=g.pg
 have gT:=g0.box
 have gM:=g0.map
 have hT:=(g0.lows T (by simp)).2
 have hMl:=(g0.lows M (by simp)).2
 refine aF_ mixed Tryz.func40 Ci_ (a9_ rfl ?_)
 simp(disch:=first|omega|simp only[lzz0_];first|done|omega)only[ad_,a0_,go_sem,seval,zA_,c40,gT,gM,bR_,Option.map_some]
 refine kO_ _ (fun t=>mp_ (L:=H.length+1) [.val (.int .i64 root)] [] 79 5 (by first|exact a0_ rfl|((simp(disch:=(first|omega|(simp only[ls_,la_,lc_,ln_];omega)))only[ao_,aq_,ad_,at_,a0_,bJ_,cu_]))|(simp;done))) ?_
 have hB64:B.length≤64:=by
  have:=cI_ (a:=B.map PB.id) (b:=sl.map ab_.Id) g0.ids (fun i hi=>by
   obtain⟨x,hx,rfl⟩:=mem_map.1 hi
   exact mem_map.2 ⟨_,ff_ (g.box hx),rfl⟩)
  have h2:=ok.len
  simp only[length_map]at this
  omega
 refine aK_ (fun n t h=>∃(seen:List Nat) (vis:List (PB×Nat×Nat×Nat)),t 0=.ptr T 1 0 0∧t 2=.ptr H.length 1 0 0∧t 3=.ptr (H.length+1) 1 0 0∧t 15=.ptr (H.length+2) 0 0 0∧bd_ H h∧h[H.length]?=some ⟨.ty 28,2,[[.val (.int .i64 0),.val (.slice none 0 0)]]⟩∧h[H.length+1]?=some ⟨.ty 28,2,[[.val (.int .i64 root),.own (H.length+3) vis.length]]⟩∧h[H.length+2]?=some ⟨.iter M ck seen ck,0,[]⟩∧VI H h ents B (H.length+3) seen vis∧n=B.length-vis.length) B.length ?_ ?_
 ·have el:(H++[(⟨.ty 28,2,[[.val (.int .i64 0),.val (.slice none 0 0)]]⟩:Row),⟨.ty 28,2,[[.val (.int .i64 root),.val (.slice none 0 0)]]⟩,⟨.iter M ck [] ck,0,[]⟩]).length=H.length+3:=by simp
  rw[el]
  have e3:∀r:Row,(((H++[(⟨.ty 28,2,[[.val (.int .i64 0),.val (.slice none 0 0)]]⟩:Row),⟨.ty 28,2,[[.val (.int .i64 root),.val (.slice none 0 0)]]⟩,⟨.iter M ck [] ck,0,[]⟩]).set (H.length+1) r)++[(⟨.ty 79,5,[]⟩:Row)])[H.length+3]?=some ⟨.ty 79,5,[]⟩:=fun r=>by
   rw[getElem?_append_right (by simp)];simp
  refine⟨[],[],rfl,rfl,rfl,rfl,⟨by simp,fun l hl=>?_⟩,?_,?_,?_,⟨⟨e3 _,Nat.le_refl _,fun t ht=>(by cases ht),⟨0,fun t ht=>(by cases ht)⟩,(by simp[foot]),fun x hx=>?_⟩,fun z hz=>(by cases hz),nodup_nil,fun e he=>by simp⟩,rfl⟩
  ·rw[ad_ (by simp;omega),ao_ (by omega),ad_ hl]
  ·rw[ad_ (by simp),ao_ (by omega),at_ rfl]
  ·rw[ad_ (by simp),aq_ (by simp)];rfl
  ·rw[ad_ (by simp),ao_ (by omega),bJ_ rfl]
  simp only[foot,map_nil,flatten_nil,mem_singleton]at hx
  subst hx
  simp
 ·rintro J hJ n t h ⟨seen,vis,t0,t2,t3,t15,hmo,o0,o1,o2,⟨sA,hvB,hvn,hvs⟩,rfl⟩
  have g1:=g.more hmo
  have hM:=hmo.at gM
  have o3:=sA.row
  have hlen:=hmo.len
  have hl3:=sA.lt
  have q1:∀e∈ents,e.2.1<ck:=g0.ents.old
  simp(disch:=first|omega|simp only[lzz0_];first|done|omega)only[ao_,aq_,go_sem,seval,t3,t15,o1,o2,hM,getLast?_append,getLast?_singleton,Option.some_or]
  refine⟨q1,fun hall=>?_,fun e he hns=>?_⟩
  ·refine wZ_ ok g.same (fun x hx=>g.box hx) g0.ids g0.ents hall sA hvB hvn hvs _ ?_
   intro H' ts r1 r2 r3 r4 r5
   have b0:=(r1 H.length (by omega)).trans o0
   have b1:=(r1 (H.length+1) (by omega)).trans o1
   rw[r5]at b1
   have hl5:=r2.lt
   simp(disch:=first|omega|simp only[lzz0_];first|done|omega)only[aq_,go_sem,seval,t2,t3,b0,b1]
   refine hK _ _ ts ⟨by rw[ls_];omega,fun x hx=>?_⟩ (ck_.low (r2.keep (fun x hx=>ao_ (by have:=(r2.lows x hx).1;omega)) (by rw[ls_];exact Nat.le_refl _)) (by omega)) r3 r4
   rw[ao_ (by omega),r1 x (by omega)]
   exact hmo.kept x hx
  ·obtain⟨x,hx,ei,ep⟩:=g0.ents.page he
   have hf:=t0_ g0.ents.born he
   obtain⟨ents1,ck1,g2⟩:=g1.pg
   obtain⟨a1,a2,a3,op,p1,p2,p3⟩:=g2.pgs x hx
   have lb:∀y∈x.foot,y<H.length:=fun y hy=>(g0.lows y (Pg.mem_foot hx hy)).2
   have lb0:=lb x.b (by simp[PB.foot])
   have lb1:=lb x.k (by simp[PB.foot])
   have lb2:=lb x.v (by simp[PB.foot])
   have lb3:=lb x.d (by simp[PB.foot])
   obtain⟨z1,z2,z3⟩:=(ok.pgs _ _ (g.box hx)).2.2.smallP
   rw[ei,ep]
   simp(disch:=first|omega|simp only[lzz0_];first|done|omega)only[ao_,go_sem,seval,hf,ei,ep,op]
   refine m2_ x.pg z1 z2 z3 _ _ (p1.keep (ao_ (by omega))) (p2.keep (ao_ (by omega))) (p3.keep (ao_ (by omega))) ?_
   intro H2 k v d m2 k1 k2 k3 k4 r1 r2 r3
   rw[ls_]at k1
   have hl2:=m2.len
   rw[ls_]at hl2
   have w0:=(m2.kept H.length (by rw[ls_];omega)).trans ((ao_ (by omega)).trans o0)
   have w1:=(m2.kept (H.length+1) (by rw[ls_];omega)).trans ((ao_ (by omega)).trans o1)
   have w2:=(m2.kept (H.length+2) (by rw[ls_];omega)).trans (aq_ (by omega))
   have w3:=(m2.kept (H.length+3) (by rw[ls_];omega)).trans ((ao_ (by omega)).trans o3)
   simp(disch:=first|omega|simp only[lzz0_];first|done|omega)only[ao_,ad_,at_,go_sem,seval,t3,w1,w3,bR_,Option.map_some]
   have hxn:x.id∉vis.map (fun z=>z.1.id):=fun q=>hns ((hvs e he).2 (by rw[ei];exact q))
   have hcnt:vis.length+1≤B.length:=by
    have:=cI_ (a:=x.id::vis.map fun z=>z.1.id) (b:=B.map PB.id) (nodup_cons.2 ⟨hxn,hvn⟩) (fun i hi=>by
     rcases mem_cons.1 hi with q|q
     ·rw[q];exact mem_map_of_mem hx
     ·obtain⟨z,hz,rfl⟩:=mem_map.1 q
      exact mem_map.2 ⟨z.1,hvB z hz,rfl⟩)
    simpa using this
   have ol:∀(r r1 r2:Row) y,y<H2.length→y≠H.length+3→y≠H.length+1→(((H2++[r]).set (H.length+3) r1).set (H.length+1) r2)[y]?=H2[y]?:=fun r r1 r2 y q1 q2 q3=>by rw[ao_ (Ne.symm q3),ao_ (Ne.symm q2),ad_ q1]
   have old2:∀y,y<H.length→H2[y]?=H[y]?:=fun y hy=>(m2.kept y (by rw[ls_];omega)).trans ((ao_ (by omega)).trans (hmo.kept y hy))
   refine⟨by omega,by omega,B.length-(vis.length+1),by omega,hJ _ _ _ ⟨seen++[e.2.1],vis++[(x,k,v,d)],by simp[upd,t0],by simp[upd,t2],by simp[upd,t3],by simp[upd,t15],⟨by simp only[ls_,la_,lc_,ln_];omega,fun y hy=>?_⟩,?_,?_,?_,⟨?_,?_,?_,?_⟩,by simp⟩⟩
   ·rw[ol _ _ _ y (by omega) (by omega) (by omega)];exact old2 y hy
   ·rw[ol _ _ _ _ (by omega) (by omega) (by omega)];exact w0
   ·rw[aq_ (by simp only[ls_,la_,lc_,ln_];omega)];simp
   ·rw[ol _ _ _ _ (by omega) (by omega) (by omega)];exact w2
   ·have hrow:(vis++[(x,k,v,d)]).map fx_=vis.map fx_++[fx_ (x,k,v,d)]:=by rw[map_append];rfl
    refine ck_.renew (new:=[fx_ (x,k,v,d)]) (old:=vis.map fx_) sA ?_ (by simp) (by rw[hrow];exact perm_append_comm) (List.Sublist.refl _) (fun t ht=>?_) ⟨2,fun t ht=>?_⟩ ?_ (fun y hy=>?_) (fun y hy=>?_) (.inl rfl) (by simp only[ls_,la_,lc_,ln_];omega)
    ·rw[ao_ (by omega),aq_ (by simp only[la_,lc_,ln_];omega),hrow,map_append];rfl
    ·rw[mem_singleton.1 ht];exact⟨rfl,rfl⟩
    ·rw[mem_singleton.1 ht]
     exact v2_ ((ol _ _ _ _ (by omega) (by omega) (by omega)).trans r1) ((ol _ _ _ _ (by omega) (by omega) (by omega)).trans r2) ((ol _ _ _ _ (by omega) (by omega) (by omega)).trans r3)
    ·show([k,v,d]++[]).Nodup
     simp only[append_nil,nodup_cons,mem_cons,not_mem_nil,or_false,not_or,nodup_nil,and_true,not_false_eq_true]
     omega
    ·have hy':y∈[k,v,d]:=by simpa[fx_]using hy
     simp only[mem_cons,not_mem_nil,or_false]at hy'
     have hyl:h.length≤y∧y<H2.length:=by omega
     refine⟨fun q=>?_,by omega,by omega,by simp only[ls_,la_,lc_,ln_];omega⟩
     have:=(sA.lows y q).2
     omega
    ·have hy':y∈foot (H.length+3) (vis.map fx_):=mem_cons_of_mem _ hy
     have hb:=sA.lows y hy'
     have hne:y≠H.length+3:=fun q=>(nodup_cons.1 sA.one).1 (by rw[←q];exact hy)
     rw[ol _ _ _ y (by omega) hne (by omega),m2.kept y (by rw[ls_];omega),ao_ (by omega)]
   ·intro z hz
    rcases mem_append.1 hz with q|q
    ·exact hvB z q
    ·rw[mem_singleton.1 q];exact hx
   ·rw[map_append,nodup_append]
    refine⟨hvn,by simp,fun a ha b hb q=>?_⟩
    simp only[map_cons,map_nil,mem_singleton]at hb
    rw[hb]at q
    exact hxn (q▸ha)
   ·intro e' he'
    have hih:=hvs e' he'
    rw[mem_append,map_append,mem_append,hih]
    simp only[mem_singleton,map_cons,map_nil]
    have:e'.2.1=e.2.1↔e'.1=x.id:=⟨fun q=>by rw[f1_ (f:=fun e:Int×Nat×AV=>e.2.1) g0.ents.born he' he q,ei],fun q=>by
     have hn:(ents.map (·.1)).Nodup:=by rw[g0.ents.ids];exact g0.ids
     rw[f1_ (f:=fun e:Int×Nat×AV=>e.1) hn he' he (q.trans ei.symm)]⟩
    rw[this]
theorem il_(xs:List ByteArray)(hx:xs.length≤1048576)(h:List Row)(K:AV→List Row→Prop)(hK:K (.own h.length xs.length) (h++[⟨.ty 9,1,xs.map ag_⟩])):callSem Tryz.prog 113 [.list 0 1 (xs.map ag_)] h K:=by
 refine aF_ mixed Tryz.func113 uP_ (a9_ rfl ?_)
 simp(disch:=omega)only[sB_,vq_,go_sem,seval]
 refine⟨by omega,by omega,dQ_ xs,?_⟩
 simpa using hK
theorem nz_(xs:List Int)(hx:xs.length≤1048576)(h:List Row)(K:AV→List Row→Prop)(hK:K (.own h.length xs.length) (h++[⟨.ty 2,1,xs.map ay_⟩])):callSem Tryz.prog 115 [.list 0 1 (xs.map ay_)] h K:=by
 refine aF_ mixed Tryz.func115 u6_ (a9_ rfl ?_)
 simp(disch:=omega)only[sw_,wU_,go_sem,seval]
 refine⟨by omega,by omega,dT_ xs,?_⟩
 simpa using hK
theorem kl_(p:am_)(hk:p.Keys.length≤1048576)(hv:p.Vals.length≤1048576)(hd:p.Kids.length≤1048576)(h:List Row)(K:AV→List Row→Prop)
 (hK:∀(H':List Row) (k v d:Nat),bd_ h H'→h.length≤k→k<v→v<d→d<H'.length→H'[k]?=some ⟨.ty 9,1,p.Keys.map ag_⟩→H'[v]?=some ⟨.ty 9,1,p.Vals.map ag_⟩→H'[d]?=some ⟨.ty 2,1,p.Kids.map ay_⟩→K (.agg [.val (.bool p.Leaf),.own k p.Keys.length,.own v p.Vals.length,.own d p.Kids.length]) H') :
 callSem Tryz.prog 67 [.agg (am_.cells p)] h K:=by
 refine aF_ mixed Tryz.func67 yf_ (a9_ rfl ?_)
 simp(disch:=omega)only[v4_,c67,am_.cells,go_sem,seval]
 refine il_ _ hk _ _ ?_
 simp(disch:=first|omega|simp only[lzz0_];first|done|omega)only[at_,go_sem,seval]
 refine il_ _ hv _ _ ?_
 simp(disch:=first|omega|simp only[lzz0_];first|done|omega)only[at_,go_sem,seval]
 refine nz_ _ hd _ _ ?_
 simp(disch:=first|omega|simp only[lzz0_];first|done|omega)only[at_,a0_,go_sem,seval,bR_,Option.map_some]
 exact hK _ (h.length+2) (h.length+3) (h.length+4) (bd_.app _ _) (by omega) (by omega) (by omega) (by simp) (by rw[getElem?_append_right (by omega),Nat.add_sub_cancel_left];rfl) (by rw[getElem?_append_right (by omega),Nat.add_sub_cancel_left];rfl) (by rw[getElem?_append_right (by omega),Nat.add_sub_cancel_left];rfl)
theorem mx_(root:Int)(R:Nat)(cs:List aM_)(sl:List ab_)(id:Int)(i:Nat)(hi:i<cs.length)(hx:sl.length≤1048576)(hat:atI sl id=(i:Int))(h:List Row)(n:Nat)(hrow:h[R]?=some ⟨.ty 79,5,cs.map aM_.cells⟩)(hc:cs[i].cells.all AV.cell=true)
 (hres:∀H',bd_ h H'→AW.resolve H' (n+1) (.own R cs.length)=some (.list 0 5 (sl.map ab_.cells))) (K:AV→List Row→Prop) (hK:∀H',bd_ h H'→K (.agg [cs[i].a,cs[i].b,cs[i].c,cs[i].d]) H') :
 callSem Tryz.prog 68 [.agg [.val (.int .i64 root),.own R cs.length],.val (.int .i64 id)] h K:=by
 refine aF_ mixed Tryz.func68 xN_ (a9_ rfl ?_)
 have lR:=(List.getElem?_eq_some_iff.1 hrow).1
 simp(disch:=omega)only[vG_,c68,go_sem,seval]
 have hatp:=fun h=>fR_ ⟨root,sl⟩ id hx h
 unfold af_.cells at hatp
 simp only[hat]at hatp
 have ha:∀H',bd_ h H'→[AV.agg [.val (.int .i64 root),.own R cs.length],.val (.int .i64 id)].mapM (AW.resolve H' (n+2))=some [.agg [.val (.int .i64 root),.list 0 5 (sl.map ab_.cells)],.val (.int .i64 id)]:=fun H' m=>by
  have e:AW.resolve H' (n+2) (.agg [.val (.int .i64 root),.own R cs.length])=([AV.val (.int .i64 root),.own R cs.length].mapM (AW.resolve H' (n+1))).map .agg:=rfl
  rw[mapM_cons,mapM_cons,e,mapM_cons,mapM_cons,hres H' m]
  rfl
 refine aa_.call (Go.AW.frozen hatp (ha _ (bd_.app _ _))) ?_
 have hcell:∀r,(h++r)[R]?=some ⟨.ty 79,5,cs.map aM_.cells⟩:=fun r=>(getElem?_append_left lR).trans hrow
 have hc4:[cs[i].a,cs[i].b,cs[i].c,cs[i].d].all AV.cell=true:=by
  simp only[aM_.cells,all_cons,all_nil,Bool.and_true,Bool.and_eq_true]at hc⊢
  exact hc.2
 simp(disch:=first|omega|simp only[lzz0_];first|done|omega)only[ad_,at_,a0_,go_sem,seval,hrow,hi,aM_.cells,hc4]
 exact hK _ (bd_.app _ _)
theorem nF_(L R:Nat)(root:Int)(way:List (Int×Nat))(k:Nat)(hw:way.length=k+1)(hw2:k≤1000)(cs:List aM_)(sl:List ab_)(i:Nat)(hi:i<cs.length)(hx:sl.length≤1048576)(hat:atI sl (way[k]'(by omega)).1=(i:Int))(p:am_)(hf:b2_ p=false)(h:List Row)(n:Nat)(hL:h[L]?=some ⟨.ty 28,2,[[.val (.int .i64 root),.own R cs.length]]⟩)(hrow:h[R]?=some ⟨.ty 79,5,cs.map aM_.cells⟩)(hc:cs[i].cells.all AV.cell=true)
 (hres:∀H',bd_ h H'→AW.resolve H' (n+1) (.own R cs.length)=some (.list 0 5 (sl.map ab_.cells))) (hpg:∀H',bd_ h H'→AW.resolve H' (n+1) (.agg [cs[i].a,cs[i].b,cs[i].c,cs[i].d])=some (.agg (am_.cells p))) (K:AV→List Row→Prop) (hK:∀H',bd_ h H'→K (.val (.int .i64 0)) H') :
 callSem Tryz.prog 71 [.ptr L 1 0 0,.list 0 2 (way.map d3_)] h K:=by
 refine aF_ mixed Tryz.func71 xu_ (a9_ rfl ?_)
 have lL:=(List.getElem?_eq_some_iff.1 hL).1
 have q0:((way.length:Nat):Int)-1=(k:Int):=by omega
 have q1:((k:Int)≥0)=True:=eq_true (by omega)
 have hlt:k<way.length:=by omega
 simp(disch:=omega)only[w7_,c71,au_,q0,go_sem,seval]
 refine aK_ (fun m t H=>t 0=.ptr L 1 0 0∧t 1=.list 0 2 (way.map d3_)∧t 5=.val (.int .i64 (k:Int))∧H=h) 1 ⟨rfl,rfl,rfl,rfl⟩ ?_
 rintro J hJ m t H ⟨t0,t1,t5,rfl⟩
 simp(disch:=first|omega|simp only[lzz0_];first|done|omega)only[go_sem,seval,t0,t1,t5,hL,q1,d3_]
 refine mx_ root R cs sl _ i hi hx hat H n hrow hc hres _ ?_
 intro H1 m1
 have hc4:[cs[i].a,cs[i].b,cs[i].c,cs[i].d].all AV.cell=true:=by
  simp only[aM_.cells,all_cons,all_nil,Bool.and_true,Bool.and_eq_true]at hc⊢
  exact hc.2
 simp(disch:=first|omega|simp only[lzz0_];first|done|omega)only[at_,go_sem,seval,hc4]
 have m2:∀r,bd_ H (H1++[r]):=fun r=>m1.trans (bd_.app _ _)
 refine aa_.call (Go.AW.frozen (is_ p) (fX_ (hpg _ (m2 _)))) ?_
 have hfp:(decide (6<p.Keys.length)||decide (6<p.Kids.length))=false:=hf
 rw[hfp]
 simp(disch:=first|omega|simp only[lzz0_];first|done|omega)only[go_sem,↓reduceIte]
 exact hK _ (m2 _)
def c33:LC :=
 .q [.o [.bx 3 28 0,.s 6 (.alloc 28 z1z),.ki 7 0],.o [.ld 14 2 3,.c1 15 65 14,.s 8 (.alloc 28 z1z),.st 2 8 15],.o [.ld 17 2 8,.m 18 1,.c2 19 66 17 18,.m 16 19,.ex 20 16 0,.ex 21 16 1,.m 9 20,.m 10 21],.o
 [.m 22 9,.m 23 9,.ll 24 23,.bk 25 .sub false 24 1,.ia 26 2 22 25,.ld 27 2 26,.s 11 (.alloc 107 z3z),.st 2 11 27],.o [.ld 28 2 8,.fa 29 0 11,.ln 30 29,.c2 31 68 28 30,.c1 32 67 31,.s 12 (.alloc 77 z0z),.st 4
 12 32],.q [.o [.m 33 10],.k 33 (.o [.fa 34 2 12,.ln 35 34,.fa 36 1 11,.ln 37 36,.m 38 2,.ia 39 1 35 37,.st 1 39 38]) (.q [.o [.fa 40 1 12,.ln 41 40,.fa 42 1 11,.ln 43 42,.m 44 1,.c3 45 69 41 43 44,.fa 46 1
 12,.st 1 46 45],.o [.fa 47 2 12,.ln 48 47,.fa 49 1 11,.ln 50 49,.m 51 2,.c3 52 69 48 50 51,.fa 53 2 12,.st 1 53 52]])],.o [.fa 54 0 11,.ln 55 54,.ld 56 4 12,.c3 57 70 8 55 56],.q [.o [.m 58 9,.c2 59 71 8
 58,.m 13 59],.o [.m 60 13,.bk 61 .neq false 60 0],.k 61 (.q [.o [.s 62 (.build z1z [(0,1),(1,1)] []),.m 63 13,.st 2 6 62,.m 7 63],.ret]) .skip],.o [.ld 64 2 8,.st 2 6 64,.ki 7 0],.ret]
def A5_:LF:=⟨3,65,c33,[.cell 6 (some 2),.tmp 7]⟩
theorem CJ_:aA_ Tryz.prog Tryz.f33 A5_:=fh_
def c8:LC :=
 .q [.o [.bx 3 28 0,.s 6 (.alloc 28 z1z),.ki 7 0],.q [.o [.ld 8 2 3,.c1 9 27 8,.nt 10 9,.m 11 10,.gm 12 11 false 1,.gc 13 11 false 32 12,.gu 14 11 false 13,.pt 15 11 14,.m 16 15,.gm 17 16 false 2,.g 18 16
 false (.lenStr (.tmp 17)),.g 19 16 false (.bin .gtr false (.tmp 18) (.const (.int .i64 64))),.pt 20 16 19],.k 20 (.q [.o [.s 21 (.build z1z [(0,1),(1,1)] []),.st 2 6 21,.ki 7 1],.ret]) .skip],.o [.ld 22 2 3,.m
 23 1,.m 24 2,.c3 25 33 22 23 24,.ex 26 25 0,.ex 27 25 1,.st 2 6 26,.m 7 27],.ret]
def lf8:LF:=⟨3,28,c8,[.cell 6 (some 2),.tmp 7]⟩
theorem Df_:aA_ Tryz.prog Tryz.f8 lf8:=fh_
theorem gR_{t:Nat→AV}{h:List Row}(a s:Nat)(n:Option Nat)(K:AV→List Row→Prop):cF_ [.cell a n,.tmp s] K .ret t h=match an_ t h (.load n (.tmp a))with|some av=>K (.tup [av,t s]) h|none=>False:=by
 simp only[cF_,do_,mapM_cons,mapM_nil]
 cases an_ t h (.load n (.tmp a))<;>simp[cX_]
theorem we_{H:List Row}{l k n:Nat}{r:Row}{es:List (List AV)}(hl:H[l]?=some r)(hk:r.es.length=k)(hm:(r.es.mapM fun(e:List AV)=>e.mapM (AW.resolve H n))=some es):AW.resolve H (n+1) (.own l k)=some (.list 0 r.sz es):=by
 have e:AW.resolve H (n+1) (.own l k)=match H[l]? with
  | some r=>if r.es.length=k then(r.es.mapM fun(e:List AV)=>e.mapM (AW.resolve H n)).map (.list 0 r.sz)else none
  | none=>none:=rfl
 rw[e,hl]
 simp only[hk,if_true]
 rw[hm];rfl
theorem se_{α β:Type}{f:α→Option β}:∀{xs:List α} {ys:List β},xs.mapM f=some ys→∀(i:Nat) (h:i<xs.length) (h':i<ys.length),f xs[i]=some ys[i]
 | [],_,_,i,h,_=>absurd h (Nat.not_lt_zero i)
 | x::xs,ys,e,i,h,h'=>by
  rw[mapM_cons]at e
  cases h1:f x with
  | none=>rw[h1]at e;cases e
  | some y =>
   cases h2:xs.mapM f with
   | none=>rw[h1,h2]at e;cases e
   | some zs =>
    rw[h1,h2]at e
    have:=Option.some.inj e
    subst this
    cases i with
    | zero=>exact h1
    | succ i=>exact se_ h2 i (by simpa using h) (by simpa using h')
theorem qe_(c:aM_)(hc:c.cells.all AV.cell=true):∀(dn:Bool) (l:List aM_),(∀e∈l,e.cells.all AV.cell=true)→∀e∈b3_ c dn l,e.cells.all AV.cell=true
 | dn,[],_,e,he=>by
  simp only[b3_]at he
  split at he
  ·cases he
  ·rw[mem_singleton]at he;rw[he];exact hc
 | dn,x::l,hl,e,he=>by
  simp only[b3_,mem_append]at he
  rcases he with q|q|q
  ·split at q
   ·rw[mem_singleton]at q;rw[q];exact hc
   ·cases q
  ·split at q
   ·cases q
   ·rw[mem_singleton]at q;rw[q];exact hl x mem_cons_self
  ·exact qe_ c hc _ l (fun y hy=>hl y (mem_cons_of_mem _ hy)) e q
theorem u2_(c c':aM_)(hid:c'.id=c.id)(dn:Bool)(l:List aM_):(b3_ c dn l).length=(b3_ c' dn l).length:=by
 induction l generalizing dn with
 | nil=>cases dn<;>rfl
 | cons e l ih =>
  rw[b3_,b3_,hid,la_,la_,la_,la_,ih]
  cases(!dn&&decide (e.id≥c.id))<;>rfl
set_option maxHeartbeats 2000000 in
theorem nW_(n:Nat)(hn:n≤1000)(b:af_)(key value:ByteArray)(hx:b.Slots.length≤900)(hrise:ed_ b.Slots)(hsm:∀s∈b.Slots,smallP s.Page)(hw:lE_ (aj_ b.Slots) key n b.Root)(w:List (Int×Nat))(has:Bool)(hwf:cA_ (aj_ b.Slots) key n b.Root=(w,has))(hwl:w.length≤1000)(k:Nat)(hk:w.length=k+1)(p:am_)(hp:aj_ b.Slots (w[k]'(by omega)).1=some p)
 (h1:has=true→(w[k]'(by omega)).2<p.Vals.length∧b2_ p=false) (h2:has=false→(w[k]'(by omega)).2≤p.Keys.length∧(w[k]'(by omega)).2≤p.Vals.length) (hu:my_ w w.length (ax_ ⟨(w[k]'(by omega)).1,aH_ p has (w[k]'(by omega)).2 key value⟩ false b.Slots)) (h:List Row) :
 aa_ Tryz.prog 33 [.agg (af_.cells b),.val (.string key),.val (.string value)] h (.tup [.agg (af_.cells (mc_ n b key value).1),.val (.int .i64 (mc_ n b key value).2)]):=by
 have hlt:k<w.length:=by omega
 have hgl:w.getLast?=some w[k]:=by
  rw[getLast?_eq_getElem?,hk,Nat.add_sub_cancel,getElem?_eq_getElem hlt]
 generalize hU:upF w b.Root w.length (ax_ ⟨w[k].1,aH_ p has w[k].2 key value⟩ false b.Slots)=U
 have hput:mc_ n b key value=if U.2.2=0 then(⟨U.2.1,U.1⟩,0)else(bt0,U.2.2):=by
  unfold mc_
  rw[hwf,hgl]
  simp only[hp,hU]
 rw[hput]
 intro K hK
 refine callSem.weaken (g7_ (R:=fun r=>∀S x,Rep S r x→Rep S (.tup [.agg (af_.cells (if U.2.2=0 then((⟨U.2.1,U.1⟩,0):af_×Int)else(bt0,U.2.2)).1),.val (.int .i64 (if U.2.2=0 then((⟨U.2.1,U.1⟩,0):af_×Int)else(bt0,U.2.2)).2)]) x) rfl ?_ h _ (fun r hr=>⟨_,hr,hK⟩))
 clear hK
 refine aF_ mixed Tryz.func33 CJ_ (a9_ rfl ?_)
 simp(disch:=omega)only[A5_,c33,af_.cells,go_sem,seval]
 have q0:((w.length:Nat):Int)-1=(k:Int):=by omega
 have hown:=fun h=>og_ b (by omega) hsm h
 have hway:=fun h=>n3_ b key n hn (by omega) hw h
 have hpg:=fun h=>eT_ b _ p (by omega) hp h
 rw[hwf]at hway
 unfold af_.cells at hown hway hpg
 refine aa_.call (hown _) ?_
 simp(disch:=first|omega|simp only[lzz0_];first|done|omega)only[go_sem,seval]
 refine aa_.call (hway _) ?_
 simp(disch:=first|omega|simp only[lzz0_];first|done|omega)only[go_sem,seval,q0,d3_,au_]
 refine aa_.call (hpg _) ?_
 simp(disch:=first|omega|simp only[lzz0_];first|done|omega)only[go_sem,↓reduceIte,am_.cells]
 obtain⟨z1,z2,z3⟩:smallP p:=by
  obtain⟨i,hi,_,e,_⟩:=ij_ hp
  exact e▸hsm _ (getElem_mem hi)
 cases has with
 | false =>
  obtain⟨g1,g2⟩:=h2 rfl
  refine aa_.call (e2_ p z1 z2 z3 _) ?_
  simp(disch:=first|omega|simp only[lzz0_];first|done|omega)only[go_sem,seval,am_.cells]
  refine aa_.call (fy_ p.Keys w[k].2 key z1 g1 _) ?_
  simp(disch:=first|omega|simp only[lzz0_];first|done|omega)only[go_sem,seval]
  refine aa_.call (fy_ p.Vals w[k].2 value z2 g2 _) ?_
  simp(disch:=first|omega|simp only[lzz0_];first|done|omega)only[go_sem,seval]
  refine eR_ 2 b.Root b.Slots (by omega) ⟨w[k].1,aH_ p false w[k].2 key value⟩ _ rfl _ ?_
  intro H1 len1 kp1 box1
  simp(disch:=first|omega|simp only[lzz0_];first|done|omega)only[go_sem,seval]
  refine oo_ 2 b.Root _ w hwl hu H1 box1 _ ?_
  rw[hU]
  intro H2 len2 kp2 box2
  have b1:H2[1]?=_:=(kp2 1 (by omega)).trans ((kp1 1 (by omega)).trans rfl)
  have hl2:1<H2.length:=(List.getElem?_eq_some_iff.1 b1).1
  generalize hz:decide (U.2.2=0)=z
  cases z with
  | true =>
   have hz':U.2.2=0:=of_decide_eq_true hz
   simp(disch:=first|omega|simp only[lzz0_];first|done|omega)only[aq_,go_sem,seval,hz',box2,b1,gR_]
   exact⟨4,_,rfl,fun _ _ q=>q⟩
  | false =>
   have hz':¬ U.2.2=0:=of_decide_eq_false hz
   simp(disch:=first|omega|simp only[lzz0_];first|done|omega)only[aq_,go_sem,seval,hz',b1,bR_,Option.map_some,gR_]
   exact⟨4,_,rfl,mD_ (aT_ (hf_ (aT_ (bA_ _) (aT_ (ic_ 5) dM_))) (aT_ (bA_ _) dM_))⟩
 | true =>
  obtain⟨g1,g2⟩:=h1 rfl
  refine kl_ p z1 z2 z3 _ _ ?_
  intro H1 rk rv rd m1 o1 o2 o3 o4 e1 e2 e3
  have b0:=m1.at (i:=1) (row:=⟨.ty 28,2,[[.val (.int .i64 0),.val (.slice none 0 0)]]⟩) rfl
  have b2:=m1.at (i:=2) (row:=⟨.ty 28,2,[[.val (.int .i64 b.Root),.list 0 5 (b.Slots.map ab_.cells)]]⟩) rfl
  have b3:=m1.at (i:=3) (row:=⟨.ty 107,2,[[.val (.int .i64 w[k].1),.val (.int .i64 w[k].2)]]⟩) rfl
  have hl1:=m1.len
  simp only[lc_,ln_]at hl1 o1
  simp(disch:=first|omega|simp only[lzz0_];first|done|omega)only[ao_,ad_,at_,go_sem,seval,b3,e2,g1,ag_]
  obtain⟨Ha,hHa⟩:∃Ha:List Row,Ha=List.set (H1++([⟨.ty 77,4,[[.val (.bool p.Leaf),.own rk p.Keys.length,.own rv p.Vals.length,.own rd p.Kids.length]]⟩]:List Row)) rv ⟨.ty 9,1,(p.Vals.map ag_).set w[k].2 [.val (.string value)]⟩:=⟨_,rfl⟩
  rw[←hHa]
  have lenA:Ha.length=H1.length+1:=by rw[hHa];simp
  have a2:Ha[2]?=some ⟨.ty 28,2,[[.val (.int .i64 b.Root),.list 0 5 (b.Slots.map ab_.cells)]]⟩:=by rw[hHa,ao_ (by omega),ad_ (by omega)];exact b2
  have a1:Ha[1]?=some ⟨.ty 28,2,[[.val (.int .i64 0),.val (.slice none 0 0)]]⟩:=by rw[hHa,ao_ (by omega),ad_ (by omega)];exact b0
  have ak:Ha[rk]?=some ⟨.ty 9,1,p.Keys.map ag_⟩:=by rw[hHa,ao_ (by omega),ad_ (by omega)];exact e1
  have av:Ha[rv]?=some ⟨.ty 9,1,(p.Vals.set w[k].2 value).map ag_⟩:=by
   have e:(p.Vals.set w[k].2 value).map ag_=(p.Vals.map ag_).set w[k].2 [.val (.string value)]:=by rw[map_set]
   rw[hHa,aq_ (by simp only[la_,lc_,ln_];omega),e]
  have ad:Ha[rd]?=some ⟨.ty 2,1,p.Kids.map ay_⟩:=by rw[hHa,ao_ (by omega),ad_ (by omega)];exact e3
  clear hHa
  have hp':aj_ (ax_ ⟨w[k].1,aH_ p true w[k].2 key value⟩ false b.Slots) w[k].1=some (aH_ p true w[k].2 key value):=by rw[cr_ hrise,if_pos rfl]
  have hf':b2_ (aH_ p true w[k].2 key value)=false:=g2
  obtain⟨i,hi,hat,hi2,hi3⟩:=ij_ hp'
  have hUe:U=(ax_ ⟨w[k].1,aH_ p true w[k].2 key value⟩ false b.Slots,b.Root,0):=by
   have hgd:w.getD k (0,0)=w[k]:=by rw[getD_eq_getElem?_getD,getElem?_eq_getElem hlt];rfl
   rw[←hU,hk,upF,hgd,hp']
   simp only[hf',if_true]
  have hcl:(b3_ ⟨w[k].1,.val (.bool p.Leaf),.own rk p.Keys.length,.own rv p.Vals.length,.own rd p.Kids.length⟩ false (b.Slots.map aM_.ofG)).length=(ax_ ⟨w[k].1,aH_ p true w[k].2 key value⟩ false b.Slots).length:=by
   have h1:=u2_ ⟨w[k].1,.val (.bool p.Leaf),.own rk p.Keys.length,.own rv p.Vals.length,.own rd p.Kids.length⟩ (aM_.ofG ⟨w[k].1,aH_ p true w[k].2 key value⟩) rfl false (b.Slots.map aM_.ofG)
   rw[h1,ih_,length_map]
  have hlen64:=mq_ ⟨w[k].1,aH_ p true w[k].2 key value⟩ b.Slots
  refine gc_ 2 b.Root b.Slots (by omega) ⟨w[k].1,.val (.bool p.Leaf),.own rk p.Keys.length,.own rv p.Vals.length,.own rd p.Kids.length⟩ rfl Ha a2 _ ?_
  intro H2 R hR kp2 len2 box2 row2
  have c1:H2[1]?=_:=(kp2 1 (by omega) (by omega)).trans a1
  have ck:H2[rk]?=_:=(kp2 rk (by omega) (by omega)).trans ak
  have cv:H2[rv]?=_:=(kp2 rv (by omega) (by omega)).trans av
  have cd:H2[rd]?=_:=(kp2 rd (by omega) (by omega)).trans ad
  have hl2:1<H2.length:=(List.getElem?_eq_some_iff.1 c1).1
  have hres:∀H':List Row,(∀l,l<H2.length→l≠1→H'[l]?=H2[l]?)→((b3_ ⟨w[k].1,.val (.bool p.Leaf),.own rk p.Keys.length,.own rv p.Vals.length,.own rd p.Kids.length⟩ false (b.Slots.map aM_.ofG)).map aM_.cells).mapM (fun(e:List AV)=>e.mapM (AW.resolve H' 3))=some ((ax_ ⟨w[k].1,aH_ p true w[k].2 key value⟩ false b.Slots).map ab_.cells):=by
   intro H' m
   have r1:AW.resolve H' 3 (.own rk p.Keys.length)=some (.list 0 1 (p.Keys.map ag_)):=f3_ (n:=1) ((m rk (List.getElem?_eq_some_iff.1 ck).1 (by omega)).trans ck) (by simp) (eE_ _)
   have r2:AW.resolve H' 3 (.own rv p.Vals.length)=some (.list 0 1 ((p.Vals.set w[k].2 value).map ag_)):=f3_ (n:=1) ((m rv (List.getElem?_eq_some_iff.1 cv).1 (by omega)).trans cv) (by simp) (eE_ _)
   have r3:AW.resolve H' 3 (.own rd p.Kids.length)=some (.list 0 1 (p.Kids.map ay_)):=f3_ (n:=1) ((m rd (List.getElem?_eq_some_iff.1 cd).1 (by omega)).trans cd) (by simp) (f9_ _)
   rw[←jP_]
   refine le_ ⟨w[k].1,.val (.bool p.Leaf),.own rk p.Keys.length,.own rv p.Vals.length,.own rd p.Kids.length⟩ (aM_.ofG ⟨w[k].1,aH_ p true w[k].2 key value⟩) rfl ?_ false _ ?_
   ·show [AV.val (.int .i64 w[k].1),.val (.bool p.Leaf),.own rk p.Keys.length,.own rv p.Vals.length,.own rd p.Kids.length].mapM (AW.resolve H' 3)=_
    rw[mapM_cons,mapM_cons,mapM_cons,mapM_cons,mapM_cons,r1,r2,r3]
    rfl
   ·intro e he
    obtain⟨s,hs,rfl⟩:=mem_map.1 he
    rfl
  simp(disch:=first|omega|simp only[lzz0_];first|done|omega)only[go_sem,seval]
  have hic:i<(b3_ ⟨w[k].1,.val (.bool p.Leaf),.own rk p.Keys.length,.own rv p.Vals.length,.own rd p.Kids.length⟩ false (b.Slots.map aM_.ofG)).length:=by omega
  have hown:∀H':List Row,(∀l,l<H2.length→l≠1→H'[l]?=H2[l]?)→AW.resolve H' 4 (.own R (b3_ ⟨w[k].1,.val (.bool p.Leaf),.own rk p.Keys.length,.own rv p.Vals.length,.own rd p.Kids.length⟩ false (b.Slots.map aM_.ofG)).length)=some (.list 0 5 ((ax_ ⟨w[k].1,aH_ p true w[k].2 key value⟩ false b.Slots).map ab_.cells)):=fun H' m=>we_ ((m R (List.getElem?_eq_some_iff.1 row2).1 (by omega)).trans row2) (by simp) (hres H' m)
  have hcell:∀c∈(b3_ ⟨w[k].1,.val (.bool p.Leaf),.own rk p.Keys.length,.own rv p.Vals.length,.own rd p.Kids.length⟩ false (b.Slots.map aM_.ofG)),c.cells.all AV.cell=true:=qe_ _ rfl false _ (fun c hc=>by
   obtain⟨s,hs,rfl⟩:=mem_map.1 hc
   rfl)
  refine nF_ 2 R b.Root w k hk (by omega) _ (ax_ ⟨w[k].1,aH_ p true w[k].2 key value⟩ false b.Slots) i hic (by omega) hat (aH_ p true w[k].2 key value) hf' H2 3 box2 row2 (hcell _ (getElem_mem hic)) (fun H' m=>hown H' fun l hl _=>m.kept l hl) ?_ _ ?_
  ·intro H' m
   have h1:=se_ (hres H' fun l hl _=>m.kept l hl) i (by simpa using hic) (by simpa using hi)
   rw[getElem_map,getElem_map]at h1
   have e1:(ax_ ⟨w[k].1,aH_ p true w[k].2 key value⟩ false b.Slots)[i].cells=.val (.int .i64 w[k].1)::am_.cells (aH_ p true w[k].2 key value):=by
    rw[ab_.cells,hi2,hi3];rfl
   rw[e1,aM_.cells,mapM_cons]at h1
   generalize hcs:(b3_ ⟨w[k].1,.val (.bool p.Leaf),.own rk p.Keys.length,.own rv p.Vals.length,.own rd p.Kids.length⟩ false (b.Slots.map aM_.ofG))[i]=c at h1⊢
   have e2:AW.resolve H' 4 (.agg [c.a,c.b,c.c,c.d])=([c.a,c.b,c.c,c.d].mapM (AW.resolve H' 3)).map .agg:=rfl
   rw[e2]
   cases h2:[c.a,c.b,c.c,c.d].mapM (AW.resolve H' 3)with
   | none=>rw[h2]at h1;cases h1
   | some q =>
    rw[h2]at h1
    have h3:=(List.cons.inj (Option.some.inj h1)).2
    rw[h3];rfl
  ·intro H3 m3
   have d1:=m3.at c1
   have d2:=m3.at box2
   have hl3:1<H3.length:=(List.getElem?_eq_some_iff.1 d1).1
   have hl4:2<H3.length:=(List.getElem?_eq_some_iff.1 d2).1
   subst hUe
   simp(disch:=first|omega|simp only[lzz0_];first|done|omega)only[aq_,go_sem,seval,d1,d2,gR_]
   refine⟨6,.tup [.agg [.val (.int .i64 b.Root),.list 0 5 ((ax_ ⟨w[k].1,aH_ p true w[k].2 key value⟩ false b.Slots).map ab_.cells)],.val (.int .i64 0)],?_,fun _ _ q=>q⟩
   have h6:=hown (List.set H3 1 ⟨.ty 28,2,[[.val (.int .i64 b.Root),.own R (b3_ ⟨w[k].1,.val (.bool p.Leaf),.own rk p.Keys.length,.own rv p.Vals.length,.own rd p.Kids.length⟩ false (b.Slots.map aM_.ofG)).length]]⟩) (fun l hl hne=>(ao_ (Ne.symm hne)).trans (m3.kept l hl))
   show(List.mapM (AW.resolve _ 5) [AV.agg [.val (.int .i64 b.Root),.own R _],.val (.int .i64 0)]).map AV.tup=_
   have h7:AW.resolve (List.set H3 1 ⟨.ty 28,2,[[.val (.int .i64 b.Root),.own R (b3_ ⟨w[k].1,.val (.bool p.Leaf),.own rk p.Keys.length,.own rv p.Vals.length,.own rd p.Kids.length⟩ false (b.Slots.map aM_.ofG)).length]]⟩) 5 (.agg [.val (.int .i64 b.Root),.own R (b3_ ⟨w[k].1,.val (.bool p.Leaf),.own rk p.Keys.length,.own rv p.Vals.length,.own rd p.Kids.length⟩ false (b.Slots.map aM_.ofG)).length])=some (.agg [.val (.int .i64 b.Root),.list 0 5 ((ax_ ⟨w[k].1,aH_ p true w[k].2 key value⟩ false b.Slots).map ab_.cells)]):=by
    show(List.mapM (AW.resolve _ 4) [AV.val (.int .i64 b.Root),.own R _]).map AV.agg=_
    rw[mapM_cons,mapM_cons,h6]
    rfl
   rw[mapM_cons,h7]
   rfl
def bm_(b:af_)(key value:ByteArray):af_×Int :=
 if(dg_ b&&(ci_ key&&decide (value.size≤64)))=true then(if(eF_ 65 b key value).2=0 then((eF_ 65 b key value).1,0)else(bt0,(eF_ 65 b key value).2))else(bt0,1)
theorem sl_{b:af_}(h:af_.sz b≤1048576):b.Slots.length≤1048576∧(∀s∈b.Slots,smallP s.Page)∧∀s∈b.Slots,gL_ s.Page.Keys:=by
 have h1:=af_.sz_Slots h
 refine⟨tE_ h1,fun s hs=>?_,fun s hs x hx=>?_⟩
 ·have h2:=oK_ h1 hs
  unfold ab_.sz am_.sz at h2
  have a1:=bU_ (f:=ByteArray.size) (xs:=s.Page.Keys)
  have a2:=bU_ (f:=ByteArray.size) (xs:=s.Page.Vals)
  have a3:=bU_ (f:=fun _=>0) (xs:=s.Page.Kids)
  exact⟨by omega,by omega,by omega⟩
 ·have h2:=oK_ h1 hs
  unfold ab_.sz am_.sz at h2
  have a1:=gh_ (f:=ByteArray.size) hx
  omega
theorem j8_.ht{b:af_}{h:Nat}{ids:List Int}(r:j8_ b h ids):h<65:=by
 have h1:∀(h:Nat) (top:Bool) (id:Int) (low high:ByteArray) (ids:List Int),cB_ (aj_ b.Slots) h top id low high ids→h<ids.length:=by
  intro h
  induction h with
  | zero =>
   intro top id low high ids t
   obtain⟨p,_,_,_,_,_,e⟩:=t
   rw[e];simp
  | succ h ih =>
   intro top id low high ids t
   obtain⟨p,q1,q2,q3,q4,q5,r,q6,q7⟩:=t
   obtain⟨_,n1,n2,n3,n4,n5⟩:=d1_ q3 q2
   obtain⟨a,m,c,e,t⟩:=cO_.get 0 (by omega) q7
   have:=ih _ _ _ _ _ t
   rw[q6,e]
   simp only[lc_,la_]
   omega
 have h2:=h1 _ _ _ _ _ _ r.tree
 have h3:ids.length≤b.Slots.length:=by
  have:ids ⊆ b.Slots.map ab_.Id:=by
   intro i hi
   obtain⟨p,hp⟩:=Option.isSome_iff_exists.1 (r.tree.has i hi)
   exact mem_map.2 ⟨_,ff_ hp,rfl⟩
  have:=cI_ r.nodup this
  simpa using this
 have:=r.ok.len
 omega
theorem kb_(b:af_)(key value:ByteArray)(hb:af_.sz b≤1048576)(hk:key.size≤1048576)(hv:value.size≤1048576)(h:List Row) :
 aa_ Tryz.prog 8 [.agg (af_.cells b),.val (.string key),.val (.string value)] h (.tup [.agg (af_.cells (bm_ b key value).1),.val (.int .i64 (bm_ b key value).2)]):=by
 obtain⟨z1,z2,z3⟩:=sl_ hb
 intro K hK
 refine callSem.weaken (g7_ (R:=fun r=>∀S x,Rep S r x→Rep S (.tup [.agg (af_.cells (bm_ b key value).1),.val (.int .i64 (bm_ b key value).2)]) x) rfl ?_ h _ (fun r hr=>⟨_,hr,hK⟩))
 clear hK
 refine aF_ mixed Tryz.func8 Df_ (a9_ rfl ?_)
 have hok:=fun h=>mI_ b z1 z2 z3 h
 unfold af_.cells at hok
 simp(disch:=omega)only[lf8,c8,af_.cells,go_sem,seval]
 refine aa_.call (hok _) ?_
 have bad:∀H:List Row,(dg_ b&&(ci_ key&&decide (value.size≤64)))=false→∃n r,AW.resolve H n (.tup [.agg [.val (.int .i64 0),.val (.slice none 0 0)],.val (.int .i64 1)])=some r∧∀(S:Sit) (x:Value),Rep S r x→Rep S (.tup [.agg [.val (.int .i64 (bm_ b key value).1.Root),.list 0 5 ((bm_ b key value).1.Slots.map ab_.cells)],.val (.int .i64 (bm_ b key value).2)]) x:=by
  intro H hq
  have e:bm_ b key value=(bt0,1):=by rw[bm_,if_neg (by simp[hq])]
  rw[e]
  exact⟨4,_,rfl,mD_ (aT_ (hf_ (aT_ (bA_ _) (aT_ (ic_ 5) dM_))) (aT_ (bA_ _) dM_))⟩
 cases h1:dg_ b with
 | false =>
  simp(disch:=first|omega|simp only[lzz0_];first|done|omega)only[go_sem,seval,bR_,Option.map_some,gR_]
  exact bad _ (by rw[h1];rfl)
 | true =>
  simp(disch:=first|omega|simp only[lzz0_];first|done|omega)only[go_sem,seval]
  refine aa_.call (nS_ key hk _) ?_
  cases h2:ci_ key with
  | false =>
   simp(disch:=first|omega|simp only[lzz0_];first|done|omega)only[go_sem,seval,bR_,Option.map_some,gR_]
   exact bad _ (by rw[h1,h2];rfl)
  | true =>
   by_cases h3:64<value.size
   ·have q:(((value.size:Nat):Int)>64)=True:=eq_true (by omega)
    simp(disch:=first|omega|simp only[lzz0_];first|done|omega)only[go_sem,seval,q,bR_,Option.map_some,gR_]
    exact bad _ (by rw[h1,h2,decide_eq_false (by omega:¬ value.size≤64)];rfl)
   ·have q:(((value.size:Nat):Int)>64)=False:=eq_false (by omega)
    have hv64:value.size≤64:=by omega
    simp(disch:=first|omega|simp only[lzz0_];first|done|omega)only[go_sem,seval,q]
    obtain⟨hh,ids,rt⟩:=jM_ h1
    have hlt:=rt.ht
    obtain⟨wok,ql,lf,has,p,e1,e2,e3,e4,e5,e6,e7,e8⟩:=kq_ h2 hv64 b.Root hh 65 b.Slots true b.Root _ _ ids hlt rt.ok rt.tree rt.nodup
    obtain⟨m1,m2⟩:=e8 [] (ql++[lf]) rfl
    have hw:(ql++[lf])[hh]'(by simp;omega)=lf:=by
     subst e2
     simp
    have hpl:=ex_ e5 e4
    have hle:=gF_ p key
    have hput:=fun h=>nW_ 65 (by omega) b key value (by have:=rt.ok.len;omega) rt.ok.rise z2 wok (ql++[lf]) has e1 (by simp;omega) hh (by simp;omega) p (by rw[hw];exact e3)
     (fun hs=>⟨by rw[hw,e6,hH_ e4];have:=kB_ (xs:=p.Keys) (key:=key) (by rw[←hs,e7,hH_ e4]);omega,nd_ e5⟩) (fun _=>by rw[hw,e6];omega) (by rw[hw];exact m2 (fun _ _ e=>absurd rfl e)) h
    unfold af_.cells at hput
    refine aa_.call (hput _) ?_
    simp(disch:=first|omega|simp only[lzz0_];first|done|omega)only[go_sem,seval,gR_]
    have e:mc_ 65 b key value=bm_ b key value:=by
     rw[tV_ rt.fit hlt h2 hv64]
     unfold bm_
     rw[h1,h2,decide_eq_true hv64]
     simp only[Bool.and_self,if_true]
    rw[e]
    exact⟨4,_,rfl,fun _ _ q=>q⟩
theorem r8_{b:af_}{h:Nat}{ids:List Int}{key value:ByteArray}(f:Fit b h ids)(hn:h<65)(hk:ci_ key=true)(hv:value.size≤64):c2_ (eF_ 65 b key value).1.Slots:=by
 obtain⟨hg,hs⟩:=ha_ hk hv h 65 b.Slots true b.Root _ _ ids hn f.ok f.tree f.nodup
 unfold eF_
 split
 ·exact hg.ok
 ·split
  ·exact hg.ok
  ·rename_i hnz
   split
   ·exact hg.ok
   ·rename_i hw
    rcases g6_ (st:=aj_ (bO_ 65 b.Slots b.Root key value).1) 64 (Nat.le_refl _)with q|⟨q1,q2,q3⟩
    ·exact absurd q hw
    ·refine hg.ok.set ⟨q1,q2,fun e=>(by cases e),fun _=>⟨rfl,rfl,by simp[fQ_]⟩,fun k hk2=>?_,fun v hv2=>(by cases hv2)⟩
     have:k=(bO_ 65 b.Slots b.Root key value).2.1:=by simpa[fQ_]using hk2
     rw[this]
     exact hs hnz
def BQ(a:AV):Prop:=∃r s,s.cell=true∧∃c,a=.tup [.agg [.val (.int .i64 r),s],.val (.int .i64 c)]
theorem gZ_{H:List Row}{lo:Nat}(c:Int)(hl:lo≤H.length):eh_ lo H (.tup [.agg [.val (.int .i64 0),.val (.slice none 0 0)],.val (.int .i64 c)]) (.tup [.agg (af_.cells bt0),.val (.int .i64 c)]) :=
 (aR_.tup (aN_.cons (aR_.agg (aN_.val _ (aN_.cons (aR_.mknil lo H.length H 5) (aN_.nil H.length H.length H) ⟨hl,Nat.le_refl _⟩))) (aN_.val _ (aN_.nil H.length H.length H)) ⟨hl,Nat.le_refl _⟩)).fresh
def c10:LC :=
 .q [.o [.bx 3 28 0,.s 6 (.alloc 28 z1z),.ki 7 0],.q [.o [.ld 10 2 3,.c1 11 35 10,.nt 12 11,.m 13 12,.gm 14 13 false 1,.gc 15 13 false 36 14,.gu 16 13 false 15,.pt 17 13 16,.m 18 17,.gm 19 18 false 2,.g 20 18
 false (.buildSlice 9 1 (.string ⟨#[]⟩) 1 [(0,.tmp 19)]),.gc 21 18 false 37 20,.pt 22 18 21],.k 22 (.q [.o [.s 23 (.build z1z [(0,1),(1,1)] []),.st 2 6 23,.ki 7 1],.ret]) .skip],.o [.ld 24 2 3,.c1 25 38 24,.m
 8 25],.q [.o [.m 26 8,.m 27 1,.m 28 2,.c3 29 39 26 27 28,.m 9 29],.o [.m 30 9,.bk 31 .neq false 30 0],.k 31 (.q [.o [.s 32 (.build z1z [(0,1),(1,1)] []),.m 33 9,.st 2 6 32,.m 7 33],.ret]) .skip],.o [.m 34
 8,.c1 35 40 34,.st 2 6 35,.ki 7 0],.ret]
def Bx_:LF:=⟨3,36,c10,[.cell 6 (some 2),.tmp 7]⟩
theorem Ck_:aA_ Tryz.prog Tryz.f10 Bx_:=fh_
theorem fV_(b:af_)(key value:ByteArray)(hb:af_.sz b≤1048576)(hk:key.size≤1048576)(hv:value.size≤1048576):cb_ Tryz.prog 10 [.agg (af_.cells b),.val (.string key),.val (.string value)] (.tup [.agg (af_.cells (bm_ b key value).1),.val (.int .i64 (bm_ b key value).2)]) BQ:=by
 obtain⟨z1,z2,z3⟩:=sl_ hb
 have hbo:=fun h=>nC_ b z1 z2 z3 h
 unfold af_.cells at hbo
 refine uu_ mixed Tryz.func10 Ck_ rfl (fun h0=>?_)
 simp(disch:=omega)only[Bx_,c10,show af_.cells b=[.val (.int .i64 b.Root),.list 0 5 (b.Slots.map ab_.cells)]from rfl,go_sem,Nat.reduceEqDiff,Nat.reduceAdd,↓reduceIte]
 refine aa_.call (hbo _) ?_
 cases h1:dg_ b with
 | false =>
  have e:bm_ b key value=(bt0,1):=by rw[bm_,h1];rfl
  rw[e]
  simp(disch:=omega)only[bR_,Option.map_some,gk_,go_sem,seval]
  exact⟨⟨bd_.app _ _,(gZ_ 1 (by simp)).b⟩,⟨_,_,rfl,_,rfl⟩⟩
 | true =>
  simp(disch:=omega)only[go_sem,seval]
  first|refine aa_.call (dL_ key hk _) ?_|refine aa_.q (dL_ key hk _) ?_
  cases h2:ci_ key with
  | false =>
   have e:bm_ b key value=(bt0,1):=by rw[bm_,h1,h2];rfl
   rw[e]
   simp(disch:=omega)only[bR_,Option.map_some,gk_,go_sem,seval]
   exact⟨⟨bd_.app _ _,(gZ_ 1 (by simp)).b⟩,⟨_,_,rfl,_,rfl⟩⟩
  | true =>
   simp(disch:=omega)only[go_sem,seval]
   have hlg:∀H:List Row,H[h0.length+2]?=some ⟨.ty 9,1,[[AV.val (.string value)]]⟩→aa_ Tryz.prog 37 [.own (h0.length+2) 1] H (.val (.bool (!decide ((value.size:Int)≤64)))):=fun H hl=>by
    have:aa_ Tryz.prog 37 [.own (h0.length+2) 1] H (.val (.bool (![value].all fun v=>decide ((v.size:Int)≤64)))):=AW.frozen (n:=2) (h8_ [value] (by simp)) (fX_ (f3_ (n:=0) hl rfl (by simp[AV.flat])))
    rw[all_cons,all_nil,Bool.and_true]at this
    exact this
   refine aa_.call (hlg _ (by simp(disch:=omega)only[go_sem])) ?_
   by_cases h3:(value.size:Int)≤64
   case neg =>
    have e:bm_ b key value=(bt0,1):=by rw[bm_,h1,h2,decide_eq_false (by omega:¬ value.size≤64)];rfl
    rw[e]
    simp(disch:=omega)only[decide_eq_false h3,Bool.not_false,bR_,Option.map_some,gk_,go_sem,seval]
    exact⟨⟨bd_.app _ _,(gZ_ 1 (by simp)).b⟩,⟨_,_,rfl,_,rfl⟩⟩
   have hv64:value.size≤64:=by omega
   simp(disch:=omega)only[decide_eq_true h3,Bool.not_true,go_sem,seval]
   obtain⟨hh,ids,rt⟩:=jM_ h1
   have hlt:=rt.ht
   refine hY_ b.Root b.Slots z1 z2 rt.ok.rise.ids _ _ ?_
   intro H1 T M B ents ck hmo g hB hlim
   have w0:=hmo.at (i:=h0.length+1) (a0_ rfl)
   have ml:=hmo.len
   simp only[la_,lc_,ln_]at ml
   have gS:PgS H1 T M b.Root B _ 1048576 b.Slots:=⟨⟨ents,ck,g⟩,fun id=>by rw[hB],hlim⟩
   have hT:=g.lows T (by simp)
   simp(disch:=first|omega|simp only[lzz0_];first|done|omega)only[go_sem,seval]
   refine mZ_ h2 hv64 hlt (by omega) (by omega) rt.ok rt.tree rt.nodup gS _ ?_
   intro H2 B2 hgo gI
   have l1:=hgo.len
   have hok:=r8_ rt.fit hlt h2 hv64
   have w1:H2[h0.length+1]?=_:=(hgo.kept _ (by omega) (fun q=>by have:=(g.lows _ q).1;simp only[la_,lc_,ln_]at this;omega)).trans w0
   have mo2:bd_ h0 H2:=⟨by omega,fun x hx=>(hgo.kept x (by omega) (fun q=>by have:=(g.lows _ q).1;simp only[la_,lc_,ln_]at this;omega)).trans (((bd_.app h0 _).trans hmo).kept x hx)⟩
   have hI:bm_ b key value=if(eF_ 65 b key value).2=0 then((eF_ 65 b key value).1,0)else(bt0,(eF_ 65 b key value).2):=by
    rw[bm_,h1,h2,decide_eq_true hv64];rfl
   have hbb:(⟨b.Root,b.Slots⟩:af_)=b:=rfl
   rw[hbb]at gI
   rw[hbb]
   rw[hI]
   generalize eF_ 65 b key value=R at *
   by_cases hc:R.2=0
   ·rw[if_pos hc]
    simp(disch:=first|omega|simp only[lzz0_];first|done|omega)only[go_sem,seval,hc]
    refine pI_ hok gI _ ?_
    intro H3 l ts m3 sA hlen hd
    have w2:=m3.at w1
    have l3:=m3.len
    have sl:=sA.lt
    simp(disch:=first|omega|simp only[lzz0_];first|done|omega)only[aq_,go_sem,seval,w2,gk_]
    have mo3:bd_ h0 H3:=mo2.trans m3
    have sB:∀r:Row,ck_ h0.length (H3.set (h0.length+1) r) 79 5 l R.1.Slots.length ts:=fun r=>ck_.low (sA.keep (fun x hx=>ao_ (by have:=(sA.lows x hx).1;omega)) (by rw[ls_];exact Nat.le_refl _)) (by omega)
    have X:∀r:Row,aR_ h0.length (H3.set (h0.length+1) r).length (H3.set (h0.length+1) r) (.own l R.1.Slots.length) (.list 0 5 (R.1.Slots.map ab_.cells)):=fun r=>by
     have:=(sB r).freshOwn
     rw[hlen,hd]at this
     exact this
    exact⟨⟨mo3.set (by omega),aR_.pair (aR_.agg (aN_.val _ (aN_.cons (X _) (aN_.nil _ _ _) ⟨by simp only[ls_];omega,Nat.le_refl _⟩))) (by simp only[ls_];omega) _⟩,⟨_,_,rfl,_,rfl⟩⟩
   ·rw[if_neg hc]
    simp(disch:=first|omega|simp only[lzz0_];first|done|omega)only[aq_,go_sem,seval,w1,hc,bR_,Option.map_some,gk_]
    exact⟨⟨mo2.set (by omega),(gZ_ R.2 (by simp only[ls_];omega)).b⟩,⟨_,_,rfl,_,rfl⟩⟩
theorem lK_{α:Type}{f:α→Nat}{c:Nat}:∀{xs:List α},(∀x∈xs,f x≤c)→cV_ f xs≤xs.length * c
 | [],_=>by simp[cV_]
 | x::xs,h=>by
  have h1:=h x mem_cons_self
  have h2:=lK_ (f:=f) (c:=c) (xs:=xs) fun y hy=>h y (mem_cons_of_mem _ hy)
  simp only[cV_,lc_,Nat.add_mul]
  omega
theorem ie_{α:Type}{f:α→Nat}{c:Nat}{xs:List α}(h:∀x∈xs,f x≤c):az_ f xs≤xs.length+xs.length * c:=by
 have:=lK_ h
 simp only[az_];omega
theorem nb_:∀(xs:List (List UInt8)),xs.all sI_=true→(cD_ xs).length≤xs.length * 57
 | [],_=>by simp[cD_]
 | x::xs,h=>by
  rw[all_cons,Bool.and_eq_true]at h
  have h1:=nb_ xs h.2
  have h2:=hk_ x
  have h3:x.length≤24:=by
   have:=h.1
   simp only[sI_,Bool.and_eq_true,decide_eq_true_eq]at this
   exact this.2
  rw[lk_,la_,lc_,Nat.add_mul]
  omega
theorem tt_{key:ByteArray}(h:ci_ key=true):key.size≤1000:=by
 unfold ci_ cv_ at h
 rcases fi_ (bs key)with ⟨e,_⟩|⟨a,b,e,e2,_⟩
 ·rw[e]at h;cases h
 ·rw[e]at h
  simp only at h
  split at h
  ·rename_i q
   rw[Bool.and_eq_true]at q
   obtain⟨q1,q2⟩:=q
   have hb:b.length≤228:=by
    unfold cC_ at q1
    split at q1
    ·rename_i xs hx
     obtain⟨g1,g2⟩:=(h7_ kS_ _ _).1 hx
     simp only[ei_,Bool.and_eq_true,decide_eq_true_eq]at g1
     have:=nb_ xs g1.2
     rw[g2]at this
     have h3:(bs (txt b)).length=b.length:=by rw[eX_,bG_]
     omega
    ·cases q1
   have ha:a.length≤700:=by
    unfold bY_ at q2
    simp only[Bool.and_eq_true,decide_eq_true_eq]at q2
    have:=bG_ a
    omega
   have hs:(bs key).length=key.size:=eX_ key
   have:=congrArg List.length e2
   simp only[la_,lc_]at this
   omega
  ·cases h
theorem yo_{p:am_}(h:shapeP p):am_.sz p≤8000:=by
 obtain⟨h1,h2,h3,h4⟩:=h
 have k1:=ie_ (f:=ByteArray.size) (c:=1000) fun x hx=>tt_ (h3 x hx)
 have k2:=ie_ (f:=ByteArray.size) (c:=64) h4
 have k3:=rB_ p.Kids
 have:p.Keys.length≤7∧p.Vals.length≤7∧p.Kids.length≤7:=by
  cases hl:p.Leaf with
  | true=>obtain⟨a,b,c⟩:=h1 hl;rw[b];simp;omega
  | false=>obtain⟨a,b,c⟩:=h2 hl;rw[b];simp;omega
 unfold am_.sz
 omega
theorem CE_{sl:List ab_}(ok:c2_ sl):az_ ab_.sz sl≤1048576:=by
 have h1:=ie_ (f:=ab_.sz) (c:=8000) (xs:=sl) fun s hs=>yo_ (ok.page hs)
 have h2:=ok.len
 have h3:sl.length * 8000≤64 * 8000:=Nat.mul_le_mul_right _ h2
 omega
theorem tO_(b:af_)(key value:ByteArray):af_.sz (bm_ b key value).1≤1048576:=by
 have z:af_.sz bt0≤1048576:=by simp[af_.sz,bt0,az_,cV_]
 unfold bm_
 split
 ·rename_i q
  simp only[Bool.and_eq_true,decide_eq_true_eq]at q
  obtain⟨q1,q2,q3⟩:=q
  split
  ·obtain⟨hh,ids,rt⟩:=jM_ q1
   exact CE_ (r8_ rt.fit rt.ht q2 q3)
  ·exact z
 ·exact z
end Go.Proofs.YtlcmlgihlojdmaaGreatDoor
