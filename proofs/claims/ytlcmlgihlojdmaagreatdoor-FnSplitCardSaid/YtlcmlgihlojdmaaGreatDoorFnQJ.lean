/-
 Contracts of functions. Conditions: as each theorem says.
-/
import Derived.Test.YtlcmlgihlojdmaaGreatDoorShelfF
import Derived.Test.YtlcmlgihlojdmaaGreatDoorAwSortI
import Derived.Test.YtlcmlgihlojdmaaGreatDoorBase
import Derived.Test.YtlcmlgihlojdmaaGreatDoorFnBW
import Derived.Test.YtlcmlgihlojdmaaGreatDoorPlKey
import Derived.Test.YtlcmlgihlojdmaaGreatDoorFnBS
import Derived.Test.YtlcmlgihlojdmaaGreatDoorFnBI
import Derived.StillTailTactics
import Derived.WalkKit
import Derived.WalkSmall
import Derived.Sort.Grow
namespace Go.Proofs.YtlcmlgihlojdmaaGreatDoor
open Go.AW
open Go.Shelf Go.RowKit Go.Lib
set_option linter.unusedVariables false
set_option linter.unusedSimpArgs false
set_option linter.unnecessarySimpa false
open List
set_option maxRecDepth 4000
open Nat (reduceEqDiff reduceLeDiff)
section
open Go.Sort
set_option maxHeartbeats 4000000
set_option maxRecDepth 100000
theorem xg_(x:Int)(w:World):Calls Tryz.prog 138 #[.int .i64 x] w fun e w'=>e=.returned (.bool false)∧w'=w:=by
 go_enter Tryz.func138,Tryz.ntmps138
 go_wp2
 go_ret
 exact⟨by simp,rfl⟩
theorem tz_(x y:Int)(w:World):Calls Tryz.prog 84 #[.int .i64 x,.int .i64 y] w fun e w'=>e=.returned (.int .i64 (Lib.compareInt x y))∧w'=w:=by
 go_enter Tryz.func84,Tryz.ntmps84
 go_wp2_with (go_at_call 138;refine(xg_ _ _).mono ?_;rintro e w' ⟨rfl,hw⟩;rw[hw])
 all_goals(go_ret;refine⟨?_,rfl⟩;unfold Lib.compareInt;(repeat' split)<;>first|rfl|(exfalso;omega))
theorem AQ_(x y:Int)(a b c d a' b' c' d':Value)(W:World):Calls Tryz.prog 83 #[.agg #[.int .i64 x,a,b,c,d],.agg #[.int .i64 y,a',b',c',d']] W fun e w'=>e=.returned (.int .i64 (Lib.compareInt x y))∧∃q os',w'=grow (W.drewN q) os':=by
 have hc:=fun(w:World)=>tz_ x y w
 generalize Lib.compareInt x y=A at hc⊢
 go_enter Tryz.func83,Tryz.ntmps83
 go_wp2_with (go_at_call 84;refine(hc _).mono ?_;rintro e w' ⟨rfl,rfl⟩)
 go_ret
 refine⟨rfl,0,#[.cells #[.int .i64 x,a,b,c,d] 79,.cells #[.int .i64 y,a',b',c',d'] 79],?_⟩
 rfl
end
theorem ltI(x y:Int):ltOf Lib.compareInt x y=decide (x<y):=by
 rw[Bool.eq_iff_iff,decide_eq_true_iff]
 unfold ltOf Lib.compareInt
 by_cases h1:x<y
 ·simp[h1]
 ·by_cases h2:y<x
  ·simp[h1,h2]
  ·simp[h1,h2]
theorem Ba_:Go.Sort.SWO (ltOf Lib.compareInt) where
 irrefl x:=by rw[ltI,decide_eq_false_iff_not];omega
 trans x y z h1 h2:=by rw[ltI,decide_eq_true_iff]at *;omega
 ntrans x y z h1 h2:=by rw[ltI,decide_eq_false_iff_not]at *;omega
theorem ym_{V:List Value}(h:V.length=5){x:Value}(hx:∃r,V=x::r):∃a b c d,V=[x,a,b,c,d]:=by
 obtain⟨r,rfl⟩:=hx
 match r,h with
 | [a,b,c,d],_=>exact⟨a,b,c,d,rfl⟩
theorem sC_(V:Int→List Value)(hV:∀x,(V x).length=5)(h1:∀x,∀v∈V x,v.oneCell'=true)(hh:∀x,∃r,V x=.int .i64 x::r)(blk off cap:Nat)(ids:List Int)(w:World)(hH:Go.Sort.HoldsK V 5 w blk off ids.toArray)(hblk:blk<w.heap.size)(hsz:ids.length<4611686018427387904) :
 Calls Tryz.prog 82 #[.slice (some ⟨blk,off,none⟩) ids.length cap,.func (.func 83) #[] #[]] w fun e w'=>e=.returned (.tuple #[])∧∃n os,w'=Go.Sort.grow (Go.Sort.putRowK V 5 (Go.Sort.ahead w n) blk off (ids.mergeSort leI).toArray) os:=by
 have eg:∀args w,(callFunc 83 args).run Tryz.prog w=.ok (.enter 83 args) w:=enters_of Tryz.func83 (by kernel_rfl) rfl
 have h:=AnyQ.slices_SortFunc_total Tryz.sortF 5 Tryz.isAgg79 Tryz.sizeOf79 V hV h1 Lib.compareInt Ba_ 83 #[] blk off cap ids.toArray w eg (fun _ _ _ _ x y=>by
  obtain⟨a,b,c,d,e1⟩:=ym_ (hV x) (hh x)
  obtain⟨a',b',c',d',e2⟩:=ym_ (hV y) (hh y)
  rw[e1,e2]
  exact AQ_ x y a b c d a' b' c' d' _) hH hblk (by simpa using hsz)
  (fun x y h1 h2=>by
    rw[ltI,decide_eq_false_iff_not]at h1 h2
    omega)
 have e:(fun x y:Int=>!(ltOf Lib.compareInt) y x)=leI:=by
  funext x y
  rw[ltI,leI,Bool.eq_iff_iff]
  simp
 rw[e]at h
 refine Calls.mono (show Calls Tryz.prog 82 #[.slice (some ⟨blk,off,none⟩) ids.length cap,.func (.func 83) #[] #[]] w _ from h) ?_
 rintro e w' ⟨he,n,os,hw⟩
 exact⟨he,n,os,hw⟩
theorem gc_{ids:List Int}{F:Int→List AV}(hF:∀i∈ids,(∃r,F i=.val (.int .i64 i)::r)∧(F i).length=5∧(F i).all AV.cell=true)(hnd:ids.Nodup){l:Nat}{H:List Row}(hl:H[l]?=some ⟨.ty 79,5,ids.map F⟩)(hlen:ids.length≤4000000){K:AV→List Row→Prop}(hk:K (.tup []) (H.set l ⟨.ty 79,5,(ids.mergeSort leI).map F⟩)) :
 callSem Tryz.prog 82 [.own l ids.length,.fn 83 [] []] H K :=
 uY_ (by omega) (fun V h1 h2 h3 blk off cap ids w h4 h5 h6=>sC_ V h1 h2 h3 blk off cap ids w h4 h5 h6) (fun p cap w=>AnyF.slices_SortFunc_none Tryz.sortF p cap _ w) hF hnd hl (by omega) hk
theorem fK_{α β:Type}{f:α→β}:∀{l:List α},(l.map f).Nodup→∀{a b:α},a∈l→b∈l→f a=f b→a=b
 | [],_,a,b,ha,_,_=>by cases ha
 | x::l,hn,a,b,ha,hb,e=>by
  rw[map_cons,nodup_cons]at hn
  rcases mem_cons.1 ha with q|q
  ·rcases mem_cons.1 hb with q2|q2
   ·rw[q,q2]
   ·exact absurd (mem_map.2 ⟨b,q2,by rw[←e,q]⟩) hn.1
  ·rcases mem_cons.1 hb with q2|q2
   ·exact absurd (mem_map.2 ⟨a,q,by rw[e,q2]⟩) hn.1
   ·exact fK_ hn.2 q q2 e
theorem sK_{ents:List (Int×Nat×AV)}(hn:(ents.map (·.2.1)).Nodup){e:Int×Nat×AV}(he:e∈ents):ents.find? (fun q=>q.2.1==e.2.1)=some e:=by
 cases h:ents.find? (fun q=>q.2.1==e.2.1)with
 | none =>
  have:=find?_eq_none.1 h e he
  simp at this
 | some q =>
  have h1:=mem_of_find?_eq_some h
  have h2:=find?_some h
  rw[fK_ hn h1 he (by simpa using h2)]
theorem kJ_.page{ents:List (Int×Nat×AV)}{ck:Nat}{B:List PB}(h:kJ_ ents ck B){e:Int×Nat×AV}(he:e∈ents):∃x∈B,e.1=x.id∧e.2.2=.ptr x.b 1 0 0:=by
 have:(e.1,e.2.2)∈ents.map (fun e=>(e.1,e.2.2)):=mem_map.2 ⟨e,he,rfl⟩
 rw[h.same]at this
 obtain⟨x,hx,q⟩:=mem_map.1 this
 exact⟨x,hx,(Prod.mk.inj q).1.symm,(Prod.mk.inj q).2.symm⟩
theorem kJ_.ids{ents:List (Int×Nat×AV)}{ck:Nat}{B:List PB}(h:kJ_ ents ck B):ents.map (·.1)=B.map PB.id:=by
 have:=congrArg (List.map Prod.fst) h.same
 simpa[map_map,Function.comp_def]using this
def fe_(z:PB×Nat×Nat×Nat):Tr :=
 ⟨[.val (.int .i64 z.1.id),.val (.bool z.1.pg.Leaf),.sub z.2.1 z.1.pg.Keys.length 0 z.1.pg.Keys.length,.sub z.2.2.1 z.1.pg.Vals.length 0 z.1.pg.Vals.length,.sub z.2.2.2 z.1.pg.Kids.length 0 z.1.pg.Kids.length],ad_.cells z.1.slot,[z.2.1,z.2.2.1,z.2.2.2]⟩
theorem l0_{H:List Row}{n:Nat}:∀us:List Value,aV_ (Own H (n+1)) (us.map fun u=>[AV.val u]) (us.map fun u=>[AV.val u]) []
 | []=>⟨rfl,rfl⟩
 | u::us=>⟨[.val u],us.map fun u=>[AV.val u],[],[],rfl,rfl,⟨.val u,[],[],[],rfl,rfl,⟨rfl,.inl rfl⟩,rfl,rfl⟩,l0_ us⟩
theorem jV_{H:List Row}{n l:Nat}{E:TypeId}{us:List Value}(hl:H[l]?=some ⟨.ty E,1,us.map fun u=>[AV.val u]⟩):Own H (n+2) (.sub l us.length 0 us.length) (.list 0 1 (us.map fun u=>[AV.val u])) [l] :=
 ⟨_,us.map fun u=>[AV.val u],[],hl,by simp,l0_ us,by rw[take_of_length_le (by simp),drop_zero],rfl⟩
theorem lm_{H:List Row}{n l:Nat}{E:TypeId}{xs:List ByteArray}(hl:H[l]?=some ⟨.ty E,1,xs.map ak_⟩):Own H (n+2) (.sub l xs.length 0 xs.length) (.list 0 1 (xs.map ak_)) [l]:=by
 have e:xs.map ak_=(xs.map Value.string).map (fun u=>[AV.val u]):=by rw[map_map];rfl
 rw[e]at hl⊢
 have:=jV_ (n:=n) hl
 rwa [length_map]at this
theorem u2_{H:List Row}{n l:Nat}{E:TypeId}{xs:List Int}(hl:H[l]?=some ⟨.ty E,1,xs.map aK_⟩):Own H (n+2) (.sub l xs.length 0 xs.length) (.list 0 1 (xs.map aK_)) [l]:=by
 have e:xs.map aK_=(xs.map (Value.int .i64)).map (fun u=>[AV.val u]):=by rw[map_map];rfl
 rw[e]at hl⊢
 have:=jV_ (n:=n) hl
 rwa [length_map]at this
theorem u0_{H:List Row}{x:PB}{k v d:Nat}(h1:H[k]?=some ⟨.ty 9,1,x.pg.Keys.map ak_⟩)(h2:H[v]?=some ⟨.ty 9,1,x.pg.Vals.map ak_⟩)(h3:H[d]?=some ⟨.ty 2,1,x.pg.Kids.map aK_⟩):aL_ (Own H 2) (fe_ (x,k,v,d)).c (fe_ (x,k,v,d)).d (fe_ (x,k,v,d)).f :=
 ⟨_,_,[],[k,v,d],rfl,rfl,⟨rfl,.inl rfl⟩,_,_,[],[k,v,d],rfl,rfl,⟨rfl,.inl rfl⟩,_,_,[k],[v,d],rfl,rfl,lm_ h1,_,_,[v],[d],rfl,rfl,lm_ h2,_,_,[d],[],rfl,rfl,u2_ h3,rfl,rfl⟩
def VI(H h:List Row)(ents:List (Int×Nat×AV))(B:List PB)(l:Nat)(seen:List Nat)(vis:List (PB×Nat×Nat×Nat)):Prop :=
 ck_ l h 79 5 l vis.length (vis.map fe_)∧(∀z∈vis,z.1∈B)∧(vis.map (fun z=>z.1.id)).Nodup∧∀e∈ents,(e.2.1∈seen↔e.1∈vis.map fun z=>z.1.id)
theorem ck_.low{lo lo' E sz l m:Nat}{H:List Row}{ts:List Tr}(s:ck_ lo H E sz l m ts)(h:lo'≤lo):ck_ lo' H E sz l m ts:=⟨s.row,s.le,s.wide,s.tree,s.one,fun x hx=>⟨Nat.le_trans h (s.lows x hx).1,(s.lows x hx).2⟩⟩
def oT_(vis:List (PB×Nat×Nat×Nat))(i:Int):Option (PB×Nat×Nat×Nat):=vis.find? fun z=>z.1.id==i
theorem s1_{vis:List (PB×Nat×Nat×Nat)}(hn:(vis.map (fun z=>z.1.id)).Nodup){z:PB×Nat×Nat×Nat}(hz:z∈vis):oT_ vis z.1.id=some z:=by
 unfold oT_
 cases h:vis.find? (fun q=>q.1.id==z.1.id)with
 | none =>
  have:=find?_eq_none.1 h z hz
  simp at this
 | some q =>
  have h1:=mem_of_find?_eq_some h
  have h2:=find?_some h
  rw[fK_ (f:=fun z:PB×Nat×Nat×Nat=>z.1.id) hn h1 hz (by simpa using h2)]
def pS_(vis:List (PB×Nat×Nat×Nat))(i:Int):Tr:=match oT_ vis i with|some z=>fe_ z|none=>⟨[],[],[]⟩
def kQ_(vis:List (PB×Nat×Nat×Nat))(i:Int):ap_:=match oT_ vis i with|some z=>z.1.pg|none=>⟨false,[],[],[]⟩
theorem gp_{vis:List (PB×Nat×Nat×Nat)}(hn:(vis.map (fun z=>z.1.id)).Nodup){z:PB×Nat×Nat×Nat}(hz:z∈vis):pS_ vis z.1.id=fe_ z∧kQ_ vis z.1.id=z.1.pg:=by
 unfold pS_ kQ_;rw[s1_ hn hz];exact⟨rfl,rfl⟩
theorem uI_{B:List PB}{sl:List ad_}{ents:List (Int×Nat×AV)}{ck l:Nat}{h:List Row}{seen:List Nat}{vis:List (PB×Nat×Nat×Nat)}(ok:cr_ sl)(hsame:∀id,aa_ (B.map PB.slot) id=aa_ sl id)(hbox:∀x∈B,aa_ sl x.id=some x.pg)(hids:(B.map PB.id).Nodup)(hents:kJ_ ents ck B)(hall:∀e∈ents,e.2.1∈seen)(sA:ck_ l h 79 5 l vis.length (vis.map fe_))(hvB:∀z∈vis,z.1∈B)(hvn:(vis.map (fun z=>z.1.id)).Nodup)(hvs:∀e∈ents,(e.2.1∈seen↔e.1∈vis.map fun z=>z.1.id))(K:AV→List Row→Prop)
 (hK:∀H' ts,(∀x,x<l→H'[x]?=h[x]?)→ck_ l H' 79 5 l sl.length ts→ts.length=sl.length→ts.map Tr.d=sl.map ad_.cells→vis.length=sl.length→K (.tup []) H') :
 callSem Tryz.prog 82 [.own l vis.length,.fn 83 [] []] h K:=by
 have e1:vis.map fe_=(vis.map (fun z=>z.1.id)).map (pS_ vis):=by
  rw[map_map]
  exact map_congr_left fun z hz=>(gp_ hvn hz).1.symm
 have hperm:((vis.map (fun z=>z.1.id)).mergeSort leI).Perm (vis.map (fun z=>z.1.id)):=mergeSort_perm _ _
 have hrise:df_ (((vis.map (fun z=>z.1.id)).mergeSort leI).map fun i=>(⟨i,kQ_ vis i⟩:ad_)):=by
  have h1:((vis.map (fun z=>z.1.id)).mergeSort leI).Pairwise (fun a b=>leI a b=true):=pairwise_mergeSort (le:=leI) (fun a b c=>by simp only[leI,decide_eq_true_iff];omega) (fun a b=>by simp only[leI,Bool.or_eq_true,decide_eq_true_iff];omega) _
  have h2:((vis.map (fun z=>z.1.id)).mergeSort leI).Nodup:=hperm.nodup_iff.2 hvn
  refine pairwise_map.2 ((h1.and h2).imp ?_)
  rintro a b ⟨q1,q2⟩
  simp only[leI,decide_eq_true_iff]at q1
  show a<b
  omega
 have hsl:((vis.map (fun z=>z.1.id)).mergeSort leI).map (fun i=>(⟨i,kQ_ vis i⟩:ad_))=sl:=by
  refine pa_ hrise ok.rise fun id=>Option.ext fun p=>⟨fun hp=>?_,fun hp=>?_⟩
  ·obtain⟨i,hi,e⟩:=mem_map.1 (dx_ hp)
   obtain⟨z,hz,rfl⟩:=mem_map.1 (hperm.mem_iff.1 hi)
   have e2:=congrArg ad_.Id e
   have e3:=congrArg ad_.Page e
   simp only at e2 e3
   rw[(gp_ hvn hz).2]at e3
   rw[←e2,←e3]
   exact hbox _ (hvB z hz)
  ·have hp2:=hp
   rw[←hsame]at hp2
   obtain⟨x,hx,e⟩:=mem_map.1 (dx_ hp2)
   have e2:x.id=id:=congrArg ad_.Id e
   have e3:x.pg=p:=congrArg ad_.Page e
   have hxi:x.id∈ents.map (·.1):=by rw[hents.ids];exact mem_map_of_mem hx
   obtain⟨q,hq,e4⟩:=mem_map.1 hxi
   have h5:=(hvs q hq).1 (hall q hq)
   rw[e4]at h5
   obtain⟨z,hz,e6⟩:=mem_map.1 h5
   have e7:z.1=x:=fK_ hids (hvB z hz) hx e6
   have h8:(⟨z.1.id,kQ_ vis z.1.id⟩:ad_)∈((vis.map (fun z=>z.1.id)).mergeSort leI).map fun i=>(⟨i,kQ_ vis i⟩:ad_):=mem_map.2 ⟨z.1.id,hperm.mem_iff.2 (mem_map.2 ⟨z,hz,rfl⟩),rfl⟩
   have h9:=iH_ hrise h8
   rw[(gp_ hvn hz).2,e7,e2,e3]at h9
   exact h9
 have hlen:vis.length=sl.length:=by
  have:=congrArg List.length hsl
  simpa using this
 have hrow:=sA.row
 have hl:=sA.lt
 rw[e1,map_map]at hrow
 have hm:=gc_ (ids:=vis.map fun z:PB×Nat×Nat×Nat=>z.1.id) (F:=fun i=>(pS_ vis i).c) (l:=l) (H:=h) (K:=K) (fun i hi=>by
  obtain⟨z,hz,rfl⟩:=mem_map.1 hi
  simp only[(gp_ hvn hz).1]
  exact⟨⟨_,rfl⟩,rfl,rfl⟩) hvn hrow (by simp only[length_map];have:=ok.len;omega)
 rw[length_map]at hm
 refine hm (hK _ (((vis.map (fun z=>z.1.id)).mergeSort leI).map (pS_ vis)) (fun x hx=>getElem?_set_ne (by omega)) ?_ (by simp[hlen]) ?_ hlen)
 ·refine ck_.renew (new:=[]) (old:=vis.map fe_) sA (by rw[getElem?_set_self hl,map_map];rfl) (by simp[hlen]) (by rw[nil_append,e1];exact hperm.map _) (List.Sublist.refl _) (fun t ht=>(by cases ht)) ⟨0,fun t ht=>(by cases ht)⟩ (by simp) (fun x hx=>(by cases hx)) (fun x hx=>?_) (.inl rfl) (by simp)
  refine getElem?_set_ne (fun e=>?_)
  subst e
  exact(nodup_cons.1 sA.one).1 hx
 ·rw[map_map]
  conv=>rhs;rw[←hsl]
  rw[map_map]
  refine map_congr_left fun i hi=>?_
  obtain⟨z,hz,rfl⟩:=mem_map.1 (hperm.mem_iff.1 hi)
  simp only[Function.comp,(gp_ hvn hz).1,(gp_ hvn hz).2]
  rfl
def c40:LC :=
 .q [.o [.s 2 (.alloc 28 z0z)],.o [.m 6 0,.nc 7 6,.fa 8 0 7,.ln 9 8,.s 10 (.build z0z [(0,1),(1,1)] [(0,.tmp 9)]),.s 3 (.alloc 28 z0z),.st 2 3 10],.q [.o [.m 11 0,.nc 12 11,.fa 13 1 12,.ln 14 13,.s 15
 (.ext (.rng (.tmp 14)))],.block 0 (.ghost (.loop (.q [.o [.s 16 (.ext (.nxt (.tmp 15))),.ex 17 16 0],.k 17 .skip (.exit 0),.block 1 (.q [.o [.s 18 (.ext (.ent (.tmp 15))),.ex 19 18 0,.ex 20 18 1,.m 4 19,.m 5 20],
 .gops [.fa 21 1 3,.ln 22 21,.m 23 4,.m 24 5,.nc 25 24,.ld 26 4 25] [(.c1 27 79 26,[.fa 21 1 3,.ln 22 21,.m 23 4]),(.s 28 (.build z2z [(0,1),(1,4)] [(0,.tmp 23),(1,.tmp 27)]),[.fa 21 1 3,.ln 22 21]),(.s
 29 (.buildSlice 79 5 z2z 1 [(0,.tmp 28)]),[.fa 21 1 3,.ln 22 21]),(.ap 30 79 5 88 22 29,[]),(.fa 31 1 3,[]),(.st 1 31 30,[])]])])))],.o [.fa 32 1 3,.ln 33 32,.s 34 (.call 82 [.tmp 33,.func 83])],.o [.ld 35
 2 3,.st 2 2 35],.ret]
def zX_:LF:=⟨1,36,c40,[.cell 2 (some 2)]⟩
theorem AU_:aC_ Tryz.prog Tryz.f40 zX_:=do_
theorem ow_{T M:Nat}{root:Int}{lo mx:Nat}{sl:List ad_}{H:List Row}{B:List PB}(ok:cr_ sl)(g:PgS H T M root B lo mx sl)(K:AV→List Row→Prop)
 (hK:∀H' l ts,bu_ H H'→ck_ H.length H' 79 5 l sl.length ts→ts.length=sl.length→ts.map Tr.d=sl.map ad_.cells→K (.agg [.val (.int .i64 root),.own l sl.length]) H') :
 callSem Tryz.prog 40 [.ptr T 1 0 0] H K:=by
 obtain⟨ents,ck,g0⟩:=g.pg
 have gT:=g0.box
 have gM:=g0.map
 have hT:=(g0.lows T (by simp)).2
 have hMl:=(g0.lows M (by simp)).2
 refine aO_ mixed Tryz.func40 AU_ (bA_ rfl ?_)
 simp(disch:=first|omega|simp only[lzz0_];first|done|omega)only[ac_,a1_,go_sem,seval,zX_,c40,gT,gM,co_,Option.map_some]
 refine pc_ _ (fun t=>pG_ (L:=H.length+1) [.val (.int .i64 root)] [] 79 5 (by first|exact a1_ rfl|((simp(disch:=(first|omega|(simp only[ls_,la_,lc_,ln_];omega)))only[al_,ao_,ac_,ar_,a1_,bD_,cg_]))|(simp;done))) ?_
 have hB64:B.length≤64:=by
  have:=bH_ (a:=B.map PB.id) (b:=sl.map ad_.Id) g0.ids (fun i hi=>by
   obtain⟨x,hx,rfl⟩:=mem_map.1 hi
   exact mem_map.2 ⟨_,dx_ (g.box hx),rfl⟩)
  have h2:=ok.len
  simp only[length_map]at this
  omega
 refine a4_ (fun n t h=>∃(seen:List Nat) (vis:List (PB×Nat×Nat×Nat)),t 0=.ptr T 1 0 0∧t 2=.ptr H.length 1 0 0∧t 3=.ptr (H.length+1) 1 0 0∧t 15=.ptr (H.length+2) 0 0 0∧bu_ H h∧h[H.length]?=some ⟨.ty 28,2,[[.val (.int .i64 0),.val (.slice none 0 0)]]⟩∧h[H.length+1]?=some ⟨.ty 28,2,[[.val (.int .i64 root),.own (H.length+3) vis.length]]⟩∧h[H.length+2]?=some ⟨.iter M ck seen ck,0,[]⟩∧VI H h ents B (H.length+3) seen vis∧n=B.length-vis.length) B.length ?_ ?_
 ·have el:(H++[(⟨.ty 28,2,[[.val (.int .i64 0),.val (.slice none 0 0)]]⟩:Row),⟨.ty 28,2,[[.val (.int .i64 root),.val (.slice none 0 0)]]⟩,⟨.iter M ck [] ck,0,[]⟩]).length=H.length+3:=by simp
  rw[el]
  have e3:∀r:Row,(((H++[(⟨.ty 28,2,[[.val (.int .i64 0),.val (.slice none 0 0)]]⟩:Row),⟨.ty 28,2,[[.val (.int .i64 root),.val (.slice none 0 0)]]⟩,⟨.iter M ck [] ck,0,[]⟩]).set (H.length+1) r)++[(⟨.ty 79,5,[]⟩:Row)])[H.length+3]?=some ⟨.ty 79,5,[]⟩:=fun r=>by
   rw[getElem?_append_right (by simp)];simp
  refine⟨[],[],rfl,rfl,rfl,rfl,⟨by simp,fun l hl=>?_⟩,?_,?_,?_,⟨⟨e3 _,Nat.le_refl _,fun t ht=>(by cases ht),⟨0,fun t ht=>(by cases ht)⟩,(by simp[foot]),fun x hx=>?_⟩,fun z hz=>(by cases hz),nodup_nil,fun e he=>by simp⟩,rfl⟩
  ·rw[ac_ (by simp;omega),al_ (by omega),ac_ hl]
  ·rw[ac_ (by simp),al_ (by omega),ar_ rfl]
  ·rw[ac_ (by simp),ao_ (by simp)];rfl
  ·rw[ac_ (by simp),al_ (by omega),bD_ rfl]
  simp only[foot,map_nil,flatten_nil,mem_singleton]at hx
  subst hx
  simp
 ·rintro J hJ n t h ⟨seen,vis,t0,t2,t3,t15,hmo,o0,o1,o2,⟨sA,hvB,hvn,hvs⟩,rfl⟩
  have g1:=g.more hmo
  have hM:=hmo.at gM
  have o3:=sA.row
  have hlen:=hmo.len
  have hl3:=sA.lt
  have q1:∀e∈ents,e.2.1<ck:=g0.ents.old
  simp(disch:=first|omega|simp only[lzz0_];first|done|omega)only[al_,ao_,go_sem,seval,t3,t15,o1,o2,hM,getLast?_append,getLast?_singleton,Option.some_or]
  refine⟨q1,fun hall=>?_,fun e he hns=>?_⟩
  ·refine uI_ ok g.same (fun x hx=>g.box hx) g0.ids g0.ents hall sA hvB hvn hvs _ ?_
   intro H' ts r1 r2 r3 r4 r5
   have b0:=(r1 H.length (by omega)).trans o0
   have b1:=(r1 (H.length+1) (by omega)).trans o1
   rw[r5]at b1
   have hl5:=r2.lt
   simp(disch:=first|omega|simp only[lzz0_];first|done|omega)only[ao_,go_sem,seval,t2,t3,b0,b1]
   refine hK _ _ ts ⟨by rw[ls_];omega,fun x hx=>?_⟩ (ck_.low (r2.keep (fun x hx=>al_ (by have:=(r2.lows x hx).1;omega)) (by rw[ls_];exact Nat.le_refl _)) (by omega)) r3 r4
   rw[al_ (by omega),r1 x (by omega)]
   exact hmo.kept x hx
  ·obtain⟨x,hx,ei,ep⟩:=g0.ents.page he
   have hf:=sK_ g0.ents.born he
   obtain⟨ents1,ck1,g2⟩:=g1.pg
   obtain⟨a1,a2,a3,op,p1,p2,p3⟩:=g2.pgs x hx
   have lb:∀y∈x.foot,y<H.length:=fun y hy=>(g0.lows y (Pg.mem_foot hx hy)).2
   have lb0:=lb x.b (by simp[PB.foot])
   have lb1:=lb x.k (by simp[PB.foot])
   have lb2:=lb x.v (by simp[PB.foot])
   have lb3:=lb x.d (by simp[PB.foot])
   obtain⟨z1,z2,z3⟩:=(ok.pgs _ _ (g.box hx)).2.2.smallP
   rw[ei,ep]
   simp(disch:=first|omega|simp only[lzz0_];first|done|omega)only[al_,go_sem,seval,hf,ei,ep,op]
   refine mt_ x.pg z1 z2 z3 _ _ (p1.keep (al_ (by omega))) (p2.keep (al_ (by omega))) (p3.keep (al_ (by omega))) ?_
   intro H2 k v d m2 k1 k2 k3 k4 r1 r2 r3
   rw[ls_]at k1
   have hl2:=m2.len
   rw[ls_]at hl2
   have w0:=(m2.kept H.length (by rw[ls_];omega)).trans ((al_ (by omega)).trans o0)
   have w1:=(m2.kept (H.length+1) (by rw[ls_];omega)).trans ((al_ (by omega)).trans o1)
   have w2:=(m2.kept (H.length+2) (by rw[ls_];omega)).trans (ao_ (by omega))
   have w3:=(m2.kept (H.length+3) (by rw[ls_];omega)).trans ((al_ (by omega)).trans o3)
   simp(disch:=first|omega|simp only[lzz0_];first|done|omega)only[al_,ac_,ar_,go_sem,seval,t3,w1,w3,co_,Option.map_some]
   have hxn:x.id∉vis.map (fun z=>z.1.id):=fun q=>hns ((hvs e he).2 (by rw[ei];exact q))
   have hcnt:vis.length+1≤B.length:=by
    have:=bH_ (a:=x.id::vis.map fun z=>z.1.id) (b:=B.map PB.id) (nodup_cons.2 ⟨hxn,hvn⟩) (fun i hi=>by
     rcases mem_cons.1 hi with q|q
     ·rw[q];exact mem_map_of_mem hx
     ·obtain⟨z,hz,rfl⟩:=mem_map.1 q
      exact mem_map.2 ⟨z.1,hvB z hz,rfl⟩)
    simpa using this
   have ol:∀(r r1 r2:Row) y,y<H2.length→y≠H.length+3→y≠H.length+1→(((H2++[r]).set (H.length+3) r1).set (H.length+1) r2)[y]?=H2[y]?:=fun r r1 r2 y q1 q2 q3=>by rw[al_ (Ne.symm q3),al_ (Ne.symm q2),ac_ q1]
   have old2:∀y,y<H.length→H2[y]?=H[y]?:=fun y hy=>(m2.kept y (by rw[ls_];omega)).trans ((al_ (by omega)).trans (hmo.kept y hy))
   refine⟨by omega,by omega,B.length-(vis.length+1),by omega,hJ _ _ _ ⟨seen++[e.2.1],vis++[(x,k,v,d)],by simp[upd,t0],by simp[upd,t2],by simp[upd,t3],by simp[upd,t15],⟨by simp only[ls_,la_,lc_,ln_];omega,fun y hy=>?_⟩,?_,?_,?_,⟨?_,?_,?_,?_⟩,by simp⟩⟩
   ·rw[ol _ _ _ y (by omega) (by omega) (by omega)];exact old2 y hy
   ·rw[ol _ _ _ _ (by omega) (by omega) (by omega)];exact w0
   ·rw[ao_ (by simp only[ls_,la_,lc_,ln_];omega)];simp
   ·rw[ol _ _ _ _ (by omega) (by omega) (by omega)];exact w2
   ·have hrow:(vis++[(x,k,v,d)]).map fe_=vis.map fe_++[fe_ (x,k,v,d)]:=by rw[map_append];rfl
    refine ck_.renew (new:=[fe_ (x,k,v,d)]) (old:=vis.map fe_) sA ?_ (by simp) (by rw[hrow];exact perm_append_comm) (List.Sublist.refl _) (fun t ht=>?_) ⟨2,fun t ht=>?_⟩ ?_ (fun y hy=>?_) (fun y hy=>?_) (.inl rfl) (by simp only[ls_,la_,lc_,ln_];omega)
    ·rw[al_ (by omega),ao_ (by simp only[la_,lc_,ln_];omega),hrow,map_append];rfl
    ·rw[mem_singleton.1 ht];exact⟨rfl,rfl⟩
    ·rw[mem_singleton.1 ht]
     exact u0_ ((ol _ _ _ _ (by omega) (by omega) (by omega)).trans r1) ((ol _ _ _ _ (by omega) (by omega) (by omega)).trans r2) ((ol _ _ _ _ (by omega) (by omega) (by omega)).trans r3)
    ·show([k,v,d]++[]).Nodup
     simp only[append_nil,nodup_cons,mem_cons,not_mem_nil,or_false,not_or,nodup_nil,and_true,not_false_eq_true]
     omega
    ·have hy':y∈[k,v,d]:=by simpa[fe_]using hy
     simp only[mem_cons,not_mem_nil,or_false]at hy'
     have hyl:h.length≤y∧y<H2.length:=by omega
     refine⟨fun q=>?_,by omega,by omega,by simp only[ls_,la_,lc_,ln_];omega⟩
     have:=(sA.lows y q).2
     omega
    ·have hy':y∈foot (H.length+3) (vis.map fe_):=mem_cons_of_mem _ hy
     have hb:=sA.lows y hy'
     have hne:y≠H.length+3:=fun q=>(nodup_cons.1 sA.one).1 (by rw[←q];exact hy)
     rw[ol _ _ _ y (by omega) hne (by omega),m2.kept y (by rw[ls_];omega),al_ (by omega)]
   ·intro z hz
    rcases mem_append.1 hz with q|q
    ·exact hvB z q
    ·rw[mem_singleton.1 q];exact hx
   ·rw[map_append,nodup_append]
    refine⟨hvn,by simp,fun a ha b hb q=>?_⟩
    simp only[map_cons,map_nil,mem_singleton]at hb
    rw[hb]at q
    exact hxn (q▸ha)
   ·intro e' he'
    have hih:=hvs e' he'
    rw[mem_append,map_append,mem_append,hih]
    simp only[mem_singleton,map_cons,map_nil]
    have:e'.2.1=e.2.1↔e'.1=x.id:=⟨fun q=>by rw[fK_ (f:=fun e:Int×Nat×AV=>e.2.1) g0.ents.born he' he q,ei],fun q=>by
     have hn:(ents.map (·.1)).Nodup:=by rw[g0.ents.ids];exact g0.ids
     rw[fK_ (f:=fun e:Int×Nat×AV=>e.1) hn he' he (q.trans ei.symm)]⟩
    rw[this]
theorem w5_{b:ay_}{h:Nat}{ids:List Int}{key value:ByteArray}(f:Fit b h ids)(hn:h<65)(hk:bC_ key=true)(hv:value.size≤64):cr_ (eq_ 65 b key value).1.Slots:=by
 obtain⟨hg,hs⟩:=eX_ hk hv h 65 b.Slots true b.Root _ _ ids hn f.ok f.tree f.nodup
 unfold eq_
 split
 ·exact hg.ok
 ·split
  ·exact hg.ok
  ·rename_i hnz
   split
   ·exact hg.ok
   ·rename_i hw
    rcases ei_ (st:=aa_ (bt_ 65 b.Slots b.Root key value).1) 64 (Nat.le_refl _)with q|⟨q1,q2,q3⟩
    ·exact absurd q hw
    ·refine hg.ok.set ⟨q1,q2,fun e=>(by cases e),fun _=>⟨rfl,rfl,by simp[cN_]⟩,fun k hk2=>?_,fun v hv2=>(by cases hv2)⟩
     have:k=(bt_ 65 b.Slots b.Root key value).2.1:=by simpa[cN_]using hk2
     rw[this]
     exact hs hnz
def BQ(a:AV):Prop:=∃r s,s.cell=true∧∃c,a=.tup [.agg [.val (.int .i64 r),s],.val (.int .i64 c)]
theorem gE_{H:List Row}{lo:Nat}(c:Int)(hl:lo≤H.length):h1_ lo H (.tup [.agg [.val (.int .i64 0),.val (.slice none 0 0)],.val (.int .i64 c)]) (.tup [.agg (ay_.cells bt0),.val (.int .i64 c)]) :=
 (aP_.tup (aU_.cons (aP_.agg (aU_.val _ (aU_.cons (aP_.mknil lo H.length H 5) (aU_.nil H.length H.length H) ⟨hl,Nat.le_refl _⟩))) (aU_.val _ (aU_.nil H.length H.length H)) ⟨hl,Nat.le_refl _⟩)).fresh
def c10:LC :=
 .q [.o [.bx 3 28 0,.s 6 (.alloc 28 z0z),.ki 7 0],.q [.o [.ld 10 2 3,.c1 11 35 10,.nt 12 11,.m 13 12,.gm 14 13 false 1,.gc 15 13 false 36 14,.gu 16 13 false 15,.pt 17 13 16,.m 18 17,.gm 19 18 false 2,.g 20 18
 false (.buildSlice 9 1 (.string ⟨#[]⟩) 1 [(0,.tmp 19)]),.gc 21 18 false 37 20,.pt 22 18 21],.k 22 (.q [.o [.s 23 (.build z0z [(0,1),(1,1)] []),.st 2 6 23,.ki 7 1],.ret]) .skip],.o [.ld 24 2 3,.c1 25 38 24,.m
 8 25],.q [.o [.m 26 8,.m 27 1,.m 28 2,.c3 29 39 26 27 28,.m 9 29],.o [.m 30 9,.bk 31 .neq false 30 0],.k 31 (.q [.o [.s 32 (.build z0z [(0,1),(1,1)] []),.m 33 9,.st 2 6 32,.m 7 33],.ret]) .skip],.o [.m 34
 8,.c1 35 40 34,.st 2 6 35,.ki 7 0],.ret]
def Ab_:LF:=⟨3,36,c10,[.cell 6 (some 2),.tmp 7]⟩
theorem AZ_:aC_ Tryz.prog Tryz.f10 Ab_:=do_
theorem lt_(b:ay_)(key value:ByteArray)(hb:ay_.sz b≤1048576)(hk:key.size≤1048576)(hv:value.size≤1048576):eV_ Tryz.prog 10 [.agg (ay_.cells b),.val (.string key),.val (.string value)] (.tup [.agg (ay_.cells (ec_ b key value).1),.val (.int .i64 (ec_ b key value).2)]) BQ:=by
 obtain⟨z1,z2,z3⟩:=wK_ hb
 have hbo:=fun h=>f3_ b z1 z2 z3 h
 unfold ay_.cells at hbo
 refine tK_ mixed Tryz.func10 AZ_ rfl (fun h0=>?_)
 simp(disch:=omega)only[Ab_,c10,show ay_.cells b=[.val (.int .i64 b.Root),.list 0 5 (b.Slots.map ad_.cells)]from rfl,go_sem,Nat.reduceEqDiff,Nat.reduceAdd,↓reduceIte]
 refine PureCall.call (hbo _) ?_
 cases h1:c3_ b with
 | false =>
  have e:ec_ b key value=(bt0,1):=by rw[ec_,h1];rfl
  rw[e]
  simp(disch:=omega)only[co_,Option.map_some,fO_,go_sem,seval]
  exact⟨⟨bu_.app _ _,(gE_ 1 (by simp)).b⟩,⟨_,_,rfl,_,rfl⟩⟩
 | true =>
  simp(disch:=omega)only[go_sem,seval]
  first|refine PureCall.call (dD_ key hk _) ?_|refine PureCall.q (dD_ key hk _) ?_
  cases h2:bC_ key with
  | false =>
   have e:ec_ b key value=(bt0,1):=by rw[ec_,h1,h2];rfl
   rw[e]
   simp(disch:=omega)only[co_,Option.map_some,fO_,go_sem,seval]
   exact⟨⟨bu_.app _ _,(gE_ 1 (by simp)).b⟩,⟨_,_,rfl,_,rfl⟩⟩
  | true =>
   simp(disch:=omega)only[go_sem,seval]
   have hlg:∀H:List Row,H[h0.length+2]?=some ⟨.ty 9,1,[[AV.val (.string value)]]⟩→PureCall Tryz.prog 37 [.own (h0.length+2) 1] H (.val (.bool (!decide ((value.size:Int)≤64)))):=fun H hl=>by
    have:PureCall Tryz.prog 37 [.own (h0.length+2) 1] H (.val (.bool (![value].all fun v=>decide ((v.size:Int)≤64)))):=AW.frozen (n:=2) (hz_ [value] (by simp)) (fC_ (gk_ (n:=0) hl rfl (by simp[AV.flat])))
    rw[all_cons,all_nil,Bool.and_true]at this
    exact this
   refine PureCall.call (hlg _ (by simp(disch:=omega)only[go_sem])) ?_
   by_cases h3:(value.size:Int)≤64
   case neg =>
    have e:ec_ b key value=(bt0,1):=by rw[ec_,h1,h2,decide_eq_false (by omega:¬ value.size≤64)];rfl
    rw[e]
    simp(disch:=omega)only[decide_eq_false h3,Bool.not_false,co_,Option.map_some,fO_,go_sem,seval]
    exact⟨⟨bu_.app _ _,(gE_ 1 (by simp)).b⟩,⟨_,_,rfl,_,rfl⟩⟩
   have hv64:value.size≤64:=by omega
   simp(disch:=omega)only[decide_eq_true h3,Bool.not_true,go_sem,seval]
   obtain⟨hh,ids,rt⟩:=sG_ h1
   have hlt:=rt.ht
   refine ek_ b.Root b.Slots z1 z2 rt.ok.rise.ids _ _ ?_
   intro H1 T M B ents ck hmo g hB hlim
   have w0:=hmo.at (i:=h0.length+1) (a1_ rfl)
   have ml:=hmo.len
   simp only[la_,lc_,ln_]at ml
   have gS:PgS H1 T M b.Root B _ 1048576 b.Slots:=⟨⟨ents,ck,g⟩,fun id=>by rw[hB],hlim⟩
   have hT:=g.lows T (by simp)
   simp(disch:=first|omega|simp only[lzz0_];first|done|omega)only[go_sem,seval]
   refine mO_ h2 hv64 hlt (by omega) (by omega) rt.ok rt.tree rt.nodup gS _ ?_
   intro H2 B2 hgo gI
   have l1:=hgo.len
   have hok:=w5_ rt.fit hlt h2 hv64
   have w1:H2[h0.length+1]?=_:=(hgo.kept _ (by omega) (fun q=>by have:=(g.lows _ q).1;simp only[la_,lc_,ln_]at this;omega)).trans w0
   have mo2:bu_ h0 H2:=⟨by omega,fun x hx=>(hgo.kept x (by omega) (fun q=>by have:=(g.lows _ q).1;simp only[la_,lc_,ln_]at this;omega)).trans (((bu_.app h0 _).trans hmo).kept x hx)⟩
   have hI:ec_ b key value=if(eq_ 65 b key value).2=0 then((eq_ 65 b key value).1,0)else(bt0,(eq_ 65 b key value).2):=by
    rw[ec_,h1,h2,decide_eq_true hv64];rfl
   have hbb:(⟨b.Root,b.Slots⟩:ay_)=b:=rfl
   rw[hbb]at gI
   rw[hbb]
   rw[hI]
   generalize eq_ 65 b key value=R at *
   by_cases hc:R.2=0
   ·rw[if_pos hc]
    simp(disch:=first|omega|simp only[lzz0_];first|done|omega)only[go_sem,seval,hc]
    refine ow_ hok gI _ ?_
    intro H3 l ts m3 sA hlen hd
    have w2:=m3.at w1
    have l3:=m3.len
    have sl:=sA.lt
    simp(disch:=first|omega|simp only[lzz0_];first|done|omega)only[ao_,go_sem,seval,w2,fO_]
    have mo3:bu_ h0 H3:=mo2.trans m3
    have sB:∀r:Row,ck_ h0.length (H3.set (h0.length+1) r) 79 5 l R.1.Slots.length ts:=fun r=>ck_.low (sA.keep (fun x hx=>al_ (by have:=(sA.lows x hx).1;omega)) (by rw[ls_];exact Nat.le_refl _)) (by omega)
    have X:∀r:Row,aP_ h0.length (H3.set (h0.length+1) r).length (H3.set (h0.length+1) r) (.own l R.1.Slots.length) (.list 0 5 (R.1.Slots.map ad_.cells)):=fun r=>by
     have:=(sB r).freshOwn
     rw[hlen,hd]at this
     exact this
    exact⟨⟨mo3.set (by omega),aP_.pair (aP_.agg (aU_.val _ (aU_.cons (X _) (aU_.nil _ _ _) ⟨by simp only[ls_];omega,Nat.le_refl _⟩))) (by simp only[ls_];omega) _⟩,⟨_,_,rfl,_,rfl⟩⟩
   ·rw[if_neg hc]
    simp(disch:=first|omega|simp only[lzz0_];first|done|omega)only[ao_,go_sem,seval,w1,hc,co_,Option.map_some,fO_]
    exact⟨⟨mo2.set (by omega),(gE_ R.2 (by simp only[ls_];omega)).b⟩,⟨_,_,rfl,_,rfl⟩⟩
theorem k1_{α:Type}{f:α→Nat}{c:Nat}:∀{xs:List α},(∀x∈xs,f x≤c)→hs_ f xs≤xs.length * c
 | [],_=>by simp[hs_]
 | x::xs,h=>by
  have h1:=h x mem_cons_self
  have h2:=k1_ (f:=f) (c:=c) (xs:=xs) fun y hy=>h y (mem_cons_of_mem _ hy)
  simp only[hs_,lc_,Nat.add_mul]
  omega
theorem hD_{α:Type}{f:α→Nat}{c:Nat}{xs:List α}(h:∀x∈xs,f x≤c):c5_ f xs≤xs.length+xs.length * c:=by
 have:=k1_ h
 simp only[c5_];omega
theorem mV_:∀(xs:List (List UInt8)),xs.all gZ_=true→(bW_ xs).length≤xs.length * 57
 | [],_=>by simp[bW_]
 | x::xs,h=>by
  rw[all_cons,Bool.and_eq_true]at h
  have h1:=mV_ xs h.2
  have h2:=gU_ x
  have h3:x.length≤24:=by
   have:=h.1
   simp only[gZ_,Bool.and_eq_true,decide_eq_true_eq]at this
   exact this.2
  rw[j4_,la_,lc_,Nat.add_mul]
  omega
theorem mb_{key:ByteArray}(h:bC_ key=true):key.size≤1000:=by
 unfold bC_ b7_ at h
 rcases e4_ (bs key)with ⟨e,_⟩|⟨a,b,e,e2,_⟩
 ·rw[e]at h;cases h
 ·rw[e]at h
  simp only at h
  split at h
  ·rename_i q
   rw[Bool.and_eq_true]at q
   obtain⟨q1,q2⟩:=q
   have hb:b.length≤228:=by
    unfold cf_ at q1
    split at q1
    ·rename_i xs hx
     obtain⟨g1,g2⟩:=(gj_ h6_ _ _).1 hx
     simp only[dJ_,Bool.and_eq_true,decide_eq_true_eq]at g1
     have:=mV_ xs g1.2
     rw[g2]at this
     have h3:(bs (txt b)).length=b.length:=by rw[eN_,bb_]
     omega
    ·cases q1
   have ha:a.length≤700:=by
    unfold bF_ at q2
    simp only[Bool.and_eq_true,decide_eq_true_eq]at q2
    have:=bb_ a
    omega
   have hs:(bs key).length=key.size:=eN_ key
   have:=congrArg List.length e2
   simp only[la_,lc_]at this
   omega
  ·cases h
theorem xz_{p:ap_}(h:shapeP p):ap_.sz p≤8000:=by
 obtain⟨h1,h2,h3,h4⟩:=h
 have k1:=hD_ (f:=ByteArray.size) (c:=1000) fun x hx=>mb_ (h3 x hx)
 have k2:=hD_ (f:=ByteArray.size) (c:=64) h4
 have k3:=qR_ p.Kids
 have:p.Keys.length≤7∧p.Vals.length≤7∧p.Kids.length≤7:=by
  cases hl:p.Leaf with
  | true=>obtain⟨a,b,c⟩:=h1 hl;rw[b];simp;omega
  | false=>obtain⟨a,b,c⟩:=h2 hl;rw[b];simp;omega
 unfold ap_.sz
 omega
theorem Aq_{sl:List ad_}(ok:cr_ sl):c5_ ad_.sz sl≤1048576:=by
 have h1:=hD_ (f:=ad_.sz) (c:=8000) (xs:=sl) fun s hs=>xz_ (ok.page hs)
 have h2:=ok.len
 have h3:sl.length * 8000≤64 * 8000:=Nat.mul_le_mul_right _ h2
 omega
def kN_(H:List Row)(a:AV)(out:List aN_):Prop:=AW.resolve H 3 a=some (.list 0 2 (out.map aN_.cells))
theorem kN_.more{H H':List Row}{a:AV}{out:List aN_}(h1:H[1]?=some ⟨.ty 55,2,[]⟩)(ha:a=.own 1 0∨∃es,a=.list 0 2 es)(h:kN_ H a out)(h2:H'[1]?=some ⟨.ty 55,2,[]⟩):kN_ H' a out:=by
 unfold kN_ at *
 rcases ha with rfl|⟨es,rfl⟩
 ·have e1:AW.resolve H 3 (.own 1 0)=some (.list 0 2 []):=gk_ (n:=1) h1 rfl (by simp)
  have e2:AW.resolve H' 3 (.own 1 0)=some (.list 0 2 []):=gk_ (n:=1) h2 rfl (by simp)
  rw[e1]at h
  rw[e2]
  exact h
 ·exact h
theorem kN_.list(H:List Row)(out:List aN_):kN_ H (.list 0 2 (out.map aN_.cells)) out:=rfl
theorem PureCall.conv{P:Program}{f:FuncId}{args:List AV}{h:List Row}{r r':AV}(hc:PureCall P f args h r)(hr:∀S x,Rep S r x→Rep S r' x):PureCall P f args h r':=fun K hk S w vals m g rp =>
 (hc (fun a h'=>a=r∧h'=h) ⟨rfl,rfl⟩ S w vals m g rp).mono fun _ _ ⟨v,av,S',h',e,s,m',r2,q⟩=>by
  obtain⟨rfl,rfl⟩:=q
  exact⟨v,_,S',_,e,s,m',hr _ _ r2,hk⟩
def bt1:ay_:=⟨1,[⟨1,⟨true,[],[],[]⟩⟩]⟩
theorem wV_:Fit bt1 0 [1]:=by
 have hb:pageB ⟨true,[],[],[]⟩=true:=by decide
 have hst:∀id p,aa_ bt1.Slots id=some p→id=1∧p=⟨true,[],[],[]⟩:=fun id p h=>by
  unfold bt1 at h
  rw[bo_]at h
  split at h
  ·rename_i q
   exact⟨q.symm,(Option.some.inj h).symm⟩
  ·cases h
 exact⟨⟨by simp[df_,bt1],fun id p hp=>by
  obtain⟨rfl,rfl⟩:=hst id p hp
  exact⟨by omega,by omega,dR_ hb⟩⟩,⟨_,rfl,rfl,hb,rfl,.inl rfl,rfl⟩,by simp⟩
theorem uZ_{sz:Nat}{e d:List AV}(hl:e.length=d.length)(h:∀(S:Sit) (vs:List Value),an_ S e vs→an_ S d vs):∀(S:Sit) (x:Value),Rep S (.list 0 sz [e]) x→Rep S (.list 0 sz [d]) x:=by
 intro S x hx
 simp only[Rep]at hx⊢
 rcases hx with ⟨h1,_⟩|⟨b,off,cap,c,e1,h2,h3,h4,h5,h6,h7⟩
 ·cases h1
 ·right
  refine⟨b,off,cap,c,e1,h2,h3,fun y hy=>?_,h5,by simpa using h6,?_⟩
  ·rw[List.mem_singleton]at hy
   rw[hy,←hl]
   exact h4 e List.mem_cons_self
  ·simp only[aj_]at h7⊢
   exact⟨h _ _ h7.1,trivial⟩
theorem hJ_{c d:AV}{cs ds:List AV}(h:∀S x,Rep S c x→Rep S d x)(hs:∀S xs,an_ S cs xs→an_ S ds xs):∀(S:Sit) (xs:List Value),an_ S (c::cs) xs→an_ S (d::ds) xs:=by
 rintro S xs ⟨v,r,e,h1,h2⟩
 exact⟨v,r,e,h S v h1,hs S r h2⟩
theorem x1_:∀(S:Sit) (x:Value),Rep S (.agg [.val (.int .i64 1),.list 0 5 [[.val (.int .i64 1),.val (.bool true),.val (.slice none 0 0),.val (.slice none 0 0),.val (.slice none 0 0)]]]) x→Rep S (.agg (ay_.cells bt1)) x :=
 tA_ (eL_ (ez_ _) (eL_ (uZ_ rfl (hJ_ (ez_ _) (hJ_ (ez_ _) (hJ_ (pq_ 1) (hJ_ (pq_ 1) (hJ_ (pq_ 1) fun _ _ h=>h)))))) wS_))
def c21:LC :=
 .q [.o [.s 0 (.alloc 28 z0z)],.o [.s 1 (.build z1z [(0,1),(1,1),(2,1),(3,1)] [(0,.const (.bool true))]),.s 2 (.build z2z [(0,1),(1,4)] [(0,.const (.int .i64 1)),(1,.tmp 1)]),.s 3 (.buildSlice 79 5 z2z 1
 [(0,.tmp 2)]),.s 4 (.build z0z [(0,1),(1,1)] [(0,.const (.int .i64 1)),(1,.tmp 3)]),.st 2 0 4],.ret]
def ye_:LF:=⟨0,5,c21,[.cell 0 (some 2)]⟩
theorem AA_:aC_ Tryz.prog Tryz.f21 ye_:=az_
theorem lG_(h:List Row):PureCall Tryz.prog 21 [] h (.agg (ay_.cells bt1)):=by
 refine Go.Proofs.YtlcmlgihlojdmaaGreatDoor.PureCall.conv (r:=.agg [.val (.int .i64 1),.list 0 5 [[.val (.int .i64 1),.val (.bool true),.val (.slice none 0 0),.val (.slice none 0 0),.val (.slice none 0 0)]]]) ?_ x1_
 refine av_ mixed Tryz.func21 AA_ rfl rfl ?_ h
 simp(disch:=omega)only[ye_,c21,co_,Option.map_some,go_sem,seval]
 exact⟨4,rfl⟩
theorem uF_:∀s∈[1,7,11,97],∀j<101,∀k<101,j * s % 101=k * s % 101→j=k:=by decide +kernel
def fV_(s j:Nat):Nat:=j * s % 101
theorem gy_(s j:Nat):fV_ s j<101:=Nat.mod_lt _ (by decide)
theorem gu_:∀{a b:List ByteArray},a.Nodup→(∀x∈a,x∈b)→a.length≤b.length
 | [],b,_,_=>Nat.zero_le _
 | x::a,b,hn,hs=>by
  obtain⟨n1,n2⟩:=nodup_cons.1 hn
  obtain⟨b1,b2,rfl⟩:=append_of_mem (hs x mem_cons_self)
  have:=gu_ n2 (b:=b1++b2) fun y hy=>by
   have h:=hs y (mem_cons_of_mem _ hy)
   rcases mem_append.1 h with q|q
   ·exact mem_append_left _ q
   ·rcases mem_cons.1 q with e|e
    ·exact absurd (e▸hy) n1
    ·exact mem_append_right _ e
  simp only[la_,lc_]at this⊢
  omega
def HN(s i h:Nat)(b:ay_):Prop:=Holds b h fun x=>∃j,j<i∧x=eU_ (fV_ s j)
theorem sS_(s:Nat):HN s 0 0 bt1:=by
 have hp:aa_ bt1.Slots bt1.Root=some ⟨true,[],[],[]⟩:=rfl
 refine⟨wV_,fun i hi=>?_,fun x=>?_⟩
 ·unfold bt1 at hi
  rw[bo_]at hi
  split at hi
  ·rename_i q
   have:i=1:=q.symm
   rw[this];exact mem_cons_self
  ·cases hi
 ·rw[bQ_ hp]
  refine⟨fun q=>(by cases q),fun q=>?_⟩
  obtain⟨j,hj,_⟩:=q
  exact absurd hj (Nat.not_lt_zero j)
theorem HN.count{s i h:Nat}{b:ay_}(hs:s∈[1,7,11,97])(hi:i≤101)(H:HN s i h b):(a5_ (aa_ b.Slots) h b.Root).length=i:=by
 have hn:=tx_ (lw_ H.fit.tree).1
 have hm:=H.mem
 have hn2:((List.range i).map fun j=>eU_ (fV_ s j)).Nodup:=by
  refine pairwise_map.2 (List.Pairwise.imp_of_mem (fun {a c} ha hc hac e=>?_) nodup_range)
  rw[mem_range]at ha hc
  exact hac (uF_ s hs a (by omega) c (by omega) (ux_ (gy_ s a) (gy_ s c) e))
 have h1:=gu_ hn (b:=(List.range i).map fun j=>eU_ (fV_ s j)) fun x hx=>by
  obtain⟨j,hj,e⟩:=(hm x).1 hx
  exact mem_map.2 ⟨j,mem_range.2 hj,e.symm⟩
 have h2:=gu_ hn2 (b:=a5_ (aa_ b.Slots) h b.Root) fun x hx=>by
  obtain⟨j,hj,e⟩:=mem_map.1 hx
  exact(hm x).2 ⟨j,mem_range.1 hj,e.symm⟩
 rw[length_map,length_range]at h1 h2
 omega
theorem HN.small{s i h:Nat}{b:ay_}(hs:s∈[1,7,11,97])(hi:i≤80)(H:HN s i h b):b.Slots.length≤i / 2+1∧h≤3:=by
 have hc:=H.count hs (by omega)
 obtain⟨c1,c2⟩:=tM_ H.fit.tree
 have hl:=q9_ H.fit H.whole
 rw[hc]at c1 c2
 refine⟨by omega,?_⟩
 rcases c2 with e|e
 ·omega
 ·rcases Nat.lt_or_ge h 4 with q|q
  ·omega
  ·have:3 ^ 4≤3 ^ h:=Nat.pow_le_pow_right (by decide) q
   have:(3:Nat) ^ 4=81:=by decide
   omega
theorem HN.next{s i h:Nat}{b:ay_}(hs:s∈[1,7,11,97])(hi:i<80)(H:HN s i h b){value:ByteArray}(hv:value.size≤64):(eq_ 65 b (eU_ (fV_ s i)) value).2=0∧∃h',HN s (i+1) h' (eq_ 65 b (eU_ (fV_ s i)) value).1:=by
 obtain⟨z1,z2⟩:=H.small hs (by omega)
 obtain⟨h1,h',H'⟩:=Holds.ins H (rq_ _ (gy_ s i)) hv (by omega)
 refine⟨h1,h',H'.fit,H'.whole,fun x=>(H'.mem x).trans ?_⟩
 constructor
 ·rintro(e|⟨j,hj,e⟩)
  ·exact⟨i,by omega,e⟩
  ·exact⟨j,by omega,e⟩
 ·rintro⟨j,hj,e⟩
  by_cases q:j=i
  ·rw[q]at e;exact .inl e
  ·exact .inr ⟨j,by omega,e⟩
theorem HN.put{s i h:Nat}{b:ay_}(hs:s∈[1,7,11,97])(hi:i<80)(H:HN s i h b){value:ByteArray}(hv:value.size≤64):∃b' h',HN s (i+1) h' b'∧ec_ b (eU_ (fV_ s i)) value=(b',0):=by
 obtain⟨h1,h',H'⟩:=H.next hs hi hv
 refine⟨_,h',H',?_⟩
 unfold ec_
 rw[iX_ H.fit H.whole,rq_ _ (gy_ s i),decide_eq_true hv]
 simp only[Bool.and_self,if_true]
 rw[if_pos h1]
theorem HN.sz{s i h:Nat}{b:ay_}(H:HN s i h b):ay_.sz b≤1048576:=Aq_ H.fit.ok
theorem HN.sizes{s i h:Nat}{b:ay_}(H:HN s i h b):∀t∈b.Slots,d5_ t.Page.Keys:=fun t ht x hx=>by
 have:=mb_ ((H.fit.ok.page ht).2.2.1 x hx)
 omega
theorem rT_{l:List aN_}(hs:Srt (l.map aN_.Key)){i:Nat}(hi:i<l.length):hO_ l l[i].Key=if h:i+1<l.length then(l[i+1],true)else(⟨⟨#[]⟩,⟨#[]⟩⟩,false):=by
 have lt:∀(a c:Nat) (ha:a<l.length) (hc:c<l.length),a<c→aB_ l[a].Key l[c].Key=true:=fun a c ha hc hac=>by
  have:=pairwise_iff_getElem.1 hs a c (by simpa using ha) (by simpa using hc) hac
  simpa using this
 have le:∀j,j≤i→∀hj:j<l.length,aB_ l[i].Key l[j].Key=false:=fun j hji hj=>by
  rcases Nat.lt_or_ge j i with q|q
  ·exact dP_ (lt j i hj hi q)
  ·have:j=i:=by omega
   subst this
   exact eP_ _
 split
 ·rename_i h
  exact m0_ h (fun j hj hj2=>le j (by omega) hj2) (lt i (i+1) hi h (by omega))
 ·exact k2_ fun j hj=>le j (by omega) hj
def cU8(n:Int):List AV:=[.val (.int .u8 n)]
def lv_(n:Int):Prop:=0≤n∧n≤255
def atB(code:List Int)(i:Nat)(n:Int):Int:=if i<code.length then code.getD i 0 % n else((i:Int) * 37+11) % n
def c20:LC :=
 .q [.o [.f 4],.o [.m 5 0,.ll 6 5,.bk 7 .gtr false 6 1048576,.m 8 7,.gm 9 8 false 1,.g 10 8 false (.lenSl (.tmp 9)),.g 11 8 false (.bin .gtr false (.tmp 10) (.const (.int .i64 1048576))),.pt 12 8 11,.m 4 12],
 .ret]
def x3_:LF:=⟨2,13,c20,[.tmp 4]⟩
theorem Ao_:aC_ Tryz.prog Tryz.f20 x3_:=az_
def c22:LC :=
 .q [.o [.ki 6 0],.q [.o [.m 7 2,.bk 8 .leq false 7 1],.k 8 (.q [.o [.ki 6 0],.ret]) .skip],.q [.o [.m 9 1,.m 10 0,.ll 11 10,.bb 12 .lss false 9 11],.k 12 (.q [.o [.m 13 0,.m 14 1,.ia 15 1 13 14,.ln 16 15,.s
 17 (.convInt .i64 (.tmp 16)),.m 18 2,.bb 19 .rem false 17 18,.m 6 19],.ret]) .skip],.o [.m 20 1,.bk 21 .mul false 20 37,.bk 22 .add false 21 11,.m 23 2,.bb 24 .rem false 22 23,.m 6 24],.ret]
def vF_:LF:=⟨3,25,c22,[.tmp 6]⟩
theorem A1_:aC_ Tryz.prog Tryz.f22 vF_:=az_
theorem mc_(code more:List Int)(h:List Row):PureCall Tryz.prog 20 [.list 0 1 (code.map cU8),.list 0 1 (more.map cU8)] h (.val (.bool (decide ((code.length:Int)>1048576)||decide ((more.length:Int)>1048576)))):=by
 refine av_ mixed Tryz.func20 Ao_ rfl rfl ?_ h
 simp(disch:=omega)only[x3_,c20,go_sem,seval]
 repeat' (first
  | exact am_ _ _
  | (refine af_ ?_;first|rfl|(simp only[*,Bool.and_true,Bool.true_and,Bool.and_false,Bool.false_and,Bool.or_true,Bool.true_or,Bool.or_false,Bool.false_or,Bool.not_true,Bool.not_false,decide_true,decide_false,Bool.and_self,Bool.or_self];done)|(simp[*];done))
  | simp(disch:=omega)only[go_sem,seval]
  | ((first|(apply bz_;assumption)|(apply by_;assumption)|(apply bS_;assumption)|(apply bT_;assumption));intro hb;try simp only[hb])
  | ((first|(apply aT_;assumption)|(apply aR_;assumption)|(apply a6_;assumption)|(apply a7_;assumption));intro hb;try simp only[hb])
  | ((first|apply aQ_|apply aZ_|apply at_|apply as_)<;>intro hb<;>(try simp only[hb])<;>(first|have hp:=br_ hb|have hp:=bn_ hb|have hp:=bq_ hb|have hp:=bp_ hb|skip)))
theorem jG_(code:List Int)(i:Nat)(n:Int)(hi:i≤1)(hn:1<n∧n≤100)(hc:∀b∈code,lv_ b)(h:List Row):PureCall Tryz.prog 22 [.list 0 1 (code.map cU8),.val (.int .i64 i),.val (.int .i64 n)] h (.val (.int .i64 (atB code i n))):=by
 refine av_ mixed Tryz.func22 A1_ rfl rfl ?_ h
 have h1:(n≤1)=False:=eq_false (by omega)
 have hz:n≠0:=by omega
 by_cases hlt:i<code.length
 ·obtain⟨w1,w2⟩:=hc _ (List.getElem_mem hlt)
  simp(disch:=omega)only[vF_,c22,h1,hlt,cU8,go_sem,seval]
  have e:atB code i n=code[i] % n:=by rw[atB,if_pos hlt,List.getD_eq_getElem?_getD,List.getElem?_eq_getElem hlt];rfl
  rw[e]
  exact am_ _ _
 ·simp(disch:=omega)only[vF_,c22,h1,hlt,aA_,go_sem,seval]
  have e:atB code i n=((i:Int) * 37+11) % n:=by rw[atB,if_neg hlt]
  rw[e]
  exact am_ _ _
theorem nW_(code:List Int)(i:Nat)(n:Int)(hn:1<n):0≤atB code i n∧atB code i n<n:=by
 unfold atB
 split
 ·exact⟨Int.emod_nonneg _ (by omega),Int.emod_lt_of_pos _ (by omega)⟩
 ·exact⟨Int.emod_nonneg _ (by omega),Int.emod_lt_of_pos _ (by omega)⟩
theorem AR_{P:Program}{W:World}{t:TypeId}(h:P.underlying t=some (.int .u8)):Rd P W t cU8 lv_:=by
 intro H enc fuel cs d ps hr
 obtain⟨n,e,_,hw⟩:=DataW.trod_int h hr
 subst e
 refine⟨n,?_,by simp[cU8,ae_,Rep]⟩
 simpa[Lit.wf,IntKind.min,IntKind.max,IntKind.signed,IntKind.bits,lv_]using hw
def c5:LC :=
 .q [.o [.f 4],.q [.o [.m 16 0,.m 17 1,.c2 18 20 16 17],.k 18 (.q [.o [.t 4],.ret]) .skip],.o [.s 19 (.call 21 []),.s 5 (.alloc 28 z0z),.st 2 5 19],.o [.m 20 0,.s 21 (.call 22 [.tmp 20,.const (.int .i64 0),
 .const (.int .i64 60)]),.s 22 (.bin .add false (.const (.int .i64 20)) (.tmp 21)),.m 6 22],.o [.s 23 (.buildSlice 2 1 (.int .i64 0) 4 [(0,.const (.int .i64 1)),(1,.const (.int .i64 7)),(2,.const (.int .i64 11)),
 (3,.const (.int .i64 97))]),.m 24 0,.s 25 (.call 22 [.tmp 24,.const (.int .i64 1),.const (.int .i64 4)]),.ia 26 1 23 25,.ln 27 26,.m 7 27],.q [.o [.ki 8 0],.block 0 (.loop (.q [.q [.o [.m 28 8,.m 29 6,.bb 30
 .lss false 28 29],.k 30 .skip (.exit 0)],.block 1 (.q [.o [.m 33 8,.m 34 7,.bb 35 .mul false 33 34,.bk 36 .rem false 35 101,.m 9 36],.gops [.ld 38 2 5,.m 39 9,.bk 40 .mul false 39 1000000] [(.c1 41 24 40,[.ld
 38 2 5]),(.s 42 (.buildSlice 9 1 (.string ⟨#[]⟩) 1 [(0,.tmp 41)]),[.ld 38 2 5]),(.s 43 (.call 23 [.const (.string ⟨#[65]⟩),.tmp 42]),[.ld 38 2 5]),(.s 44 (.call 10 [.tmp 38,.tmp 43,.const (.string ⟨#[118]⟩)]),
 []),(.m 37 44,[]),(.ex 45 37 0,[]),(.ex 46 37 1,[]),(.s 10 (.alloc 28 z0z),[.ld 38 2 5,.m 39 9,.bk 40 .mul false 39 1000000]),(.st 2 10 45,[]),(.m 11 46,[])],.q [.o [.m 47 11,.bk 48 .neq false 47 0],.k
 48 (.q [.o [.f 4],.ret]) .skip],.o [.ld 49 2 10,.st 2 5 49]]),.o [.m 31 8,.bk 32 .add false 31 1,.m 8 32]]))],.o [.ld 50 2 5,.c1 51 25 50,.m 12 51],.q [.o [.ki 13 0],.block 2 (.loop (.q [.q [.o [.m 52 13,.m
 53 12,.ll 54 53,.bb 55 .lss false 52 54],.k 55 .skip (.exit 2)],.block 3 (.q [.gops [.ld 59 2 5,.m 60 12,.m 61 13,.ia 62 2 60 61,.fa 63 0 62,.ln 64 63] [(.c2 65 26 59 64,[]),(.m 58 65,[]),(.ex 66 58 0,[]),
 (.ex 67 58 1,[]),(.s 14 (.alloc 55 (.agg #[.string ⟨#[]⟩,.string ⟨#[]⟩])),[.ld 59 2 5,.m 60 12,.m 61 13,.ia 62 2 60 61,.fa 63 0 62,.ln 64 63]),(.st 2 14 66,[]),(.m 15 67,[])],.dops [.m 68 15,.m 69 13,.bk
 70 .add false 69 1,.m 71 12,.ll 72 71,.bb 73 .lss false 70 72,.bb 74 .neq true 68 73,.m 75 74,.gm 76 75 false 15,.gm 77 75 false 76,.gl 78 77 true 2 14,.gm 79 77 true 12,.gm 80 77 true 13,.g 81 77 true (.bin
 .add false (.tmp 80) (.const (.int .i64 1))),.g 82 77 true (.indexAddr 2 (.tmp 79) (.tmp 81)),.gl 83 77 true 2 82,.g 84 77 true (.eqSt true [1,1] (.tmp 78) (.tmp 83)),.g 85 75 false (.pick (.tmp 77) (.tmp 84)
 (.const (.bool false))),.pt 86 75 85],.k 86 (.q [.o [.f 4],.ret]) .skip]),.o [.m 56 13,.bk 57 .add false 56 1,.m 13 57]]))],.o [.ld 87 2 5,.c1 88 27 87,.m 89 88,.gm 90 89 true 12,.g 91 89 true (.lenSl (.tmp
 90)),.gm 92 89 true 6,.g 93 89 true (.bin .eql false (.tmp 91) (.tmp 92)),.pf 94 89 93,.m 95 94,.gf 96 95 true 1 5,.gn 97 95 true 96,.g 98 95 true (.lenSl (.tmp 97)),.gm 99 95 true 6,.g 100 95 true (.bin .quo
 false (.tmp 99) (.const (.int .i64 2))),.g 101 95 true (.bin .add false (.tmp 100) (.const (.int .i64 1))),.g 102 95 true (.bin .leq false (.tmp 98) (.tmp 101)),.pf 103 95 102,.m 104 103,.gl 105 104 true 2 5,.gc
 106 104 true 28 105,.g 107 104 true (.bin .leq false (.tmp 106) (.const (.int .i64 4))),.pf 108 104 107,.m 4 108],.ret]
def lf5:LF:=⟨2,109,c5,[.tmp 4]⟩
theorem A8_:aC_ Tryz.prog Tryz.f5 lf5:=do_
theorem ul_{s i h:Nat}{b b':ay_}(hs:s∈[1,7,11,97])(H:HN s i h b)(hb':ec_ b (eU_ (fV_ s i)) (txt [118])=(b',0))(H0:List Row):PureCall Tryz.prog 10 [.agg (ay_.cells b),.val (.string (eU_ (fV_ s i))),.val (.string (txt [118]))] H0 (.tup [.agg (ay_.cells b'),.val (.int .i64 0)]):=by
 have:=(lt_ b (eU_ (fV_ s i)) (txt [118]) H.sz (sU_ _ (gy_ s i)) (by rw[bb_];decide)).pure rfl H0
 rw[hb']at this
 exact this
theorem qH_(code more:List Int)(hc:∀b∈code,lv_ b)(h:List Row):PureCall Tryz.prog 5 [.list 0 1 (code.map cU8),.list 0 1 (more.map cU8)] h (.val (.bool true)):=by
 refine av_ mixed Tryz.func5 A8_ rfl rfl ?_ h
 simp(disch:=omega)only[lf5,c5,go_sem,reduceEqDiff,reduceCtorEq,↓reduceIte]
 refine PureCall.call (mc_ code more _) ?_
 cases hl:(decide ((code.length:Int)>1048576)||decide ((more.length:Int)>1048576))with
 | true =>
  simp(disch:=first|omega|simp only[lzz0_];first|done|omega)only[go_sem,↓reduceIte]
  exact am_ _ _
 | false =>
  simp(disch:=first|omega|simp only[lzz0_];first|done|omega)only[go_sem,↓reduceIte]
  refine PureCall.call (lG_ _) ?_
  simp(disch:=first|omega|simp only[lzz0_];first|done|omega)only[go_sem,reduceEqDiff,Nat.reduceAdd,reduceCtorEq,↓reduceIte,show ay_.cells bt1=[.val (.int .i64 bt1.Root),.list 0 5 (bt1.Slots.map ad_.cells)]from rfl]
  refine PureCall.call (jG_ code 0 60 (by omega) (by omega) hc _) ?_
  obtain⟨m1,m2⟩:=nW_ code 0 60 (by omega)
  generalize atB code 0 60=r at *
  simp(disch:=first|omega|simp only[lzz0_];first|done|omega)only[go_sem,reduceCtorEq,↓reduceIte,aA_]
  refine⟨by simp,PureCall.call (jG_ code 1 4 (by omega) (by omega) hc _) ?_⟩
  obtain⟨s1,s2⟩:=nW_ code 1 4 (by omega)
  generalize atB code 1 4=q at *
  obtain⟨q,rfl⟩:∃n:Nat,q=n:=⟨q.toNat,by omega⟩
  obtain⟨r,rfl⟩:∃n:Nat,r=n:=⟨r.toNat,by omega⟩
  have hq4:q<4:=by omega
  obtain⟨s,hs,hq⟩:∃s:Nat,s∈[1,7,11,97]∧([[.val (.int .i64 1)],[.val (.int .i64 7)],[.val (.int .i64 11)],[.val (.int .i64 97)]]:List (List AV))[q]?=some [.val (.int .i64 s)]:=by
   have:q=0∨q=1∨q=2∨q=3:=by omega
   rcases this with rfl|rfl|rfl|rfl
   ·exact⟨1,by simp,rfl⟩
   ·exact⟨7,by simp,rfl⟩
   ·exact⟨11,by simp,rfl⟩
   ·exact⟨97,by simp,rfl⟩
  simp(disch:=first|omega|simp only[lzz0_];first|done|omega)only[go_sem,reduceEqDiff,Nat.reduceAdd,↓reduceIte,hq,hq4]
  have hs97:s≤97:=by
   simp only[mem_cons,not_mem_nil,or_false]at hs
   omega
  refine a4_ (fun n t H=>∃(k hh:Nat) (b:ay_),t 5=.ptr 0 1 0 0∧t 6=.val (.int .i64 (20+(r:Int)))∧t 7=.val (.int .i64 s)∧t 8=.val (.int .i64 k)∧n=20+r-k∧k≤20+r∧1≤H.length∧H[0]?=some ⟨.ty 28,2,[[.val (.int .i64 b.Root),.list 0 5 (b.Slots.map ad_.cells)]]⟩∧HN s k hh b) (20+r) ?_ ?_
  ·exact⟨0,0,bt1,rfl,rfl,rfl,rfl,rfl,Nat.zero_le _,by simp,rfl,sS_ s⟩
  ·rintro J hJ n t H ⟨k,hh,b,t5,t6,t7,t8,rfl,hk,hlen,o0,HB⟩
   by_cases hlt:k<20+r
   ·have hlt':((k:Int)<20+(r:Int))=True:=eq_true (by omega)
    have hm:((k * s:Nat):Int)=(k:Int) * (s:Int):=by push_cast;rfl
    have hb1:k * s≤79 * 97:=Nat.mul_le_mul (by omega) hs97
    simp(disch:=first|omega|simp only[lzz0_];first|done|omega)only[go_sem,reduceEqDiff,Nat.reduceAdd,↓reduceIte,t5,t6,t7,t8,o0,hlt',←hm,aA_]
    have hmod:((k * s:Nat):Int) % 101=((fV_ s k:Nat):Int):=rfl
    rw[hmod]
    obtain⟨b',h',HB',hput⟩:=HB.put hs (by omega) (value:=txt [118]) (by rw[bb_];decide)
    refine PureCall.call (m3_ (fV_ s k) (gy_ s k) _) ?_
    simp(disch:=first|omega|simp only[lzz0_];first|done|omega)only[ac_,go_sem,reduceEqDiff,Nat.reduceAdd,↓reduceIte,t5,o0]
    refine PureCall.call (AW.frozen (n:=2) (fun h=>pI_ (fV_ s k) (gy_ s k) h) (gJ_ rfl (fC_ (gk_ (n:=0) (r:=⟨.ty 9,1,[[.val (.string (txt (a3_ (((fV_ s k:Nat):Int) * 1000000))))]]⟩) (by rw[getElem?_append_right (Nat.le_refl _),Nat.sub_self];rfl) rfl (by simp[AV.flat]))))) ?_
    have hpp:=fun H=>ul_ hs HB hput H
    unfold ay_.cells at hpp
    simp(disch:=first|omega|simp only[lzz0_];first|done|omega)only[ac_,go_sem,reduceEqDiff,Nat.reduceAdd,↓reduceIte,t5,o0]
    refine PureCall.call (hpp _) ?_
    simp(disch:=first|omega|simp only[lzz0_];first|done|omega)only[ac_,a1_,go_sem,reduceEqDiff,Nat.reduceAdd,↓reduceIte,t5,t8,o0,aA_]
    exact⟨20+r-(k+1),by omega,hJ _ _ _ ⟨k+1,h',b',by simp[upd,t5],by simp[upd,t6],by simp[upd,t7],by simp[upd],rfl,by omega,by simp only[ls_,la_,lc_,ln_];omega,getElem?_set_self (by simp only[la_,lc_,ln_];omega),HB'⟩⟩
   ·have hlt':((k:Int)<20+(r:Int))=False:=eq_false (by omega)
    have hkk:k=20+r:=by omega
    subst hkk
    have hl5:(b5_ (aa_ b.Slots) hh b.Root).length=20+r:=by
     have:=HB.count hs (by omega)
     rw[←kG_ HB.fit.tree,length_map]at this
     exact this
    have hrec:=fun h=>g0_ b hh _ HB.fit HB.whole HB.sizes (by omega) h
    have haft:=fun key h=>me_ b key hh _ HB.fit HB.whole HB.sizes (by omega) h
    have hdep:=fun h=>mW_ b hh _ HB.fit HB.whole HB.sizes h
    have hbo:=fun h=>ml_ b (ja_ HB.fit).1 (ja_ HB.fit).2 HB.sizes h
    rw[iX_ HB.fit HB.whole]at hbo
    obtain⟨hsm1,hsm2⟩:=HB.small hs (by omega)
    have hsrt:Srt ((b5_ (aa_ b.Slots) hh b.Root).map aN_.Key):=by
     rw[kG_ HB.fit.tree]
     exact(lw_ HB.fit.tree).1
    unfold ay_.cells at hrec haft hdep hbo
    simp(disch:=first|omega|simp only[lzz0_];first|done|omega)only[go_sem,reduceEqDiff,Nat.reduceAdd,↓reduceIte,t5,t6,t8,o0,hlt']
    refine PureCall.call (hrec _) ?_
    generalize b5_ (aa_ b.Slots) hh b.Root=l at *
    simp(disch:=first|omega|simp only[lzz0_];first|done|omega)only[go_sem,↓reduceIte]
    refine a4_ (fun n t H'=>∃j:Nat,t 5=.ptr 0 1 0 0∧t 6=.val (.int .i64 (20+(r:Int)))∧t 12=.list 0 2 (l.map aN_.cells)∧t 13=.val (.int .i64 j)∧n=l.length-j∧j≤l.length∧1≤H'.length∧H'[0]?=some ⟨.ty 28,2,[[.val (.int .i64 b.Root),.list 0 5 (b.Slots.map ad_.cells)]]⟩) l.length ?_ ?_
    ·exact⟨0,by simp[upd,t5],by simp[upd,t6],by simp[upd],by simp[upd],rfl,Nat.zero_le _,hlen,o0⟩
    ·rintro J2 hJ2 n t H' ⟨j,t5,t6,t12,t13,rfl,hj,hlen2,o0⟩
     by_cases hjl:j<l.length
     ·have hjl':((j:Int)<(l.length:Int))=True:=eq_true (by omega)
      have ha:=haft l[j].Key
      rw[rT_ hsrt hjl]at ha
      by_cases hj1:j+1<l.length
      ·rw[dif_pos hj1]at ha
       have hj1':((j:Int)+1<(l.length:Int))=True:=eq_true (by omega)
       have hix:∀h,l[((j:Int)+1).toNat]'h=l[j+1]:=fun h=>getElem_congr_idx (by omega)
       simp(disch:=first|omega|simp only[lzz0_];first|done|omega)only[go_sem,reduceEqDiff,Nat.reduceAdd,↓reduceIte,t5,t12,t13,o0,hjl',aN_.cells]
       refine PureCall.call (ha _) ?_
       simp(disch:=first|omega|simp only[lzz0_];first|done|omega)only[ac_,ar_,go_sem,reduceEqDiff,Nat.reduceAdd,↓reduceIte,t5,t12,t13,o0,hj1',hix,aN_.cells,Option.map_some,aA_]
       exact⟨l.length-(j+1),by omega,hJ2 _ _ _ ⟨j+1,by simp[upd,t5],by simp[upd,t6],by simp[upd,t12],by simp[upd],rfl,by omega,by simp only[la_,lc_,ln_];omega,(ac_ (by omega)).trans o0⟩⟩
      ·rw[dif_neg hj1]at ha
       have hj1':((j:Int)+1<(l.length:Int))=False:=eq_false (by omega)
       simp(disch:=first|omega|simp only[lzz0_];first|done|omega)only[go_sem,reduceEqDiff,Nat.reduceAdd,↓reduceIte,t5,t12,t13,o0,hjl',aN_.cells]
       refine PureCall.call (ha _) ?_
       simp(disch:=first|omega|simp only[lzz0_];first|done|omega)only[ac_,ar_,go_sem,reduceEqDiff,Nat.reduceAdd,↓reduceIte,t5,t12,t13,o0,hj1',aN_.cells,Option.map_some,aA_]
       exact⟨l.length-(j+1),by omega,hJ2 _ _ _ ⟨j+1,by simp[upd,t5],by simp[upd,t6],by simp[upd,t12],by simp[upd],rfl,by omega,by simp only[la_,lc_,ln_];omega,(ac_ (by omega)).trans o0⟩⟩
     ·have hjl':((j:Int)<(l.length:Int))=False:=eq_false (by omega)
      simp(disch:=first|omega|simp only[lzz0_];first|done|omega)only[go_sem,reduceEqDiff,Nat.reduceAdd,↓reduceIte,t5,t12,t13,o0,hjl']
      refine PureCall.call (hbo _) ?_
      have hlq:(l.length:Int)=20+(r:Int):=by omega
      have hq0:(0:Int)≤20+(r:Int):=by omega
      have hq1:((b.Slots.length:Int)≤(20+(r:Int)) / 2+1)=True:=eq_true (by omega)
      have hq2:((hh:Int)+1≤4)=True:=eq_true (by omega)
      simp(disch:=first|omega|simp only[lzz0_];first|done|omega)only[go_sem,reduceEqDiff,Nat.reduceAdd,↓reduceIte,t5,t6,t12,o0,hlq,hq1,aA_]
      refine PureCall.call (hdep _) ?_
      simp(disch:=first|omega|simp only[lzz0_];first|done|omega)only[go_sem,reduceEqDiff,↓reduceIte,hq2]
      exact am_ _ _
end Go.Proofs.YtlcmlgihlojdmaaGreatDoor
