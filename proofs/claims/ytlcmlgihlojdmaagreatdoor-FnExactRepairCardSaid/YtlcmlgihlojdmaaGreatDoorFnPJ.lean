/-
 Contracts of functions. Conditions: as each theorem says.
-/
import Derived.Test.YtlcmlgihlojdmaaGreatDoorShelfF
import Derived.Test.YtlcmlgihlojdmaaGreatDoorAwSortI
import Derived.Test.YtlcmlgihlojdmaaGreatDoorBase
import Derived.Test.YtlcmlgihlojdmaaGreatDoorFnBW
import Derived.Test.YtlcmlgihlojdmaaGreatDoorFnPB
import Derived.Test.YtlcmlgihlojdmaaGreatDoorFnPG
import Derived.Test.YtlcmlgihlojdmaaGreatDoorPlKey
import Derived.StillTailTactics
import Derived.WalkKit
import Derived.WalkSmall
import Derived.Sort.Grow
namespace Go.Proofs.YtlcmlgihlojdmaaGreatDoor
open Go.AW
open Go.Shelf Go.RowKit Go.Lib
set_option linter.unusedVariables false
set_option linter.unusedSimpArgs false
set_option linter.unnecessarySimpa false
open List
set_option maxRecDepth 4000
section
open Go.Sort
set_option maxHeartbeats 4000000
set_option maxRecDepth 100000
theorem zA_(x:Int)(w:World):Calls Tryz.prog 138 #[.int .i64 x] w fun e w'=>e=.returned (.bool false)∧w'=w:=by
 go_enter Tryz.func138,Tryz.ntmps138
 go_wp2
 go_ret
 exact⟨by simp,rfl⟩
theorem uB_(x y:Int)(w:World):Calls Tryz.prog 84 #[.int .i64 x,.int .i64 y] w fun e w'=>e=.returned (.int .i64 (Lib.compareInt x y))∧w'=w:=by
 go_enter Tryz.func84,Tryz.ntmps84
 go_wp2_with (go_at_call 138;refine(zA_ _ _).mono ?_;rintro e w' ⟨rfl,hw⟩;rw[hw])
 all_goals(go_ret;refine⟨?_,rfl⟩;unfold Lib.compareInt;(repeat' split)<;>first|rfl|(exfalso;omega))
theorem Dm_(x y:Int)(a b c d a' b' c' d':Value)(W:World):Calls Tryz.prog 83 #[.agg #[.int .i64 x,a,b,c,d],.agg #[.int .i64 y,a',b',c',d']] W fun e w'=>e=.returned (.int .i64 (Lib.compareInt x y))∧∃q os',w'=grow (W.drewN q) os':=by
 have hc:=fun(w:World)=>uB_ x y w
 generalize Lib.compareInt x y=A at hc⊢
 go_enter Tryz.func83,Tryz.ntmps83
 go_wp2_with (go_at_call 84;refine(hc _).mono ?_;rintro e w' ⟨rfl,rfl⟩)
 go_ret
 refine⟨rfl,0,#[.cells #[.int .i64 x,a,b,c,d] 79,.cells #[.int .i64 y,a',b',c',d'] 79],?_⟩
 rfl
end
theorem ltI(x y:Int):ltOf Lib.compareInt x y=decide (x<y):=by
 rw[Bool.eq_iff_iff,decide_eq_true_iff]
 unfold ltOf Lib.compareInt
 by_cases h1:x<y
 ·simp[h1]
 ·by_cases h2:y<x
  ·simp[h1,h2]
  ·simp[h1,h2]
theorem DT_:Go.Sort.SWO (ltOf Lib.compareInt) where
 irrefl x:=by rw[ltI,decide_eq_false_iff_not];omega
 trans x y z h1 h2:=by rw[ltI,decide_eq_true_iff]at *;omega
 ntrans x y z h1 h2:=by rw[ltI,decide_eq_false_iff_not]at *;omega
theorem Aj_{V:List Value}(h:V.length=5){x:Value}(hx:∃r,V=x::r):∃a b c d,V=[x,a,b,c,d]:=by
 obtain⟨r,rfl⟩:=hx
 match r,h with
 | [a,b,c,d],_=>exact⟨a,b,c,d,rfl⟩
theorem t0_(V:Int→List Value)(hV:∀x,(V x).length=5)(h1:∀x,∀v∈V x,v.oneCell'=true)(hh:∀x,∃r,V x=.int .i64 x::r)(blk off cap:Nat)(ids:List Int)(w:World)(hH:Go.Sort.HoldsK V 5 w blk off ids.toArray)(hblk:blk<w.heap.size)(hsz:ids.length<4611686018427387904) :
 Calls Tryz.prog 82 #[.slice (some ⟨blk,off,none⟩) ids.length cap,.func (.func 83) #[] #[]] w fun e w'=>e=.returned (.tuple #[])∧∃n os,w'=Go.Sort.grow (Go.Sort.putRowK V 5 (Go.Sort.ahead w n) blk off (ids.mergeSort leI).toArray) os:=by
 have eg:∀args w,(callFunc 83 args).run Tryz.prog w=.ok (.enter 83 args) w:=enters_of Tryz.func83 (by kernel_rfl) rfl
 have h:=AnyQ.slices_SortFunc_total Tryz.sortF 5 Tryz.isAgg79 Tryz.sizeOf79 V hV h1 Lib.compareInt DT_ 83 #[] blk off cap ids.toArray w eg (fun _ _ _ _ x y=>by
  obtain⟨a,b,c,d,e1⟩:=Aj_ (hV x) (hh x)
  obtain⟨a',b',c',d',e2⟩:=Aj_ (hV y) (hh y)
  rw[e1,e2]
  exact Dm_ x y a b c d a' b' c' d' _) hH hblk (by simpa using hsz)
  (fun x y h1 h2=>by
    rw[ltI,decide_eq_false_iff_not]at h1 h2
    omega)
 have e:(fun x y:Int=>!(ltOf Lib.compareInt) y x)=leI:=by
  funext x y
  rw[ltI,leI,Bool.eq_iff_iff]
  simp
 rw[e]at h
 refine Calls.mono (show Calls Tryz.prog 82 #[.slice (some ⟨blk,off,none⟩) ids.length cap,.func (.func 83) #[] #[]] w _ from h) ?_
 rintro e w' ⟨he,n,os,hw⟩
 exact⟨he,n,os,hw⟩
theorem gy_{ids:List Int}{F:Int→List AV}(hF:∀i∈ids,(∃r,F i=.val (.int .i64 i)::r)∧(F i).length=5∧(F i).all AV.cell=true)(hnd:ids.Nodup){l:Nat}{H:List Row}(hl:H[l]?=some ⟨.ty 79,5,ids.map F⟩)(hlen:ids.length≤4000000){K:AV→List Row→Prop}(hk:K (.tup []) (H.set l ⟨.ty 79,5,(ids.mergeSort leI).map F⟩)) :
 callSem Tryz.prog 82 [.own l ids.length,.fn 83 [] []] H K :=
 wV_ (by omega) (fun V h1 h2 h3 blk off cap ids w h4 h5 h6=>t0_ V h1 h2 h3 blk off cap ids w h4 h5 h6) (fun p cap w=>AnyF.slices_SortFunc_none Tryz.sortF p cap _ w) hF hnd hl (by omega) hk
theorem fZ_{α β:Type}{f:α→β}:∀{l:List α},(l.map f).Nodup→∀{a b:α},a∈l→b∈l→f a=f b→a=b
 | [],_,a,b,ha,_,_=>by cases ha
 | x::l,hn,a,b,ha,hb,e=>by
  rw[map_cons,nodup_cons]at hn
  rcases mem_cons.1 ha with q|q
  ·rcases mem_cons.1 hb with q2|q2
   ·rw[q,q2]
   ·exact absurd (mem_map.2 ⟨b,q2,by rw[←e,q]⟩) hn.1
  ·rcases mem_cons.1 hb with q2|q2
   ·exact absurd (mem_map.2 ⟨a,q,by rw[e,q2]⟩) hn.1
   ·exact fZ_ hn.2 q q2 e
theorem t2_{ents:List (Int×Nat×AV)}(hn:(ents.map (·.2.1)).Nodup){e:Int×Nat×AV}(he:e∈ents):ents.find? (fun q=>q.2.1==e.2.1)=some e:=by
 cases h:ents.find? (fun q=>q.2.1==e.2.1)with
 | none =>
  have:=find?_eq_none.1 h e he
  simp at this
 | some q =>
  have h1:=mem_of_find?_eq_some h
  have h2:=find?_some h
  rw[fZ_ hn h1 he (by simpa using h2)]
theorem le_.page{ents:List (Int×Nat×AV)}{ck:Nat}{B:List PB}(h:le_ ents ck B){e:Int×Nat×AV}(he:e∈ents):∃x∈B,e.1=x.id∧e.2.2=.ptr x.b 1 0 0:=by
 have:(e.1,e.2.2)∈ents.map (fun e=>(e.1,e.2.2)):=mem_map.2 ⟨e,he,rfl⟩
 rw[h.same]at this
 obtain⟨x,hx,q⟩:=mem_map.1 this
 exact⟨x,hx,(Prod.mk.inj q).1.symm,(Prod.mk.inj q).2.symm⟩
theorem le_.ids{ents:List (Int×Nat×AV)}{ck:Nat}{B:List PB}(h:le_ ents ck B):ents.map (·.1)=B.map PB.id:=by
 have:=congrArg (List.map Prod.fst) h.same
 simpa[map_map,Function.comp_def]using this
def fx_(z:PB×Nat×Nat×Nat):Tr :=
 ⟨[.val (.int .i64 z.1.id),.val (.bool z.1.pg.Leaf),.sub z.2.1 z.1.pg.Keys.length 0 z.1.pg.Keys.length,.sub z.2.2.1 z.1.pg.Vals.length 0 z.1.pg.Vals.length,.sub z.2.2.2 z.1.pg.Kids.length 0 z.1.pg.Kids.length],aa_.cells z.1.slot,[z.2.1,z.2.2.1,z.2.2.2]⟩
theorem nf_{H:List Row}{n:Nat}:∀us:List Value,aZ_ (Own H (n+1)) (us.map fun u=>[AV.val u]) (us.map fun u=>[AV.val u]) []
 | []=>⟨rfl,rfl⟩
 | u::us=>⟨[.val u],us.map fun u=>[AV.val u],[],[],rfl,rfl,⟨.val u,[],[],[],rfl,rfl,⟨rfl,.inl rfl⟩,rfl,rfl⟩,nf_ us⟩
theorem kl_{H:List Row}{n l:Nat}{E:TypeId}{us:List Value}(hl:H[l]?=some ⟨.ty E,1,us.map fun u=>[AV.val u]⟩):Own H (n+2) (.sub l us.length 0 us.length) (.list 0 1 (us.map fun u=>[AV.val u])) [l] :=
 ⟨_,us.map fun u=>[AV.val u],[],hl,by simp,nf_ us,by rw[take_of_length_le (by simp),drop_zero],rfl⟩
theorem lV_{H:List Row}{n l:Nat}{E:TypeId}{xs:List ByteArray}(hl:H[l]?=some ⟨.ty E,1,xs.map ah_⟩):Own H (n+2) (.sub l xs.length 0 xs.length) (.list 0 1 (xs.map ah_)) [l]:=by
 have e:xs.map ah_=(xs.map Value.string).map (fun u=>[AV.val u]):=by rw[map_map];rfl
 rw[e]at hl⊢
 have:=kl_ (n:=n) hl
 rwa [length_map]at this
theorem we_{H:List Row}{n l:Nat}{E:TypeId}{xs:List Int}(hl:H[l]?=some ⟨.ty E,1,xs.map aB_⟩):Own H (n+2) (.sub l xs.length 0 xs.length) (.list 0 1 (xs.map aB_)) [l]:=by
 have e:xs.map aB_=(xs.map (Value.int .i64)).map (fun u=>[AV.val u]):=by rw[map_map];rfl
 rw[e]at hl⊢
 have:=kl_ (n:=n) hl
 rwa [length_map]at this
theorem wF_{H:List Row}{x:PB}{k v d:Nat}(h1:H[k]?=some ⟨.ty 9,1,x.pg.Keys.map ah_⟩)(h2:H[v]?=some ⟨.ty 9,1,x.pg.Vals.map ah_⟩)(h3:H[d]?=some ⟨.ty 2,1,x.pg.Kids.map aB_⟩):aH_ (Own H 2) (fx_ (x,k,v,d)).c (fx_ (x,k,v,d)).d (fx_ (x,k,v,d)).f :=
 ⟨_,_,[],[k,v,d],rfl,rfl,⟨rfl,.inl rfl⟩,_,_,[],[k,v,d],rfl,rfl,⟨rfl,.inl rfl⟩,_,_,[k],[v,d],rfl,rfl,lV_ h1,_,_,[v],[d],rfl,rfl,lV_ h2,_,_,[d],[],rfl,rfl,we_ h3,rfl,rfl⟩
def VI(H h:List Row)(ents:List (Int×Nat×AV))(B:List PB)(l:Nat)(seen:List Nat)(vis:List (PB×Nat×Nat×Nat)):Prop :=
 ci_ l h 79 5 l vis.length (vis.map fx_)∧(∀z∈vis,z.1∈B)∧(vis.map (fun z=>z.1.id)).Nodup∧∀e∈ents,(e.2.1∈seen↔e.1∈vis.map fun z=>z.1.id)
theorem ci_.low{lo lo' E sz l m:Nat}{H:List Row}{ts:List Tr}(s:ci_ lo H E sz l m ts)(h:lo'≤lo):ci_ lo' H E sz l m ts:=⟨s.row,s.le,s.wide,s.tree,s.one,fun x hx=>⟨Nat.le_trans h (s.lows x hx).1,(s.lows x hx).2⟩⟩
def pV_(vis:List (PB×Nat×Nat×Nat))(i:Int):Option (PB×Nat×Nat×Nat):=vis.find? fun z=>z.1.id==i
theorem uk_{vis:List (PB×Nat×Nat×Nat)}(hn:(vis.map (fun z=>z.1.id)).Nodup){z:PB×Nat×Nat×Nat}(hz:z∈vis):pV_ vis z.1.id=some z:=by
 unfold pV_
 cases h:vis.find? (fun q=>q.1.id==z.1.id)with
 | none =>
  have:=find?_eq_none.1 h z hz
  simp at this
 | some q =>
  have h1:=mem_of_find?_eq_some h
  have h2:=find?_some h
  rw[fZ_ (f:=fun z:PB×Nat×Nat×Nat=>z.1.id) hn h1 hz (by simpa using h2)]
def re_(vis:List (PB×Nat×Nat×Nat))(i:Int):Tr:=match pV_ vis i with|some z=>fx_ z|none=>⟨[],[],[]⟩
def lf_(vis:List (PB×Nat×Nat×Nat))(i:Int):ai_:=match pV_ vis i with|some z=>z.1.pg|none=>⟨false,[],[],[]⟩
theorem gJ_{vis:List (PB×Nat×Nat×Nat)}(hn:(vis.map (fun z=>z.1.id)).Nodup){z:PB×Nat×Nat×Nat}(hz:z∈vis):re_ vis z.1.id=fx_ z∧lf_ vis z.1.id=z.1.pg:=by
 unfold re_ lf_;rw[uk_ hn hz];exact⟨rfl,rfl⟩
theorem vJ_{B:List PB}{sl:List aa_}{ents:List (Int×Nat×AV)}{ck l:Nat}{h:List Row}{seen:List Nat}{vis:List (PB×Nat×Nat×Nat)}(ok:cO_ sl)(hsame:∀id,ag_ (B.map PB.slot) id=ag_ sl id)(hbox:∀x∈B,ag_ sl x.id=some x.pg)(hids:(B.map PB.id).Nodup)(hents:le_ ents ck B)(hall:∀e∈ents,e.2.1∈seen)(sA:ci_ l h 79 5 l vis.length (vis.map fx_))(hvB:∀z∈vis,z.1∈B)(hvn:(vis.map (fun z=>z.1.id)).Nodup)(hvs:∀e∈ents,(e.2.1∈seen↔e.1∈vis.map fun z=>z.1.id))(K:AV→List Row→Prop)
 (hK:∀H' ts,(∀x,x<l→H'[x]?=h[x]?)→ci_ l H' 79 5 l sl.length ts→ts.length=sl.length→ts.map Tr.d=sl.map aa_.cells→vis.length=sl.length→K (.tup []) H') :
 callSem Tryz.prog 82 [.own l vis.length,.fn 83 [] []] h K:=by
 have e1:vis.map fx_=(vis.map (fun z=>z.1.id)).map (re_ vis):=by
  rw[map_map]
  exact map_congr_left fun z hz=>(gJ_ hvn hz).1.symm
 have hperm:((vis.map (fun z=>z.1.id)).mergeSort leI).Perm (vis.map (fun z=>z.1.id)):=mergeSort_perm _ _
 have hrise:dD_ (((vis.map (fun z=>z.1.id)).mergeSort leI).map fun i=>(⟨i,lf_ vis i⟩:aa_)):=by
  have h1:((vis.map (fun z=>z.1.id)).mergeSort leI).Pairwise (fun a b=>leI a b=true):=pairwise_mergeSort (le:=leI) (fun a b c=>by simp only[leI,decide_eq_true_iff];omega) (fun a b=>by simp only[leI,Bool.or_eq_true,decide_eq_true_iff];omega) _
  have h2:((vis.map (fun z=>z.1.id)).mergeSort leI).Nodup:=hperm.nodup_iff.2 hvn
  refine pairwise_map.2 ((h1.and h2).imp ?_)
  rintro a b ⟨q1,q2⟩
  simp only[leI,decide_eq_true_iff]at q1
  show a<b
  omega
 have hsl:((vis.map (fun z=>z.1.id)).mergeSort leI).map (fun i=>(⟨i,lf_ vis i⟩:aa_))=sl:=by
  refine rk_ hrise ok.rise fun id=>Option.ext fun p=>⟨fun hp=>?_,fun hp=>?_⟩
  ·obtain⟨i,hi,e⟩:=mem_map.1 (gN_ hp)
   obtain⟨z,hz,rfl⟩:=mem_map.1 (hperm.mem_iff.1 hi)
   have e2:=congrArg aa_.Id e
   have e3:=congrArg aa_.Page e
   simp only at e2 e3
   rw[(gJ_ hvn hz).2]at e3
   rw[←e2,←e3]
   exact hbox _ (hvB z hz)
  ·have hp2:=hp
   rw[←hsame]at hp2
   obtain⟨x,hx,e⟩:=mem_map.1 (gN_ hp2)
   have e2:x.id=id:=congrArg aa_.Id e
   have e3:x.pg=p:=congrArg aa_.Page e
   have hxi:x.id∈ents.map (·.1):=by rw[hents.ids];exact mem_map_of_mem hx
   obtain⟨q,hq,e4⟩:=mem_map.1 hxi
   have h5:=(hvs q hq).1 (hall q hq)
   rw[e4]at h5
   obtain⟨z,hz,e6⟩:=mem_map.1 h5
   have e7:z.1=x:=fZ_ hids (hvB z hz) hx e6
   have h8:(⟨z.1.id,lf_ vis z.1.id⟩:aa_)∈((vis.map (fun z=>z.1.id)).mergeSort leI).map fun i=>(⟨i,lf_ vis i⟩:aa_):=mem_map.2 ⟨z.1.id,hperm.mem_iff.2 (mem_map.2 ⟨z,hz,rfl⟩),rfl⟩
   have h9:=n7_ hrise h8
   rw[(gJ_ hvn hz).2,e7,e2,e3]at h9
   exact h9
 have hlen:vis.length=sl.length:=by
  have:=congrArg List.length hsl
  simpa using this
 have hrow:=sA.row
 have hl:=sA.lt
 rw[e1,map_map]at hrow
 have hm:=gy_ (ids:=vis.map fun z:PB×Nat×Nat×Nat=>z.1.id) (F:=fun i=>(re_ vis i).c) (l:=l) (H:=h) (K:=K) (fun i hi=>by
  obtain⟨z,hz,rfl⟩:=mem_map.1 hi
  simp only[(gJ_ hvn hz).1]
  exact⟨⟨_,rfl⟩,rfl,rfl⟩) hvn hrow (by simp only[length_map];have:=ok.len;omega)
 rw[length_map]at hm
 refine hm (hK _ (((vis.map (fun z=>z.1.id)).mergeSort leI).map (re_ vis)) (fun x hx=>getElem?_set_ne (by omega)) ?_ (by simp[hlen]) ?_ hlen)
 ·refine ci_.renew (new:=[]) (old:=vis.map fx_) sA (by rw[getElem?_set_self hl,map_map];rfl) (by simp[hlen]) (by rw[nil_append,e1];exact hperm.map _) (List.Sublist.refl _) (fun t ht=>(by cases ht)) ⟨0,fun t ht=>(by cases ht)⟩ (by simp) (fun x hx=>(by cases hx)) (fun x hx=>?_) (.inl rfl) (by simp)
  refine getElem?_set_ne (fun e=>?_)
  subst e
  exact(nodup_cons.1 sA.one).1 hx
 ·rw[map_map]
  conv=>rhs;rw[←hsl]
  rw[map_map]
  refine map_congr_left fun i hi=>?_
  obtain⟨z,hz,rfl⟩:=mem_map.1 (hperm.mem_iff.1 hi)
  simp only[Function.comp,(gJ_ hvn hz).1,(gJ_ hvn hz).2]
  rfl
def c40:LC :=
 .q [.o [.s 2 (.alloc 28 z0z)],.o [.m 6 0,.nc 7 6,.fa 8 0 7,.ln 9 8,.s 10 (.build z0z [(0,1),(1,1)] [(0,.tmp 9)]),.s 3 (.alloc 28 z0z),.st 2 3 10],.q [.o [.m 11 0,.nc 12 11,.fa 13 1 12,.ln 14 13,.s 15
 (.ext (.rng (.tmp 14)))],.block 0 (.ghost (.loop (.q [.o [.s 16 (.ext (.nxt (.tmp 15))),.ex 17 16 0],.k 17 .skip (.exit 0),.block 1 (.q [.o [.s 18 (.ext (.ent (.tmp 15))),.ex 19 18 0,.ex 20 18 1,.m 4 19,.m 5 20],
 .gops [.fa 21 1 3,.ln 22 21,.m 23 4,.m 24 5,.nc 25 24,.ld 26 4 25] [(.c1 27 79 26,[.fa 21 1 3,.ln 22 21,.m 23 4]),(.s 28 (.build z2z [(0,1),(1,4)] [(0,.tmp 23),(1,.tmp 27)]),[.fa 21 1 3,.ln 22 21]),(.s
 29 (.buildSlice 79 5 z2z 1 [(0,.tmp 28)]),[.fa 21 1 3,.ln 22 21]),(.ap 30 79 5 88 22 29,[]),(.fa 31 1 3,[]),(.st 1 31 30,[])]])])))],.o [.fa 32 1 3,.ln 33 32,.s 34 (.call 82 [.tmp 33,.func 83])],.o [.ld 35
 2 3,.st 2 2 35],.ret]
def Ay_:LF:=⟨1,36,c40,[.cell 2 (some 2)]⟩
theorem CT_:az_ Tryz.prog Tryz.f40 Ay_:=gM_
theorem pv_{T M:Nat}{root:Int}{lo mx:Nat}{sl:List aa_}{H:List Row}{B:List PB}(ok:cO_ sl)(g:PgS H T M root B lo mx sl)(K:AV→List Row→Prop)
 (hK:∀H' l ts,bb_ H H'→ci_ H.length H' 79 5 l sl.length ts→ts.length=sl.length→ts.map Tr.d=sl.map aa_.cells→K (.agg [.val (.int .i64 root),.own l sl.length]) H') :
 callSem Tryz.prog 40 [.ptr T 1 0 0] H K:=by
 obtain⟨ents,ck,g0⟩:=g.pg
 have gT:=g0.box
 have gM:=g0.map
 have hT:=(g0.lows T (by simp)).2
 have hMl:=(g0.lows M (by simp)).2
 refine aJ_ mixed Tryz.func40 CT_ (bi_ rfl ?_)
 simp(disch:=first|omega|simp only[lzz0_];first|done|omega)only[ab_,aX_,go_sem,seval,Ay_,c40,gT,gM,bT_,Option.map_some]
 refine kt_ _ (fun t=>qT_ (L:=H.length+1) [.val (.int .i64 root)] [] 79 5 (by first|exact aX_ rfl|((simp(disch:=(first|omega|(simp only[ls_,la_,lc_,ln_];omega)))only[am_,aq_,ab_,as_,aX_,bO_,cu_]))|(simp;done))) ?_
 have hB64:B.length≤64:=by
  have:=dM_ (a:=B.map PB.id) (b:=sl.map aa_.Id) g0.ids (fun i hi=>by
   obtain⟨x,hx,rfl⟩:=mem_map.1 hi
   exact mem_map.2 ⟨_,gN_ (g.box hx),rfl⟩)
  have h2:=ok.len
  simp only[length_map]at this
  omega
 refine aL_ (fun n t h=>∃(seen:List Nat) (vis:List (PB×Nat×Nat×Nat)),t 0=.ptr T 1 0 0∧t 2=.ptr H.length 1 0 0∧t 3=.ptr (H.length+1) 1 0 0∧t 15=.ptr (H.length+2) 0 0 0∧bb_ H h∧h[H.length]?=some ⟨.ty 28,2,[[.val (.int .i64 0),.val (.slice none 0 0)]]⟩∧h[H.length+1]?=some ⟨.ty 28,2,[[.val (.int .i64 root),.own (H.length+3) vis.length]]⟩∧h[H.length+2]?=some ⟨.iter M ck seen ck,0,[]⟩∧VI H h ents B (H.length+3) seen vis∧n=B.length-vis.length) B.length ?_ ?_
 ·have el:(H++[(⟨.ty 28,2,[[.val (.int .i64 0),.val (.slice none 0 0)]]⟩:Row),⟨.ty 28,2,[[.val (.int .i64 root),.val (.slice none 0 0)]]⟩,⟨.iter M ck [] ck,0,[]⟩]).length=H.length+3:=by simp
  rw[el]
  have e3:∀r:Row,(((H++[(⟨.ty 28,2,[[.val (.int .i64 0),.val (.slice none 0 0)]]⟩:Row),⟨.ty 28,2,[[.val (.int .i64 root),.val (.slice none 0 0)]]⟩,⟨.iter M ck [] ck,0,[]⟩]).set (H.length+1) r)++[(⟨.ty 79,5,[]⟩:Row)])[H.length+3]?=some ⟨.ty 79,5,[]⟩:=fun r=>by
   rw[getElem?_append_right (by simp)];simp
  refine⟨[],[],rfl,rfl,rfl,rfl,⟨by simp,fun l hl=>?_⟩,?_,?_,?_,⟨⟨e3 _,Nat.le_refl _,fun t ht=>(by cases ht),⟨0,fun t ht=>(by cases ht)⟩,(by simp[foot]),fun x hx=>?_⟩,fun z hz=>(by cases hz),nodup_nil,fun e he=>by simp⟩,rfl⟩
  ·rw[ab_ (by simp;omega),am_ (by omega),ab_ hl]
  ·rw[ab_ (by simp),am_ (by omega),as_ rfl]
  ·rw[ab_ (by simp),aq_ (by simp)];rfl
  ·rw[ab_ (by simp),am_ (by omega),bO_ rfl]
  simp only[foot,map_nil,flatten_nil,mem_singleton]at hx
  subst hx
  simp
 ·rintro J hJ n t h ⟨seen,vis,t0,t2,t3,t15,hmo,o0,o1,o2,⟨sA,hvB,hvn,hvs⟩,rfl⟩
  have g1:=g.more hmo
  have hM:=hmo.at gM
  have o3:=sA.row
  have hlen:=hmo.len
  have hl3:=sA.lt
  have q1:∀e∈ents,e.2.1<ck:=g0.ents.old
  simp(disch:=first|omega|simp only[lzz0_];first|done|omega)only[am_,aq_,go_sem,seval,t3,t15,o1,o2,hM,getLast?_append,getLast?_singleton,Option.some_or]
  refine⟨q1,fun hall=>?_,fun e he hns=>?_⟩
  ·refine vJ_ ok g.same (fun x hx=>g.box hx) g0.ids g0.ents hall sA hvB hvn hvs _ ?_
   intro H' ts r1 r2 r3 r4 r5
   have b0:=(r1 H.length (by omega)).trans o0
   have b1:=(r1 (H.length+1) (by omega)).trans o1
   rw[r5]at b1
   have hl5:=r2.lt
   simp(disch:=first|omega|simp only[lzz0_];first|done|omega)only[aq_,go_sem,seval,t2,t3,b0,b1]
   refine hK _ _ ts ⟨by rw[ls_];omega,fun x hx=>?_⟩ (ci_.low (r2.keep (fun x hx=>am_ (by have:=(r2.lows x hx).1;omega)) (by rw[ls_];exact Nat.le_refl _)) (by omega)) r3 r4
   rw[am_ (by omega),r1 x (by omega)]
   exact hmo.kept x hx
  ·obtain⟨x,hx,ei,ep⟩:=g0.ents.page he
   have hf:=t2_ g0.ents.born he
   obtain⟨ents1,ck1,g2⟩:=g1.pg
   obtain⟨a1,a2,a3,op,p1,p2,p3⟩:=g2.pgs x hx
   have lb:∀y∈x.foot,y<H.length:=fun y hy=>(g0.lows y (Pg.mem_foot hx hy)).2
   have lb0:=lb x.b (by simp[PB.foot])
   have lb1:=lb x.k (by simp[PB.foot])
   have lb2:=lb x.v (by simp[PB.foot])
   have lb3:=lb x.d (by simp[PB.foot])
   obtain⟨z1,z2,z3⟩:=(ok.pgs _ _ (g.box hx)).2.2.smallP
   rw[ei,ep]
   simp(disch:=first|omega|simp only[lzz0_];first|done|omega)only[am_,go_sem,seval,hf,ei,ep,op]
   refine mt_ x.pg z1 z2 z3 _ _ (p1.keep (am_ (by omega))) (p2.keep (am_ (by omega))) (p3.keep (am_ (by omega))) ?_
   intro H2 k v d m2 k1 k2 k3 k4 r1 r2 r3
   rw[ls_]at k1
   have hl2:=m2.len
   rw[ls_]at hl2
   have w0:=(m2.kept H.length (by rw[ls_];omega)).trans ((am_ (by omega)).trans o0)
   have w1:=(m2.kept (H.length+1) (by rw[ls_];omega)).trans ((am_ (by omega)).trans o1)
   have w2:=(m2.kept (H.length+2) (by rw[ls_];omega)).trans (aq_ (by omega))
   have w3:=(m2.kept (H.length+3) (by rw[ls_];omega)).trans ((am_ (by omega)).trans o3)
   simp(disch:=first|omega|simp only[lzz0_];first|done|omega)only[am_,ab_,as_,go_sem,seval,t3,w1,w3,bT_,Option.map_some]
   have hxn:x.id∉vis.map (fun z=>z.1.id):=fun q=>hns ((hvs e he).2 (by rw[ei];exact q))
   have hcnt:vis.length+1≤B.length:=by
    have:=dM_ (a:=x.id::vis.map fun z=>z.1.id) (b:=B.map PB.id) (nodup_cons.2 ⟨hxn,hvn⟩) (fun i hi=>by
     rcases mem_cons.1 hi with q|q
     ·rw[q];exact mem_map_of_mem hx
     ·obtain⟨z,hz,rfl⟩:=mem_map.1 q
      exact mem_map.2 ⟨z.1,hvB z hz,rfl⟩)
    simpa using this
   have ol:∀(r r1 r2:Row) y,y<H2.length→y≠H.length+3→y≠H.length+1→(((H2++[r]).set (H.length+3) r1).set (H.length+1) r2)[y]?=H2[y]?:=fun r r1 r2 y q1 q2 q3=>by rw[am_ (Ne.symm q3),am_ (Ne.symm q2),ab_ q1]
   have old2:∀y,y<H.length→H2[y]?=H[y]?:=fun y hy=>(m2.kept y (by rw[ls_];omega)).trans ((am_ (by omega)).trans (hmo.kept y hy))
   refine⟨by omega,by omega,B.length-(vis.length+1),by omega,hJ _ _ _ ⟨seen++[e.2.1],vis++[(x,k,v,d)],by simp[upd,t0],by simp[upd,t2],by simp[upd,t3],by simp[upd,t15],⟨by simp only[ls_,la_,lc_,ln_];omega,fun y hy=>?_⟩,?_,?_,?_,⟨?_,?_,?_,?_⟩,by simp⟩⟩
   ·rw[ol _ _ _ y (by omega) (by omega) (by omega)];exact old2 y hy
   ·rw[ol _ _ _ _ (by omega) (by omega) (by omega)];exact w0
   ·rw[aq_ (by simp only[ls_,la_,lc_,ln_];omega)];simp
   ·rw[ol _ _ _ _ (by omega) (by omega) (by omega)];exact w2
   ·have hrow:(vis++[(x,k,v,d)]).map fx_=vis.map fx_++[fx_ (x,k,v,d)]:=by rw[map_append];rfl
    refine ci_.renew (new:=[fx_ (x,k,v,d)]) (old:=vis.map fx_) sA ?_ (by simp) (by rw[hrow];exact perm_append_comm) (List.Sublist.refl _) (fun t ht=>?_) ⟨2,fun t ht=>?_⟩ ?_ (fun y hy=>?_) (fun y hy=>?_) (.inl rfl) (by simp only[ls_,la_,lc_,ln_];omega)
    ·rw[am_ (by omega),aq_ (by simp only[la_,lc_,ln_];omega),hrow,map_append];rfl
    ·rw[mem_singleton.1 ht];exact⟨rfl,rfl⟩
    ·rw[mem_singleton.1 ht]
     exact wF_ ((ol _ _ _ _ (by omega) (by omega) (by omega)).trans r1) ((ol _ _ _ _ (by omega) (by omega) (by omega)).trans r2) ((ol _ _ _ _ (by omega) (by omega) (by omega)).trans r3)
    ·show([k,v,d]++[]).Nodup
     simp only[append_nil,nodup_cons,mem_cons,not_mem_nil,or_false,not_or,nodup_nil,and_true,not_false_eq_true]
     omega
    ·have hy':y∈[k,v,d]:=by simpa[fx_]using hy
     simp only[mem_cons,not_mem_nil,or_false]at hy'
     have hyl:h.length≤y∧y<H2.length:=by omega
     refine⟨fun q=>?_,by omega,by omega,by simp only[ls_,la_,lc_,ln_];omega⟩
     have:=(sA.lows y q).2
     omega
    ·have hy':y∈foot (H.length+3) (vis.map fx_):=mem_cons_of_mem _ hy
     have hb:=sA.lows y hy'
     have hne:y≠H.length+3:=fun q=>(nodup_cons.1 sA.one).1 (by rw[←q];exact hy)
     rw[ol _ _ _ y (by omega) hne (by omega),m2.kept y (by rw[ls_];omega),am_ (by omega)]
   ·intro z hz
    rcases mem_append.1 hz with q|q
    ·exact hvB z q
    ·rw[mem_singleton.1 q];exact hx
   ·rw[map_append,nodup_append]
    refine⟨hvn,by simp,fun a ha b hb q=>?_⟩
    simp only[map_cons,map_nil,mem_singleton]at hb
    rw[hb]at q
    exact hxn (q▸ha)
   ·intro e' he'
    have hih:=hvs e' he'
    rw[mem_append,map_append,mem_append,hih]
    simp only[mem_singleton,map_cons,map_nil]
    have:e'.2.1=e.2.1↔e'.1=x.id:=⟨fun q=>by rw[fZ_ (f:=fun e:Int×Nat×AV=>e.2.1) g0.ents.born he' he q,ei],fun q=>by
     have hn:(ents.map (·.1)).Nodup:=by rw[g0.ents.ids];exact g0.ids
     rw[fZ_ (f:=fun e:Int×Nat×AV=>e.1) hn he' he (q.trans ei.symm)]⟩
    rw[this]
def BQ(a:AV):Prop:=∃r s,s.cell=true∧∃c,a=.tup [.agg [.val (.int .i64 r),s],.val (.int .i64 c)]
theorem lJ_{H:List Row}{lo:Nat}(c:Int)(hl:lo≤H.length):ee_ lo H (.tup [.agg [.val (.int .i64 0),.val (.slice none 0 0)],.val (.int .i64 c)]) (.tup [.agg (ae_.cells bt0),.val (.int .i64 c)]) :=
 (aT_.tup (aQ_.cons (aT_.agg (aQ_.val _ (aQ_.cons (aT_.mknil lo H.length H 5) (aQ_.nil H.length H.length H) ⟨hl,Nat.le_refl _⟩))) (aQ_.val _ (aQ_.nil H.length H.length H)) ⟨hl,Nat.le_refl _⟩)).fresh
def c30:LC :=
 .q [.o [.bx 1 28 0,.s 2 (.alloc 28 z0z),.ki 3 0],.o [.ld 11 2 1,.c1 12 62 11,.m 10 12,.ex 13 10 0,.ex 14 10 1,.m 4 13,.m 5 14],.q [.o [.m 15 5,.bk 16 .neq false 15 0],.k 16 (.q [.o [.s 17 (.build z0z [(0,1),
 (1,1)] []),.m 18 5,.st 2 2 17,.m 3 18],.ret]) .skip],.o [.s 19 (.call 21 []),.c1 20 38 19,.m 6 20],.q [.o [.m 21 4,.ll 22 21,.ki 23 0],.block 0 (.loop (.q [.o [.bb 24 .lss false 23 22],.k 24 .skip (.exit 0),
 .block 1 (.q [.o [.ia 25 2 21 23,.ld 26 2 25,.s 8 (.alloc 55 (.agg #[.string ⟨#[]⟩,.string ⟨#[]⟩])),.st 2 8 26],.o [.m 27 6,.fa 28 0 8,.ln 29 28,.fa 30 1 8,.ln 31 30,.c3 32 39 27 29 31,.m 9 32],.o [.m 33 9,
 .bk 34 .neq false 33 0],.k 34 (.q [.o [.s 35 (.build z0z [(0,1),(1,1)] []),.m 36 9,.st 2 2 35,.m 3 36],.ret]) .skip]),.o [.bk 37 .add false 23 1,.m 23 37]]))],.o [.m 38 6,.c1 39 40 38,.st 2 2 39,.ki 3 0],
 .ret]
def AX_:LF:=⟨1,40,c30,[.cell 2 (some 2),.tmp 3]⟩
theorem Du_:az_ Tryz.prog Tryz.f30 AX_:=gM_
theorem fu_(b:ae_)(hb:ae_.sz b≤1048576):b8_ Tryz.prog 30 [.agg (ae_.cells b)] (.tup [.agg (ae_.cells (cm_ b).1),.val (.int .i64 (cm_ b).2)]) BQ:=by
 obtain⟨z1,z2,z3⟩:=sm_ hb
 refine uf_ mixed Tryz.func30 Du_ rfl (fun h0=>?_)
 simp(disch:=omega)only[AX_,c30,show ae_.cells b=[.val (.int .i64 b.Root),.list 0 5 (b.Slots.map aa_.cells)]from rfl,go_sem,Nat.reduceEqDiff,Nat.reduceAdd,↓reduceIte]
 by_cases hx:64<b.Slots.length
 ·have hsv:=fun h=>mf_ b hx z1 h
  unfold ae_.cells at hsv
  have e:cm_ b=(bt0,1):=by rw[cm_,if_pos hx]
  rw[e]
  have q1:(!decide ((1:Int)=0))=true:=rfl
  refine PureCall.call (hsv _) ?_
  simp(disch:=omega)only[q1,bT_,Option.map_some,jH_,go_sem,seval]
  exact⟨⟨bb_.app _ _,(lJ_ 1 (by simp)).b⟩,⟨_,_,rfl,_,rfl⟩⟩
 ·have hsv:=fun h=>nF_ b (by omega) z2 z3 h
  unfold ae_.cells at hsv
  have hsl:=qi_ b.Slots
  have hso:=ol_ b.Slots
  have e:cm_ b=fV_ (ey_ b.Slots) bt1:=by rw[cm_,if_neg hx]
  rw[e]
  generalize ey_ b.Slots=l at *
  refine PureCall.call (hsv _) ?_
  simp(disch:=omega)only[go_sem,seval]
  refine PureCall.call (lY_ _) ?_
  simp(disch:=omega)only[show ae_.cells bt1=[.val (.int .i64 bt1.Root),.list 0 5 (bt1.Slots.map aa_.cells)]from rfl,go_sem,↓reduceIte]
  refine l9_ bt1.Root bt1.Slots (by simp[bt1]) (fun s hs=>(bt1_fit.ok.page hs).smallP) bt1_fit.ok.rise.ids _ _ ?_
  intro H1 T M B ents ck hmo g hB hlim
  have w0:=hmo.at (i:=h0.length+1) (aX_ rfl)
  have ml:=hmo.len
  simp only[la_,lc_,ln_]at ml
  have gS:PgS H1 T M bt1.Root B _ 1048576 bt1.Slots:=⟨⟨ents,ck,g⟩,fun id=>by rw[hB],hlim⟩
  obtain⟨lo,hlo⟩:∃lo,lo=(h0++([⟨.ty 28,2,[[.val (.int .i64 b.Root),.list 0 5 (b.Slots.map aa_.cells)]]⟩,⟨.ty 28,2,[[.val (.int .i64 0),.val (.slice none 0 0)]]⟩]:List Row)).length:=⟨_,rfl⟩
  rw[←hlo]at gS
  simp only[la_,lc_,ln_]at hlo
  simp(disch:=first|omega|simp only[lzz0_];first|done|omega)only[go_sem,seval]
  refine aL_ (fun n t H=>∃(k:Nat) (x:ae_) (mx:Nat) (B':List PB),t 2=.ptr (h0.length+1) 1 0 0∧t 6=.ptr T 1 0 0∧t 21=.list 0 2 (l.map ad_.cells)∧t 22=.val (.int .i64 l.length)∧t 23=.val (.int .i64 k)∧n=l.length-k∧k≤l.length∧bb_ h0 H∧h0.length+2≤H.length∧H[h0.length+1]?=some ⟨.ty 28,2,[[.val (.int .i64 0),.val (.slice none 0 0)]]⟩∧PgS H T M x.Root B' lo mx x.Slots∧7≤mx∧mx≤1048576+66 * k∧(∃hh ids,Fit x hh ids)∧fV_ l bt1=fV_ (l.drop k) x) l.length ?_ ?_
  ·exact⟨0,bt1,1048576,B,rfl,rfl,rfl,rfl,rfl,rfl,Nat.zero_le _,(bb_.app h0 _).trans hmo,by omega,w0,gS,by omega,by omega,⟨_,_,bt1_fit⟩,rfl⟩
  ·rintro J hJ n t H ⟨k,x,mx,B',t2,t6,t21,t22,t23,rfl,hk,mo,hlen,w1,gX,hm7,hmx,⟨hh,ids,ft⟩,hS⟩
   by_cases hlt:k<l.length
   ·obtain⟨r1,r2⟩:=hso _ (getElem_mem hlt)
    have hht:=ft.ht
    have hfit:=nJ_ ft hht r1 r2
    rw[pl_ hlt]at hS
    simp(disch:=first|omega|simp only[lzz0_];first|done|omega)only[as_,go_sem,seval,t6,t21,t22,t23,hlt,ad_.cells,Option.map_some]
    have gX2:=gX.more (bb_.app H [⟨.ty 55,2,[[.val (.string l[k].Key),.val (.string l[k].Value)]]⟩])
    refine m0_ r1 r2 hht hm7 (by omega) ft.ok ft.tree ft.nodup gX2 _ ?_
    intro H2 B2 hgo gI
    have l1:=hgo.len
    simp only[la_,lc_,ln_]at l1
    obtain⟨ents2,ck2,g2⟩:=gX2.pg
    have kp:∀y,y<H.length→y<h0.length+2→H2[y]?=H[y]?:=fun y hy hy2=>(hgo.kept y (by simp only[la_,lc_,ln_];omega) (fun q=>by have:=(g2.lows y q).1;omega)).trans (getElem?_append_left hy)
    have w2:=(kp (h0.length+1) (by omega) (by omega)).trans w1
    have mo2:bb_ h0 H2:=⟨by have:=mo.len;omega,fun y hy=>(kp y (by have:=mo.len;omega) (by omega)).trans (mo.kept y hy)⟩
    have hbb:(⟨x.Root,x.Slots⟩:ae_)=x:=rfl
    rw[hbb]at gI
    rw[hbb]
    generalize dg_ 65 x l[k].Key l[k].Value=R at *
    by_cases hc:R.2=0
    ·rw[if_pos hc]at hS
     simp(disch:=first|omega|simp only[lzz0_];first|done|omega)only[go_sem,seval,t23,hc,aw_]
     exact⟨l.length-(k+1),by omega,hJ _ _ _ ⟨k+1,R.1,mx+hh+1,B2,by simp[upd,t2],by simp[upd,t6],by simp[upd,t21],by simp[upd,t22],by simp[upd],rfl,by omega,mo2,by omega,w2,gI,by omega,by omega,hfit hc,hS⟩⟩
    ·rw[if_neg hc]at hS
     simp(disch:=first|omega|simp only[lzz0_];first|done|omega)only[aq_,go_sem,seval,t2,w2,hc,bT_,Option.map_some,jH_]
     rw[hS]
     exact⟨⟨mo2.set (by omega),(lJ_ R.2 (by simp only[ls_];omega)).b⟩,⟨_,_,rfl,_,rfl⟩⟩
   ·have hkl:k=l.length:=by omega
    rw[hkl,drop_length,fV_]at hS
    simp(disch:=first|omega|simp only[lzz0_];first|done|omega)only[go_sem,seval,t6,t22,t23,hlt]
    refine pv_ ft.ok gX _ ?_
    intro H3 lr ts m3 sA hlen3 hd
    have w3:=m3.at w1
    have l3:=m3.len
    have sl:=sA.lt
    simp(disch:=first|omega|simp only[lzz0_];first|done|omega)only[aq_,go_sem,seval,t2,w3,jH_]
    have mo3:bb_ h0 H3:=mo.trans m3
    have sB:∀r:Row,ci_ h0.length (H3.set (h0.length+1) r) 79 5 lr x.Slots.length ts:=fun r=>ci_.low (sA.keep (fun y hy=>am_ (by have:=(sA.lows y hy).1;omega)) (by rw[ls_];exact Nat.le_refl _)) (by have:=mo.len;omega)
    have X:∀r:Row,aT_ h0.length (H3.set (h0.length+1) r).length (H3.set (h0.length+1) r) (.own lr x.Slots.length) (.list 0 5 (x.Slots.map aa_.cells)):=fun r=>by
     have:=(sB r).freshOwn
     rw[hlen3,hd]at this
     exact this
    rw[hS]
    exact⟨⟨mo3.set (by omega),aT_.pair (aT_.agg (aQ_.val _ (aQ_.cons (X _) (aQ_.nil _ _ _) ⟨by simp only[ls_];omega,Nat.le_refl _⟩))) (by simp only[ls_];omega) _⟩,⟨_,_,rfl,_,rfl⟩⟩
theorem lB_{α:Type}{f:α→Nat}{c:Nat}:∀{xs:List α},(∀x∈xs,f x≤c)→cL_ f xs≤xs.length * c
 | [],_=>by simp[cL_]
 | x::xs,h=>by
  have h1:=h x mem_cons_self
  have h2:=lB_ (f:=f) (c:=c) (xs:=xs) fun y hy=>h y (mem_cons_of_mem _ hy)
  simp only[cL_,lc_,Nat.add_mul]
  omega
theorem ic_{α:Type}{f:α→Nat}{c:Nat}{xs:List α}(h:∀x∈xs,f x≤c):ay_ f xs≤xs.length+xs.length * c:=by
 have:=lB_ h
 simp only[ay_];omega
theorem nu_:∀(xs:List (List UInt8)),xs.all sO_=true→(cE_ xs).length≤xs.length * 57
 | [],_=>by simp[cE_]
 | x::xs,h=>by
  rw[all_cons,Bool.and_eq_true]at h
  have h1:=nu_ xs h.2
  have h2:=hc_ x
  have h3:x.length≤24:=by
   have:=h.1
   simp only[sO_,Bool.and_eq_true,decide_eq_true_eq]at this
   exact this.2
  rw[kp_,la_,lc_,Nat.add_mul]
  omega
theorem tR_{key:ByteArray}(h:b5_ key=true):key.size≤1000:=by
 unfold b5_ cx_ at h
 rcases ft_ (bs key)with ⟨e,_⟩|⟨a,b,e,e2,_⟩
 ·rw[e]at h;cases h
 ·rw[e]at h
  simp only at h
  split at h
  ·rename_i q
   rw[Bool.and_eq_true]at q
   obtain⟨q1,q2⟩:=q
   have hb:b.length≤228:=by
    unfold cz_ at q1
    split at q1
    ·rename_i xs hx
     obtain⟨g1,g2⟩:=(hP_ kZ_ _ _).1 hx
     simp only[ef_,Bool.and_eq_true,decide_eq_true_eq]at g1
     have:=nu_ xs g1.2
     rw[g2]at this
     have h3:(bs (txt b)).length=b.length:=by rw[fc_,bD_]
     omega
    ·cases q1
   have ha:a.length≤700:=by
    unfold bW_ at q2
    simp only[Bool.and_eq_true,decide_eq_true_eq]at q2
    have:=bD_ a
    omega
   have hs:(bs key).length=key.size:=fc_ key
   have:=congrArg List.length e2
   simp only[la_,lc_]at this
   omega
  ·cases h
theorem y6_{p:ai_}(h:shapeP p):ai_.sz p≤8000:=by
 obtain⟨h1,h2,h3,h4⟩:=h
 have k1:=ic_ (f:=ByteArray.size) (c:=1000) fun x hx=>tR_ (h3 x hx)
 have k2:=ic_ (f:=ByteArray.size) (c:=64) h4
 have k3:=ry_ p.Kids
 have:p.Keys.length≤7∧p.Vals.length≤7∧p.Kids.length≤7:=by
  cases hl:p.Leaf with
  | true=>obtain⟨a,b,c⟩:=h1 hl;rw[b];simp;omega
  | false=>obtain⟨a,b,c⟩:=h2 hl;rw[b];simp;omega
 unfold ai_.sz
 omega
theorem Da_{sl:List aa_}(ok:cO_ sl):ay_ aa_.sz sl≤1048576:=by
 have h1:=ic_ (f:=aa_.sz) (c:=8000) (xs:=sl) fun s hs=>y6_ (ok.page hs)
 have h2:=ok.len
 have h3:sl.length * 8000≤64 * 8000:=Nat.mul_le_mul_right _ h2
 omega
theorem jd_(b:ae_)(hb:ae_.sz b≤1048576)(h:List Row) :
 PureCall Tryz.prog 29 [.agg (ae_.cells b)] h (.tup [.agg (ae_.cells (cm_ b).1),.val (.int .i64 (cm_ b).2)]):=by
 obtain⟨z1,z2,z3⟩:=sm_ hb
 exact nj_ b z1 z2 z3 h
theorem sE_:∀(l:List ad_) (b:ae_) (h:Nat) (ids:List Int),Fit b h ids→(∀r∈l,k9_ r)→ae_.sz (fV_ l b).1≤1048576
 | [],b,h,ids,f,_=>Da_ f.ok
 | r::rs,b,h,ids,f,hl=>by
  obtain⟨r1,r2⟩:=hl r List.mem_cons_self
  rw[fV_]
  split
  ·rename_i hc
   obtain⟨h',ids',f'⟩:=nJ_ f f.ht r1 r2 hc
   exact sE_ rs _ h' ids' f' fun x hx=>hl x (List.mem_cons_of_mem _ hx)
  ·simp[ae_.sz,bt0,ay_,cL_]
theorem yW_(b:ae_):ae_.sz (cm_ b).1≤1048576:=by
 unfold cm_
 split
 ·simp[ae_.sz,bt0,ay_,cL_]
 ·exact sE_ _ _ _ _ bt1_fit (ol_ b.Slots)
end Go.Proofs.YtlcmlgihlojdmaaGreatDoor
