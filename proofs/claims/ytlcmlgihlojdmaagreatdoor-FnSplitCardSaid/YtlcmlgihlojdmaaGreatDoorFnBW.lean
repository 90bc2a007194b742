/-
 Contracts of functions. Conditions: as each theorem says.
-/
import Derived.Test.YtlcmlgihlojdmaaGreatDoorFnBS
import Derived.Test.YtlcmlgihlojdmaaGreatDoorAwSortI
import Derived.Test.YtlcmlgihlojdmaaGreatDoorFnBI
import Derived.Test.YtlcmlgihlojdmaaGreatDoorFnBB
namespace Go.Proofs.YtlcmlgihlojdmaaGreatDoor
open Go.AW
set_option linter.unusedVariables false
set_option linter.unusedSimpArgs false
set_option maxRecDepth 4000
open List
open Tryz (prog)
theorem tx_{xs:List ByteArray}(h:Srt xs):xs.Nodup:=List.Pairwise.imp (fun {a b} q e=>by rw[e,eP_]at q;cases q) h
def b5_(st:a9_):Nat→Int→List aN_
 | 0,id=>match st id with|some p=>List.zipWith aN_.mk p.Keys p.Vals|none=>[]
 | h+1,id=>match st id with|some p=>p.Kids.flatMap (b5_ st h)|none=>[]
theorem mg_{st:a9_}{id:Int}{p:ap_}(hp:st id=some p):b5_ st 0 id=List.zipWith aN_.mk p.Keys p.Vals:=by simp only[b5_,hp]
theorem jt_{st:a9_}{id:Int}{p:ap_}(hp:st id=some p)(h:Nat):b5_ st (h+1) id=p.Kids.flatMap (b5_ st h):=by simp only[b5_,hp]
theorem pb_:∀{xs ys:List ByteArray},ys.length=xs.length→(List.zipWith aN_.mk xs ys).map aN_.Key=xs
 | [],_,_=>by simp
 | x::xs,[],h=>by simp at h
 | x::xs,y::ys,h=>by
  rw[zipWith_cons_cons,map_cons,pb_ (by simpa using h)]
theorem pz_{α β γ:Type}(g:β→γ)(f:α→List β):∀l:List α,(l.flatMap f).map g=l.flatMap fun x=>(f x).map g
 | []=>rfl
 | x::l=>by rw[flatMap_cons,map_append,pz_ g f l,flatMap_cons]
theorem kG_{st:a9_}:∀{h:Nat} {top:Bool} {id:Int} {low high:ByteArray} {ids:List Int},au_ st h top id low high ids→(b5_ st h id).map aN_.Key=a5_ st h id
 | 0,top,id,low,high,ids,t=>by
  obtain⟨p,hp,hl,hb,_⟩:=t
  rw[mg_ hp,bQ_ hp]
  exact pb_ ((c0_ hb).leaf hl).2.1
 | h+1,top,id,low,high,ids,t=>by
  obtain⟨p,r,hp,hb,hf,hn,ei⟩:=au_.iff.1 t
  rw[jt_ hp,bQ_ hp,dN_,pz_]
  exact bL_ fun kid hkid=>by
   obtain⟨lo,hi,t⟩:=hn.kids.2 kid hkid
   exact kG_ t
structure Acc(H H':List Row)(L l:Nat)(out:List aN_):Prop where
 len:H.length≤H'.length
 kept:∀y,y<H.length→y≠L→y≠l→H'[y]?=H[y]?
 box:H'[L]?=some ⟨.ty 52,1,[[.own l out.length]]⟩
 row:H'[l]?=some ⟨.ty 55,2,out.map aN_.cells⟩
theorem Acc.trans{H H1 H2:List Row}{L l:Nat}{o1 o2:List aN_}(a:Acc H H1 L l o1)(b:Acc H1 H2 L l o2):Acc H H2 L l o2 :=
 ⟨Nat.le_trans a.len b.len,fun y hy h1 h2=>(b.kept y (Nat.lt_of_lt_of_le hy a.len) h1 h2).trans (a.kept y hy h1 h2),b.box,b.row⟩
def zh_:LC :=
 .q [.q [.o [.m 10 1,.nc 11 10,.fa 12 1 11,.ln 13 12,.ll 14 13,.ki 15 0],.block 0 (.loop (.q [.o [.bb 16 .lss false 15 14],.k 16 .skip (.exit 0),.block 1 (.q [.o [.m 17 15,.ia 18 1 13 15,.ln 19 18,.m 6 17,.m 7
 19],.o [.m 20 1,.nc 21 20,.fa 22 0 21,.ln 23 22],.k 23 (.o [.m 24 2,.m 25 7,.m 26 1,.nc 27 26,.fa 28 2 27,.ln 29 28,.m 30 6,.ia 31 1 29 30,.ln 32 31,.s 33 (.build (.agg #[.string ⟨#[]⟩,.string ⟨#[]⟩]) [(0,
 1),(1,1)] [(0,.tmp 25),(1,.tmp 32)]),.s 34 (.callv (.tmp 24) [.tmp 33])]) .skip]),.o [.bk 35 .add false 15 1,.m 15 35]]))],.o [.m 36 1,.nc 37 36,.fa 38 3 37,.ln 39 38,.ll 40 39,.ki 41 0],.block 2 (.loop
 (.q [.o [.bb 42 .lss false 41 40],.k 42 .skip (.exit 2),.block 3 (.q [.o [.ia 43 1 39 41,.ln 44 43,.m 9 44],.o [.m 45 0,.m 46 0,.nc 47 46,.fa 48 1 47,.ln 49 48,.m 50 9,.s 51 (.ext (.lookP false (.tmp 49) (.tmp
 50))),.m 52 2,.c3 53 102 45 51 52]]),.o [.bk 54 .add false 41 1,.m 41 54]]))]
def wr_:LF:=⟨3,55,zh_,[]⟩
theorem yS_:aC_ Tryz.prog Tryz.f102 wr_:=do_
def c56:LC :=
 .q [.o [.nl 2],.o [.s 4 (.buildSlice 55 2 (.agg #[.string ⟨#[]⟩,.string ⟨#[]⟩]) 0 []),.s 3 (.alloc 52 (.slice none 0 0)),.st 1 3 4],.gops [.m 5 0,.m 6 0,.nc 7 6,.fa 8 1 7,.ln 9 8,.m 10 0,.nc 11 10,.fa 12 0
 11,.ln 13 12,.s 14 (.ext (.lookP false (.tmp 9) (.tmp 13))),.s 15 (.mkFunc 103 [] [.tmp 3])] [(.c3 16 102 5 14 15,[])],.o [.ln 17 3,.m 2 17],.ret]
def zk_:LF:=⟨1,18,c56,[.tmp 2]⟩
theorem AD_:aC_ Tryz.prog Tryz.f56 zk_:=do_
def z1_:LC :=
 .q [.o [.bx 2 55 0],.o [.ln 3 1,.ld 4 2 2,.s 5 (.buildSlice 55 2 (.agg #[.string ⟨#[]⟩,.string ⟨#[]⟩]) 1 [(0,.tmp 4)]),.ap 6 55 2 32 3 5,.st 1 1 6]]
def wA_:LF:=⟨2,7,z1_,[]⟩
theorem xS_:aC_ Tryz.prog Tryz.f103 wA_:=do_
theorem mB_{H0 H:List Row}{L l:Nat}{out:List aN_}(a:Acc H0 H L l out)(hLl:L≠l)(ho:out.length≤1048576)(k v:ByteArray)(K:AV→List Row→Prop)(hK:∀H',Acc H H' L l (out++[⟨k,v⟩])→K (.tup []) H') :
 callSem Tryz.prog 103 [.agg [.val (.string k),.val (.string v)],.ptr L 1 0 0] H K:=by
 have aB:=a.box
 have aR:=a.row
 have lL:=(List.getElem?_eq_some_iff.1 aB).1
 have ll:=(List.getElem?_eq_some_iff.1 aR).1
 refine aO_ mixed Tryz.func103 xS_ (bA_ rfl ?_)
 simp(disch:=omega)only[wA_,z1_,Option.map_some,go_sem,seval]
 simp(disch:=first|omega|simp only[lzz0_];first|done|omega)only[al_,ac_,go_sem,seval,aB,aR]
 refine⟨by omega,by omega,[],rfl,hK _ ⟨by simp only[ls_,la_,lc_,ln_];omega,fun y hy h1 h2=>?_,?_,?_⟩⟩
 ·rw[al_ (Ne.symm h1),al_ (Ne.symm h2),ac_ hy]
 ·rw[ao_ (by simp only[ls_,la_,lc_,ln_];omega),la_];rfl
 ·rw[al_ hLl,ao_ (by simp only[la_,lc_,ln_];omega),map_append];rfl
theorem t9_{xs ys:List ByteArray}{j:Nat}(h1:j<xs.length)(h2:j<ys.length):(List.zipWith aN_.mk xs ys).take (j+1)=(List.zipWith aN_.mk xs ys).take j++[⟨xs[j],ys[j]⟩]:=by
 rw[take_succ_eq_append_getElem (by rw[length_zipWith];omega),getElem_zipWith]
def qn_(T M:Nat)(root:Int)(B:List PB)(lo mx:Nat)(sl:List ad_)(L l:Nat)(h:Nat):Prop:=∀(top:Bool) (id:Int) (low high:ByteArray) (ids:List Int) (H0 H:List Row) (out:List aN_) (x:PB) (K:AV→List Row→Prop),au_ (aa_ sl) h top id low high ids→PgS H T M root B lo mx sl→Acc H0 H L l out→x∈B→x.id=id→out.length+(b5_ (aa_ sl) h id).length≤1048576 →
 (∀H',Acc H H' L l (out++b5_ (aa_ sl) h id)→K (.tup []) H')→callSem Tryz.prog 102 [.ptr T 1 0 0,.ptr x.b 1 0 0,.fn 103 [] [.ptr L 1 0 0]] H K
theorem ke_{T M:Nat}{root:Int}{B:List PB}{lo mx:Nat}{sl:List ad_}{L l:Nat}(hLl:L≠l)(hL:L∉PB.all T M B)(hl:l∉PB.all T M B)(h:Nat)(ih:∀h',h=h'+1→qn_ T M root B lo mx sl L l h'):qn_ T M root B lo mx sl L l h:=by
 intro top id low high ids H0 H out x K t g a hx hxi hn hK
 obtain⟨ents,ck,g0⟩:=g.pg
 have gT:=g0.box
 have gM:=g0.map
 obtain⟨p,r,hp,hb,hf,hnode,ei⟩:=au_.iff.1 t
 have hxp:x.pg=p:=by
  have:=g.box hx
  rw[hxi,hp]at this
  exact(Option.some.inj this).symm
 obtain⟨a1,a2,a3,pb,p1,p2,p3⟩:=g0.pgs x hx
 have nS:∀y∈x.foot,y<H.length∧L≠y∧l≠y:=fun y hy=>⟨(g0.lows y (Pg.mem_foot hx hy)).2,fun e=>hL (e▸Pg.mem_foot hx hy),fun e=>hl (e▸Pg.mem_foot hx hy)⟩
 obtain⟨lb,nb,mb⟩:=nS x.b (by simp[PB.foot])
 obtain⟨lk,nk,mk⟩:=nS x.k (by simp[PB.foot])
 obtain⟨lv,nv,mv⟩:=nS x.v (by simp[PB.foot])
 obtain⟨ld,nd,md⟩:=nS x.d (by simp[PB.foot])
 rw[hxp]at pb p1 p2 p3
 have hlf:=hnode.leafB
 have hpg:=c0_ hb
 obtain⟨pre1,post1,rfl,e1⟩:=p1
 obtain⟨pre2,post2,rfl,e2⟩:=p2
 obtain⟨pre3,post3,rfl,e3⟩:=p3
 simp only[length_map]at pb
 have h6:p.Keys.length≤6∧p.Kids.length≤6:=by
  cases hl2:p.Leaf with
  | true=>obtain⟨q1,q2,q3⟩:=hpg.leaf hl2;rw[q3];exact⟨q1,by simp⟩
  | false=>obtain⟨q1,q2,q3,q4⟩:=hpg.node hl2;omega
 obtain⟨h6,h6'⟩:=h6
 have hrl:p.Leaf=true→b5_ (aa_ sl) h id=List.zipWith aN_.mk p.Keys p.Vals:=fun e=>by
  rw[e]at hlf
  have:h=0:=by simpa using hlf.symm
  subst this
  exact mg_ hp
 have z1:pre1.length+p.Keys.length-pre1.length=p.Keys.length:=by omega
 have z3:pre3.length+p.Kids.length-pre3.length=p.Kids.length:=by omega
 have hal:∀y∈PB.all T M B,y≠L∧y≠l:=fun y hy=>⟨fun e=>hL (e▸hy),fun e=>hl (e▸hy)⟩
 have keep:∀{H':List Row} {o:List aN_},Acc H H' L l o→PgS H' T M root B lo mx sl:=fun {H' o} a' =>
  ⟨⟨ents,ck,g0.keep (fun y hy=>a'.kept y (g0.lows y hy).2 (hal y hy).1 (hal y hy).2) a'.len⟩,g.same,fun y hy r hr=>g.lim y hy r (by rw[←a'.kept y (g0.lows y hy).2 (hal y hy).1 (hal y hy).2];exact hr)⟩
 have a0:Acc H H L l out:=⟨Nat.le_refl _,fun _ _ _ _=>rfl,a.box,a.row⟩
 refine aO_ mixed Tryz.func102 yS_ (bA_ rfl ?_)
 simp(disch:=first|omega|simp only[lzz0_];first|done|omega)only[go_sem,↓reduceIte,wr_,zh_,pb,e1,z1]
 refine a4_ (fun n t H'=>∃(k:Nat) (o:List aN_),t 0=.ptr T 1 0 0∧t 1=.ptr x.b 1 0 0∧t 2=.fn 103 [] [.ptr L 1 0 0]∧t 13=.sub x.k (pre1.length+(p.Keys.length+post1.length)) pre1.length (pre1.length+p.Keys.length)∧t 14=.val (.int .i64 p.Keys.length)∧t 15=.val (.int .i64 k)∧n=p.Keys.length-k∧k≤p.Keys.length∧Acc H H' L l o∧o=(if p.Leaf=true then out++(List.zipWith aN_.mk p.Keys p.Vals).take k else out)) p.Keys.length ?_ ?_
 ·exact⟨0,out,rfl,rfl,rfl,by first|rfl|(simp[upd];done),by first|rfl|(simp[upd];done),rfl,rfl,Nat.zero_le _,a0,by split<;>simp⟩
 ·rintro J hJ n t H' ⟨k,o,t0,t1,t2,t13,t14,t15,rfl,hk,a',ho⟩
  have rb:=(a'.kept x.b lb (Ne.symm nb) (Ne.symm mb)).trans pb
  have ra:=(a'.kept x.k lk (Ne.symm nk) (Ne.symm mk)).trans e1
  have rv:=(a'.kept x.v lv (Ne.symm nv) (Ne.symm mv)).trans e2
  have rd:=(a'.kept x.d ld (Ne.symm nd) (Ne.symm md)).trans e3
  by_cases hlt:k<p.Keys.length
  ·have c1:=gl_ pre1.length p.Keys.length k hlt
   have g1:(pre1++(p.Keys.map ak_++post1))[pre1.length+k]?=some (ak_ p.Keys[k]):=by rw[dQ_ _ _ _ _ (by simpa using hlt)];simp[hlt]
   cases hl2:p.Leaf with
   | true =>
    rw[hl2,if_pos rfl]at ho
    rw[hl2]at rb
    obtain⟨b1,b2,b3⟩:=hpg.leaf hl2
    have hlv:k<p.Vals.length:=by omega
    have c2:=gl_ pre2.length p.Vals.length k hlv
    have z2:pre2.length+p.Vals.length-pre2.length=p.Vals.length:=by omega
    have g2:(pre2++(p.Vals.map ak_++post2))[pre2.length+k]?=some (ak_ p.Vals[k]):=by rw[dQ_ _ _ _ _ (by simpa using hlv)];simp[hlv]
    simp(disch:=first|omega|simp only[lzz0_];first|done|omega)only[go_sem,seval,t1,t2,t13,t14,t15,rb,ra,rv,hlt,c1,g1,c2,g2,ak_,co_,Option.map_some]
    have hol:o.length≤out.length+k:=by rw[ho,la_,length_take];omega
    have hrn:(b5_ (aa_ sl) h id).length=p.Keys.length:=by rw[hrl hl2,length_zipWith];omega
    refine⟨by kernel_rfl,mB_ a' hLl (by omega) _ _ _ fun H2 a2=>?_⟩
    simp(disch:=first|omega|simp only[lzz0_];first|done|omega)only[go_sem,seval,t15,aA_]
    exact⟨p.Keys.length-(k+1),by omega,hJ _ _ _ ⟨k+1,o++[⟨p.Keys[k],p.Vals[k]⟩],by simp[upd,t0],by simp[upd,t1],by simp[upd,t2],by simp[upd,t13],by simp[upd,t14],by simp[upd],rfl,by omega,a'.trans a2,by rw[hl2,if_pos rfl,t9_ hlt hlv,ho,append_assoc]⟩⟩
   | false =>
    rw[hl2]at rb
    simp(disch:=first|omega|simp only[lzz0_];first|done|omega)only[go_sem,seval,t1,t13,t14,t15,rb,ra,hlt,c1,g1,ak_,aA_]
    exact⟨p.Keys.length-(k+1),by omega,hJ _ _ _ ⟨k+1,o,by simp[upd,t0],by simp[upd,t1],by simp[upd,t2],by simp[upd,t13],by simp[upd,t14],by simp[upd],rfl,by omega,a',by rw[hl2]at ho⊢;simpa using ho⟩⟩
  ·have hkk:k=p.Keys.length:=by omega
   subst hkk
   simp(disch:=first|omega|simp only[lzz0_];first|done|omega)only[go_sem,seval,t1,t14,t15,rb,rd,hlt,z3]
   refine a4_ (fun n t H2=>∃(j:Nat) (o2:List aN_),t 0=.ptr T 1 0 0∧t 2=.fn 103 [] [.ptr L 1 0 0]∧t 39=.sub x.d (pre3.length+(p.Kids.length+post3.length)) pre3.length (pre3.length+p.Kids.length)∧t 40=.val (.int .i64 p.Kids.length)∧t 41=.val (.int .i64 j)∧n=p.Kids.length-j∧j≤p.Kids.length∧Acc H H2 L l o2∧o2=o++(p.Kids.take j).flatMap (b5_ (aa_ sl) (h-1))) p.Kids.length ?_ ?_
   ·exact⟨0,o,by simp[upd,t0],by simp[upd,t2],by simp[upd],by simp[upd],by simp[upd],rfl,Nat.zero_le _,a',by simp⟩
   ·rintro J2 hJ2 n t H2 ⟨j,o2,t0,t2,t39,t40,t41,rfl,hj,a2,ho2⟩
    have rd:=(a2.kept x.d ld (Ne.symm nd) (Ne.symm md)).trans e3
    have rT:=(a2.kept T (g0.lows T (by simp)).2 (hal T (by simp[PB.all])).1 (hal T (by simp[PB.all])).2).trans gT
    have rM:=(a2.kept M (g0.lows M (by simp)).2 (hal M (by simp[PB.all])).1 (hal M (by simp[PB.all])).2).trans gM
    by_cases hlt2:j<p.Kids.length
    ·have hl2:p.Leaf=false:=by
      cases e:p.Leaf with
      | false=>rfl
      | true=>obtain⟨_,_,q⟩:=hpg.leaf e;rw[q]at hlt2;exact absurd hlt2 (Nat.not_lt_zero j)
     have hh0:h≠0:=by rw[hl2]at hlf;simpa using hlf.symm
     obtain⟨h',eh⟩:∃h',h=h'+1:=⟨h-1,by omega⟩
     subst eh
     rw[hl2]at ho
     have ho:o=out:=by simpa using ho
     obtain⟨klo,khi,tk⟩:=hnode.kids.2 _ (getElem_mem hlt2)
     obtain⟨pk,hpk,_⟩:=tk.page
     have hfd:=g0.find p.Kids[j]
     have hsf:=g.same p.Kids[j]
     rw[c4_,hpk]at hsf
     cases hz:B.find? (fun y=>y.id==p.Kids[j])with
     | none=>rw[hz]at hsf;cases hsf
     | some z =>
     rw[hz]at hfd
     have hzB:=mem_of_find?_eq_some hz
     have hzid:z.id=p.Kids[j]:=by simpa using find?_some hz
     simp only[Option.map_some]at hfd
     have c3:=gl_ pre3.length p.Kids.length j hlt2
     have g3:(pre3++(p.Kids.map aK_++post3))[pre3.length+j]?=some (aK_ p.Kids[j]):=by rw[dQ_ _ _ _ _ (by simpa using hlt2)];simp[hlt2]
     have hsum:(b5_ (aa_ sl) (h'+1) id).length=((p.Kids.take j).flatMap (b5_ (aa_ sl) h')).length+((b5_ (aa_ sl) h' p.Kids[j]).length+((p.Kids.drop (j+1)).flatMap (b5_ (aa_ sl) h')).length):=by
      rw[jt_ hp]
      conv=>lhs;rw[←take_append_drop j p.Kids,drop_eq_getElem_cons hlt2]
      simp only[flatMap_append,flatMap_cons,la_]
     have ho2':o2=out++(p.Kids.take j).flatMap (b5_ (aa_ sl) h'):=by rw[ho2,ho];rfl
     simp(disch:=first|omega|simp only[lzz0_];first|done|omega)only[go_sem,seval,t0,t2,t39,t40,t41,rd,rT,rM,hfd,hlt2,c3,g3,aK_,Option.getD_some]
     refine ih h' rfl false p.Kids[j] klo khi _ H H2 o2 z _ tk (keep a2) a2 hzB hzid (by rw[ho2',la_];omega) fun H3 a3=>?_
     simp(disch:=first|omega|simp only[lzz0_];first|done|omega)only[go_sem,seval,t41,aA_]
     exact⟨p.Kids.length-(j+1),by omega,hJ2 _ _ _ ⟨j+1,o2++b5_ (aa_ sl) h' p.Kids[j],by simp[upd,t0],by simp[upd,t2],by simp[upd,t39],by simp[upd,t40],by simp[upd],rfl,by omega,a2.trans a3,by
      rw[ho2,take_succ_eq_append_getElem hlt2,flatMap_append,flatMap_cons,flatMap_nil,append_nil,append_assoc];rfl⟩⟩
    ·have hjj:j=p.Kids.length:=by omega
     subst hjj
     simp(disch:=first|omega|simp only[lzz0_];first|done|omega)only[go_sem,↓reduceIte,t40,t41,hlt2]
     rw[take_length]at ho2
     have e:o2=out++b5_ (aa_ sl) h id:=by
      cases hl2:p.Leaf with
      | true =>
       obtain⟨b1,b2,b3⟩:=hpg.leaf hl2
       rw[hl2,if_pos rfl,take_of_length_le (by rw[length_zipWith];omega)]at ho
       rw[ho2,b3,ho,hrl hl2];simp
      | false =>
       have hh0:h≠0:=by rw[hl2]at hlf;simpa using hlf.symm
       obtain⟨h',eh⟩:∃h',h=h'+1:=⟨h-1,by omega⟩
       subst eh
       rw[hl2]at ho
       have ho:o=out:=by simpa using ho
       rw[ho2,ho,jt_ hp];rfl
     rw[e]at a2
     exact⟨[],rfl,hK _ a2⟩
theorem hx_{T M:Nat}{root:Int}{B:List PB}{lo mx:Nat}{sl:List ad_}{L l:Nat}(hLl:L≠l)(hL:L∉PB.all T M B)(hl:l∉PB.all T M B):∀h,qn_ T M root B lo mx sl L l h
 | 0=>ke_ hLl hL hl 0 fun h' e=>by omega
 | h+1=>ke_ hLl hL hl (h+1) fun h' e=>by
  obtain rfl:h'=h:=by omega
  exact hx_ hLl hL hl h'
theorem pX_{T M:Nat}{root:Int}{B:List PB}{lo mx:Nat}{sl:List ad_}{H:List Row}{h:Nat}{top:Bool}{low high:ByteArray}{ids:List Int}(t:au_ (aa_ sl) h top root low high ids)(g:PgS H T M root B lo mx sl)(hn:(b5_ (aa_ sl) h root).length≤1048576)(K:AV→List Row→Prop)
 (hK:∀H',bu_ H H'→H'[H.length]?=some ⟨.ty 55,2,(b5_ (aa_ sl) h root).map aN_.cells⟩→K (.own H.length (b5_ (aa_ sl) h root).length) H') :
 callSem Tryz.prog 56 [.ptr T 1 0 0] H K:=by
 obtain⟨ents,ck,g0⟩:=g.pg
 have gT:=g0.box
 have gM:=g0.map
 have hT:=(g0.lows T (by simp)).2
 have hM:=(g0.lows M (by simp)).2
 obtain⟨p0,hp0,_⟩:=t.page
 have hfd:=g0.find root
 have hsf:=g.same root
 rw[c4_,hp0]at hsf
 cases hz:B.find? (fun y=>y.id==root)with
 | none=>rw[hz]at hsf;cases hsf
 | some z =>
 rw[hz]at hfd
 have hzB:=mem_of_find?_eq_some hz
 have hzid:z.id=root:=by simpa using find?_some hz
 simp only[Option.map_some]at hfd
 refine aO_ mixed Tryz.func56 AD_ (bA_ rfl ?_)
 simp(disch:=first|omega|simp only[lzz0_];first|done|omega)only[ac_,a1_,go_sem,seval,zk_,c56,gT,gM,hfd,Option.getD_some]
 have hout:∀y∈PB.all T M B,y<H.length:=fun y hy=>(g0.lows y hy).2
 refine hx_ (L:=H.length+1) (l:=H.length) (by omega) (fun q=>by have:=hout _ q;omega) (fun q=>by have:=hout _ q;omega) h top root low high ids _ _ [] z _ t (g.more (bu_.app _ _)) ⟨Nat.le_refl _,fun _ _ _ _=>rfl,by rw[getElem?_append_right (by omega),Nat.add_sub_cancel_left];rfl,by rw[getElem?_append_right (Nat.le_refl _),Nat.sub_self];rfl⟩ hzB hzid (by simpa using hn) fun H' a=>?_
 rw[nil_append]at a
 have aB:=a.box
 have l1:=a.len
 simp only[la_,lc_,ln_]at l1
 simp(disch:=first|omega|simp only[lzz0_];first|done|omega)only[go_sem,seval,aB]
 exact hK _ ⟨by omega,fun y hy=>(a.kept y (by simp only[la_,lc_,ln_];omega) (by omega) (by omega)).trans (getElem?_append_left hy)⟩ a.row
theorem ra_{t:Nat→AV}{h:List Row}(a s:Nat)(n:Option Nat)(K:AV→List Row→Prop):cD_ [.cell a n,.tmp s] K .ret t h=match ai_ t h (.load n (.tmp a))with|some av=>K (.tup [av,t s]) h|none=>False:=by
 simp only[cD_,dA_,List.mapM_cons,List.mapM_nil]
 cases ai_ t h (.load n (.tmp a))<;>simp[cO_]
def ec_(b:ay_)(key value:ByteArray):ay_×Int :=
 if(c3_ b&&(bC_ key&&decide (value.size≤64)))=true then(if(eq_ 65 b key value).2=0 then((eq_ 65 b key value).1,0)else(bt0,(eq_ 65 b key value).2))else(bt0,1)
theorem wK_{b:ay_}(h:ay_.sz b≤1048576):b.Slots.length≤1048576∧(∀s∈b.Slots,smallP s.Page)∧∀s∈b.Slots,d5_ s.Page.Keys:=by
 have h1:=ay_.sz_Slots h
 refine⟨sl_ h1,fun s hs=>?_,fun s hs x hx=>?_⟩
 ·have h2:=nS_ h1 hs
  unfold ad_.sz ap_.sz at h2
  have a1:=fv_ (f:=ByteArray.size) (xs:=s.Page.Keys)
  have a2:=fv_ (f:=ByteArray.size) (xs:=s.Page.Vals)
  have a3:=fv_ (f:=fun _=>0) (xs:=s.Page.Kids)
  exact⟨by omega,by omega,by omega⟩
 ·have h2:=nS_ h1 hs
  unfold ad_.sz ap_.sz at h2
  have a1:=ma_ (f:=ByteArray.size) hx
  omega
theorem jh_.ht{b:ay_}{h:Nat}{ids:List Int}(r:jh_ b h ids):h<65:=by
 have h1:∀(h:Nat) (top:Bool) (id:Int) (low high:ByteArray) (ids:List Int),au_ (aa_ b.Slots) h top id low high ids→h<ids.length:=by
  intro h
  induction h with
  | zero =>
   intro top id low high ids t
   obtain⟨p,_,_,_,_,_,e⟩:=t
   rw[e];simp
  | succ h ih =>
   intro top id low high ids t
   obtain⟨p,q1,q2,q3,q4,q5,r,q6,q7⟩:=t
   obtain⟨_,n1,n2,n3,n4,n5⟩:=cq_ q3 q2
   obtain⟨a,m,c,e,t⟩:=aJ_.get 0 (by omega) q7
   have:=ih _ _ _ _ _ t
   rw[q6,e]
   simp only[lc_,la_]
   omega
 have h2:=h1 _ _ _ _ _ _ r.tree
 have h3:ids.length≤b.Slots.length:=by
  have:ids ⊆ b.Slots.map ad_.Id:=by
   intro i hi
   obtain⟨p,hp⟩:=Option.isSome_iff_exists.1 (r.tree.has i hi)
   exact List.mem_map.2 ⟨_,dx_ hp,rfl⟩
  have:=bH_ r.nodup this
  simpa using this
 have:=r.ok.len
 omega
def c25:LC :=
 .q [.o [.bx 1 28 0,.nl 2],.q [.o [.ld 3 2 1,.c1 4 35 3,.nt 5 4],.k 5 (.q [.o [.nl 2],.ret]) .skip],.o [.ld 6 2 1,.c1 7 38 6,.c1 8 56 7,.m 2 8],.ret]
def Ak_:LF:=⟨1,9,c25,[.tmp 2]⟩
theorem AK_:aC_ Tryz.prog Tryz.f25 Ak_:=do_
def c26:LC :=
 .q [.o [.bx 2 28 0,.s 4 (.alloc 55 (.agg #[.string ⟨#[]⟩,.string ⟨#[]⟩])),.f 5],.q [.o [.ld 8 2 2,.c1 9 25 8,.ll 10 9,.ki 11 0],.block 0 (.loop (.q [.o [.bb 12 .lss false 11 10],.k 12 .skip (.exit 0),.block 1
 (.q [.o [.ia 13 2 9 11,.ld 14 2 13,.s 7 (.alloc 55 (.agg #[.string ⟨#[]⟩,.string ⟨#[]⟩])),.st 2 7 14],.o [.fa 15 0 7,.ln 16 15,.m 17 1,.bb 18 .gtr false 16 17],.k 18 (.q [.o [.ld 19 2 7,.st 2 4 19,.t 5],
 .ret]) .skip]),.o [.bk 20 .add false 11 1,.m 11 20]]))],.o [.s 21 (.build (.agg #[.string ⟨#[]⟩,.string ⟨#[]⟩]) [(0,1),(1,1)] []),.st 2 4 21,.f 5],.ret]
def yc_:LF:=⟨2,22,c26,[.cell 4 (some 2),.tmp 5]⟩
theorem A0_:aC_ Tryz.prog Tryz.f26 yc_:=do_
def c28:LC :=
 .q [.o [.bx 1 28 0,.ki 2 0],.q [.o [.ld 6 2 1,.c1 7 35 6,.nt 8 7],.k 8 (.q [.o [.ki 2 0],.ret]) .skip],.o [.ld 9 2 1,.c1 10 38 9,.m 3 10,.ki 4 1],.q [.gops [.m 11 3,.nc 12 11,.fa 13 1 12,.ln 14 13,.m 15 3,
 .nc 16 15,.fa 17 0 16,.ln 18 17,.s 19 (.ext (.lookP false (.tmp 14) (.tmp 18))),.m 5 19] [],.block 0 (.loop (.q [.q [.o [.m 20 5,.nc 21 20,.fa 22 0 21,.ln 23 22,.nt 24 23],.k 24 .skip (.exit 0)],.block 1 (.o
 [.m 36 4,.bk 37 .add false 36 1,.m 4 37]),.dops [.m 25 3,.nc 26 25,.fa 27 1 26,.ln 28 27,.m 29 5,.nc 30 29,.fa 31 3 30,.ln 32 31,.s 33 (.indexAddr 1 (.tmp 32) (.const (.int .i64 0))),.ln 34 33,.s 35 (.ext
 (.lookP false (.tmp 28) (.tmp 34))),.m 5 35]]))],.o [.m 38 4,.m 2 38],.ret]
def Aj_:LF:=⟨1,39,c28,[.tmp 2]⟩
theorem Ap_:aC_ Tryz.prog Tryz.f28 Aj_:=do_
theorem rC_(l:List aN_):∀e∈l.map aN_.cells,e.all AV.flat=true:=by
 intro e he
 obtain⟨x,_,q⟩:=mem_map.1 he;subst q;rfl
theorem ja_{b:ay_}{h:Nat}{ids:List Int}(f:Fit b h ids):b.Slots.length≤1048576∧(∀s∈b.Slots,smallP s.Page):=⟨by have:=f.ok.len;omega,fun s hs=>(f.ok.page hs).smallP⟩
theorem g0_(b:ay_)(h':Nat)(ids:List Int)(f:Fit b h' ids)(w:Whole b ids)(z3:∀s∈b.Slots,d5_ s.Page.Keys)(hn:(b5_ (aa_ b.Slots) h' b.Root).length≤1048576)(h:List Row) :
 PureCall Tryz.prog 25 [.agg (ay_.cells b)] h (.list 0 2 ((b5_ (aa_ b.Slots) h' b.Root).map aN_.cells)):=by
 obtain⟨z1,z2⟩:=ja_ f
 have hbo:=fun h=>f3_ b z1 z2 z3 h
 rw[iX_ f w]at hbo
 unfold ay_.cells at hbo
 refine av_ mixed Tryz.func25 AK_ rfl rfl ?_ h
 simp(disch:=omega)only[Ak_,c25,show ay_.cells b=[.val (.int .i64 b.Root),.list 0 5 (b.Slots.map ad_.cells)]from rfl,go_sem,Nat.reduceEqDiff,Nat.reduceAdd,↓reduceIte]
 refine PureCall.call (hbo _) ?_
 simp(disch:=first|omega|simp only[lzz0_];first|done|omega)only[go_sem,seval]
 refine ek_ b.Root b.Slots z1 z2 f.ok.rise.ids _ _ ?_
 intro H1 T M B ents ck hmo g hB hlim
 have gS:PgS H1 T M b.Root B _ 1048576 b.Slots:=⟨⟨ents,ck,g⟩,fun id=>by rw[hB],hlim⟩
 simp(disch:=first|omega|simp only[lzz0_];first|done|omega)only[go_sem,↓reduceIte]
 refine pX_ f.tree gS hn _ fun H2 m2 hr=>?_
 simp(disch:=first|omega|simp only[lzz0_];first|done|omega)only[go_sem,↓reduceIte]
 exact⟨3,gk_ (n:=1) (r:=⟨.ty 55,2,_⟩) hr (by simp) (rC_ _)⟩
def hO_(l:List aN_)(key:ByteArray):aN_×Bool:=match l.find? (fun r=>aB_ key r.Key)with
 | some r=>(r,true)
 | none=>(⟨⟨#[]⟩,⟨#[]⟩⟩,false)
theorem m0_{l:List aN_}{key:ByteArray}{k:Nat}(hk:k<l.length)(h1:∀j,j<k→∀hj:j<l.length,aB_ key l[j].Key=false)(h2:aB_ key l[k].Key=true):hO_ l key=(l[k],true):=by
 have:l.find? (fun r=>aB_ key r.Key)=some l[k]:=by
  rw[find?_eq_some_iff_getElem]
  exact⟨h2,k,hk,rfl,fun j hj=>by rw[h1 j hj (by omega)];rfl⟩
 rw[hO_,this]
theorem k2_{l:List aN_}{key:ByteArray}(h1:∀j,∀hj:j<l.length,aB_ key l[j].Key=false):hO_ l key=(⟨⟨#[]⟩,⟨#[]⟩⟩,false):=by
 have:l.find? (fun r=>aB_ key r.Key)=none:=by
  rw[find?_eq_none]
  intro r hr
  obtain⟨j,hj,rfl⟩:=mem_iff_getElem.1 hr
  rw[h1 j hj];simp
 rw[hO_,this]
theorem pw_(q:Bool)(a b:ByteArray):bd_ .gtr q (.val (.string a)) (.val (.string b))=some (.val (.bool (aB_ b a))):=by
 show some (AV.val (.bool (!(Op.bytesLess a.toList b.toList||a.toList==b.toList))))=_
 have:(!(Op.bytesLess a.toList b.toList||a.toList==b.toList))=Op.bytesLess b.toList a.toList:=by
  by_cases h1:Op.bytesLess a.toList b.toList=true
  ·rw[h1,iR_ _ _ h1];rfl
  ·rw[Bool.not_eq_true]at h1
   by_cases h2:a.toList=b.toList
   ·rw[h2,iB_];simp
   ·have h3:Op.bytesLess b.toList a.toList=true:=by
     cases e:Op.bytesLess b.toList a.toList with
     | true=>rfl
     | false=>exact absurd (jj_ _ _ h1 e) h2
    rw[h1,h3]
    simp[h2]
 rw[this]
theorem me_(b:ay_)(key:ByteArray)(h':Nat)(ids:List Int)(f:Fit b h' ids)(w:Whole b ids)(z3:∀s∈b.Slots,d5_ s.Page.Keys)(hn:(b5_ (aa_ b.Slots) h' b.Root).length≤1048576)(h:List Row) :
 PureCall Tryz.prog 26 [.agg (ay_.cells b),.val (.string key)] h (.tup [.agg (aN_.cells (hO_ (b5_ (aa_ b.Slots) h' b.Root) key).1),.val (.bool (hO_ (b5_ (aa_ b.Slots) h' b.Root) key).2)]):=by
 have hrec:=fun h=>g0_ b h' ids f w z3 hn h
 unfold ay_.cells at hrec
 generalize b5_ (aa_ b.Slots) h' b.Root=l at *
 refine av_ mixed Tryz.func26 A0_ rfl rfl ?_ h
 simp(disch:=omega)only[yc_,c26,show ay_.cells b=[.val (.int .i64 b.Root),.list 0 5 (b.Slots.map ad_.cells)]from rfl,go_sem,Nat.reduceEqDiff,Nat.reduceAdd,↓reduceIte]
 refine PureCall.call (hrec _) ?_
 simp(disch:=first|omega|simp only[lzz0_];first|done|omega)only[go_sem,↓reduceIte]
 refine a4_ (fun n t H=>∃k:Nat,t 1=.val (.string key)∧t 4=.ptr 1 1 0 0∧t 9=.list 0 2 (l.map aN_.cells)∧t 10=.val (.int .i64 l.length)∧t 11=.val (.int .i64 k)∧n=l.length-k∧k≤l.length∧2≤H.length∧H[1]?=some ⟨.ty 55,2,[[.val (.string ⟨#[]⟩),.val (.string ⟨#[]⟩)]]⟩∧∀j,j<k→∀hj:j<l.length,aB_ key l[j].Key=false) l.length ?_ ?_
 ·exact⟨0,rfl,rfl,rfl,rfl,rfl,rfl,Nat.zero_le _,Nat.le_refl _,rfl,fun j hj=>absurd hj (Nat.not_lt_zero j)⟩
 ·rintro J hJ n t H ⟨k,t1,t4,t9,t10,t11,rfl,hk,hlen,o1,hS⟩
  by_cases hlt:k<l.length
  ·cases hs:aB_ key l[k].Key with
   | true =>
    rw[m0_ hlt hS hs]
    simp(disch:=first|omega|simp only[lzz0_];first|done|omega)only[ao_,ac_,ar_,go_sem,seval,t1,t4,t9,t10,t11,o1,hlt,hs,pw_,aN_.cells,Option.map_some,ra_]
    exact⟨3,rfl⟩
   | false =>
    simp(disch:=first|omega|simp only[lzz0_];first|done|omega)only[ar_,go_sem,seval,t1,t9,t10,t11,hlt,hs,pw_,aN_.cells,Option.map_some,aA_]
    refine⟨l.length-(k+1),by omega,hJ _ _ _ ⟨k+1,by simp[upd,t1],by simp[upd,t4],by simp[upd,t9],by simp[upd,t10],by simp[upd],rfl,by omega,by simp;omega,(ac_ (by omega)).trans o1,fun j hj hj2=>?_⟩⟩
    by_cases e:j=k
    ·subst e;exact hs
    ·exact hS j (by omega) hj2
  ·rw[k2_ fun j hj=>hS j (by omega) hj]
   simp(disch:=first|omega|simp only[lzz0_];first|done|omega)only[ao_,go_sem,seval,t4,t10,t11,o1,hlt,co_,Option.map_some,ra_]
   exact⟨3,rfl⟩
theorem xL_{B:List PB}(hn:(B.map PB.id).Nodup){x y:PB}(hx:x∈B)(hy:y∈B)(e:x.id=y.id):x=y:=by
 induction B with
 | nil=>cases hx
 | cons z B ih =>
  rw[map_cons,nodup_cons]at hn
  rcases mem_cons.1 hx with q|q<;>rcases mem_cons.1 hy with q2|q2
  ·rw[q,q2]
  ·exact absurd (mem_map.2 ⟨y,q2,by rw[←e,q]⟩) hn.1
  ·exact absurd (mem_map.2 ⟨x,q,by rw[e,q2]⟩) hn.1
  ·exact ih hn.2 q q2
theorem PgS.look{H:List Row}{T M:Nat}{root:Int}{B:List PB}{lo:Nat}{sl:List ad_}{ents:List (Int×Nat×AV)}{ck:Nat}(g:Pg H T M root B ents ck lo)(hs:∀id,aa_ (B.map PB.slot) id=aa_ sl id){id:Int}{p:ap_}(hp:aa_ sl id=some p):∃x∈B,x.id=id∧x.pg=p∧cP_ ents id=some (.ptr x.b 1 0 0):=by
 have hfd:=g.find id
 have hsf:=hs id
 rw[c4_,hp]at hsf
 cases hz:B.find? (fun y=>y.id==id)with
 | none=>rw[hz]at hsf;cases hsf
 | some z =>
  rw[hz]at hfd hsf
  exact⟨z,mem_of_find?_eq_some hz,by simpa using find?_some hz,Option.some.inj hsf,hfd⟩
theorem mW_(b:ay_)(h':Nat)(ids:List Int)(f:Fit b h' ids)(w:Whole b ids)(z3:∀s∈b.Slots,d5_ s.Page.Keys)(h:List Row) :
 PureCall Tryz.prog 28 [.agg (ay_.cells b)] h (.val (.int .i64 ((h':Int)+1))):=by
 obtain⟨z1,z2⟩:=ja_ f
 have hht:=f.ht
 have hbo:=fun h=>f3_ b z1 z2 z3 h
 rw[iX_ f w]at hbo
 unfold ay_.cells at hbo
 refine av_ mixed Tryz.func28 Ap_ rfl rfl ?_ h
 simp(disch:=omega)only[Aj_,c28,show ay_.cells b=[.val (.int .i64 b.Root),.list 0 5 (b.Slots.map ad_.cells)]from rfl,go_sem,Nat.reduceEqDiff,Nat.reduceAdd,↓reduceIte]
 refine PureCall.call (hbo _) ?_
 simp(disch:=first|omega|simp only[lzz0_];first|done|omega)only[go_sem,seval]
 refine ek_ b.Root b.Slots z1 z2 f.ok.rise.ids _ _ ?_
 intro H1 T M B ents ck hmo g hB hlim
 have hs:∀id,aa_ (B.map PB.slot) id=aa_ b.Slots id:=fun id=>by rw[hB]
 have gT:=g.box
 have gM:=g.map
 obtain⟨p0,hp0,_⟩:=f.tree.page
 obtain⟨x0,hx0,e0,_,hf0⟩:=PgS.look g hs hp0
 simp(disch:=first|omega|simp only[lzz0_];first|done|omega)only[go_sem,seval,gT,gM,hf0,Option.getD_some]
 refine a4_ (fun n t H=>∃(x:PB) (top:Bool) (low high:ByteArray) (m:List Int),t 3=.ptr T 1 0 0∧t 4=.val (.int .i64 ((h':Int)+1-(n:Nat)))∧t 5=.ptr x.b 1 0 0∧H=H1∧x∈B∧n≤h'∧au_ (aa_ b.Slots) n top x.id low high m) h' ?_ ?_
 ·exact⟨x0,true,_,_,ids,rfl,by simp[upd];omega,rfl,rfl,hx0,Nat.le_refl _,by rw[e0];exact f.tree⟩
 ·rintro J hJ n t H ⟨x,top,low,high,m,t3,t4,t5,rfl,hx,hnh,tx⟩
  obtain⟨p,r,hp,hb,hf,hnode,ei⟩:=au_.iff.1 tx
  have hxp:x.pg=p:=by
   obtain⟨x2,hx2,e2,e3,hf2⟩:=PgS.look g hs hp
   have:x2=x:=xL_ g.ids hx2 hx e2
   rw[←this];exact e3
  obtain⟨a1,a2,a3,pb,p1,p2,p3⟩:=g.pgs x hx
  rw[hxp]at pb p3
  cases n with
  | zero =>
   have hl:p.Leaf=true:=hnode.1
   rw[hl]at pb
   simp(disch:=first|omega|simp only[lzz0_];first|done|omega)only[go_sem,seval,t4,t5,pb]
   have e:(h':Int)+1-0=h'+1:=by omega
   rw[e]
   exact am_ _ _
  | succ n =>
   have hl:p.Leaf=false:=hnode.1
   have hk2:=((c0_ hb).node hl).1
   obtain⟨pre3,post3,rfl,e3⟩:=p3
   rw[hl]at pb
   obtain⟨klo,khi,tk⟩:=hnode.kids.2 _ (getElem_mem (by omega:0<p.Kids.length))
   obtain⟨pk,hpk,_⟩:=tk.page
   obtain⟨y,hy,ey,_,hfy⟩:=PgS.look g hs hpk
   have c3:(((pre3.length:Nat):Int)+0<((pre3.length+p.Kids.length:Nat):Int))=True:=eq_true (by omega)
   have g3:(pre3++(p.Kids.map aK_++post3))[pre3.length]?=some (aK_ p.Kids[0]):=by
    have:=dQ_ pre3 (p.Kids.map aK_) post3 0 (by simpa using(by omega:0<p.Kids.length))
    have e0:(p.Kids.map aK_)[0]?=some (aK_ p.Kids[0]):=by rw[getElem?_map,getElem?_eq_getElem (by omega)];rfl
    exact this.trans e0
   simp only[length_map]at pb
   simp(disch:=first|omega|simp only[lzz0_];first|done|omega)only[go_sem,seval,t3,t4,t5,pb,gT,gM,e3,c3,g3,hfy,aK_,Option.getD_some,aA_]
   refine⟨n,by omega,hJ _ _ _ ⟨y,false,klo,khi,_,by simp[upd,t3],by simp[upd];omega,by simp[upd],rfl,hy,by omega,by rw[ey];exact tk⟩⟩
def c54:LC :=
 .q [.o [.f 2],.o [.m 3 0,.s 4 (.call 57 [.tmp 3,.const (.int .i64 (-999999999999999999)),.const (.int .i64 999999999999999999)]),.m 2 4],.ret]
def yJ_:LF:=⟨1,5,c54,[.tmp 2]⟩
theorem A3_:aC_ prog Tryz.f54 yJ_:=az_
theorem oN_(n:Int)  (h:List Row):PureCall prog 54 [.val (.int .i64 n)] h (.val (.bool (ba_ n (-999999999999999999) 999999999999999999))):=by
 refine av_ mixed Tryz.func54 A3_ rfl rfl ?_ h
 simp(disch:=omega)only[yJ_,c54,go_sem,seval]
 repeat' (first
  | exact am_ _ _
  | simp(disch:=omega)only[go_sem,seval]
  | (refine PureCall.call (cK_ _ _ _ _) ?_)
  | (refine PureCall.q (cK_ _ _ _ _) ?_)
  | ((first|(apply aT_;assumption)|(apply aR_;assumption)|(apply a6_;assumption)|(apply a7_;assumption));intro hb;try simp only[hb])
  | ((first|apply at_|apply as_)<;>intro hb<;>(try simp only[hb])<;>(first|have hp:=br_ hb|have hp:=bn_ hb|have hp:=bq_ hb|have hp:=bp_ hb|skip)))
def c53:LC :=
 .q [.o [.s 2 (.mov (.const (.string ⟨#[]⟩)))],.q [.o [.m 3 0,.c1 4 99 3,.nt 5 4],.k 5 (.q [.o [.s 2 (.mov (.const (.string ⟨#[]⟩)))],.ret]) .skip],.o [.m 6 0,.c1 7 100 6,.m 2 7],.ret]
def zt_:LF:=⟨1,8,c53,[.tmp 2]⟩
theorem At_:aC_ prog Tryz.f53 zt_:=az_
theorem ms_(xs:List ByteArray)(hx:xs.length≤1048576)(h:List Row):PureCall prog 53 [.list 0 1 (xs.map ak_)] h (.val (.string (txt (gT_ xs)))):=by
 refine av_ mixed Tryz.func53 At_ rfl rfl ?_ h
 simp(disch:=omega)only[zt_,c53,go_sem,seval]
 repeat' (first
  | exact am_ _ _
  | (refine bl_ ?_;simp[gT_, *];done)
  | simp(disch:=omega)only[go_sem,seval]
  | (refine PureCall.call (dM_ _ hx _) ?_)
  | (refine PureCall.q (dM_ _ hx _) ?_)
  | (refine PureCall.call (fd_ _ hx _) ?_)
  | (refine PureCall.q (fd_ _ hx _) ?_)
  | (refine PureCall.call (gr_ _ (by assumption) _) ?_)
  | (refine PureCall.q (gr_ _ (by assumption) _) ?_)
  | ((first|(apply aT_;assumption)|(apply aR_;assumption)|(apply a6_;assumption)|(apply a7_;assumption));intro hb;try simp only[hb])
  | ((first|apply at_|apply as_)<;>intro hb<;>(try simp only[hb])<;>(first|have hp:=br_ hb|have hp:=bn_ hb|have hp:=bq_ hb|have hp:=bp_ hb|skip)))
def c24:LC :=
 .q [.o [.s 2 (.mov (.const (.string ⟨#[]⟩)))],.q [.o [.m 3 0,.c1 4 54 3,.nt 5 4],.k 5 (.q [.o [.s 2 (.mov (.const (.string ⟨#[]⟩)))],.ret]) .skip],.o [.m 6 0,.c1 7 55 6,.m 2 7],.ret]
def zP_:LF:=⟨1,8,c24,[.tmp 2]⟩
theorem AG_:aC_ prog Tryz.f24 zP_:=az_
def c23:LC :=
 .q [.o [.s 4 (.mov (.const (.string ⟨#[]⟩)))],.q [.o [.m 5 0,.m 6 1,.c2 7 52 5 6,.nt 8 7],.k 8 (.q [.o [.s 4 (.mov (.const (.string ⟨#[]⟩)))],.ret]) .skip],.o [.m 9 0,.s 10 (.bin .add false (.tmp 9) (.const
 (.string ⟨#[1]⟩))),.m 11 1,.c1 12 53 11,.bb 13 .add false 10 12,.m 4 13],.ret]
def ze_:LF:=⟨2,14,c23,[.tmp 4]⟩
theorem A6_:aC_ prog Tryz.f23 ze_:=az_
theorem lX_(n:Int)(h1 : -999999999999999999≤n)(h2:n≤999999999999999999)(h:List Row):PureCall prog 24 [.val (.int .i64 n)] h (.val (.string (txt (a3_ n)))):=by
 refine av_ mixed Tryz.func24 AG_ rfl rfl ?_ h
 have hw:ba_ n (-999999999999999999) 999999999999999999=true:=by rw[ba_,decide_eq_true h1,decide_eq_true h2];rfl
 simp(disch:=omega)only[zP_,c24,go_sem,seval]
 refine PureCall.call (oN_ n _) ?_
 simp(disch:=omega)only[hw,go_sem,seval]
 refine PureCall.call (f5_ n h1 h2 _) ?_
 simp(disch:=omega)only[go_sem,↓reduceIte]
 exact bl_ rfl
def np_(x:List UInt8):ByteArray:=txt ([65]++[1]++bW_ [x])
theorem wn_:bF_ (txt [65])=true:=by decide +kernel
theorem x6_{x:List UInt8}(h:gZ_ x=true):kM_ (txt [65]) [txt x]=true∧gT_ [txt x]=bW_ [x]:=by
 have hs:bM_ [txt x]=true:=by
  simp only[gZ_,Bool.and_eq_true,decide_eq_true_eq]at h
  simp only[bM_,dE_,all_cons,all_nil,Bool.and_true,Bool.and_eq_true,decide_eq_true_eq,bb_,lc_,ln_]
  omega
 refine⟨by rw[kM_,wn_,hs];rfl,?_⟩
 rw[gT_,if_pos hs]
 exact congrArg bW_ (hB_ [x])
theorem pY_(x:List UInt8)(hx:gZ_ x=true)(h:List Row):PureCall prog 23 [.val (.string (txt [65])),.list 0 1 ([txt x].map ak_)] h (.val (.string (np_ x))):=by
 refine av_ mixed Tryz.func23 A6_ rfl rfl ?_ h
 obtain⟨q,hp⟩:=x6_ hx
 simp(disch:=omega)only[ze_,c23,go_sem,seval]
 refine PureCall.call (hS_ (txt [65]) [txt x] (by simp[bb_]) (by simp) _) ?_
 simp(disch:=omega)only[q,go_sem,seval]
 refine PureCall.call (ms_ [txt x] (by simp) _) ?_
 have hlen:(gT_ [txt x]).length≤100:=by
  have:=hQ_ [txt x] (by
   intro y hy
   rw[mem_singleton]at hy
   rw[hy,bb_]
   simp only[gZ_,Bool.and_eq_true,decide_eq_true_eq]at hx
   exact hx.2)
  have e:bss [txt x]=[x]:=hB_ [x]
  rw[e]at this
  rw[hp]
  simp only[lc_,ln_]at this
  omega
 have hb:([65,1]:List UInt8).length+(gT_ [txt x]).length≤9223372036854775807:=by
  simp only[lc_,ln_];omega
 have e:txt [65]++txt [1]=txt [65,1]:=rfl
 simp(disch:=omega)only[e,lk_ false [65,1] (gT_ [txt x]) hb,go_sem,Nat.reduceEqDiff,↓reduceIte]
 exact bl_ (by rw[hp];rfl)
theorem i2_(x:List UInt8)(hx:gZ_ x=true):b7_ (np_ x)=some (txt [65],[txt x]):=by
 have e1:d1_ (bs (np_ x))=some ([65],bW_ [x]):=by rw[np_,show bs (txt ([65]++[1]++bW_ [x]))=[65]++[1]++bW_ [x]from bg_ _];rfl
 have e2:cf_ (txt (bW_ [x]))=([txt x],true):=by
  have:ff_ dz_ (bs (txt (bW_ [x])))=some [x]:=(gj_ h6_ _ _).2 ⟨by simp[dJ_,hx],(bg_ _).symm⟩
  rw[cf_,this];rfl
 have e3:=wn_
 rw[b7_,e1]
 simp only[e2,e3,Bool.and_self,if_true]
theorem kf_:∀n<101,b3_ (a3_ (((n:Nat):Int) * 1000000))=((n:Nat):Int) * 1000000:=by decide +kernel
theorem o9_{n m:Nat}(hn:n<101)(hm:m<101)(h:a3_ ((n:Int) * 1000000)=a3_ ((m:Int) * 1000000)):n=m:=by
 have h1:=kf_ n hn
 have h2:=kf_ m hm
 rw[h]at h1
 omega
def eU_(n:Nat):ByteArray:=np_ (a3_ ((n:Int) * 1000000))
theorem fm_(n:Nat)(hn:n<101):gZ_ (a3_ ((n:Int) * 1000000))=true:=by
 have h1:=e2_ (n:=(n:Int) * 1000000) (by omega) (by omega)
 have h2:1≤(a3_ ((n:Int) * 1000000)).length:=length_pos_iff.2 (mY_ _)
 simp only[gZ_,Bool.and_eq_true,decide_eq_true_eq]
 omega
theorem rq_(n:Nat)(hn:n<101):bC_ (eU_ n)=true:=by
 rw[bC_,eU_,i2_ _ (fm_ n hn)];rfl
theorem ux_{n m:Nat}(hn:n<101)(hm:m<101)(h:eU_ n=eU_ m):n=m:=by
 have h1:=i2_ _ (fm_ n hn)
 have h2:=i2_ _ (fm_ m hm)
 unfold eU_ at h
 rw[h,h2]at h1
 simp only[Option.some.injEq,Prod.mk.injEq,List.cons.injEq,and_true,true_and]at h1
 refine(o9_ hm hn ?_).symm
 have:=congrArg (fun b:ByteArray=>b.data.toList) h1
 simpa[bg_]using this
theorem m3_(n:Nat)(hn:n<101)(h:List Row):PureCall prog 24 [.val (.int .i64 ((n:Int) * 1000000))] h (.val (.string (txt (a3_ ((n:Int) * 1000000))))):=lX_ _ (by omega) (by omega) h
theorem pI_(n:Nat)(hn:n<101)(h:List Row):PureCall prog 23 [.val (.string (txt [65])),.list 0 1 ([txt (a3_ ((n:Int) * 1000000))].map ak_)] h (.val (.string (eU_ n))):=pY_ _ (fm_ n hn) h
theorem sU_(n:Nat)(hn:n<101):(eU_ n).size≤1048576:=by
 have h:=fm_ n hn
 have h2:=hQ_ [txt (a3_ ((n:Int) * 1000000))] (by
  intro y hy
  rw[mem_singleton]at hy
  rw[hy,bb_]
  simp only[gZ_,Bool.and_eq_true,decide_eq_true_eq]at h
  exact h.2)
 have e:bss [txt (a3_ ((n:Int) * 1000000))]=[a3_ ((n:Int) * 1000000)]:=hB_ [a3_ ((n:Int) * 1000000)]
 rw[e]at h2
 rw[eU_,np_,bb_]
 simp only[la_,lc_,ln_]at h2⊢
 omega
def c81:LC :=
 .q [.o [.bx 3 77 1,.ki 4 0],.q [.o [.ki 5 1],.block 0 (.loop (.q [.q [.o [.m 8 5,.bk 9 .leq false 8 64],.k 9 .skip (.exit 0)],.block 1 (.q [.o [.m 13 0,.nc 14 13,.fa 15 1 14,.ln 16 15,.m 17 5,.s 18 (.ext
 (.lookP true (.tmp 16) (.tmp 17))),.m 12 18,.ex 19 12 0,.ex 20 12 1,.m 6 19,.m 7 20],.o [.m 21 7,.nt 22 21],.k 22 (.q [.o [.m 23 0,.nc 24 23,.fa 25 1 24,.ln 26 25,.m 27 5,.z (.ext (.updP (.tmp 26) (.tmp 27)
 (.tmp 3)))],.o [.m 28 5,.m 4 28],.ret]) .skip]),.o [.m 10 5,.bk 11 .add false 10 1,.m 5 11]]))],.o [.ki 4 0],.ret]
def zv_:LF:=⟨2,29,c81,[.tmp 4]⟩
theorem AI_:aC_ Tryz.prog Tryz.f81 zv_:=az_
theorem sB_{ents:List (Int×Nat×AV)}{n:Int}(h:(cP_ ents n).isSome=false):cP_ ents n=none:=by
 cases e:cP_ ents n with
 | none=>rfl
 | some v=>rw[e]at h;cases h
theorem kz_{H:List Row}{T M:Nat}{root:Int}{ents:List (Int×Nat×AV)}{ck:Nat}{st:a9_}(hT:H[T]?=some ⟨.ty 93,2,[[.val (.int .i64 root),.mp M]]⟩)(hM:H[M]?=some ⟨.pmap ents ck,0,[]⟩)(hTM:T≠M)(hst:∀id,(cP_ ents id).isSome=(st id).isSome)(a0 a1 a2 a3:AV)(hcc:[a0,a1,a2,a3].all AV.cell=true)(K:AV→List Row→Prop)
 (h0:aG_ st 64=0→K (.val (.int .i64 0)) (H++[⟨.ty 77,4,[[a0,a1,a2,a3]]⟩])) (h1:aG_ st 64≠0→K (.val (.int .i64 (aG_ st 64))) ((H++[(⟨.ty 77,4,[[a0,a1,a2,a3]]⟩:Row)]).set M ⟨.pmap (ents++[(aG_ st 64,ck,AV.ptr H.length 1 0 0)]) (ck+1),0,[]⟩)) :
 callSem Tryz.prog 81 [.ptr T 1 0 0,.agg [a0,a1,a2,a3]] H K:=by
 refine aO_ mixed Tryz.func81 AI_ (bA_ rfl ?_)
 have lT:=(List.getElem?_eq_some_iff.1 hT).1
 have lM:=(List.getElem?_eq_some_iff.1 hM).1
 simp(disch:=omega)only[zv_,c81,hcc,go_sem,seval]
 refine a4_ (fun n t H'=>∃k:Nat,t 0=.ptr T 1 0 0∧t 3=.ptr H.length 1 0 0∧t 5=.val (.int .i64 (64-(k:Int)+1))∧H'=H++[⟨.ty 77,4,[[a0,a1,a2,a3]]⟩]∧n=k∧k≤64∧aG_ st 64=aG_ st k) 64 ?_ ?_
 ·exact⟨64,rfl,rfl,rfl,rfl,rfl,Nat.le_refl _,rfl⟩
 ·rintro J hJ n t H' ⟨k,t0,t3,t5,rfl,rfl,hk,hS⟩
  cases n with
  | zero =>
   have q:(64-((0:Nat):Int)+1≤64)=False:=eq_false (by omega)
   simp(disch:=first|omega|simp only[lzz0_];first|done|omega)only[go_sem,seval,t5]
   exact h0 hS
  | succ k =>
   have q:(64-((k+1:Nat):Int)+1≤64)=True:=eq_true (by omega)
   have q2:64-((k+1:Nat):Int)+1=64-(k:Int):=by omega
   have hf:=hst (64-(k:Int))
   simp(disch:=first|omega|simp only[lzz0_];first|done|omega)only[ac_,go_sem,seval,t0,t5,q,hT,hM]
   rw[q2]
   cases hs:st (64-(k:Int))with
   | none =>
    rw[hs]at hf
    have hfn:=sB_ hf
    have hnew:aG_ st 64=64-(k:Int):=by rw[hS,aG_,if_pos hs]
    have hz:aG_ st 64≠0:=by rw[hnew];omega
    have e1:=n8_ (ck:=ck) (v:=.ptr H.length 1 0 0) hfn
    have e2:hK_ ents ck (64-(k:Int))=ck+1:=by simp[hK_,hfn]
    simp(disch:=first|omega|simp only[lzz0_];first|done|omega)only[ac_,go_sem,seval,t0,t3,t5,q2,hT,hM,hfn,e1,e2,Option.isSome_none]
    have:=h1 hz
    rw[hnew]at this
    exact this
   | some p =>
    rw[hs]at hf
    simp(disch:=first|omega|simp only[lzz0_];first|done|omega)only[go_sem,seval,t5,q2,hf,Option.isSome_some,aA_]
    exact⟨k,by omega,hJ _ _ _ ⟨k,by simp[upd,t0],by simp[upd,t3],by simp[upd],rfl,rfl,by omega,by rw[hS,aG_,if_neg (by rw[hs];simp)]⟩⟩
theorem aI_.back{H:List Row}{E l:Nat}{α:Type}{f:α→List AV}{xs:List α}{pre post:List (List AV)}(n m:Nat)(hm:xs.length=m)(hn:n≤m)(h:H[l]?=some ⟨.ty E,1,pre++(xs.map f++post)⟩):aI_ H E 1 (.sub l (pre.length+(m+post.length)) (pre.length+n) (pre.length+m)) l ((xs.drop n).map f):=by
 subst hm
 refine⟨pre++(xs.take n).map f,post,?_,?_⟩
 ·simp only[la_,length_map,length_take,length_drop]
  congr 1<;>omega
 ·rw[append_assoc,←append_assoc ((xs.take n).map f),←map_append,take_append_drop];exact h
theorem zO_{S S':Sit}(hle:S.le S'){p a b c n:AV}(hn:Rep S' n (.slice none 0 0)){xs:List Value}(h:ae_ S [p,.agg [a,b,c,.val (.slice none 0 0)]] xs):ae_ S' [p,.agg [a,b,c,n]] xs:=by
 simp only[ae_]at h⊢
 obtain⟨v,r,e,h1,v2,r2,e2,h2,h3⟩:=h
 refine⟨v,r,e,Rep.up hle _ _ h1,v2,r2,e2,?_,h3⟩
 simp only[Rep,ae_]at h2⊢
 obtain⟨vs,e4,w1,q1,e5,g1,w2,q2,e6,g2,w3,q3,e7,g3,w4,q4,e8,g4,g5⟩:=h2
 subst g4
 exact⟨vs,e4,w1,q1,e5,Rep.up hle _ _ g1,w2,q2,e6,Rep.up hle _ _ g2,w3,q3,e7,Rep.up hle _ _ g3,_,q4,e8,hn,g5⟩
theorem t5_{S S':Sit}(hle:S.le S'){p a b c n:AV}(hn:Rep S' n (.slice none 0 0)){xs:List Value}(h:ae_ S [p,.agg [a,b,.val (.slice none 0 0),c]] xs):ae_ S' [p,.agg [a,b,n,c]] xs:=by
 simp only[ae_]at h⊢
 obtain⟨v,r,e,h1,v2,r2,e2,h2,h3⟩:=h
 refine⟨v,r,e,Rep.up hle _ _ h1,v2,r2,e2,?_,h3⟩
 simp only[Rep,ae_]at h2⊢
 obtain⟨vs,e4,w1,q1,e5,g1,w2,q2,e6,g2,w3,q3,e7,g3,w4,q4,e8,g4,g5⟩:=h2
 subst g3
 exact⟨vs,e4,w1,q1,e5,Rep.up hle _ _ g1,w2,q2,e6,Rep.up hle _ _ g2,_,q3,e7,hn,w4,q4,e8,Rep.up hle _ _ g4,g5⟩
theorem callSem.at{P:Program}{f:FuncId}{args:List AV}{h:List Row}{K:AV→List Row→Prop}(c:∀H,H=h→callSem P f args H K):callSem P f args h K:=c h rfl
theorem PgS.isSome{H:List Row}{T M:Nat}{root:Int}{B:List PB}{ents:List (Int×Nat×AV)}{ck lo:Nat}{sl:List ad_}(g:Pg H T M root B ents ck lo)(hs:∀id,aa_ (B.map PB.slot) id=aa_ sl id)(id:Int):(cP_ ents id).isSome=(aa_ sl id).isSome:=by
 rw[g.find,←hs,c4_]
 cases B.find? fun x=>x.id==id<;>rfl
theorem hi_{H Hy:List Row}{T M:Nat}{root:Int}{B1 B2:List PB}{x:PB}{lo mx:Nat}{sl:List ad_}(g:PgS H T M root (B1++x::B2) lo mx sl)(ok:cr_ sl){p' right:ap_}(hmx:7≤mx){r1 r2 r3:Nat}{b1 b2 b3:AV}
 (hlen:H.length≤Hy.length) (kept:∀l,l<H.length→l≠x.b→Hy[l]?=H[l]?) (hp:fZ_ Hy x.b p' x.k x.v x.d) (h1:aI_ Hy 9 1 b1 r1 (right.Keys.map ak_)) (h2:aI_ Hy 9 1 b2 r2 (right.Vals.map ak_)) (h3:aI_ Hy 2 1 b3 r3 (right.Kids.map aK_))
 (hr:H.length≤r1∧H.length≤r2∧H.length≤r3∧r1≠r2∧r1≠r3∧r2≠r3) (hlim:Lim Hy [r1,r2,r3] mx) (K:AV→List Row→Prop)
 (hK:∀H' B',cl_ T M H (B1++x::B2) H' B'→PgS H' T M root B' lo mx (if aG_ (aa_ sl) 64=0 then aq_ ⟨x.id,p'⟩ false sl else aq_ ⟨aG_ (aa_ sl) 64,right⟩ false (aq_ ⟨x.id,p'⟩ false sl))→K (.val (.int .i64 (aG_ (aa_ sl) 64))) H') :
 callSem Tryz.prog 81 [.ptr T 1 0 0,.agg [.val (.bool right.Leaf),b1,b2,b3]] Hy K:=by
 obtain⟨ents0,ck0,g0⟩:=g.pg
 have hxB:x∈B1++x::B2:=by simp
 have hone:(PB.all T M (B1++x::B2)).Nodup:=g0.one
 rw[(bY_ T M B1 B2 x).nodup_iff,nodup_append]at hone
 have hxn:=hone.1
 have hfoot:∀l∈x.foot,l<H.length∧lo≤l:=fun l hl=>by
  have:=g0.lows l (Pg.mem_foot hxB hl);omega
 have hnb:x.k≠x.b∧x.v≠x.b∧x.d≠x.b:=by
  simp only[PB.foot,nodup_cons,mem_cons,not_or]at hxn
  obtain⟨⟨e1,e2,e3,_⟩,_⟩:=hxn
  exact⟨Ne.symm e1,Ne.symm e2,Ne.symm e3⟩
 have hbox1:∀r,Hy[x.b]?=some r→r.es.length=1:=fun r hq=>by
  obtain⟨_,_,_,o1,_⟩:=hp
  rw[o1]at hq
  obtain rfl:=Option.some.inj hq
  rfl
 obtain⟨gu,hgo⟩:=g.upd (H':=Hy) (x':=⟨x.id,p',x.b,x.k,x.v,x.d⟩) (mx':=mx) ok.rise rfl rfl (fun l hl hn=>kept l hl (fun e=>hn (by rw[e];simp[PB.foot]))) hlen (fun l hl=>.inl hl) hxn hp (Nat.le_refl _) (by
  intro l hl r hq
  have hl':l∈x.foot:=hl
  by_cases e:l=x.b
  ·subst e;have:=hbox1 r hq;omega
  ·rw[kept l (hfoot l hl').1 e]at hq
   exact g.lim l (Pg.mem_foot hxB hl') r hq)
 have hxs:aa_ sl x.id=some x.pg:=g.box hxB
 have hnew:aG_ (aa_ (aq_ ⟨x.id,p'⟩ false sl)) 64=aG_ (aa_ sl) 64:=mS_ (fun id=>by
  rw[be_ ok.rise]
  split
  ·rename_i e;rw[←e,hxs];rfl
  ·rfl) 64
 obtain⟨ents,ck,gx⟩:=gu.pg
 have hTM:T≠M:=by
  intro e
  have:=(nodup_cons.1 gx.one).1
  exact this (by simp[e])
 have hall:PB.all T M (B1++(⟨x.id,p',x.b,x.k,x.v,x.d⟩:PB)::B2)=PB.all T M (B1++x::B2):=by simp[PB.all,PB.foot]
 have hlow:∀l∈PB.all T M (B1++x::B2),l<H.length:=fun l hl=>(g0.lows l hl).2
 have hlo:lo≤H.length:=by have:=g0.lows T (by simp);omega
 obtain⟨e1,e2,e3,e4,e5,e6⟩:=hr
 have l1:=h1.lt
 have l2:=h2.lt
 have l3:=h3.lt
 refine kz_ (st:=aa_ (aq_ ⟨x.id,p'⟩ false sl)) gx.box gx.map hTM (PgS.isSome gx gu.same) _ _ _ _ (by simp only[all_cons,all_nil,Bool.and_true,h1.cell,h2.cell,h3.cell];rfl) K (fun hz=>?_) (fun hz=>?_)
 ·rw[hnew]at hz
  have:=hK (Hy++[⟨.ty 77,4,[[.val (.bool right.Leaf),b1,b2,b3]]⟩]) _ (hgo.trans (cl_.more (bu_.app _ _))) (by rw[if_pos hz];exact gu.more (bu_.app _ _))
  rw[hz]at this
  exact this
 ·rw[hnew]at hz⊢
  rcases ei_ (st:=aa_ sl) 64 (Nat.le_refl _)with q|⟨q1,q2,q3⟩
  ·exact absurd q hz
  have hMl:M<Hy.length:=(gx.lows M (by simp)).2
  have hMn:M<H.length:=hlow M (by simp[PB.all])
  have hke:∀(r r':Row) (l:Nat),l<Hy.length→l≠M→((Hy++[r]).set M r')[l]?=Hy[l]?:=fun r r' l hl hne=>by
   rw[getElem?_set_ne (Ne.symm hne),getElem?_append_left hl]
  have hbn:∀(r r':Row),((Hy++[r]).set M r')[Hy.length]?=some r:=fun r r'=>by
   rw[getElem?_set_ne (by omega),getElem?_append_right (Nat.le_refl _),Nat.sub_self];rfl
  have hns:aa_ (aq_ ⟨x.id,p'⟩ false sl) (aG_ (aa_ sl) 64)=none:=by
   rw[be_ ok.rise]
   split
   ·rename_i e
    have e':x.id=aG_ (aa_ sl) 64:=e
    rw[←e',hxs]at q3;cases q3
   ·exact q3
  have ga:=gu.add (H':=((Hy++([⟨.ty 77,4,[[.val (.bool right.Leaf),b1,b2,b3]]⟩]:List Row)).set M ⟨.pmap (ents++[(aG_ (aa_ sl) 64,ck,AV.ptr Hy.length 1 0 0)]) (ck+1),0,[]⟩)) (x:=⟨aG_ (aa_ sl) 64,right,Hy.length,r1,r2,r3⟩) (mx':=mx) (hG_ ok.rise) hns (fun l hl hne=>hke _ _ l hl hne) (by simp) (by
   intro l hl
   rw[hall]
   simp only[PB.foot,mem_cons,not_mem_nil,or_false]at hl
   have hb:H.length≤l∧l≤Hy.length:=by omega
   refine⟨by omega,by simp only[ls_,la_,lc_,ln_];omega,fun hm=>?_⟩
   have:=hlow l hm
   omega) (by simp only[PB.foot,nodup_cons,mem_cons,not_mem_nil,or_false,not_or,nodup_nil,and_true,not_false_eq_true];omega)
   ⟨b1,b2,b3,hbn _ _,h1.keep (hke _ _ _ l1 (by omega)),h2.keep (hke _ _ _ l2 (by omega)),h3.keep (hke _ _ _ l3 (by omega))⟩ (by
    intro ents' ck' hm
    rw[gx.map]at hm
    have hm:=Option.some.inj hm
    simp only[Row.mk.injEq,Tag.pmap.injEq,and_true]at hm
    obtain⟨rfl,rfl⟩:=hm
    exact getElem?_set_self (by simp;omega)) (Nat.le_refl _) (by
    intro l hl r hq
    simp only[PB.foot,mem_cons,not_mem_nil,or_false]at hl
    rcases hl with rfl|hl
    ·rw[hbn]at hq
     obtain rfl:=Option.some.inj hq
     show 1≤mx
     omega
    ·have hl2:l∈[r1,r2,r3]:=by simpa using hl
     rw[hke _ _ l (by omega) (by omega)]at hq
     exact hlim l hl2 r hq)
  refine hK _ _ (cl_.add (x:=⟨aG_ (aa_ sl) 64,right,Hy.length,r1,r2,r3⟩) hgo (fun l hl hne=>hke _ _ l hl hne) (by simp) (by
   intro l hl
   simp only[PB.foot,mem_cons,not_mem_nil,or_false]at hl
   omega)) ?_
  rw[if_neg hz]
  exact ga
def uw_:LC :=
 .q [.o [.s 4 (.mov (.const (.string ⟨#[]⟩))),.ki 5 0],.o [.m 8 1,.nc 9 8,.fa 10 0 9,.ln 11 10,.s 12 (.build z1z [(0,1),(1,1),(2,1),(3,1)] [(0,.tmp 11)]),.s 6 (.alloc 77 z1z),.st 4 6 12],.o [.s 7 (.mov
 (.const (.string ⟨#[]⟩)))],.q [.o [.m 13 1,.nc 14 13,.fa 15 0 14,.ln 16 15],.k 16 (.q [.o [.m 17 1,.nc 18 17,.fa 19 1 18,.ln 20 19,.s 21 (.indexAddr 1 (.tmp 20) (.const (.int .i64 3))),.ln 22 21,.m 7 22],
 .alts [([.m 23 1,.nc 24 23,.fa 25 1 24,.ln 26 25,.s 27 (.sliceSl 1 (.tmp 26) (some (.const (.int .i64 3))) none),.m 29 1,.nc 30 29,.fa 31 2 30,.ln 32 31,.s 33 (.sliceSl 1 (.tmp 32) (some (.const (.int .i64 3)))
 none)],[(.c1 28 130 27,[.m 29 1,.nc 30 29,.fa 31 2 30,.ln 32 31,.s 33 (.sliceSl 1 (.tmp 32) (some (.const (.int .i64 3))) none)]),(.c1 34 130 33,[]),(.fa 35 1 6,[]),(.st 1 35 28,[]),(.fa 36 2 6,[]),(.st 1
 36 34,[])]),([.m 23 1,.nc 24 23,.fa 25 1 24,.ln 26 25,.s 27 (.sliceSl 1 (.tmp 26) (some (.const (.int .i64 3))) none),.m 29 1,.nc 30 29,.fa 31 2 30,.ln 32 31,.s 33 (.sliceSl 1 (.tmp 32) (some (.const (.int
 .i64 3))) none)],[(.c1 28 130 27,[.m 29 1,.nc 30 29,.fa 31 2 30,.ln 32 31,.s 33 (.sliceSl 1 (.tmp 32) (some (.const (.int .i64 3))) none)]),(.fa 35 1 6,[.m 29 1,.nc 30 29,.fa 31 2 30,.ln 32 31,.s 33 (.sliceSl
 1 (.tmp 32) (some (.const (.int .i64 3))) none)]),(.c1 34 130 33,[]),(.st 1 35 28,[]),(.fa 36 2 6,[]),(.st 1 36 34,[])])],.gops [.m 37 1,.m 38 1,.m 39 1,.nc 40 39,.fa 41 1 40,.ln 42 41,.s 43 (.sliceSl 1
 (.tmp 42) none (some (.const (.int .i64 3)))),.m 44 1,.nc 45 44,.fa 46 2 45,.ln 47 46,.s 48 (.sliceSl 1 (.tmp 47) none (some (.const (.int .i64 3)))),.nc 49 37,.fa 50 1 49] [(.st 1 50 43,[.m 38 1,.s 48 (.sliceSl
 1 (.tmp 47) none (some (.const (.int .i64 3))))]),(.nc 51 38,[]),(.fa 52 2 51,[]),(.st 1 52 48,[])]]) (.q [.o [.m 53 1,.nc 54 53,.fa 55 1 54,.ln 56 55,.s 57 (.indexAddr 1 (.tmp 56) (.const (.int .i64 2))),.ln
 58 57,.m 7 58],.alts [([.m 59 1,.nc 60 59,.fa 61 1 60,.ln 62 61,.s 63 (.sliceSl 1 (.tmp 62) (some (.const (.int .i64 3))) none),.m 65 1,.nc 66 65,.fa 67 3 66,.ln 68 67,.s 69 (.sliceSl 1 (.tmp 68) (some (.const
 (.int .i64 3))) none)],[(.c1 64 130 63,[.m 65 1,.nc 66 65,.fa 67 3 66,.ln 68 67,.s 69 (.sliceSl 1 (.tmp 68) (some (.const (.int .i64 3))) none)]),(.c1 70 131 69,[]),(.fa 71 1 6,[]),(.st 1 71 64,[]),(.fa 72 3
 6,[]),(.st 1 72 70,[])]),([.m 59 1,.nc 60 59,.fa 61 1 60,.ln 62 61,.s 63 (.sliceSl 1 (.tmp 62) (some (.const (.int .i64 3))) none),.m 65 1,.nc 66 65,.fa 67 3 66,.ln 68 67,.s 69 (.sliceSl 1 (.tmp 68) (some
 (.const (.int .i64 3))) none)],[(.c1 64 130 63,[.m 65 1,.nc 66 65,.fa 67 3 66,.ln 68 67,.s 69 (.sliceSl 1 (.tmp 68) (some (.const (.int .i64 3))) none)]),(.fa 71 1 6,[.m 65 1,.nc 66 65,.fa 67 3 66,.ln 68 67,
 .s 69 (.sliceSl 1 (.tmp 68) (some (.const (.int .i64 3))) none)]),(.c1 70 131 69,[]),(.st 1 71 64,[]),(.fa 72 3 6,[]),(.st 1 72 70,[])])],.gops [.m 73 1,.m 74 1,.m 75 1,.nc 76 75,.fa 77 1 76,.ln 78 77,.s
 79 (.sliceSl 1 (.tmp 78) none (some (.const (.int .i64 2)))),.m 80 1,.nc 81 80,.fa 82 3 81,.ln 83 82,.s 84 (.sliceSl 1 (.tmp 83) none (some (.const (.int .i64 3)))),.nc 85 73,.fa 86 1 85] [(.st 1 86 79,[.m 74 1,
 .s 84 (.sliceSl 1 (.tmp 83) none (some (.const (.int .i64 3))))]),(.nc 87 74,[]),(.fa 88 3 87,[]),(.st 1 88 84,[])]])],.o [.m 89 7,.m 90 0,.ld 91 4 6,.c2 92 81 90 91,.m 4 89,.m 5 92],.ret]
def sy_:LF:=⟨2,93,uw_,[.tmp 4,.tmp 5]⟩
theorem tg_:aC_ Tryz.prog Tryz.f135 sy_:=az_
theorem f8_{H:List Row}{T M:Nat}{root:Int}{B1 B2:List PB}{x:PB}{lo mx:Nat}{sl:List ad_}(g:PgS H T M root (B1++x::B2) lo mx sl)(ok:cr_ sl)(hmx:7≤mx)(hl:x.pg.Leaf=true)(h7:x.pg.Keys.length=7)(h7v:x.pg.Vals.length=7)(hkd:x.pg.Kids=[])(K:AV→List Row→Prop)
 (hK:∀H' B',cl_ T M H (B1++x::B2) H' B'→PgS H' T M root B' lo mx (if aG_ (aa_ sl) 64=0 then aq_ ⟨x.id,(aF_ x.pg).1⟩ false sl else aq_ ⟨aG_ (aa_ sl) 64,(aF_ x.pg).2.1⟩ false (aq_ ⟨x.id,(aF_ x.pg).1⟩ false sl))→K (.tup [.val (.string (aF_ x.pg).2.2),.val (.int .i64 (aG_ (aa_ sl) 64))]) H') :
 callSem Tryz.prog 135 [.ptr T 1 0 0,.ptr x.b 1 0 0] H K:=by
 have hxB:x∈B1++x::B2:=by simp
 obtain⟨ents0,ck0,g0⟩:=g.pg
 have hT:=(g0.lows T (by simp)).2
 have hlowx:∀l∈x.foot,l<H.length:=fun l hl=>(g0.lows l (Pg.mem_foot hxB hl)).2
 have hone:(PB.all T M (B1++x::B2)).Nodup:=g0.one
 rw[(bY_ T M B1 B2 x).nodup_iff,nodup_append]at hone
 have hxn:=hone.1
 simp only[PB.foot,nodup_cons,mem_cons,not_or,not_mem_nil,not_false_eq_true,and_true,nodup_nil]at hxn
 obtain⟨⟨nk,nv,nd⟩,⟨nkv,nkd⟩,nvd⟩:=hxn
 obtain⟨a1,a2,a3,o1,p1,p2,p3⟩:=g0.pgs x hxB
 have lk:=p1.lt
 have lv:=p2.lt
 have ld:=p3.lt
 obtain⟨pre1,post1,rfl,e1⟩:=p1
 obtain⟨pre2,post2,rfl,e2⟩:=p2
 have lb:=(List.getElem?_eq_some_iff.1 o1).1
 have z1:pre1.length+7-pre1.length=7:=by omega
 have z2:pre2.length+7-pre2.length=7:=by omega
 have c1:((pre1.length:Int)+3<((pre1.length+7:Nat):Int))=True:=eq_true (by omega)
 have e3:aF_ x.pg=(⟨true,x.pg.Keys.take 3,x.pg.Vals.take 3,[]⟩,⟨true,x.pg.Keys.drop 3,x.pg.Vals.drop 3,[]⟩,x.pg.Keys.getD 3 ⟨#[]⟩):=by rw[aF_,if_pos hl]
 rw[e3]at hK
 simp only at hK
 have hc3:a3.cell=true:=p3.cell
 have h4:(x.pg.Keys.drop 3).length=4:=by rw[length_drop,h7]
 have h4v:(x.pg.Vals.drop 3).length=4:=by rw[length_drop,h7v]
 refine aO_ mixed Tryz.func135 tg_ (bA_ rfl ?_)
 have g1:(pre1++(x.pg.Keys.map ak_++post1))[pre1.length+3]?=some (ak_ (x.pg.Keys.getD 3 ⟨#[]⟩)):=by rw[dQ_ _ _ _ _ (by simp;omega)];simp[h7]
 simp(disch:=omega)only[sy_,uw_,o1,hl,co_,go_sem,seval]
 simp(disch:=first|omega|simp only[lzz0_];first|done|omega)only[ac_,go_sem,seval,o1,e1,e2,hl,h7,h7v,z1,z2,c1,g1]
 refine⟨?_,?_⟩
 ·refine bE_ (x.pg.Keys.drop 3) (by rw[length_drop];omega) _ _ x.k (aI_.keep (aI_.back 3 7 h7 (by omega) e1) (ac_ lk)) _ ?_
  rw[h4]
  simp(disch:=first|omega|simp only[lzz0_];first|done|omega)only[ac_,go_sem,seval,o1,e2,hl,h7,h7v,z2]
  refine bE_ (x.pg.Vals.drop 3) (by rw[length_drop];omega) _ _ x.v (aI_.keep (aI_.back 3 7 h7v (by omega) e2) (by(simp(disch:=(first|omega|(simp only[ls_,la_,lc_,ln_];omega)))only[ac_]))) _ ?_
  rw[h4v]
  simp(disch:=first|omega|simp only[lzz0_];first|done|omega)only[al_,ao_,ac_,ar_,go_sem,seval,o1,e1,e2,hl,h7,h7v]
  refine callSem.at fun Hx hHx=>?_
  have len:Hx.length=H.length+3:=by rw[hHx];simp
  have kept:∀l,l<H.length→l≠x.b→Hx[l]?=H[l]?:=fun l q1 q2=>by rw[hHx];(simp(disch:=(first|omega|(simp only[ls_,la_,lc_,ln_];omega)))only[al_,ac_])
  have bx:Hx[x.b]?=some ⟨.ty 77,4,[[.val (.bool true),.sub x.k (pre1.length+(7+post1.length)) pre1.length (pre1.length+3),.sub x.v (pre2.length+(7+post2.length)) pre2.length (pre2.length+3),a3]]⟩:=by rw[hHx];(simp(disch:=(first|omega|(simp only[ls_,la_,lc_,ln_];omega)))only[ao_])
  have rk:Hx[H.length+1]?=some ⟨.ty 9,1,(x.pg.Keys.drop 3).map ak_⟩:=by rw[hHx];(simp(disch:=(first|omega|(simp only[ls_,la_,lc_,ln_];omega)))only[al_,a1_])
  have rv:Hx[H.length+2]?=some ⟨.ty 9,1,(x.pg.Vals.drop 3).map ak_⟩:=by rw[hHx];(simp(disch:=(first|omega|(simp only[ls_,la_,lc_,ln_];omega)))only[al_,bD_])
  clear hHx
  refine callSem.nilrow 2 1 (fun S S' xs le hn hr=>zO_ le hn hr) ?_
  have ol:∀(r:Row) l,l<Hx.length→(Hx++[r])[l]?=Hx[l]?:=fun r l q=>getElem?_append_left q
  refine hi_ g ok (p':=⟨true,x.pg.Keys.take 3,x.pg.Vals.take 3,[]⟩) (right:=⟨true,x.pg.Keys.drop 3,x.pg.Vals.drop 3,[]⟩) hmx (r1:=H.length+1) (r2:=H.length+2) (r3:=Hx.length) (by simp;omega) (fun l q1 q2=>(ol _ l (by omega)).trans (kept l q1 q2))
   ⟨_,_,_,(ol _ _ (by omega)).trans bx,aI_.keep (aI_.cut 3 7 h7 (by omega) e1) ((ol _ _ (by omega)).trans (kept _ lk (Ne.symm nk))),aI_.keep (aI_.cut 3 7 h7v (by omega) e2) ((ol _ _ (by omega)).trans (kept _ lv (Ne.symm nv))),aI_.keep (by rw[hkd]at p3;exact p3) ((ol _ _ (by omega)).trans (kept _ ld (Ne.symm nd)))⟩
   (aI_.all h4 ((ol _ _ (by omega)).trans rk)) (aI_.all h4v ((ol _ _ (by omega)).trans rv)) (aI_.all (f:=aK_) (xs:=[]) rfl (by rw[getElem?_append_right (Nat.le_refl _),Nat.sub_self];rfl)) (by omega) ?_ _ ?_
  ·intro l hl2 r hq
   simp only[mem_cons,not_mem_nil,or_false]at hl2
   rcases hl2 with rfl|rfl|rfl
   ·rw[(ol _ _ (by omega)).trans rk]at hq
    obtain rfl:=Option.some.inj hq
    rw[length_map,h4];omega
   ·rw[(ol _ _ (by omega)).trans rv]at hq
    obtain rfl:=Option.some.inj hq
    rw[length_map,h4v];omega
   ·rw[getElem?_append_right (Nat.le_refl _),Nat.sub_self]at hq
    obtain rfl:=Option.some.inj hq
    exact Nat.zero_le _
  ·intro H' B' hgo hpg
   simp(disch:=first|omega|simp only[lzz0_];first|done|omega)only[go_sem,seval]
   exact hK H' B' hgo hpg
 ·refine bE_ (x.pg.Keys.drop 3) (by rw[length_drop];omega) _ _ x.k (aI_.keep (aI_.back 3 7 h7 (by omega) e1) (ac_ lk)) _ ?_
  rw[h4]
  simp(disch:=first|omega|simp only[lzz0_];first|done|omega)only[ac_,ar_,go_sem,seval,o1,e2,hl,h7,h7v,z2]
  refine bE_ (x.pg.Vals.drop 3) (by rw[length_drop];omega) _ _ x.v (aI_.keep (aI_.back 3 7 h7v (by omega) e2) (by(simp(disch:=(first|omega|(simp only[ls_,la_,lc_,ln_];omega)))only[ac_]))) _ ?_
  rw[h4v]
  simp(disch:=first|omega|simp only[lzz0_];first|done|omega)only[al_,ao_,ac_,ar_,go_sem,seval,o1,e1,e2,hl,h7,h7v]
  refine callSem.at fun Hx hHx=>?_
  have len:Hx.length=H.length+3:=by rw[hHx];simp
  have kept:∀l,l<H.length→l≠x.b→Hx[l]?=H[l]?:=fun l q1 q2=>by rw[hHx];(simp(disch:=(first|omega|(simp only[ls_,la_,lc_,ln_];omega)))only[al_,ac_])
  have bx:Hx[x.b]?=some ⟨.ty 77,4,[[.val (.bool true),.sub x.k (pre1.length+(7+post1.length)) pre1.length (pre1.length+3),.sub x.v (pre2.length+(7+post2.length)) pre2.length (pre2.length+3),a3]]⟩:=by rw[hHx];(simp(disch:=(first|omega|(simp only[ls_,la_,lc_,ln_];omega)))only[ao_])
  have rk:Hx[H.length+1]?=some ⟨.ty 9,1,(x.pg.Keys.drop 3).map ak_⟩:=by rw[hHx];(simp(disch:=(first|omega|(simp only[ls_,la_,lc_,ln_];omega)))only[al_,a1_])
  have rv:Hx[H.length+2]?=some ⟨.ty 9,1,(x.pg.Vals.drop 3).map ak_⟩:=by rw[hHx];(simp(disch:=(first|omega|(simp only[ls_,la_,lc_,ln_];omega)))only[al_,bD_])
  clear hHx
  refine callSem.nilrow 2 1 (fun S S' xs le hn hr=>zO_ le hn hr) ?_
  have ol:∀(r:Row) l,l<Hx.length→(Hx++[r])[l]?=Hx[l]?:=fun r l q=>getElem?_append_left q
  refine hi_ g ok (p':=⟨true,x.pg.Keys.take 3,x.pg.Vals.take 3,[]⟩) (right:=⟨true,x.pg.Keys.drop 3,x.pg.Vals.drop 3,[]⟩) hmx (r1:=H.length+1) (r2:=H.length+2) (r3:=Hx.length) (by simp;omega) (fun l q1 q2=>(ol _ l (by omega)).trans (kept l q1 q2))
   ⟨_,_,_,(ol _ _ (by omega)).trans bx,aI_.keep (aI_.cut 3 7 h7 (by omega) e1) ((ol _ _ (by omega)).trans (kept _ lk (Ne.symm nk))),aI_.keep (aI_.cut 3 7 h7v (by omega) e2) ((ol _ _ (by omega)).trans (kept _ lv (Ne.symm nv))),aI_.keep (by rw[hkd]at p3;exact p3) ((ol _ _ (by omega)).trans (kept _ ld (Ne.symm nd)))⟩
   (aI_.all h4 ((ol _ _ (by omega)).trans rk)) (aI_.all h4v ((ol _ _ (by omega)).trans rv)) (aI_.all (f:=aK_) (xs:=[]) rfl (by rw[getElem?_append_right (Nat.le_refl _),Nat.sub_self];rfl)) (by omega) ?_ _ ?_
  ·intro l hl2 r hq
   simp only[mem_cons,not_mem_nil,or_false]at hl2
   rcases hl2 with rfl|rfl|rfl
   ·rw[(ol _ _ (by omega)).trans rk]at hq
    obtain rfl:=Option.some.inj hq
    rw[length_map,h4];omega
   ·rw[(ol _ _ (by omega)).trans rv]at hq
    obtain rfl:=Option.some.inj hq
    rw[length_map,h4v];omega
   ·rw[getElem?_append_right (Nat.le_refl _),Nat.sub_self]at hq
    obtain rfl:=Option.some.inj hq
    exact Nat.zero_le _
  ·intro H' B' hgo hpg
   simp(disch:=first|omega|simp only[lzz0_];first|done|omega)only[go_sem,seval]
   exact hK H' B' hgo hpg
theorem fU_{H:List Row}{T M:Nat}{root:Int}{B1 B2:List PB}{x:PB}{lo mx:Nat}{sl:List ad_}(g:PgS H T M root (B1++x::B2) lo mx sl)(ok:cr_ sl)(hmx:7≤mx)(hl:x.pg.Leaf=false)(h7:x.pg.Keys.length=6)(h7v:x.pg.Kids.length=7)(hkd:x.pg.Vals=[])(K:AV→List Row→Prop)
 (hK:∀H' B',cl_ T M H (B1++x::B2) H' B'→PgS H' T M root B' lo mx (if aG_ (aa_ sl) 64=0 then aq_ ⟨x.id,(aF_ x.pg).1⟩ false sl else aq_ ⟨aG_ (aa_ sl) 64,(aF_ x.pg).2.1⟩ false (aq_ ⟨x.id,(aF_ x.pg).1⟩ false sl))→K (.tup [.val (.string (aF_ x.pg).2.2),.val (.int .i64 (aG_ (aa_ sl) 64))]) H') :
 callSem Tryz.prog 135 [.ptr T 1 0 0,.ptr x.b 1 0 0] H K:=by
 have hxB:x∈B1++x::B2:=by simp
 obtain⟨ents0,ck0,g0⟩:=g.pg
 have hT:=(g0.lows T (by simp)).2
 have hlowx:∀l∈x.foot,l<H.length:=fun l hl=>(g0.lows l (Pg.mem_foot hxB hl)).2
 have hone:(PB.all T M (B1++x::B2)).Nodup:=g0.one
 rw[(bY_ T M B1 B2 x).nodup_iff,nodup_append]at hone
 have hxn:=hone.1
 simp only[PB.foot,nodup_cons,mem_cons,not_or,not_mem_nil,not_false_eq_true,and_true,nodup_nil]at hxn
 obtain⟨⟨nk,nv,nd⟩,⟨nkv,nkd⟩,nvd⟩:=hxn
 obtain⟨a1,a2,a3,o1,p1,p2,p3⟩:=g0.pgs x hxB
 have lk:=p1.lt
 have lv:=p2.lt
 have ld:=p3.lt
 obtain⟨pre1,post1,rfl,e1⟩:=p1
 obtain⟨pre2,post2,rfl,e2⟩:=p3
 have lb:=(List.getElem?_eq_some_iff.1 o1).1
 have z1:pre1.length+6-pre1.length=6:=by omega
 have z2:pre2.length+7-pre2.length=7:=by omega
 have c1:((pre1.length:Int)+2<((pre1.length+6:Nat):Int))=True:=eq_true (by omega)
 have e3:aF_ x.pg=(⟨false,x.pg.Keys.take 2,[],x.pg.Kids.take 3⟩,⟨false,x.pg.Keys.drop 3,[],x.pg.Kids.drop 3⟩,x.pg.Keys.getD 2 ⟨#[]⟩):=by rw[aF_,if_neg (by rw[hl];simp)]
 rw[e3]at hK
 simp only at hK
 have hc3:a2.cell=true:=p2.cell
 have h4:(x.pg.Keys.drop 3).length=3:=by rw[length_drop,h7]
 have h4v:(x.pg.Kids.drop 3).length=4:=by rw[length_drop,h7v]
 refine aO_ mixed Tryz.func135 tg_ (bA_ rfl ?_)
 have g1:(pre1++(x.pg.Keys.map ak_++post1))[pre1.length+2]?=some (ak_ (x.pg.Keys.getD 2 ⟨#[]⟩)):=by rw[dQ_ _ _ _ _ (by simp;omega)];simp[h7]
 simp(disch:=omega)only[sy_,uw_,o1,hl,co_,go_sem,seval]
 simp(disch:=first|omega|simp only[lzz0_];first|done|omega)only[ac_,go_sem,seval,o1,e1,e2,hl,h7,h7v,z1,z2,c1,g1]
 refine⟨?_,?_⟩
 ·refine bE_ (x.pg.Keys.drop 3) (by rw[length_drop];omega) _ _ x.k (aI_.keep (aI_.back 3 6 h7 (by omega) e1) (ac_ lk)) _ ?_
  rw[h4]
  simp(disch:=first|omega|simp only[lzz0_];first|done|omega)only[ac_,go_sem,seval,o1,e2,hl,h7,h7v,z2]
  refine eu_ (x.pg.Kids.drop 3) (by rw[length_drop];omega) _ _ x.d (aI_.keep (aI_.back 3 7 h7v (by omega) e2) (by(simp(disch:=(first|omega|(simp only[ls_,la_,lc_,ln_];omega)))only[ac_]))) _ ?_
  rw[h4v]
  simp(disch:=first|omega|simp only[lzz0_];first|done|omega)only[al_,ao_,ac_,ar_,go_sem,seval,o1,e1,e2,hl,h7,h7v]
  refine callSem.at fun Hx hHx=>?_
  have len:Hx.length=H.length+3:=by rw[hHx];simp
  have kept:∀l,l<H.length→l≠x.b→Hx[l]?=H[l]?:=fun l q1 q2=>by rw[hHx];(simp(disch:=(first|omega|(simp only[ls_,la_,lc_,ln_];omega)))only[al_,ac_])
  have bx:Hx[x.b]?=some ⟨.ty 77,4,[[.val (.bool false),.sub x.k (pre1.length+(6+post1.length)) pre1.length (pre1.length+2),a2,.sub x.d (pre2.length+(7+post2.length)) pre2.length (pre2.length+3)]]⟩:=by rw[hHx];(simp(disch:=(first|omega|(simp only[ls_,la_,lc_,ln_];omega)))only[ao_])
  have rk:Hx[H.length+1]?=some ⟨.ty 9,1,(x.pg.Keys.drop 3).map ak_⟩:=by rw[hHx];(simp(disch:=(first|omega|(simp only[ls_,la_,lc_,ln_];omega)))only[al_,a1_])
  have rv:Hx[H.length+2]?=some ⟨.ty 2,1,(x.pg.Kids.drop 3).map aK_⟩:=by rw[hHx];(simp(disch:=(first|omega|(simp only[ls_,la_,lc_,ln_];omega)))only[al_,bD_])
  clear hHx
  refine callSem.nilrow 9 1 (fun S S' xs le hn hr=>t5_ le hn hr) ?_
  have ol:∀(r:Row) l,l<Hx.length→(Hx++[r])[l]?=Hx[l]?:=fun r l q=>getElem?_append_left q
  refine hi_ g ok (p':=⟨false,x.pg.Keys.take 2,[],x.pg.Kids.take 3⟩) (right:=⟨false,x.pg.Keys.drop 3,[],x.pg.Kids.drop 3⟩) hmx (r1:=H.length+1) (r2:=Hx.length) (r3:=H.length+2) (by simp;omega) (fun l q1 q2=>(ol _ l (by omega)).trans (kept l q1 q2))
   ⟨_,_,_,(ol _ _ (by omega)).trans bx,aI_.keep (aI_.cut 2 6 h7 (by omega) e1) ((ol _ _ (by omega)).trans (kept _ lk (Ne.symm nk))),aI_.keep (by rw[hkd]at p2;exact p2) ((ol _ _ (by omega)).trans (kept _ lv (Ne.symm nv))),aI_.keep (aI_.cut 3 7 h7v (by omega) e2) ((ol _ _ (by omega)).trans (kept _ ld (Ne.symm nd)))⟩
   (aI_.all h4 ((ol _ _ (by omega)).trans rk)) (aI_.all (f:=ak_) (xs:=[]) rfl (by rw[getElem?_append_right (Nat.le_refl _),Nat.sub_self];rfl)) (aI_.all h4v ((ol _ _ (by omega)).trans rv)) (by omega) ?_ _ ?_
  ·intro l hl2 r hq
   simp only[mem_cons,not_mem_nil,or_false]at hl2
   rcases hl2 with rfl|rfl|rfl
   ·rw[(ol _ _ (by omega)).trans rk]at hq
    obtain rfl:=Option.some.inj hq
    rw[length_map,h4];omega
   ·rw[getElem?_append_right (Nat.le_refl _),Nat.sub_self]at hq
    obtain rfl:=Option.some.inj hq
    exact Nat.zero_le _
   ·rw[(ol _ _ (by omega)).trans rv]at hq
    obtain rfl:=Option.some.inj hq
    rw[length_map,h4v];omega
  ·intro H' B' hgo hpg
   simp(disch:=first|omega|simp only[lzz0_];first|done|omega)only[go_sem,seval]
   exact hK H' B' hgo hpg
 ·refine bE_ (x.pg.Keys.drop 3) (by rw[length_drop];omega) _ _ x.k (aI_.keep (aI_.back 3 6 h7 (by omega) e1) (ac_ lk)) _ ?_
  rw[h4]
  simp(disch:=first|omega|simp only[lzz0_];first|done|omega)only[ac_,ar_,go_sem,seval,o1,e2,hl,h7,h7v,z2]
  refine eu_ (x.pg.Kids.drop 3) (by rw[length_drop];omega) _ _ x.d (aI_.keep (aI_.back 3 7 h7v (by omega) e2) (by(simp(disch:=(first|omega|(simp only[ls_,la_,lc_,ln_];omega)))only[ac_]))) _ ?_
  rw[h4v]
  simp(disch:=first|omega|simp only[lzz0_];first|done|omega)only[al_,ao_,ac_,ar_,go_sem,seval,o1,e1,e2,hl,h7,h7v]
  refine callSem.at fun Hx hHx=>?_
  have len:Hx.length=H.length+3:=by rw[hHx];simp
  have kept:∀l,l<H.length→l≠x.b→Hx[l]?=H[l]?:=fun l q1 q2=>by rw[hHx];(simp(disch:=(first|omega|(simp only[ls_,la_,lc_,ln_];omega)))only[al_,ac_])
  have bx:Hx[x.b]?=some ⟨.ty 77,4,[[.val (.bool false),.sub x.k (pre1.length+(6+post1.length)) pre1.length (pre1.length+2),a2,.sub x.d (pre2.length+(7+post2.length)) pre2.length (pre2.length+3)]]⟩:=by rw[hHx];(simp(disch:=(first|omega|(simp only[ls_,la_,lc_,ln_];omega)))only[ao_])
  have rk:Hx[H.length+1]?=some ⟨.ty 9,1,(x.pg.Keys.drop 3).map ak_⟩:=by rw[hHx];(simp(disch:=(first|omega|(simp only[ls_,la_,lc_,ln_];omega)))only[al_,a1_])
  have rv:Hx[H.length+2]?=some ⟨.ty 2,1,(x.pg.Kids.drop 3).map aK_⟩:=by rw[hHx];(simp(disch:=(first|omega|(simp only[ls_,la_,lc_,ln_];omega)))only[al_,bD_])
  clear hHx
  refine callSem.nilrow 9 1 (fun S S' xs le hn hr=>t5_ le hn hr) ?_
  have ol:∀(r:Row) l,l<Hx.length→(Hx++[r])[l]?=Hx[l]?:=fun r l q=>getElem?_append_left q
  refine hi_ g ok (p':=⟨false,x.pg.Keys.take 2,[],x.pg.Kids.take 3⟩) (right:=⟨false,x.pg.Keys.drop 3,[],x.pg.Kids.drop 3⟩) hmx (r1:=H.length+1) (r2:=Hx.length) (r3:=H.length+2) (by simp;omega) (fun l q1 q2=>(ol _ l (by omega)).trans (kept l q1 q2))
   ⟨_,_,_,(ol _ _ (by omega)).trans bx,aI_.keep (aI_.cut 2 6 h7 (by omega) e1) ((ol _ _ (by omega)).trans (kept _ lk (Ne.symm nk))),aI_.keep (by rw[hkd]at p2;exact p2) ((ol _ _ (by omega)).trans (kept _ lv (Ne.symm nv))),aI_.keep (aI_.cut 3 7 h7v (by omega) e2) ((ol _ _ (by omega)).trans (kept _ ld (Ne.symm nd)))⟩
   (aI_.all h4 ((ol _ _ (by omega)).trans rk)) (aI_.all (f:=ak_) (xs:=[]) rfl (by rw[getElem?_append_right (Nat.le_refl _),Nat.sub_self];rfl)) (aI_.all h4v ((ol _ _ (by omega)).trans rv)) (by omega) ?_ _ ?_
  ·intro l hl2 r hq
   simp only[mem_cons,not_mem_nil,or_false]at hl2
   rcases hl2 with rfl|rfl|rfl
   ·rw[(ol _ _ (by omega)).trans rk]at hq
    obtain rfl:=Option.some.inj hq
    rw[length_map,h4];omega
   ·rw[getElem?_append_right (Nat.le_refl _),Nat.sub_self]at hq
    obtain rfl:=Option.some.inj hq
    exact Nat.zero_le _
   ·rw[(ol _ _ (by omega)).trans rv]at hq
    obtain rfl:=Option.some.inj hq
    rw[length_map,h4v];omega
  ·intro H' B' hgo hpg
   simp(disch:=first|omega|simp only[lzz0_];first|done|omega)only[go_sem,seval]
   exact hK H' B' hgo hpg
theorem dp_{sl:List ad_}(hr:df_ sl){id:Int}{p:ap_}:aa_ (aq_ ⟨id,p⟩ false sl) id=some p:=by rw[be_ hr,if_pos rfl]
theorem gs_{H Hc:List Row}{T M:Nat}{root:Int}{B1 B2:List PB}{x:PB}{lo mx mx':Nat}{sl:List ad_}(g:PgS H T M root (B1++x::B2) lo mx sl)(hrise:df_ sl){p':ap_}{k v d:Nat}(hmx:mx≤mx')(h1:1≤mx)(hlen:H.length≤Hc.length)(kept:∀l,l<H.length→l∉x.foot→Hc[l]?=H[l]?)(hp:fZ_ Hc x.b p' k v d)
 (hk:k=x.k∨(H.length≤k∧k<Hc.length)) (hv:v=x.v∨(H.length≤v∧v<Hc.length)) (hd:d=x.d∨(H.length≤d∧d<Hc.length)) (hne:k≠v∧k≠d∧v≠d) (hl1:∀r,Hc[k]?=some r→r.es.length≤mx') (hl2:∀r,Hc[v]?=some r→r.es.length≤mx') (hl3:∀r,Hc[d]?=some r→r.es.length≤mx') :
 PgS Hc T M root (B1++⟨x.id,p',x.b,k,v,d⟩::B2) lo mx' (aq_ ⟨x.id,p'⟩ false sl)∧cl_ T M H (B1++x::B2) Hc (B1++⟨x.id,p',x.b,k,v,d⟩::B2):=by
 obtain⟨ents0,ck0,g0⟩:=g.pg
 have hxB:x∈B1++x::B2:=by simp
 have hone:(PB.all T M (B1++x::B2)).Nodup:=g0.one
 rw[(bY_ T M B1 B2 x).nodup_iff,nodup_append]at hone
 have hxn:=hone.1
 have hfoot:∀l∈x.foot,l<H.length:=fun l hl=>(g0.lows l (Pg.mem_foot hxB hl)).2
 have f1:=hfoot x.b (by simp[PB.foot])
 simp only[PB.foot,nodup_cons,mem_cons,not_or,not_mem_nil,not_false_eq_true,and_true,nodup_nil]at hxn
 obtain⟨⟨nk,nv,nd⟩,⟨nkv,nkd⟩,nvd⟩:=hxn
 have q1:k∈x.foot∨(H.length≤k∧k<Hc.length):=by rcases hk with e|e;exact .inl (by rw[e];simp[PB.foot]);exact .inr e
 have q2:v∈x.foot∨(H.length≤v∧v<Hc.length):=by rcases hv with e|e;exact .inl (by rw[e];simp[PB.foot]);exact .inr e
 have q3:d∈x.foot∨(H.length≤d∧d<Hc.length):=by rcases hd with e|e;exact .inl (by rw[e];simp[PB.foot]);exact .inr e
 refine g.upd (x':=⟨x.id,p',x.b,k,v,d⟩) hrise rfl rfl kept hlen ?_ ?_ hp hmx ?_
 ·intro l hl
  simp only[PB.foot,mem_cons,not_mem_nil,or_false]at hl
  rcases hl with rfl|rfl|rfl|rfl
  ·exact .inl (by simp[PB.foot])
  ·exact q1
  ·exact q2
  ·exact q3
 ·simp only[PB.foot,nodup_cons,mem_cons,not_or,not_mem_nil,not_false_eq_true,and_true,nodup_nil]
  omega
 ·intro l hl r hq
  simp only[PB.foot,mem_cons,not_mem_nil,or_false]at hl
  rcases hl with rfl|rfl|rfl|rfl
  ·obtain⟨_,_,_,o1,_⟩:=hp
   rw[o1]at hq
   obtain rfl:=Option.some.inj hq
   show 1≤mx'
   omega
  ·exact hl1 r hq
  ·exact hl2 r hq
  ·exact hl3 r hq
theorem PgS.mono{H:List Row}{T M:Nat}{root:Int}{B:List PB}{lo mx mx':Nat}{sl:List ad_}(g:PgS H T M root B lo mx sl)(h:mx≤mx'):PgS H T M root B lo mx' sl:=⟨g.pg,g.same,fun l hl r hr=>Nat.le_trans (g.lim l hl r hr) h⟩
def c80:LC :=
 .q [.o [.s 8 (.mov (.const (.string ⟨#[]⟩))),.ki 9 0,.ki 10 0],.o [.m 20 1,.nc 21 20,.ld 22 4 21,.m 23 2,.c2 24 132 22 23,.m 19 24,.ex 25 19 0,.ex 26 19 1,.m 11 25,.m 12 26],.o [.f 13],.block 0 (.q [.o [.m
 82 1,.nc 83 82,.fa 84 0 83,.ln 85 84,.m 86 85,.gm 87 86 true 12,.pf 88 86 87,.m 81 88],.k 81 (.o [.m 89 1,.nc 90 89,.fa 91 2 90,.ln 92 91,.m 93 11,.m 94 3,.ia 95 1 92 93,.st 1 95 94]) (.q [.o [.m 97 1,.nc
 98 97,.fa 99 0 98,.ln 100 99,.m 96 100],.k 96 (.q [.alts [([.m 101 1,.m 102 1,.m 103 1,.nc 104 103,.fa 105 1 104,.ln 106 105,.m 107 11,.m 108 2,.m 111 1,.nc 112 111,.fa 113 2 112,.ln 114 113,.m 115 11,.m
 116 3],[(.s 109 (.buildSlice 9 1 (.string ⟨#[]⟩) 1 [(0,.tmp 108)]),[.m 101 1,.m 102 1,.m 103 1,.nc 104 103,.fa 105 1 104,.ln 106 105,.m 107 11,.m 111 1,.nc 112 111,.fa 113 2 112,.ln 114 113,.m 115 11,.m
 116 3]),(.c3 110 133 106 107 109,[.m 101 1,.m 102 1,.m 111 1,.nc 112 111,.fa 113 2 112,.ln 114 113,.m 115 11,.m 116 3]),(.s 117 (.buildSlice 9 1 (.string ⟨#[]⟩) 1 [(0,.tmp 116)]),[.m 101 1,.m 102 1,.m 111
 1,.nc 112 111,.fa 113 2 112,.ln 114 113,.m 115 11]),(.c3 118 133 114 115 117,[.m 101 1,.m 102 1]),(.nc 119 101,[.m 102 1]),(.fa 120 1 119,[.m 102 1]),(.st 1 120 110,[.m 102 1]),(.nc 121 102,[]),(.fa 122 2
 121,[]),(.st 1 122 118,[])]),([.m 101 1,.m 102 1,.m 103 1,.nc 104 103,.fa 105 1 104,.ln 106 105,.m 107 11,.m 108 2,.m 116 3,.m 111 1,.nc 112 111,.fa 113 2 112,.ln 114 113,.m 115 11],[(.s 109
 (.buildSlice 9 1 (.string ⟨#[]⟩) 1 [(0,.tmp 108)]),[.m 101 1,.m 102 1,.m 103 1,.nc 104 103,.fa 105 1 104,.ln 106 105,.m 107 11,.m 116 3,.m 111 1,.nc 112 111,.fa 113 2 112,.ln 114 113,.m 115 11]),(.s 117
 (.buildSlice 9 1 (.string ⟨#[]⟩) 1 [(0,.tmp 116)]),[.m 101 1,.m 102 1,.m 103 1,.nc 104 103,.fa 105 1 104,.ln 106 105,.m 107 11,.m 111 1,.nc 112 111,.fa 113 2 112,.ln 114 113,.m 115 11]),(.c3 110 133 106 107
 109,[.m 101 1,.m 102 1,.m 111 1,.nc 112 111,.fa 113 2 112,.ln 114 113,.m 115 11]),(.c3 118 133 114 115 117,[.m 101 1,.m 102 1]),(.nc 119 101,[.m 102 1]),(.fa 120 1 119,[.m 102 1]),(.st 1 120 110,[.m 102
 1]),(.nc 121 102,[]),(.fa 122 2 121,[]),(.st 1 122 118,[])]),([.m 101 1,.m 102 1,.m 103 1,.nc 104 103,.fa 105 1 104,.ln 106 105,.m 107 11,.m 108 2,.m 116 3,.m 111 1,.nc 112 111,.fa 113 2 112,.ln 114
 113,.m 115 11],[(.s 117 (.buildSlice 9 1 (.string ⟨#[]⟩) 1 [(0,.tmp 116)]),[.m 101 1,.m 102 1,.m 103 1,.nc 104 103,.fa 105 1 104,.ln 106 105,.m 107 11,.m 108 2,.m 111 1,.nc 112 111,.fa 113 2 112,.ln 114
 113,.m 115 11]),(.s 109 (.buildSlice 9 1 (.string ⟨#[]⟩) 1 [(0,.tmp 108)]),[.m 101 1,.m 102 1,.m 103 1,.nc 104 103,.fa 105 1 104,.ln 106 105,.m 107 11,.m 111 1,.nc 112 111,.fa 113 2 112,.ln 114 113,.m 115
 11]),(.c3 110 133 106 107 109,[.m 101 1,.m 102 1,.m 111 1,.nc 112 111,.fa 113 2 112,.ln 114 113,.m 115 11]),(.c3 118 133 114 115 117,[.m 101 1,.m 102 1]),(.nc 119 101,[.m 102 1]),(.fa 120 1 119,[.m 102
 1]),(.st 1 120 110,[.m 102 1]),(.nc 121 102,[]),(.fa 122 2 121,[]),(.st 1 122 118,[])])],.o [.m 123 1,.nc 124 123,.fa 125 1 124,.ln 126 125,.ll 127 126,.bk 128 .gtr false 127 6,.m 13 128]]) (.q [.gops [.m
 28 0,.m 29 0,.nc 30 29,.fa 31 1 30,.ln 32 31,.m 33 1,.nc 34 33,.fa 35 3 34,.ln 36 35,.m 37 11,.ia 38 1 36 37,.ln 39 38,.s 40 (.ext (.lookP false (.tmp 32) (.tmp 39))),.m 41 2,.m 42 3] [(.s 43 (.call 80
 [.tmp 28,.tmp 40,.tmp 41,.tmp 42]),[]),(.m 27 43,[]),(.ex 44 27 0,[]),(.ex 45 27 1,[]),(.ex 46 27 2,[]),(.m 14 44,[]),(.m 15 45,[]),(.m 16 46,[])],.q [.o [.m 47 16,.bk 48 .neq false 47 0],.k 48 (.q
 [.o [.m 49 16,.s 8 (.mov (.const (.string ⟨#[]⟩))),.ki 9 0,.m 10 49],.ret]) .skip],.o [.m 50 15,.bk 51 .neq false 50 0],.k 51 (.q [.alts [([.m 52 1,.m 53 1,.m 54 1,.nc 55 54,.fa 56 1 55,.ln 57 56,.m 58 11,
 .m 59 14,.m 62 1,.nc 63 62,.fa 64 3 63,.ln 65 64,.m 66 11,.bk 67 .add false 66 1,.m 68 15],[(.s 60 (.buildSlice 9 1 (.string ⟨#[]⟩) 1 [(0,.tmp 59)]),[.m 52 1,.m 53 1,.m 54 1,.nc 55 54,.fa 56 1 55,.ln 57
 56,.m 58 11,.m 62 1,.nc 63 62,.fa 64 3 63,.ln 65 64,.m 66 11,.bk 67 .add false 66 1,.m 68 15]),(.c3 61 133 57 58 60,[.m 52 1,.m 53 1,.m 62 1,.nc 63 62,.fa 64 3 63,.ln 65 64,.m 66 11,.bk 67 .add false 66
 1,.m 68 15]),(.s 69 (.buildSlice 2 1 (.int .i64 0) 1 [(0,.tmp 68)]),[.m 52 1,.m 53 1,.m 62 1,.nc 63 62,.fa 64 3 63,.ln 65 64,.m 66 11,.bk 67 .add false 66 1]),(.c3 70 134 65 67 69,[.m 52 1,.m 53 1]),(.nc
 71 52,[.m 53 1]),(.fa 72 1 71,[.m 53 1]),(.st 1 72 61,[.m 53 1]),(.nc 73 53,[]),(.fa 74 3 73,[]),(.st 1 74 70,[])]),([.m 52 1,.m 53 1,.m 54 1,.nc 55 54,.fa 56 1 55,.ln 57 56,.m 58 11,.m 59 14,.m 68
 15,.m 62 1,.nc 63 62,.fa 64 3 63,.ln 65 64,.m 66 11,.bk 67 .add false 66 1],[(.s 60 (.buildSlice 9 1 (.string ⟨#[]⟩) 1 [(0,.tmp 59)]),[.m 52 1,.m 53 1,.m 54 1,.nc 55 54,.fa 56 1 55,.ln 57 56,.m 58 11,.m
 68 15,.m 62 1,.nc 63 62,.fa 64 3 63,.ln 65 64,.m 66 11,.bk 67 .add false 66 1]),(.s 69 (.buildSlice 2 1 (.int .i64 0) 1 [(0,.tmp 68)]),[.m 52 1,.m 53 1,.m 54 1,.nc 55 54,.fa 56 1 55,.ln 57 56,.m 58 11,.m
 62 1,.nc 63 62,.fa 64 3 63,.ln 65 64,.m 66 11,.bk 67 .add false 66 1]),(.c3 61 133 57 58 60,[.m 52 1,.m 53 1,.m 62 1,.nc 63 62,.fa 64 3 63,.ln 65 64,.m 66 11,.bk 67 .add false 66 1]),(.c3 70 134 65 67 69,
 [.m 52 1,.m 53 1]),(.nc 71 52,[.m 53 1]),(.fa 72 1 71,[.m 53 1]),(.st 1 72 61,[.m 53 1]),(.nc 73 53,[]),(.fa 74 3 73,[]),(.st 1 74 70,[])]),([.m 52 1,.m 53 1,.m 54 1,.nc 55 54,.fa 56 1 55,.ln 57 56,.m
 58 11,.m 59 14,.m 68 15,.m 62 1,.nc 63 62,.fa 64 3 63,.ln 65 64,.m 66 11,.bk 67 .add false 66 1],[(.s 69 (.buildSlice 2 1 (.int .i64 0) 1 [(0,.tmp 68)]),[.m 52 1,.m 53 1,.m 54 1,.nc 55 54,.fa 56 1 55,.ln
 57 56,.m 58 11,.m 59 14,.m 62 1,.nc 63 62,.fa 64 3 63,.ln 65 64,.m 66 11,.bk 67 .add false 66 1]),(.s 60 (.buildSlice 9 1 (.string ⟨#[]⟩) 1 [(0,.tmp 59)]),[.m 52 1,.m 53 1,.m 54 1,.nc 55 54,.fa 56 1 55,
 .ln 57 56,.m 58 11,.m 62 1,.nc 63 62,.fa 64 3 63,.ln 65 64,.m 66 11,.bk 67 .add false 66 1]),(.c3 61 133 57 58 60,[.m 52 1,.m 53 1,.m 62 1,.nc 63 62,.fa 64 3 63,.ln 65 64,.m 66 11,.bk 67 .add false 66
 1]),(.c3 70 134 65 67 69,[.m 52 1,.m 53 1]),(.nc 71 52,[.m 53 1]),(.fa 72 1 71,[.m 53 1]),(.st 1 72 61,[.m 53 1]),(.nc 73 53,[]),(.fa 74 3 73,[]),(.st 1 74 70,[])])],.o [.m 75 1,.nc 76 75,.fa 77 3 76,
 .ln 78 77,.ll 79 78,.bk 80 .gtr false 79 6,.m 13 80]]) .skip])])]),.q [.o [.m 129 13,.nt 130 129],.k 130 (.q [.o [.s 8 (.mov (.const (.string ⟨#[]⟩))),.ki 9 0,.ki 10 0],.ret]) .skip],.o [.m 132 0,.m 133 1,.c2
 134 135 132 133,.m 131 134,.ex 135 131 0,.ex 136 131 1,.m 17 135,.m 18 136],.q [.o [.m 137 18,.bk 138 .eql false 137 0],.k 138 (.q [.o [.s 8 (.mov (.const (.string ⟨#[]⟩))),.ki 9 0,.ki 10 4],.ret]) .skip],.o
 [.m 139 17,.m 140 18,.m 8 139,.m 9 140,.ki 10 0],.ret]
def zU_:LF:=⟨4,141,c80,[.tmp 8,.tmp 9,.tmp 10]⟩
theorem AN_:aC_ Tryz.prog Tryz.f80 zU_:=do_
set_option maxHeartbeats 8000000 in
theorem kj_{key value:ByteArray}(hkey:bC_ key=true)(hv64:value.size≤64){T M:Nat}{root:Int}{lo:Nat}:∀(h n:Nat) (mx:Nat) (sl:List ad_) (top:Bool) (id:Int) (low high:ByteArray) (ids:List Int) (H:List Row) (B:List PB) (x:PB) (K:AV→List Row→Prop),h<n→7≤mx→mx+h≤1073741000→cr_ sl→au_ (aa_ sl) h top id low high ids→ids.Nodup→PgS H T M root B lo mx sl→x∈B→x.id=id →
 (∀H' B',cl_ T M H B H' B'→PgS H' T M root B' lo (mx+h+1) (bt_ n sl id key value).1→K (.tup [.val (.string (bt_ n sl id key value).2.1),.val (.int .i64 (bt_ n sl id key value).2.2.1),.val (.int .i64 (bt_ n sl id key value).2.2.2)]) H') →
 callSem Tryz.prog 80 [.ptr T 1 0 0,.ptr x.b 1 0 0,.val (.string key),.val (.string value)] H K
 | h,0,_,_,_,_,_,_,_,_,_,_,_,hn,_,_,_,_,_,_,_,_,_=>absurd hn (Nat.not_lt_zero _)
 | h,n+1,mx,sl,top,id,low,high,ids,H,B,x,K,hn,hm7,hmx,ok,t,nd,g,hxB,hxid,hK=>by
  subst hxid
  obtain⟨p,hp,hpb,ho,hlf,hin⟩:=t.page
  have hxp:=g.box hxB
  rw[hp]at hxp
  have hxp:=Option.some.inj hxp
  subst hxp
  obtain⟨ents0,ck0,g0⟩:=g.pg
  have hT:=(g0.lows T (by simp)).2
  have hMl:=(g0.lows M (by simp)).2
  have gT:=g0.box
  have gM:=g0.map
  obtain⟨B1,B2,rfl⟩:=append_of_mem hxB
  have hone:(PB.all T M (B1++x::B2)).Nodup:=g0.one
  rw[(bY_ T M B1 B2 x).nodup_iff,nodup_append]at hone
  have hxn:=hone.1
  have hxT:∀l∈x.foot,l≠T∧l≠M:=fun l hl=>⟨fun e=>hone.2.2 l hl T (by simp[PB.all]) e,fun e=>hone.2.2 l hl M (by simp[PB.all]) e⟩
  simp only[PB.foot,nodup_cons,mem_cons,not_or,not_mem_nil,not_false_eq_true,and_true,nodup_nil]at hxn
  obtain⟨⟨nk,nv,nd'⟩,⟨nkv,nkd⟩,nvd⟩:=hxn
  obtain⟨a1,a2,a3,o1,p1,p2,p3⟩:=g0.pgs x hxB
  have lb:=(List.getElem?_eq_some_iff.1 o1).1
  have lk:=p1.lt
  have lv:=p2.lt
  have ld:=p3.lt
  have hsh:=dR_ hpb
  obtain⟨s1,s2,s3⟩:=hsh.small
  have hkb:cF_ x.pg.Keys=true:=by
   have:=hpb
   rw[pageB,Bool.and_eq_true]at this
   exact this.1
  have hfind:PureCall Tryz.prog 132 [.agg [.val (.bool x.pg.Leaf),a1,a2,a3],.val (.string key)] H (.tup [.val (.int .i64 (aH_ x.pg key).1),.val (.bool (aH_ x.pg key).2)]):=Go.AW.frozenR rfl (fun h=>kV_ x.pg key (by omega) hkb h) (gJ_ (uX_ p1 p2 p3 1) (fC_ (n:=4) rfl))
  have c1:a1.cell=true:=p1.cell
  have c2:a2.cell=true:=p2.cell
  have c3:a3.cell=true:=p3.cell
  obtain⟨at',has,hf⟩:∃at' has,aH_ x.pg key=(at',has):=⟨_,_,rfl⟩
  rw[hf]at hfind
  refine aO_ mixed Tryz.func80 AN_ (bA_ rfl ?_)
  simp(disch:=omega)only[zU_,c80,o1,go_sem,seval]
  refine PureCall.call hfind ?_
  cases hl:x.pg.Leaf with
  | true =>
   cases has with
   | true =>
    obtain⟨pre2,post2,rfl,e2⟩:=p2
    have hk:at'<x.pg.Vals.length:=by
     obtain⟨_,h1,h2,_⟩:=em_ hpb hl
     have:=hg_ hl key
     rw[hf]at this
     have:=ik_ (xs:=x.pg.Keys) (key:=key) (Prod.mk.inj this).2.symm
     have e:=(Prod.mk.inj (hf.symm.trans (hg_ hl key))).1
     omega
    have q1:=gl_ pre2.length x.pg.Vals.length at' hk
    have q3:=ud_ pre2 (x.pg.Vals.map ak_) post2 at' [.val (.string value)] (by simpa using hk)
    have q4:(pre2++(x.pg.Vals.map ak_++post2))[pre2.length+at']?=some [.val (.string x.pg.Vals[at'])]:=by rw[dQ_ _ _ _ _ (by simpa using hk),getElem?_map,getElem?_eq_getElem hk];rfl
    rw[hl]at o1
    simp(disch:=first|omega|simp only[lzz0_];first|done|omega)only[go_sem,seval,o1,e2,q1,q3,q4]
    have hf2:b2_ (aE_ x.pg true at' key value)=false:=by
     have:=r7_ hpb
     exact this
    have hput:bt_ (n+1) sl x.id key value=(aq_ ⟨x.id,aE_ x.pg true at' key value⟩ false sl,⟨#[]⟩,0,0):=by
     rw[c2_ hp hl,hf,bU_,dp_ ok.rise]
     simp only[hf2,if_true]
    rw[hput]at hK
    have hvl:((aE_ x.pg true at' key value).Vals.map ak_).length=(x.pg.Vals.map ak_).length:=by
     show((x.pg.Vals.set at' value).map ak_).length=_
     simp
    have hLf:(aE_ x.pg true at' key value).Leaf=true:=hl
    have e4:(x.pg.Vals.map ak_).set at' [.val (.string value)]=(x.pg.Vals.set at' value).map ak_:=by rw[map_set]
    rw[e4]
    obtain⟨gu,hgo⟩:=gs_ (Hc:=H.set x.v ⟨.ty 9,1,pre2++((x.pg.Vals.set at' value).map ak_++post2)⟩) (p':=aE_ x.pg true at' key value) (k:=x.k) (v:=x.v) (d:=x.d) (mx':=mx+h+1) g ok.rise (by omega) (by omega) (by simp) (fun l q1 q2=>al_ (fun e=>q2 (by rw[←e];simp[PB.foot])))
     ⟨_,_,_,by rw[hLf];exact(al_ (Ne.symm nv)).trans o1,p1.keep (al_ (Ne.symm nkv)),⟨pre2,post2,by rw[hvl],ao_ lv⟩,p3.keep (al_ nvd)⟩ (.inl rfl) (.inl rfl) (.inl rfl) ⟨nkv,nkd,nvd⟩
     (fun r hq=>by rw[al_ (Ne.symm nkv)]at hq;have:=g.lim x.k (Pg.mem_foot hxB (by simp[PB.foot])) r hq;omega)
     (fun r hq=>by
       have h1:=g.lim x.v (Pg.mem_foot hxB (by simp[PB.foot])) _ e2
       rw[ao_ lv]at hq
       obtain rfl:=Option.some.inj hq
       simp only[la_,length_map,ls_]at h1⊢
       omega)
     (fun r hq=>by rw[al_ nvd]at hq;have:=g.lim x.d (Pg.mem_foot hxB (by simp[PB.foot])) r hq;omega)
    exact hK _ _ hgo gu
   | false =>
    obtain⟨_,m1,m2,hkds,_⟩:=em_ hpb hl
    have hat:at'≤x.pg.Keys.length:=by
     have:=eJ_ x.pg key
     rw[hf]at this
     exact this
    have hatv:at'≤x.pg.Vals.length:=by omega
    have hinsl:(x.pg.Keys.take at'++key::x.pg.Keys.drop at').length=x.pg.Keys.length+1:=by simp only[la_,length_take,lc_,length_drop];omega
    have hinsv:(x.pg.Vals.take at'++value::x.pg.Vals.drop at').length=x.pg.Vals.length+1:=by simp only[la_,length_take,lc_,length_drop];omega
    have hlk':((aE_ x.pg false at' key value).Keys.map ak_).length=x.pg.Keys.length+1:=by rw[length_map];exact hinsl
    have hlv':((aE_ x.pg false at' key value).Vals.map ak_).length=x.pg.Vals.length+1:=by rw[length_map];exact hinsv
    obtain⟨i1,i2,_⟩:=ok.pgs _ _ hp
    have ok1:cr_ (aq_ ⟨x.id,aE_ x.pg false at' key value⟩ false sl):=ok.set ⟨i1,i2,by have:=lb_ hpb hl hkey hv64;rw[hf]at this;exact this⟩
    rw[hl]at o1
    simp(disch:=first|omega|simp only[lzz0_];first|done|omega)only[ac_,go_sem,seval,o1]
    refine⟨?_,?_,?_⟩
    ·refine bm_ (l:=x.k) (lv:=H.length) (i:=at') (mx:=mx) (xs:=x.pg.Keys) (v:=key) (p1.keep (by(simp(disch:=(first|omega|(simp only[ls_,la_,lc_,ln_];omega)))only[ac_]))) hat (fun r hq=>g.lim x.k (Pg.mem_foot hxB (by simp[PB.foot])) r (by rw[←hq];exact(ac_ lk).symm)) (by omega) (by first|((simp(disch:=(first|omega|(simp only[ls_,la_,lc_,ln_];omega)))only[ar_]);done)|((simp(disch:=(first|omega|(simp only[ls_,la_,lc_,ln_];omega)))only[al_,ao_,ac_,ar_,a1_,bD_,cg_]);rfl)) (by omega) ?_
     intro b1 H1 l1 hl1 hlt1 hlen1 kp1 w1 hlim1
     simp only[la_,lc_,ln_]at hl1 hlen1 kp1
     have keep1:∀l,l<H.length→l≠x.k→H1[l]?=H[l]?:=fun l q1 q2=>(kp1 l (by omega) q2).trans (ac_ q1)
     have o2:=(keep1 x.b lb nk).trans o1
     have cb1:b1.cell=true:=w1.cell
     simp(disch:=first|omega|simp only[lzz0_];first|done|omega)only[ac_,go_sem,seval,o2]
     refine bm_ (l:=x.v) (lv:=H1.length) (i:=at') (mx:=mx) (xs:=x.pg.Vals) (v:=value) (p2.keep (by first|exact keep1 _ lv (Ne.symm nkv)|exact(ac_ (by omega)).trans (keep1 _ lv (Ne.symm nkv)))) hatv (fun r hq=>g.lim x.v (Pg.mem_foot hxB (by simp[PB.foot])) r (by rw[←hq];first|exact(keep1 _ lv (Ne.symm nkv)).symm|exact((ac_ (by omega)).trans (keep1 _ lv (Ne.symm nkv))).symm)) (by omega) (by first|exact ar_ rfl|(rw[kp1 _ (by omega) (by omega)];(simp(disch:=(first|omega|(simp only[ls_,la_,lc_,ln_];omega)))only[al_,ao_,ac_,ar_,a1_,bD_,cg_]);done)|(rw[kp1 _ (by omega) (by omega)];(simp(disch:=(first|omega|(simp only[ls_,la_,lc_,ln_];omega)))only[al_,ao_,ac_,ar_,a1_,bD_,cg_]);rfl)) (by omega) ?_
     intro b2 H2 l2 hl2 hlt2 hlen2 kp2 w2 hlim2
     try simp only[la_,lc_,ln_]at hl2 hlen2 kp2
     have keep2:∀l,l<H1.length→l≠x.v→H2[l]?=H1[l]?:=fun l q1 q2=>(kp2 l (by omega) q2).trans (by first|rfl|exact ac_ q1)
     obtain⟨pre2,post2,rfl,r2⟩:=w2
     have hlv:((x.pg.Vals.take at'++value::x.pg.Vals.drop at').map ak_).length=x.pg.Vals.length+1:=by rw[length_map];exact hinsv
     rw[hlv]at *
     have o3:=(keep2 x.b (by omega) nv).trans o2
     have v1:=w1.keep (keep2 l1 hlt1 (by omega))
     obtain⟨pre1,post1,rfl,r1⟩:=v1
     have hlk:((x.pg.Keys.take at'++key::x.pg.Keys.drop at').map ak_).length=x.pg.Keys.length+1:=by rw[length_map];exact hinsl
     have rl1:(pre1++((x.pg.Keys.take at'++key::x.pg.Keys.drop at').map ak_++post1)).length=pre1.length+(x.pg.Keys.length+1+post1.length):=by rw[gv_,hlk]
     rw[hlk]at cb1
     have zz:pre1.length+(x.pg.Keys.length+1)-pre1.length=x.pg.Keys.length+1:=by omega
     have gud:∀Hc:List Row,Hc=H2.set x.b ⟨.ty 77,4,[[.val (.bool true),.sub l1 (pre1.length+(x.pg.Keys.length+1+post1.length)) pre1.length (pre1.length+(x.pg.Keys.length+1)),.sub l2 (pre2.length+(x.pg.Vals.length+1+post2.length)) pre2.length (pre2.length+(x.pg.Vals.length+1)),a3]]⟩→PgS Hc T M root (B1++⟨x.id,aE_ x.pg false at' key value,x.b,l1,l2,x.d⟩::B2) lo (mx+h+1) (aq_ ⟨x.id,aE_ x.pg false at' key value⟩ false sl)∧cl_ T M H (B1++x::B2) Hc (B1++⟨x.id,aE_ x.pg false at' key value,x.b,l1,l2,x.d⟩::B2):=by
      intro Hc hHc
      have lb2:x.b<H2.length:=by omega
      have kc:∀l,l≠x.b→Hc[l]?=H2[l]?:=fun l q=>by rw[hHc];exact al_ (Ne.symm q)
      have hHl:Hc.length=H2.length:=by rw[hHc];simp
      have nl1:l1≠x.b:=by omega
      have nl2:l2≠x.b:=by omega
      have r1':=(kc l1 nl1).trans r1
      refine gs_ (x:=x) (p':=aE_ x.pg false at' key value) (k:=l1) (v:=l2) (d:=x.d) (mx':=mx+h+1) g ok.rise (by omega) (by omega) (by omega) (fun l q1 q2=>?_) ⟨_,_,_,by rw[hHc,ao_ lb2];show _=some (⟨.ty 77,4,[[.val (.bool x.pg.Leaf),_,_,_]]⟩:Row);rw[hl],⟨pre1,post1,by rw[hlk'],r1'⟩,⟨pre2,post2,by rw[hlv'],(kc l2 nl2).trans r2⟩,p3.keep ((kc x.d (Ne.symm nd')).trans ((keep2 x.d (by omega) (Ne.symm nvd)).trans (keep1 x.d ld (Ne.symm nkd))))⟩ (by omega) (by omega) (.inl rfl) (by omega) ?_ ?_ ?_
      ·simp only[PB.foot,mem_cons,not_mem_nil,or_false,not_or]at q2
       obtain⟨u1,u2,u3,u4⟩:=q2
       exact(kc l u1).trans ((keep2 l (by omega) u3).trans (keep1 l q1 u2))
      ·intro r hq
       rw[kc l1 nl1,keep2 l1 hlt1 (by omega)]at hq
       have:=hlim1 r hq
       omega
      ·intro r hq
       rw[kc l2 nl2]at hq
       have:=hlim2 r hq
       omega
      ·intro r hq
       rw[kc x.d (Ne.symm nd'),keep2 x.d (by omega) (Ne.symm nvd),keep1 x.d ld (Ne.symm nkd)]at hq
       have:=g.lim x.d (Pg.mem_foot hxB (by simp[PB.foot])) r hq
       omega
     rw[hlk]at *
     by_cases hbig:6<x.pg.Keys.length+1
     ·have hb1:(((x.pg.Keys.length+1:Nat):Int)>6)=True:=eq_true (by omega)
      simp(disch:=first|omega|simp only[lzz0_];first|done|omega)only[al_,ao_,go_sem,seval,o3,zz,hb1,r1,rl1]
      refine callSem.at fun Hc hHc=>?_
      rw[set_set]at hHc
      obtain⟨gu,hgo⟩:=gud Hc hHc
      refine f8_ (x:=⟨x.id,aE_ x.pg false at' key value,x.b,l1,l2,x.d⟩) gu ok1 (by omega) hl (by show(x.pg.Keys.take at'++key::x.pg.Keys.drop at').length=7;omega) (by show(x.pg.Vals.take at'++value::x.pg.Vals.drop at').length=7;omega) hkds _ ?_
      intro H' B' hgo2 hpg2
      have hfl:b2_ (aE_ x.pg false at' key value)=true:=by
       show(decide (6<(x.pg.Keys.take at'++key::x.pg.Keys.drop at').length)||_)=true
       rw[hinsl,decide_eq_true hbig];rfl
      have hput:bt_ (n+1) sl x.id key value=if aG_ (aa_ (aq_ ⟨x.id,aE_ x.pg false at' key value⟩ false sl)) 64=0 then(aq_ ⟨x.id,(aF_ (aE_ x.pg false at' key value)).1⟩ false (aq_ ⟨x.id,aE_ x.pg false at' key value⟩ false sl),⟨#[]⟩,0,4)else(up2 (aq_ ⟨x.id,aE_ x.pg false at' key value⟩ false sl) x.id (aE_ x.pg false at' key value),(aF_ (aE_ x.pg false at' key value)).2.2,aG_ (aa_ (aq_ ⟨x.id,aE_ x.pg false at' key value⟩ false sl)) 64,0):=by
       rw[c2_ hp hl,hf,bU_,dp_ ok.rise]
       simp only[hfl,Bool.true_eq_false,if_false]
      rw[hput]at hK
      by_cases hz:aG_ (aa_ (aq_ ⟨x.id,aE_ x.pg false at' key value⟩ false sl)) 64=0
      ·rw[if_pos hz]at hK hpg2
       simp(disch:=first|omega|simp only[lzz0_];first|done|omega)only[go_sem,seval,hz]
       exact hK _ _ (hgo.trans hgo2) hpg2
      ·rw[if_neg hz]at hK hpg2
       simp(disch:=first|omega|simp only[lzz0_];first|done|omega)only[go_sem,seval,hz]
       exact hK _ _ (hgo.trans hgo2) hpg2
     ·have hb1:(((x.pg.Keys.length+1:Nat):Int)>6)=False:=eq_false (by omega)
      simp(disch:=first|omega|simp only[lzz0_];first|done|omega)only[al_,ao_,go_sem,seval,o3,zz,hb1,r1,rl1]
      rw[set_set]
      obtain⟨gu,hgo⟩:=gud _ rfl
      have hfl:b2_ (aE_ x.pg false at' key value)=false:=by
       show(decide (6<(x.pg.Keys.take at'++key::x.pg.Keys.drop at').length)||decide (6<x.pg.Kids.length))=false
       rw[hinsl,decide_eq_false hbig,hkds];rfl
      have hput:bt_ (n+1) sl x.id key value=(aq_ ⟨x.id,aE_ x.pg false at' key value⟩ false sl,⟨#[]⟩,0,0):=by
       rw[c2_ hp hl,hf,bU_,dp_ ok.rise]
       simp only[hfl,if_true]
      rw[hput]at hK
      exact hK _ _ hgo gu
    ·refine bm_ (l:=x.k) (lv:=H.length) (i:=at') (mx:=mx) (xs:=x.pg.Keys) (v:=key) (p1.keep (by(simp(disch:=(first|omega|(simp only[ls_,la_,lc_,ln_];omega)))only[ac_]))) hat (fun r hq=>g.lim x.k (Pg.mem_foot hxB (by simp[PB.foot])) r (by rw[←hq];exact(ac_ lk).symm)) (by omega) (by first|((simp(disch:=(first|omega|(simp only[ls_,la_,lc_,ln_];omega)))only[ar_]);done)|((simp(disch:=(first|omega|(simp only[ls_,la_,lc_,ln_];omega)))only[al_,ao_,ac_,ar_,a1_,bD_,cg_]);rfl)) (by omega) ?_
     intro b1 H1 l1 hl1 hlt1 hlen1 kp1 w1 hlim1
     simp only[la_,lc_,ln_]at hl1 hlen1 kp1
     have keep1:∀l,l<H.length→l≠x.k→H1[l]?=H[l]?:=fun l q1 q2=>(kp1 l (by omega) q2).trans (ac_ q1)
     have o2:=(keep1 x.b lb nk).trans o1
     have cb1:b1.cell=true:=w1.cell
     simp(disch:=first|omega|simp only[lzz0_];first|done|omega)only[go_sem,seval,o2]
     refine bm_ (l:=x.v) (lv:=H.length+1) (i:=at') (mx:=mx) (xs:=x.pg.Vals) (v:=value) (p2.keep (by first|exact keep1 _ lv (Ne.symm nkv)|exact(ac_ (by omega)).trans (keep1 _ lv (Ne.symm nkv)))) hatv (fun r hq=>g.lim x.v (Pg.mem_foot hxB (by simp[PB.foot])) r (by rw[←hq];first|exact(keep1 _ lv (Ne.symm nkv)).symm|exact((ac_ (by omega)).trans (keep1 _ lv (Ne.symm nkv))).symm)) (by omega) (by first|exact ar_ rfl|(rw[kp1 _ (by omega) (by omega)];(simp(disch:=(first|omega|(simp only[ls_,la_,lc_,ln_];omega)))only[a1_]);done)|(rw[kp1 _ (by omega) (by omega)];(simp(disch:=(first|omega|(simp only[ls_,la_,lc_,ln_];omega)))only[al_,ao_,ac_,ar_,a1_,bD_,cg_]);rfl)) (by omega) ?_
     intro b2 H2 l2 hl2 hlt2 hlen2 kp2 w2 hlim2
     try simp only[la_,lc_,ln_]at hl2 hlen2 kp2
     have keep2:∀l,l<H1.length→l≠x.v→H2[l]?=H1[l]?:=fun l q1 q2=>(kp2 l (by omega) q2).trans (by first|rfl|exact ac_ q1)
     obtain⟨pre2,post2,rfl,r2⟩:=w2
     have hlv:((x.pg.Vals.take at'++value::x.pg.Vals.drop at').map ak_).length=x.pg.Vals.length+1:=by rw[length_map];exact hinsv
     rw[hlv]at *
     have o3:=(keep2 x.b (by omega) nv).trans o2
     have v1:=w1.keep (keep2 l1 hlt1 (by omega))
     obtain⟨pre1,post1,rfl,r1⟩:=v1
     have hlk:((x.pg.Keys.take at'++key::x.pg.Keys.drop at').map ak_).length=x.pg.Keys.length+1:=by rw[length_map];exact hinsl
     have rl1:(pre1++((x.pg.Keys.take at'++key::x.pg.Keys.drop at').map ak_++post1)).length=pre1.length+(x.pg.Keys.length+1+post1.length):=by rw[gv_,hlk]
     rw[hlk]at cb1
     have zz:pre1.length+(x.pg.Keys.length+1)-pre1.length=x.pg.Keys.length+1:=by omega
     have gud:∀Hc:List Row,Hc=H2.set x.b ⟨.ty 77,4,[[.val (.bool true),.sub l1 (pre1.length+(x.pg.Keys.length+1+post1.length)) pre1.length (pre1.length+(x.pg.Keys.length+1)),.sub l2 (pre2.length+(x.pg.Vals.length+1+post2.length)) pre2.length (pre2.length+(x.pg.Vals.length+1)),a3]]⟩→PgS Hc T M root (B1++⟨x.id,aE_ x.pg false at' key value,x.b,l1,l2,x.d⟩::B2) lo (mx+h+1) (aq_ ⟨x.id,aE_ x.pg false at' key value⟩ false sl)∧cl_ T M H (B1++x::B2) Hc (B1++⟨x.id,aE_ x.pg false at' key value,x.b,l1,l2,x.d⟩::B2):=by
      intro Hc hHc
      have lb2:x.b<H2.length:=by omega
      have kc:∀l,l≠x.b→Hc[l]?=H2[l]?:=fun l q=>by rw[hHc];exact al_ (Ne.symm q)
      have hHl:Hc.length=H2.length:=by rw[hHc];simp
      have nl1:l1≠x.b:=by omega
      have nl2:l2≠x.b:=by omega
      have r1':=(kc l1 nl1).trans r1
      refine gs_ (x:=x) (p':=aE_ x.pg false at' key value) (k:=l1) (v:=l2) (d:=x.d) (mx':=mx+h+1) g ok.rise (by omega) (by omega) (by omega) (fun l q1 q2=>?_) ⟨_,_,_,by rw[hHc,ao_ lb2];show _=some (⟨.ty 77,4,[[.val (.bool x.pg.Leaf),_,_,_]]⟩:Row);rw[hl],⟨pre1,post1,by rw[hlk'],r1'⟩,⟨pre2,post2,by rw[hlv'],(kc l2 nl2).trans r2⟩,p3.keep ((kc x.d (Ne.symm nd')).trans ((keep2 x.d (by omega) (Ne.symm nvd)).trans (keep1 x.d ld (Ne.symm nkd))))⟩ (by omega) (by omega) (.inl rfl) (by omega) ?_ ?_ ?_
      ·simp only[PB.foot,mem_cons,not_mem_nil,or_false,not_or]at q2
       obtain⟨u1,u2,u3,u4⟩:=q2
       exact(kc l u1).trans ((keep2 l (by omega) u3).trans (keep1 l q1 u2))
      ·intro r hq
       rw[kc l1 nl1,keep2 l1 hlt1 (by omega)]at hq
       have:=hlim1 r hq
       omega
      ·intro r hq
       rw[kc l2 nl2]at hq
       have:=hlim2 r hq
       omega
      ·intro r hq
       rw[kc x.d (Ne.symm nd'),keep2 x.d (by omega) (Ne.symm nvd),keep1 x.d ld (Ne.symm nkd)]at hq
       have:=g.lim x.d (Pg.mem_foot hxB (by simp[PB.foot])) r hq
       omega
     rw[hlk]at *
     by_cases hbig:6<x.pg.Keys.length+1
     ·have hb1:(((x.pg.Keys.length+1:Nat):Int)>6)=True:=eq_true (by omega)
      simp(disch:=first|omega|simp only[lzz0_];first|done|omega)only[al_,ao_,go_sem,seval,o3,zz,hb1,r1,rl1]
      refine callSem.at fun Hc hHc=>?_
      rw[set_set]at hHc
      obtain⟨gu,hgo⟩:=gud Hc hHc
      refine f8_ (x:=⟨x.id,aE_ x.pg false at' key value,x.b,l1,l2,x.d⟩) gu ok1 (by omega) hl (by show(x.pg.Keys.take at'++key::x.pg.Keys.drop at').length=7;omega) (by show(x.pg.Vals.take at'++value::x.pg.Vals.drop at').length=7;omega) hkds _ ?_
      intro H' B' hgo2 hpg2
      have hfl:b2_ (aE_ x.pg false at' key value)=true:=by
       show(decide (6<(x.pg.Keys.take at'++key::x.pg.Keys.drop at').length)||_)=true
       rw[hinsl,decide_eq_true hbig];rfl
      have hput:bt_ (n+1) sl x.id key value=if aG_ (aa_ (aq_ ⟨x.id,aE_ x.pg false at' key value⟩ false sl)) 64=0 then(aq_ ⟨x.id,(aF_ (aE_ x.pg false at' key value)).1⟩ false (aq_ ⟨x.id,aE_ x.pg false at' key value⟩ false sl),⟨#[]⟩,0,4)else(up2 (aq_ ⟨x.id,aE_ x.pg false at' key value⟩ false sl) x.id (aE_ x.pg false at' key value),(aF_ (aE_ x.pg false at' key value)).2.2,aG_ (aa_ (aq_ ⟨x.id,aE_ x.pg false at' key value⟩ false sl)) 64,0):=by
       rw[c2_ hp hl,hf,bU_,dp_ ok.rise]
       simp only[hfl,Bool.true_eq_false,if_false]
      rw[hput]at hK
      by_cases hz:aG_ (aa_ (aq_ ⟨x.id,aE_ x.pg false at' key value⟩ false sl)) 64=0
      ·rw[if_pos hz]at hK hpg2
       simp(disch:=first|omega|simp only[lzz0_];first|done|omega)only[go_sem,seval,hz]
       exact hK _ _ (hgo.trans hgo2) hpg2
      ·rw[if_neg hz]at hK hpg2
       simp(disch:=first|omega|simp only[lzz0_];first|done|omega)only[go_sem,seval,hz]
       exact hK _ _ (hgo.trans hgo2) hpg2
     ·have hb1:(((x.pg.Keys.length+1:Nat):Int)>6)=False:=eq_false (by omega)
      simp(disch:=first|omega|simp only[lzz0_];first|done|omega)only[al_,ao_,go_sem,seval,o3,zz,hb1,r1,rl1]
      rw[set_set]
      obtain⟨gu,hgo⟩:=gud _ rfl
      have hfl:b2_ (aE_ x.pg false at' key value)=false:=by
       show(decide (6<(x.pg.Keys.take at'++key::x.pg.Keys.drop at').length)||decide (6<x.pg.Kids.length))=false
       rw[hinsl,decide_eq_false hbig,hkds];rfl
      have hput:bt_ (n+1) sl x.id key value=(aq_ ⟨x.id,aE_ x.pg false at' key value⟩ false sl,⟨#[]⟩,0,0):=by
       rw[c2_ hp hl,hf,bU_,dp_ ok.rise]
       simp only[hfl,if_true]
      rw[hput]at hK
      exact hK _ _ hgo gu
    ·refine bm_ (l:=x.k) (lv:=H.length+1) (i:=at') (mx:=mx) (xs:=x.pg.Keys) (v:=key) (p1.keep (by(simp(disch:=(first|omega|(simp only[ls_,la_,lc_,ln_];omega)))only[ac_]))) hat (fun r hq=>g.lim x.k (Pg.mem_foot hxB (by simp[PB.foot])) r (by rw[←hq];exact(ac_ lk).symm)) (by omega) (by first|((simp(disch:=(first|omega|(simp only[ls_,la_,lc_,ln_];omega)))only[a1_]);done)|((simp(disch:=(first|omega|(simp only[ls_,la_,lc_,ln_];omega)))only[al_,ao_,ac_,ar_,a1_,bD_,cg_]);rfl)) (by omega) ?_
     intro b1 H1 l1 hl1 hlt1 hlen1 kp1 w1 hlim1
     simp only[la_,lc_,ln_]at hl1 hlen1 kp1
     have keep1:∀l,l<H.length→l≠x.k→H1[l]?=H[l]?:=fun l q1 q2=>(kp1 l (by omega) q2).trans (ac_ q1)
     have o2:=(keep1 x.b lb nk).trans o1
     have cb1:b1.cell=true:=w1.cell
     simp(disch:=first|omega|simp only[lzz0_];first|done|omega)only[go_sem,seval,o2]
     refine bm_ (l:=x.v) (lv:=H.length) (i:=at') (mx:=mx) (xs:=x.pg.Vals) (v:=value) (p2.keep (by first|exact keep1 _ lv (Ne.symm nkv)|exact(ac_ (by omega)).trans (keep1 _ lv (Ne.symm nkv)))) hatv (fun r hq=>g.lim x.v (Pg.mem_foot hxB (by simp[PB.foot])) r (by rw[←hq];first|exact(keep1 _ lv (Ne.symm nkv)).symm|exact((ac_ (by omega)).trans (keep1 _ lv (Ne.symm nkv))).symm)) (by omega) (by first|exact ar_ rfl|(rw[kp1 _ (by omega) (by omega)];(simp(disch:=(first|omega|(simp only[ls_,la_,lc_,ln_];omega)))only[ar_]);done)|(rw[kp1 _ (by omega) (by omega)];(simp(disch:=(first|omega|(simp only[ls_,la_,lc_,ln_];omega)))only[al_,ao_,ac_,ar_,a1_,bD_,cg_]);rfl)) (by omega) ?_
     intro b2 H2 l2 hl2 hlt2 hlen2 kp2 w2 hlim2
     try simp only[la_,lc_,ln_]at hl2 hlen2 kp2
     have keep2:∀l,l<H1.length→l≠x.v→H2[l]?=H1[l]?:=fun l q1 q2=>(kp2 l (by omega) q2).trans (by first|rfl|exact ac_ q1)
     obtain⟨pre2,post2,rfl,r2⟩:=w2
     have hlv:((x.pg.Vals.take at'++value::x.pg.Vals.drop at').map ak_).length=x.pg.Vals.length+1:=by rw[length_map];exact hinsv
     rw[hlv]at *
     have o3:=(keep2 x.b (by omega) nv).trans o2
     have v1:=w1.keep (keep2 l1 hlt1 (by omega))
     obtain⟨pre1,post1,rfl,r1⟩:=v1
     have hlk:((x.pg.Keys.take at'++key::x.pg.Keys.drop at').map ak_).length=x.pg.Keys.length+1:=by rw[length_map];exact hinsl
     have rl1:(pre1++((x.pg.Keys.take at'++key::x.pg.Keys.drop at').map ak_++post1)).length=pre1.length+(x.pg.Keys.length+1+post1.length):=by rw[gv_,hlk]
     rw[hlk]at cb1
     have zz:pre1.length+(x.pg.Keys.length+1)-pre1.length=x.pg.Keys.length+1:=by omega
     have gud:∀Hc:List Row,Hc=H2.set x.b ⟨.ty 77,4,[[.val (.bool true),.sub l1 (pre1.length+(x.pg.Keys.length+1+post1.length)) pre1.length (pre1.length+(x.pg.Keys.length+1)),.sub l2 (pre2.length+(x.pg.Vals.length+1+post2.length)) pre2.length (pre2.length+(x.pg.Vals.length+1)),a3]]⟩→PgS Hc T M root (B1++⟨x.id,aE_ x.pg false at' key value,x.b,l1,l2,x.d⟩::B2) lo (mx+h+1) (aq_ ⟨x.id,aE_ x.pg false at' key value⟩ false sl)∧cl_ T M H (B1++x::B2) Hc (B1++⟨x.id,aE_ x.pg false at' key value,x.b,l1,l2,x.d⟩::B2):=by
      intro Hc hHc
      have lb2:x.b<H2.length:=by omega
      have kc:∀l,l≠x.b→Hc[l]?=H2[l]?:=fun l q=>by rw[hHc];exact al_ (Ne.symm q)
      have hHl:Hc.length=H2.length:=by rw[hHc];simp
      have nl1:l1≠x.b:=by omega
      have nl2:l2≠x.b:=by omega
      have r1':=(kc l1 nl1).trans r1
      refine gs_ (x:=x) (p':=aE_ x.pg false at' key value) (k:=l1) (v:=l2) (d:=x.d) (mx':=mx+h+1) g ok.rise (by omega) (by omega) (by omega) (fun l q1 q2=>?_) ⟨_,_,_,by rw[hHc,ao_ lb2];show _=some (⟨.ty 77,4,[[.val (.bool x.pg.Leaf),_,_,_]]⟩:Row);rw[hl],⟨pre1,post1,by rw[hlk'],r1'⟩,⟨pre2,post2,by rw[hlv'],(kc l2 nl2).trans r2⟩,p3.keep ((kc x.d (Ne.symm nd')).trans ((keep2 x.d (by omega) (Ne.symm nvd)).trans (keep1 x.d ld (Ne.symm nkd))))⟩ (by omega) (by omega) (.inl rfl) (by omega) ?_ ?_ ?_
      ·simp only[PB.foot,mem_cons,not_mem_nil,or_false,not_or]at q2
       obtain⟨u1,u2,u3,u4⟩:=q2
       exact(kc l u1).trans ((keep2 l (by omega) u3).trans (keep1 l q1 u2))
      ·intro r hq
       rw[kc l1 nl1,keep2 l1 hlt1 (by omega)]at hq
       have:=hlim1 r hq
       omega
      ·intro r hq
       rw[kc l2 nl2]at hq
       have:=hlim2 r hq
       omega
      ·intro r hq
       rw[kc x.d (Ne.symm nd'),keep2 x.d (by omega) (Ne.symm nvd),keep1 x.d ld (Ne.symm nkd)]at hq
       have:=g.lim x.d (Pg.mem_foot hxB (by simp[PB.foot])) r hq
       omega
     rw[hlk]at *
     by_cases hbig:6<x.pg.Keys.length+1
     ·have hb1:(((x.pg.Keys.length+1:Nat):Int)>6)=True:=eq_true (by omega)
      simp(disch:=first|omega|simp only[lzz0_];first|done|omega)only[al_,ao_,go_sem,seval,o3,zz,hb1,r1,rl1]
      refine callSem.at fun Hc hHc=>?_
      rw[set_set]at hHc
      obtain⟨gu,hgo⟩:=gud Hc hHc
      refine f8_ (x:=⟨x.id,aE_ x.pg false at' key value,x.b,l1,l2,x.d⟩) gu ok1 (by omega) hl (by show(x.pg.Keys.take at'++key::x.pg.Keys.drop at').length=7;omega) (by show(x.pg.Vals.take at'++value::x.pg.Vals.drop at').length=7;omega) hkds _ ?_
      intro H' B' hgo2 hpg2
      have hfl:b2_ (aE_ x.pg false at' key value)=true:=by
       show(decide (6<(x.pg.Keys.take at'++key::x.pg.Keys.drop at').length)||_)=true
       rw[hinsl,decide_eq_true hbig];rfl
      have hput:bt_ (n+1) sl x.id key value=if aG_ (aa_ (aq_ ⟨x.id,aE_ x.pg false at' key value⟩ false sl)) 64=0 then(aq_ ⟨x.id,(aF_ (aE_ x.pg false at' key value)).1⟩ false (aq_ ⟨x.id,aE_ x.pg false at' key value⟩ false sl),⟨#[]⟩,0,4)else(up2 (aq_ ⟨x.id,aE_ x.pg false at' key value⟩ false sl) x.id (aE_ x.pg false at' key value),(aF_ (aE_ x.pg false at' key value)).2.2,aG_ (aa_ (aq_ ⟨x.id,aE_ x.pg false at' key value⟩ false sl)) 64,0):=by
       rw[c2_ hp hl,hf,bU_,dp_ ok.rise]
       simp only[hfl,Bool.true_eq_false,if_false]
      rw[hput]at hK
      by_cases hz:aG_ (aa_ (aq_ ⟨x.id,aE_ x.pg false at' key value⟩ false sl)) 64=0
      ·rw[if_pos hz]at hK hpg2
       simp(disch:=first|omega|simp only[lzz0_];first|done|omega)only[go_sem,seval,hz]
       exact hK _ _ (hgo.trans hgo2) hpg2
      ·rw[if_neg hz]at hK hpg2
       simp(disch:=first|omega|simp only[lzz0_];first|done|omega)only[go_sem,seval,hz]
       exact hK _ _ (hgo.trans hgo2) hpg2
     ·have hb1:(((x.pg.Keys.length+1:Nat):Int)>6)=False:=eq_false (by omega)
      simp(disch:=first|omega|simp only[lzz0_];first|done|omega)only[al_,ao_,go_sem,seval,o3,zz,hb1,r1,rl1]
      rw[set_set]
      obtain⟨gu,hgo⟩:=gud _ rfl
      have hfl:b2_ (aE_ x.pg false at' key value)=false:=by
       show(decide (6<(x.pg.Keys.take at'++key::x.pg.Keys.drop at').length)||decide (6<x.pg.Kids.length))=false
       rw[hinsl,decide_eq_false hbig,hkds];rfl
      have hput:bt_ (n+1) sl x.id key value=(aq_ ⟨x.id,aE_ x.pg false at' key value⟩ false sl,⟨#[]⟩,0,0):=by
       rw[c2_ hp hl,hf,bU_,dp_ ok.rise]
       simp only[hfl,if_true]
      rw[hput]at hK
      exact hK _ _ hgo gu
  | false =>
   cases h with
   | zero=>rw[hlf]at hl;cases hl
   | succ h =>
   obtain⟨_,_,hlt,m,klo,khi,tk,ndm,hnm,hsub⟩:=t.kid nd hp key
   rw[hf]at tk hlt
   have hgd:x.pg.Kids.getD at' 0=x.pg.Kids[at']:=by rw[getD_eq_getElem?_getD,getElem?_eq_getElem hlt];rfl
   simp only at tk hlt
   obtain⟨pk,hpk,_⟩:=tk.page
   obtain⟨pre3,post3,rfl,e3⟩:=p3
   have q1:=gl_ pre3.length x.pg.Kids.length at' hlt
   have q2:(pre3++(x.pg.Kids.map aK_++post3))[pre3.length+at']?=some [.val (.int .i64 x.pg.Kids[at'])]:=by rw[dQ_ _ _ _ _ (by simpa using hlt),getElem?_map,getElem?_eq_getElem hlt];rfl
   rw[hgd]at tk hpk
   have hfd:=g0.find x.pg.Kids[at']
   have hsf:=g.same x.pg.Kids[at']
   rw[c4_,hpk]at hsf
   cases hz:(B1++x::B2).find? (fun x_1=>x_1.id==x.pg.Kids[at'])with
   | none=>rw[hz]at hsf;cases hsf
   | some z =>
   rw[hz]at hfd
   have hzB:=mem_of_find?_eq_some hz
   have hzid:z.id=x.pg.Kids[at']:=by simpa using find?_some hz
   rw[hl]at o1
   simp only[Option.map_some]at hfd
   simp(disch:=first|omega|simp only[lzz0_];first|done|omega)only[go_sem,seval,o1,gT,gM,e3,q1,q2,hfd,Option.getD_some]
   refine kj_ hkey hv64 h n mx sl false _ klo khi m H (B1++x::B2) z _ (by omega) hm7 (by omega) ok tk ndm g hzB hzid ?_
   intro G B' hgo hpg
   obtain⟨hgr,hsep⟩:=eX_ hkey hv64 h n sl false _ klo khi m (by omega) ok tk ndm
   obtain⟨sl',sep,new,code,hr⟩:∃sl' sep new code,bt_ n sl x.pg.Kids[at'] key value=(sl',sep,new,code):=⟨_,_,_,_,rfl⟩
   have hput:=gK_ (n:=n) (value:=value) (sl':=sl') (sep:=sep) (new:=new) (code:=code) hp hl (by rw[hf,hgd];exact hr)
   rw[hf]at hput
   rw[hput]at hK
   rw[hr]at hpg hgr hsep
   rw[hr]
   simp only at hpg hgr hsep hK
   clear hput hfd hsf hz q1 q2 e3
   by_cases hc:code=0
   ·by_cases hn0:new=0
    ·rw[if_neg (by simpa using hc),if_pos hn0]at hK
     simp(disch:=first|omega|simp only[lzz0_];first|done|omega)only[go_sem,seval,hc,hn0]
     exact hK _ _ hgo (hpg.mono (by omega))
    ·rw[if_neg (by simpa using hc),if_neg hn0]at hK
     obtain⟨y,hyB,hyid,hyb⟩:=hgo.keeps x hxB
     obtain⟨D1,D2,rfl⟩:=append_of_mem hyB
     have hpx:aa_ sl' x.id=some x.pg:=(hgr.kept x.id hnm (by rw[hp];rfl)).trans hp
     have hyp:=hpg.box hyB
     rw[hyid,hpx]at hyp
     have hyp:x.pg=y.pg:=Option.some.inj hyp
     rw[hyp]at hpb hl hlt hK hf s1 s2 s3
     rw[←hyid]at hK
     rw[←hyb]
     have g1:=hpg
     have ok1:=hgr.ok
     obtain⟨ents1,ck1,g2⟩:=g1.pg
     have hone1:(PB.all T M (D1++y::D2)).Nodup:=g2.one
     rw[(bY_ T M D1 D2 y).nodup_iff,nodup_append]at hone1
     have hyn:=hone1.1
     clear nk nv nd' nvd nkv nkd lb lk lv ld o1 p1 p2 c1 c2 c3
     simp only[PB.foot,nodup_cons,mem_cons,not_or,not_mem_nil,not_false_eq_true,and_true,nodup_nil]at hyn
     obtain⟨⟨nk,nv,nd'⟩,⟨nkv,nkd⟩,nvd⟩:=hyn
     obtain⟨a1,a2,a3,o1,p1,p2,p3⟩:=g2.pgs y hyB
     have lb:=(List.getElem?_eq_some_iff.1 o1).1
     have lk:=p1.lt
     have lv:=p2.lt
     have ld:=p3.lt
     have c1:a1.cell=true:=p1.cell
     have c2:a2.cell=true:=p2.cell
     have c3:a3.cell=true:=p3.cell
     obtain⟨_,m0,m1,m2,hvals,_⟩:=cq_ hpb hl
     have hly:=hl
     have haty:at'≤y.pg.Keys.length:=by omega
     have hatd:at'+1≤y.pg.Kids.length:=by omega
     have hcast:(at':Int)+1=((at'+1:Nat):Int):=by omega
     have hinsl:(y.pg.Keys.take at'++sep::y.pg.Keys.drop at').length=y.pg.Keys.length+1:=by simp only[la_,length_take,lc_,length_drop];omega
     have hinsd:(y.pg.Kids.take (at'+1)++new::y.pg.Kids.drop (at'+1)).length=y.pg.Kids.length+1:=by simp only[la_,length_take,lc_,length_drop];omega
     have hlk':((aD_ y.pg at' sep new).Keys.map ak_).length=y.pg.Keys.length+1:=by rw[length_map];exact hinsl
     have hlv':((aD_ y.pg at' sep new).Kids.map aK_).length=y.pg.Kids.length+1:=by rw[length_map];exact hinsd
     obtain⟨i1,i2,_⟩:=ok1.pgs _ _ (by rw[←hyid]at hpx;exact hpx)
     have ok2:cr_ (aq_ ⟨y.id,aD_ y.pg at' sep new⟩ false sl'):=ok1.set ⟨i1,i2,by have:=lY_ hpb hl key (hsep hn0) new;rw[hf]at this;exact this⟩
     rw[hly]at o1
     simp(disch:=first|omega|simp only[lzz0_];first|done|omega)only[ac_,go_sem,seval,hc,hn0,o1]
     refine⟨?_,?_,?_⟩
     ·refine bm_ (l:=y.k) (lv:=G.length) (i:=at') (mx:=mx+h+1) (xs:=y.pg.Keys) (v:=sep) (p1.keep (by(simp(disch:=(first|omega|(simp only[ls_,la_,lc_,ln_];omega)))only[ac_]))) haty (fun r hq=>g1.lim y.k (Pg.mem_foot hyB (by simp[PB.foot])) r (by rw[←hq];exact(ac_ lk).symm)) (by omega) (by first|((simp(disch:=(first|omega|(simp only[ls_,la_,lc_,ln_];omega)))only[ar_]);done)|((simp(disch:=(first|omega|(simp only[ls_,la_,lc_,ln_];omega)))only[al_,ao_,ac_,ar_,a1_,bD_,cg_]);rfl)) (by omega) ?_
      intro b1 H1 l1 hl1 hlt1 hlen1 kp1 w1 hlim1
      simp only[la_,lc_,ln_]at hl1 hlen1 kp1
      have keep1:∀l,l<G.length→l≠y.k→H1[l]?=G[l]?:=fun l q1 q2=>(kp1 l (by omega) q2).trans (ac_ q1)
      have o2:=(keep1 y.b lb nk).trans o1
      have cb1:b1.cell=true:=w1.cell
      simp(disch:=first|omega|simp only[lzz0_];first|done|omega)only[ac_,go_sem,seval,o2,hcast,aA_]
      refine d7_ (l:=y.d) (lv:=H1.length) (i:=at'+1) (mx:=mx+h+1) (xs:=y.pg.Kids) (v:=new) (p3.keep (by first|exact keep1 _ ld (Ne.symm nkd)|exact(ac_ (by omega)).trans (keep1 _ ld (Ne.symm nkd)))) hatd (fun r hq=>g1.lim y.d (Pg.mem_foot hyB (by simp[PB.foot])) r (by rw[←hq];first|exact(keep1 _ ld (Ne.symm nkd)).symm|exact((ac_ (by omega)).trans (keep1 _ ld (Ne.symm nkd))).symm)) (by omega) (by first|exact ar_ rfl|(rw[kp1 _ (by omega) (by omega)];(simp(disch:=(first|omega|(simp only[ls_,la_,lc_,ln_];omega)))only[al_,ao_,ac_,ar_,a1_,bD_,cg_]);done)|(rw[kp1 _ (by omega) (by omega)];(simp(disch:=(first|omega|(simp only[ls_,la_,lc_,ln_];omega)))only[al_,ao_,ac_,ar_,a1_,bD_,cg_]);rfl)) (by omega) ?_
      intro b2 H2 l2 hl2 hlt2 hlen2 kp2 w2 hlim2
      try simp only[la_,lc_,ln_]at hl2 hlen2 kp2
      have keep2:∀l,l<H1.length→l≠y.d→H2[l]?=H1[l]?:=fun l q1 q2=>(kp2 l (by omega) q2).trans (by first|rfl|exact ac_ q1)
      obtain⟨pre2,post2,rfl,r2⟩:=w2
      have hlv:((y.pg.Kids.take (at'+1)++new::y.pg.Kids.drop (at'+1)).map aK_).length=y.pg.Kids.length+1:=by rw[length_map];exact hinsd
      rw[hlv]at *
      have o3:=(keep2 y.b (by omega) nd').trans o2
      have v1:=w1.keep (keep2 l1 hlt1 (by omega))
      obtain⟨pre1,post1,rfl,r1⟩:=v1
      have hlk:((y.pg.Keys.take at'++sep::y.pg.Keys.drop at').map ak_).length=y.pg.Keys.length+1:=by rw[length_map];exact hinsl
      have rl2:(pre2++((y.pg.Kids.take (at'+1)++new::y.pg.Kids.drop (at'+1)).map aK_++post2)).length=pre2.length+(y.pg.Kids.length+1+post2.length):=by rw[gv_];simp only[length_map];rw[hinsd]
      rw[hlk]at cb1
      have zz:pre2.length+(y.pg.Kids.length+1)-pre2.length=y.pg.Kids.length+1:=by omega
      have gud:∀Hc:List Row,Hc=H2.set y.b ⟨.ty 77,4,[[.val (.bool false),.sub l1 (pre1.length+(y.pg.Keys.length+1+post1.length)) pre1.length (pre1.length+(y.pg.Keys.length+1)),a2,.sub l2 (pre2.length+(y.pg.Kids.length+1+post2.length)) pre2.length (pre2.length+(y.pg.Kids.length+1))]]⟩→PgS Hc T M root (D1++⟨y.id,aD_ y.pg at' sep new,y.b,l1,y.v,l2⟩::D2) lo (mx+(h+1)+1) (aq_ ⟨y.id,aD_ y.pg at' sep new⟩ false sl')∧cl_ T M G (D1++y::D2) Hc (D1++⟨y.id,aD_ y.pg at' sep new,y.b,l1,y.v,l2⟩::D2):=by
       intro Hc hHc
       have lb2:y.b<H2.length:=by omega
       have kc:∀l,l≠y.b→Hc[l]?=H2[l]?:=fun l q=>by rw[hHc];exact al_ (Ne.symm q)
       have hHl:Hc.length=H2.length:=by rw[hHc];simp
       have nl1:l1≠y.b:=by omega
       have nl2:l2≠y.b:=by omega
       have r1':=(kc l1 nl1).trans r1
       refine gs_ (x:=y) (p':=aD_ y.pg at' sep new) (k:=l1) (v:=y.v) (d:=l2) (mx':=mx+(h+1)+1) g1 ok1.rise (by omega) (by omega) (by omega) (fun l q1 q2=>?_) ⟨_,_,_,by rw[hHc,ao_ lb2];show _=some (⟨.ty 77,4,[[.val (.bool y.pg.Leaf),_,_,_]]⟩:Row);rw[hly],⟨pre1,post1,by rw[hlk'],r1'⟩,p2.keep ((kc y.v (Ne.symm nv)).trans ((keep2 y.v (by omega) nvd).trans (keep1 y.v lv (Ne.symm nkv)))),⟨pre2,post2,by rw[hlv'],(kc l2 nl2).trans r2⟩⟩ (by omega) (.inl rfl) (by omega) (by omega) ?_ ?_ ?_
       ·simp only[PB.foot,mem_cons,not_mem_nil,or_false,not_or]at q2
        obtain⟨u1,u2,u3,u4⟩:=q2
        exact(kc l u1).trans ((keep2 l (by omega) u4).trans (keep1 l q1 u2))
       ·intro r hq
        rw[kc l1 nl1,keep2 l1 hlt1 (by omega)]at hq
        have:=hlim1 r hq
        omega
       ·intro r hq
        rw[kc y.v (Ne.symm nv),keep2 y.v (by omega) nvd,keep1 y.v lv (Ne.symm nkv)]at hq
        have:=g1.lim y.v (Pg.mem_foot hyB (by simp[PB.foot])) r hq
        omega
       ·intro r hq
        rw[kc l2 nl2]at hq
        have:=hlim2 r hq
        omega
      rw[hlk]at *
      by_cases hbig:6<y.pg.Kids.length+1
      ·have hb1:(((y.pg.Kids.length+1:Nat):Int)>6)=True:=eq_true (by omega)
       simp(disch:=first|omega|simp only[lzz0_];first|done|omega)only[al_,ao_,go_sem,seval,o3,zz,hb1,r2,rl2]
       refine callSem.at fun Hc hHc=>?_
       rw[set_set]at hHc
       obtain⟨gu,hgo2⟩:=gud Hc hHc
       refine fU_ (x:=⟨y.id,aD_ y.pg at' sep new,y.b,l1,y.v,l2⟩) gu ok2 (by omega) hly (by show(y.pg.Keys.take at'++sep::y.pg.Keys.drop at').length=6;omega) (by show(y.pg.Kids.take (at'+1)++new::y.pg.Kids.drop (at'+1)).length=7;omega) hvals _ ?_
       intro H' B' hgo3 hpg3
       have hfl:b2_ (aD_ y.pg at' sep new)=true:=by
        show(_||decide (6<(y.pg.Kids.take (at'+1)++new::y.pg.Kids.drop (at'+1)).length))=true
        rw[hinsd,decide_eq_true hbig,Bool.or_true]
       have hput2:bU_ (aq_ ⟨y.id,aD_ y.pg at' sep new⟩ false sl') y.id=if aG_ (aa_ (aq_ ⟨y.id,aD_ y.pg at' sep new⟩ false sl')) 64=0 then(aq_ ⟨y.id,(aF_ (aD_ y.pg at' sep new)).1⟩ false (aq_ ⟨y.id,aD_ y.pg at' sep new⟩ false sl'),⟨#[]⟩,0,4)else(up2 (aq_ ⟨y.id,aD_ y.pg at' sep new⟩ false sl') y.id (aD_ y.pg at' sep new),(aF_ (aD_ y.pg at' sep new)).2.2,aG_ (aa_ (aq_ ⟨y.id,aD_ y.pg at' sep new⟩ false sl')) 64,0):=by
        rw[bU_,dp_ ok1.rise]
        simp only[hfl,Bool.true_eq_false,if_false]
       rw[hput2]at hK
       by_cases hz:aG_ (aa_ (aq_ ⟨y.id,aD_ y.pg at' sep new⟩ false sl')) 64=0
       ·rw[if_pos hz]at hK hpg3
        simp(disch:=first|omega|simp only[lzz0_];first|done|omega)only[go_sem,seval,hz]
        exact hK _ _ (hgo.trans (hgo2.trans hgo3)) hpg3
       ·rw[if_neg hz]at hK hpg3
        simp(disch:=first|omega|simp only[lzz0_];first|done|omega)only[go_sem,seval,hz]
        exact hK _ _ (hgo.trans (hgo2.trans hgo3)) hpg3
      ·have hb1:(((y.pg.Kids.length+1:Nat):Int)>6)=False:=eq_false (by omega)
       simp(disch:=first|omega|simp only[lzz0_];first|done|omega)only[al_,ao_,go_sem,seval,o3,zz,hb1,r2,rl2]
       rw[set_set]
       obtain⟨gu,hgo2⟩:=gud _ rfl
       have hfl:b2_ (aD_ y.pg at' sep new)=false:=by
        show(decide (6<(y.pg.Keys.take at'++sep::y.pg.Keys.drop at').length)||decide (6<(y.pg.Kids.take (at'+1)++new::y.pg.Kids.drop (at'+1)).length))=false
        rw[hinsd,hinsl,decide_eq_false hbig,decide_eq_false (by omega)];rfl
       have hput2:bU_ (aq_ ⟨y.id,aD_ y.pg at' sep new⟩ false sl') y.id=(aq_ ⟨y.id,aD_ y.pg at' sep new⟩ false sl',⟨#[]⟩,0,0):=by
        rw[bU_,dp_ ok1.rise]
        simp only[hfl,if_true]
       rw[hput2]at hK
       exact hK _ _ (hgo.trans hgo2) gu
     ·refine bm_ (l:=y.k) (lv:=G.length) (i:=at') (mx:=mx+h+1) (xs:=y.pg.Keys) (v:=sep) (p1.keep (by(simp(disch:=(first|omega|(simp only[ls_,la_,lc_,ln_];omega)))only[ac_]))) haty (fun r hq=>g1.lim y.k (Pg.mem_foot hyB (by simp[PB.foot])) r (by rw[←hq];exact(ac_ lk).symm)) (by omega) (by first|((simp(disch:=(first|omega|(simp only[ls_,la_,lc_,ln_];omega)))only[ar_]);done)|((simp(disch:=(first|omega|(simp only[ls_,la_,lc_,ln_];omega)))only[al_,ao_,ac_,ar_,a1_,bD_,cg_]);rfl)) (by omega) ?_
      intro b1 H1 l1 hl1 hlt1 hlen1 kp1 w1 hlim1
      simp only[la_,lc_,ln_]at hl1 hlen1 kp1
      have keep1:∀l,l<G.length→l≠y.k→H1[l]?=G[l]?:=fun l q1 q2=>(kp1 l (by omega) q2).trans (ac_ q1)
      have o2:=(keep1 y.b lb nk).trans o1
      have cb1:b1.cell=true:=w1.cell
      simp(disch:=first|omega|simp only[lzz0_];first|done|omega)only[go_sem,seval,o2,hcast,aA_]
      refine d7_ (l:=y.d) (lv:=G.length+1) (i:=at'+1) (mx:=mx+h+1) (xs:=y.pg.Kids) (v:=new) (p3.keep (by first|exact keep1 _ ld (Ne.symm nkd)|exact(ac_ (by omega)).trans (keep1 _ ld (Ne.symm nkd)))) hatd (fun r hq=>g1.lim y.d (Pg.mem_foot hyB (by simp[PB.foot])) r (by rw[←hq];first|exact(keep1 _ ld (Ne.symm nkd)).symm|exact((ac_ (by omega)).trans (keep1 _ ld (Ne.symm nkd))).symm)) (by omega) (by first|exact ar_ rfl|(rw[kp1 _ (by omega) (by omega)];(simp(disch:=(first|omega|(simp only[ls_,la_,lc_,ln_];omega)))only[a1_]);done)|(rw[kp1 _ (by omega) (by omega)];(simp(disch:=(first|omega|(simp only[ls_,la_,lc_,ln_];omega)))only[al_,ao_,ac_,ar_,a1_,bD_,cg_]);rfl)) (by omega) ?_
      intro b2 H2 l2 hl2 hlt2 hlen2 kp2 w2 hlim2
      try simp only[la_,lc_,ln_]at hl2 hlen2 kp2
      have keep2:∀l,l<H1.length→l≠y.d→H2[l]?=H1[l]?:=fun l q1 q2=>(kp2 l (by omega) q2).trans (by first|rfl|exact ac_ q1)
      obtain⟨pre2,post2,rfl,r2⟩:=w2
      have hlv:((y.pg.Kids.take (at'+1)++new::y.pg.Kids.drop (at'+1)).map aK_).length=y.pg.Kids.length+1:=by rw[length_map];exact hinsd
      rw[hlv]at *
      have o3:=(keep2 y.b (by omega) nd').trans o2
      have v1:=w1.keep (keep2 l1 hlt1 (by omega))
      obtain⟨pre1,post1,rfl,r1⟩:=v1
      have hlk:((y.pg.Keys.take at'++sep::y.pg.Keys.drop at').map ak_).length=y.pg.Keys.length+1:=by rw[length_map];exact hinsl
      have rl2:(pre2++((y.pg.Kids.take (at'+1)++new::y.pg.Kids.drop (at'+1)).map aK_++post2)).length=pre2.length+(y.pg.Kids.length+1+post2.length):=by rw[gv_];simp only[length_map];rw[hinsd]
      rw[hlk]at cb1
      have zz:pre2.length+(y.pg.Kids.length+1)-pre2.length=y.pg.Kids.length+1:=by omega
      have gud:∀Hc:List Row,Hc=H2.set y.b ⟨.ty 77,4,[[.val (.bool false),.sub l1 (pre1.length+(y.pg.Keys.length+1+post1.length)) pre1.length (pre1.length+(y.pg.Keys.length+1)),a2,.sub l2 (pre2.length+(y.pg.Kids.length+1+post2.length)) pre2.length (pre2.length+(y.pg.Kids.length+1))]]⟩→PgS Hc T M root (D1++⟨y.id,aD_ y.pg at' sep new,y.b,l1,y.v,l2⟩::D2) lo (mx+(h+1)+1) (aq_ ⟨y.id,aD_ y.pg at' sep new⟩ false sl')∧cl_ T M G (D1++y::D2) Hc (D1++⟨y.id,aD_ y.pg at' sep new,y.b,l1,y.v,l2⟩::D2):=by
       intro Hc hHc
       have lb2:y.b<H2.length:=by omega
       have kc:∀l,l≠y.b→Hc[l]?=H2[l]?:=fun l q=>by rw[hHc];exact al_ (Ne.symm q)
       have hHl:Hc.length=H2.length:=by rw[hHc];simp
       have nl1:l1≠y.b:=by omega
       have nl2:l2≠y.b:=by omega
       have r1':=(kc l1 nl1).trans r1
       refine gs_ (x:=y) (p':=aD_ y.pg at' sep new) (k:=l1) (v:=y.v) (d:=l2) (mx':=mx+(h+1)+1) g1 ok1.rise (by omega) (by omega) (by omega) (fun l q1 q2=>?_) ⟨_,_,_,by rw[hHc,ao_ lb2];show _=some (⟨.ty 77,4,[[.val (.bool y.pg.Leaf),_,_,_]]⟩:Row);rw[hly],⟨pre1,post1,by rw[hlk'],r1'⟩,p2.keep ((kc y.v (Ne.symm nv)).trans ((keep2 y.v (by omega) nvd).trans (keep1 y.v lv (Ne.symm nkv)))),⟨pre2,post2,by rw[hlv'],(kc l2 nl2).trans r2⟩⟩ (by omega) (.inl rfl) (by omega) (by omega) ?_ ?_ ?_
       ·simp only[PB.foot,mem_cons,not_mem_nil,or_false,not_or]at q2
        obtain⟨u1,u2,u3,u4⟩:=q2
        exact(kc l u1).trans ((keep2 l (by omega) u4).trans (keep1 l q1 u2))
       ·intro r hq
        rw[kc l1 nl1,keep2 l1 hlt1 (by omega)]at hq
        have:=hlim1 r hq
        omega
       ·intro r hq
        rw[kc y.v (Ne.symm nv),keep2 y.v (by omega) nvd,keep1 y.v lv (Ne.symm nkv)]at hq
        have:=g1.lim y.v (Pg.mem_foot hyB (by simp[PB.foot])) r hq
        omega
       ·intro r hq
        rw[kc l2 nl2]at hq
        have:=hlim2 r hq
        omega
      rw[hlk]at *
      by_cases hbig:6<y.pg.Kids.length+1
      ·have hb1:(((y.pg.Kids.length+1:Nat):Int)>6)=True:=eq_true (by omega)
       simp(disch:=first|omega|simp only[lzz0_];first|done|omega)only[al_,ao_,go_sem,seval,o3,zz,hb1,r2,rl2]
       refine callSem.at fun Hc hHc=>?_
       rw[set_set]at hHc
       obtain⟨gu,hgo2⟩:=gud Hc hHc
       refine fU_ (x:=⟨y.id,aD_ y.pg at' sep new,y.b,l1,y.v,l2⟩) gu ok2 (by omega) hly (by show(y.pg.Keys.take at'++sep::y.pg.Keys.drop at').length=6;omega) (by show(y.pg.Kids.take (at'+1)++new::y.pg.Kids.drop (at'+1)).length=7;omega) hvals _ ?_
       intro H' B' hgo3 hpg3
       have hfl:b2_ (aD_ y.pg at' sep new)=true:=by
        show(_||decide (6<(y.pg.Kids.take (at'+1)++new::y.pg.Kids.drop (at'+1)).length))=true
        rw[hinsd,decide_eq_true hbig,Bool.or_true]
       have hput2:bU_ (aq_ ⟨y.id,aD_ y.pg at' sep new⟩ false sl') y.id=if aG_ (aa_ (aq_ ⟨y.id,aD_ y.pg at' sep new⟩ false sl')) 64=0 then(aq_ ⟨y.id,(aF_ (aD_ y.pg at' sep new)).1⟩ false (aq_ ⟨y.id,aD_ y.pg at' sep new⟩ false sl'),⟨#[]⟩,0,4)else(up2 (aq_ ⟨y.id,aD_ y.pg at' sep new⟩ false sl') y.id (aD_ y.pg at' sep new),(aF_ (aD_ y.pg at' sep new)).2.2,aG_ (aa_ (aq_ ⟨y.id,aD_ y.pg at' sep new⟩ false sl')) 64,0):=by
        rw[bU_,dp_ ok1.rise]
        simp only[hfl,Bool.true_eq_false,if_false]
       rw[hput2]at hK
       by_cases hz:aG_ (aa_ (aq_ ⟨y.id,aD_ y.pg at' sep new⟩ false sl')) 64=0
       ·rw[if_pos hz]at hK hpg3
        simp(disch:=first|omega|simp only[lzz0_];first|done|omega)only[go_sem,seval,hz]
        exact hK _ _ (hgo.trans (hgo2.trans hgo3)) hpg3
       ·rw[if_neg hz]at hK hpg3
        simp(disch:=first|omega|simp only[lzz0_];first|done|omega)only[go_sem,seval,hz]
        exact hK _ _ (hgo.trans (hgo2.trans hgo3)) hpg3
      ·have hb1:(((y.pg.Kids.length+1:Nat):Int)>6)=False:=eq_false (by omega)
       simp(disch:=first|omega|simp only[lzz0_];first|done|omega)only[al_,ao_,go_sem,seval,o3,zz,hb1,r2,rl2]
       rw[set_set]
       obtain⟨gu,hgo2⟩:=gud _ rfl
       have hfl:b2_ (aD_ y.pg at' sep new)=false:=by
        show(decide (6<(y.pg.Keys.take at'++sep::y.pg.Keys.drop at').length)||decide (6<(y.pg.Kids.take (at'+1)++new::y.pg.Kids.drop (at'+1)).length))=false
        rw[hinsd,hinsl,decide_eq_false hbig,decide_eq_false (by omega)];rfl
       have hput2:bU_ (aq_ ⟨y.id,aD_ y.pg at' sep new⟩ false sl') y.id=(aq_ ⟨y.id,aD_ y.pg at' sep new⟩ false sl',⟨#[]⟩,0,0):=by
        rw[bU_,dp_ ok1.rise]
        simp only[hfl,if_true]
       rw[hput2]at hK
       exact hK _ _ (hgo.trans hgo2) gu
     ·refine bm_ (l:=y.k) (lv:=G.length+1) (i:=at') (mx:=mx+h+1) (xs:=y.pg.Keys) (v:=sep) (p1.keep (by(simp(disch:=(first|omega|(simp only[ls_,la_,lc_,ln_];omega)))only[ac_]))) haty (fun r hq=>g1.lim y.k (Pg.mem_foot hyB (by simp[PB.foot])) r (by rw[←hq];exact(ac_ lk).symm)) (by omega) (by first|((simp(disch:=(first|omega|(simp only[ls_,la_,lc_,ln_];omega)))only[a1_]);done)|((simp(disch:=(first|omega|(simp only[ls_,la_,lc_,ln_];omega)))only[al_,ao_,ac_,ar_,a1_,bD_,cg_]);rfl)) (by omega) ?_
      intro b1 H1 l1 hl1 hlt1 hlen1 kp1 w1 hlim1
      simp only[la_,lc_,ln_]at hl1 hlen1 kp1
      have keep1:∀l,l<G.length→l≠y.k→H1[l]?=G[l]?:=fun l q1 q2=>(kp1 l (by omega) q2).trans (ac_ q1)
      have o2:=(keep1 y.b lb nk).trans o1
      have cb1:b1.cell=true:=w1.cell
      simp(disch:=first|omega|simp only[lzz0_];first|done|omega)only[go_sem,seval,o2,hcast,aA_]
      refine d7_ (l:=y.d) (lv:=G.length) (i:=at'+1) (mx:=mx+h+1) (xs:=y.pg.Kids) (v:=new) (p3.keep (by first|exact keep1 _ ld (Ne.symm nkd)|exact(ac_ (by omega)).trans (keep1 _ ld (Ne.symm nkd)))) hatd (fun r hq=>g1.lim y.d (Pg.mem_foot hyB (by simp[PB.foot])) r (by rw[←hq];first|exact(keep1 _ ld (Ne.symm nkd)).symm|exact((ac_ (by omega)).trans (keep1 _ ld (Ne.symm nkd))).symm)) (by omega) (by first|exact ar_ rfl|(rw[kp1 _ (by omega) (by omega)];(simp(disch:=(first|omega|(simp only[ls_,la_,lc_,ln_];omega)))only[ar_]);done)|(rw[kp1 _ (by omega) (by omega)];(simp(disch:=(first|omega|(simp only[ls_,la_,lc_,ln_];omega)))only[al_,ao_,ac_,ar_,a1_,bD_,cg_]);rfl)) (by omega) ?_
      intro b2 H2 l2 hl2 hlt2 hlen2 kp2 w2 hlim2
      try simp only[la_,lc_,ln_]at hl2 hlen2 kp2
      have keep2:∀l,l<H1.length→l≠y.d→H2[l]?=H1[l]?:=fun l q1 q2=>(kp2 l (by omega) q2).trans (by first|rfl|exact ac_ q1)
      obtain⟨pre2,post2,rfl,r2⟩:=w2
      have hlv:((y.pg.Kids.take (at'+1)++new::y.pg.Kids.drop (at'+1)).map aK_).length=y.pg.Kids.length+1:=by rw[length_map];exact hinsd
      rw[hlv]at *
      have o3:=(keep2 y.b (by omega) nd').trans o2
      have v1:=w1.keep (keep2 l1 hlt1 (by omega))
      obtain⟨pre1,post1,rfl,r1⟩:=v1
      have hlk:((y.pg.Keys.take at'++sep::y.pg.Keys.drop at').map ak_).length=y.pg.Keys.length+1:=by rw[length_map];exact hinsl
      have rl2:(pre2++((y.pg.Kids.take (at'+1)++new::y.pg.Kids.drop (at'+1)).map aK_++post2)).length=pre2.length+(y.pg.Kids.length+1+post2.length):=by rw[gv_];simp only[length_map];rw[hinsd]
      rw[hlk]at cb1
      have zz:pre2.length+(y.pg.Kids.length+1)-pre2.length=y.pg.Kids.length+1:=by omega
      have gud:∀Hc:List Row,Hc=H2.set y.b ⟨.ty 77,4,[[.val (.bool false),.sub l1 (pre1.length+(y.pg.Keys.length+1+post1.length)) pre1.length (pre1.length+(y.pg.Keys.length+1)),a2,.sub l2 (pre2.length+(y.pg.Kids.length+1+post2.length)) pre2.length (pre2.length+(y.pg.Kids.length+1))]]⟩→PgS Hc T M root (D1++⟨y.id,aD_ y.pg at' sep new,y.b,l1,y.v,l2⟩::D2) lo (mx+(h+1)+1) (aq_ ⟨y.id,aD_ y.pg at' sep new⟩ false sl')∧cl_ T M G (D1++y::D2) Hc (D1++⟨y.id,aD_ y.pg at' sep new,y.b,l1,y.v,l2⟩::D2):=by
       intro Hc hHc
       have lb2:y.b<H2.length:=by omega
       have kc:∀l,l≠y.b→Hc[l]?=H2[l]?:=fun l q=>by rw[hHc];exact al_ (Ne.symm q)
       have hHl:Hc.length=H2.length:=by rw[hHc];simp
       have nl1:l1≠y.b:=by omega
       have nl2:l2≠y.b:=by omega
       have r1':=(kc l1 nl1).trans r1
       refine gs_ (x:=y) (p':=aD_ y.pg at' sep new) (k:=l1) (v:=y.v) (d:=l2) (mx':=mx+(h+1)+1) g1 ok1.rise (by omega) (by omega) (by omega) (fun l q1 q2=>?_) ⟨_,_,_,by rw[hHc,ao_ lb2];show _=some (⟨.ty 77,4,[[.val (.bool y.pg.Leaf),_,_,_]]⟩:Row);rw[hly],⟨pre1,post1,by rw[hlk'],r1'⟩,p2.keep ((kc y.v (Ne.symm nv)).trans ((keep2 y.v (by omega) nvd).trans (keep1 y.v lv (Ne.symm nkv)))),⟨pre2,post2,by rw[hlv'],(kc l2 nl2).trans r2⟩⟩ (by omega) (.inl rfl) (by omega) (by omega) ?_ ?_ ?_
       ·simp only[PB.foot,mem_cons,not_mem_nil,or_false,not_or]at q2
        obtain⟨u1,u2,u3,u4⟩:=q2
        exact(kc l u1).trans ((keep2 l (by omega) u4).trans (keep1 l q1 u2))
       ·intro r hq
        rw[kc l1 nl1,keep2 l1 hlt1 (by omega)]at hq
        have:=hlim1 r hq
        omega
       ·intro r hq
        rw[kc y.v (Ne.symm nv),keep2 y.v (by omega) nvd,keep1 y.v lv (Ne.symm nkv)]at hq
        have:=g1.lim y.v (Pg.mem_foot hyB (by simp[PB.foot])) r hq
        omega
       ·intro r hq
        rw[kc l2 nl2]at hq
        have:=hlim2 r hq
        omega
      rw[hlk]at *
      by_cases hbig:6<y.pg.Kids.length+1
      ·have hb1:(((y.pg.Kids.length+1:Nat):Int)>6)=True:=eq_true (by omega)
       simp(disch:=first|omega|simp only[lzz0_];first|done|omega)only[al_,ao_,go_sem,seval,o3,zz,hb1,r2,rl2]
       refine callSem.at fun Hc hHc=>?_
       rw[set_set]at hHc
       obtain⟨gu,hgo2⟩:=gud Hc hHc
       refine fU_ (x:=⟨y.id,aD_ y.pg at' sep new,y.b,l1,y.v,l2⟩) gu ok2 (by omega) hly (by show(y.pg.Keys.take at'++sep::y.pg.Keys.drop at').length=6;omega) (by show(y.pg.Kids.take (at'+1)++new::y.pg.Kids.drop (at'+1)).length=7;omega) hvals _ ?_
       intro H' B' hgo3 hpg3
       have hfl:b2_ (aD_ y.pg at' sep new)=true:=by
        show(_||decide (6<(y.pg.Kids.take (at'+1)++new::y.pg.Kids.drop (at'+1)).length))=true
        rw[hinsd,decide_eq_true hbig,Bool.or_true]
       have hput2:bU_ (aq_ ⟨y.id,aD_ y.pg at' sep new⟩ false sl') y.id=if aG_ (aa_ (aq_ ⟨y.id,aD_ y.pg at' sep new⟩ false sl')) 64=0 then(aq_ ⟨y.id,(aF_ (aD_ y.pg at' sep new)).1⟩ false (aq_ ⟨y.id,aD_ y.pg at' sep new⟩ false sl'),⟨#[]⟩,0,4)else(up2 (aq_ ⟨y.id,aD_ y.pg at' sep new⟩ false sl') y.id (aD_ y.pg at' sep new),(aF_ (aD_ y.pg at' sep new)).2.2,aG_ (aa_ (aq_ ⟨y.id,aD_ y.pg at' sep new⟩ false sl')) 64,0):=by
        rw[bU_,dp_ ok1.rise]
        simp only[hfl,Bool.true_eq_false,if_false]
       rw[hput2]at hK
       by_cases hz:aG_ (aa_ (aq_ ⟨y.id,aD_ y.pg at' sep new⟩ false sl')) 64=0
       ·rw[if_pos hz]at hK hpg3
        simp(disch:=first|omega|simp only[lzz0_];first|done|omega)only[go_sem,seval,hz]
        exact hK _ _ (hgo.trans (hgo2.trans hgo3)) hpg3
       ·rw[if_neg hz]at hK hpg3
        simp(disch:=first|omega|simp only[lzz0_];first|done|omega)only[go_sem,seval,hz]
        exact hK _ _ (hgo.trans (hgo2.trans hgo3)) hpg3
      ·have hb1:(((y.pg.Kids.length+1:Nat):Int)>6)=False:=eq_false (by omega)
       simp(disch:=first|omega|simp only[lzz0_];first|done|omega)only[al_,ao_,go_sem,seval,o3,zz,hb1,r2,rl2]
       rw[set_set]
       obtain⟨gu,hgo2⟩:=gud _ rfl
       have hfl:b2_ (aD_ y.pg at' sep new)=false:=by
        show(decide (6<(y.pg.Keys.take at'++sep::y.pg.Keys.drop at').length)||decide (6<(y.pg.Kids.take (at'+1)++new::y.pg.Kids.drop (at'+1)).length))=false
        rw[hinsd,hinsl,decide_eq_false hbig,decide_eq_false (by omega)];rfl
       have hput2:bU_ (aq_ ⟨y.id,aD_ y.pg at' sep new⟩ false sl') y.id=(aq_ ⟨y.id,aD_ y.pg at' sep new⟩ false sl',⟨#[]⟩,0,0):=by
        rw[bU_,dp_ ok1.rise]
        simp only[hfl,if_true]
       rw[hput2]at hK
       exact hK _ _ (hgo.trans hgo2) gu
   ·rw[if_pos hc]at hK
    simp(disch:=first|omega|simp only[lzz0_];first|done|omega)only[go_sem,seval,hc]
    exact hK _ _ hgo (hpg.mono (by omega))
theorem PgS.reroot{H:List Row}{T M:Nat}{root:Int}{B:List PB}{lo mx:Nat}{sl:List ad_}(g:PgS H T M root B lo mx sl)(h1:1≤mx)(root':Int):PgS (H.set T ⟨.ty 93,2,[[.val (.int .i64 root'),.mp M]]⟩) T M root' B lo mx sl∧cl_ T M H B (H.set T ⟨.ty 93,2,[[.val (.int .i64 root'),.mp M]]⟩) B:=by
 obtain⟨ents,ck,g0⟩:=g.pg
 have hT:=(g0.lows T (by simp)).2
 refine⟨⟨⟨ents,ck,g0.reroot⟩,g.same,fun l hl r hr=>?_⟩,by simp,fun l hl hn=>?_,fun l hl=>.inl hl,fun y hy=>⟨y,hy,rfl,rfl⟩⟩
 ·by_cases e:T=l
  ·subst e
   rw[getElem?_set_self hT]at hr
   obtain rfl:=Option.some.inj hr
   exact h1
  ·rw[getElem?_set_ne e]at hr
   exact g.lim l hl r hr
 ·exact getElem?_set_ne (fun e:T=l=>hn (by rw[←e];simp[PB.all]))
theorem uM_{H Hy:List Row}{T M:Nat}{root:Int}{B:List PB}{lo mx:Nat}{sl:List ad_}(g:PgS H T M root B lo mx sl)(hrise:df_ sl)(hmo:bu_ H Hy){right:ap_}(hmx:1≤mx){r1 r2 r3:Nat}{b1 b2 b3:AV}
 (h1:aI_ Hy 9 1 b1 r1 (right.Keys.map ak_)) (h2:aI_ Hy 9 1 b2 r2 (right.Vals.map ak_)) (h3:aI_ Hy 2 1 b3 r3 (right.Kids.map aK_))
 (hr:H.length≤r1∧H.length≤r2∧H.length≤r3∧r1≠r2∧r1≠r3∧r2≠r3) (hlim:Lim Hy [r1,r2,r3] mx) (K:AV→List Row→Prop)
 (hK:∀H' B',cl_ T M H B H' B'→PgS H' T M root B' lo mx (if aG_ (aa_ sl) 64=0 then sl else aq_ ⟨aG_ (aa_ sl) 64,right⟩ false sl)→K (.val (.int .i64 (aG_ (aa_ sl) 64))) H') :
 callSem Tryz.prog 81 [.ptr T 1 0 0,.agg [.val (.bool right.Leaf),b1,b2,b3]] Hy K:=by
 have gu:=g.more hmo
 have hgo:cl_ T M H B Hy B:=cl_.more hmo
 have hlen:=hmo.len
 obtain⟨ents0,ck0,g0⟩:=g.pg
 obtain⟨ents,ck,gx⟩:=gu.pg
 have hTM:T≠M:=by
  intro e
  have:=(nodup_cons.1 gx.one).1
  exact this (by simp[e])
 have hlow:∀l∈PB.all T M B,l<H.length∧lo≤l:=fun l hl=>⟨(g0.lows l hl).2,(g0.lows l hl).1⟩
 have hlo:lo≤H.length:=by have:=g0.lows T (by simp);omega
 obtain⟨e1,e2,e3,e4,e5,e6⟩:=hr
 have l1:=h1.lt
 have l2:=h2.lt
 have l3:=h3.lt
 refine kz_ (st:=aa_ sl) gx.box gx.map hTM (PgS.isSome gx gu.same) _ _ _ _ (by simp only[all_cons,all_nil,Bool.and_true,h1.cell,h2.cell,h3.cell];rfl) K (fun hz=>?_) (fun hz=>?_)
 ·have:=hK (Hy++[⟨.ty 77,4,[[.val (.bool right.Leaf),b1,b2,b3]]⟩]) _ (hgo.trans (cl_.more (bu_.app _ _))) (by rw[if_pos hz];exact gu.more (bu_.app _ _))
  rw[hz]at this
  exact this
 ·rcases ei_ (st:=aa_ sl) 64 (Nat.le_refl _)with q|⟨q1,q2,q3⟩
  ·exact absurd q hz
  have hMl:M<Hy.length:=(gx.lows M (by simp)).2
  have hMn:M<H.length:=(hlow M (by simp[PB.all])).1
  have hke:∀(r r':Row) (l:Nat),l<Hy.length→l≠M→((Hy++[r]).set M r')[l]?=Hy[l]?:=fun r r' l hl hne=>by
   rw[getElem?_set_ne (Ne.symm hne),getElem?_append_left hl]
  have hbn:∀(r r':Row),((Hy++[r]).set M r')[Hy.length]?=some r:=fun r r'=>by
   rw[getElem?_set_ne (by omega),getElem?_append_right (Nat.le_refl _),Nat.sub_self];rfl
  have ga:=gu.add (H':=((Hy++([⟨.ty 77,4,[[.val (.bool right.Leaf),b1,b2,b3]]⟩]:List Row)).set M ⟨.pmap (ents++[(aG_ (aa_ sl) 64,ck,AV.ptr Hy.length 1 0 0)]) (ck+1),0,[]⟩)) (x:=⟨aG_ (aa_ sl) 64,right,Hy.length,r1,r2,r3⟩) (mx':=mx) hrise q3 (fun l hl hne=>hke _ _ l hl hne) (by simp) (by
   intro l hl
   simp only[PB.foot,mem_cons,not_mem_nil,or_false]at hl
   have hb:H.length≤l∧l≤Hy.length:=by omega
   refine⟨by omega,by simp only[ls_,la_,lc_,ln_];omega,fun hm=>?_⟩
   have:=(hlow l hm).1
   omega) (by simp only[PB.foot,nodup_cons,mem_cons,not_mem_nil,or_false,not_or,nodup_nil,and_true,not_false_eq_true];omega)
   ⟨b1,b2,b3,hbn _ _,h1.keep (hke _ _ _ l1 (by omega)),h2.keep (hke _ _ _ l2 (by omega)),h3.keep (hke _ _ _ l3 (by omega))⟩ (by
    intro ents' ck' hm
    rw[gx.map]at hm
    have hm:=Option.some.inj hm
    simp only[Row.mk.injEq,Tag.pmap.injEq,and_true]at hm
    obtain⟨rfl,rfl⟩:=hm
    exact getElem?_set_self (by simp;omega)) (Nat.le_refl _) (by
    intro l hl r hq
    simp only[PB.foot,mem_cons,not_mem_nil,or_false]at hl
    rcases hl with rfl|hl
    ·rw[hbn]at hq
     obtain rfl:=Option.some.inj hq
     show 1≤mx
     omega
    ·have hl2:l∈[r1,r2,r3]:=by simpa using hl
     rw[hke _ _ l (by omega) (by omega)]at hq
     exact hlim l hl2 r hq)
  refine hK _ _ (cl_.add (x:=⟨aG_ (aa_ sl) 64,right,Hy.length,r1,r2,r3⟩) hgo (fun l hl hne=>hke _ _ l hl hne) (by simp) (by
   intro l hl
   simp only[PB.foot,mem_cons,not_mem_nil,or_false]at hl
   omega)) ?_
  rw[if_neg hz]
  exact ga
def c39:LC :=
 .q [.o [.ki 6 0],.gops [.m 12 0,.m 13 0,.nc 14 13,.fa 15 1 14,.ln 16 15,.m 17 0,.nc 18 17,.fa 19 0 18,.ln 20 19,.s 21 (.ext (.lookP false (.tmp 16) (.tmp 20))),.m 22 1,.m 23 2] [(.s 24 (.call 80 [.tmp 12,
 .tmp 21,.tmp 22,.tmp 23]),[]),(.m 11 24,[]),(.ex 25 11 0,[]),(.ex 26 11 1,[]),(.ex 27 11 2,[]),(.m 7 25,[]),(.m 8 26,[]),(.m 9 27,[])],.q [.o [.m 28 9,.bk 29 .neq false 28 0,.m 30 29,.gm 31 30 false
 8,.g 32 30 false (.bin .eql false (.tmp 31) (.const (.int .i64 0))),.pt 33 30 32],.k 33 (.q [.o [.m 34 9,.m 6 34],.ret]) .skip],.o [.m 35 0,.m 36 7,.s 37 (.buildSlice 9 1 (.string ⟨#[]⟩) 1 [(0,.tmp 36)]),.m 38
 0,.nc 39 38,.fa 40 0 39,.ln 41 40,.m 42 8,.s 43 (.buildSlice 2 1 (.int .i64 0) 2 [(0,.tmp 41),(1,.tmp 42)]),.s 44 (.build z1z [(0,1),(1,1),(2,1),(3,1)] [(1,.tmp 37),(3,.tmp 43)]),.c2 45 81 35 44,.m
 10 45],.q [.o [.m 46 10,.bk 47 .eql false 46 0],.k 47 (.q [.o [.ki 6 4],.ret]) .skip],.o [.m 48 0,.m 49 10,.nc 50 48,.fa 51 0 50,.st 1 51 49],.o [.ki 6 0],.ret]
def zE_:LF:=⟨3,52,c39,[.tmp 6]⟩
theorem Am_:aC_ Tryz.prog Tryz.f39 zE_:=do_
theorem mO_{key value:ByteArray}(hkey:bC_ key=true)(hv64:value.size≤64){T M:Nat}{root:Int}{lo hh mx:Nat}{sl:List ad_}{ids:List Int}{H:List Row}{B:List PB}(hhn:hh<65)(hm7:7≤mx)(hmx:mx+hh≤1073741000)(ok:cr_ sl)(t:au_ (aa_ sl) hh true root ⟨#[]⟩ ⟨#[]⟩ ids)(nd:ids.Nodup)(g:PgS H T M root B lo mx sl)(K:AV→List Row→Prop)
 (hK:∀H' B',cl_ T M H B H' B'→PgS H' T M (eq_ 65 ⟨root,sl⟩ key value).1.Root B' lo (mx+hh+1) (eq_ 65 ⟨root,sl⟩ key value).1.Slots→K (.val (.int .i64 (eq_ 65 ⟨root,sl⟩ key value).2)) H') :
 callSem Tryz.prog 39 [.ptr T 1 0 0,.val (.string key),.val (.string value)] H K:=by
 obtain⟨ents0,ck0,g0⟩:=g.pg
 have gT:=g0.box
 have gM:=g0.map
 obtain⟨p0,hp0,_⟩:=t.page
 have hfd:=g0.find root
 have hsf:=g.same root
 rw[c4_,hp0]at hsf
 cases hz:B.find? (fun x_1=>x_1.id==root)with
 | none=>rw[hz]at hsf;cases hsf
 | some z =>
 rw[hz]at hfd
 have hzB:=mem_of_find?_eq_some hz
 have hzid:z.id=root:=by simpa using find?_some hz
 simp only[Option.map_some]at hfd
 refine aO_ mixed Tryz.func39 Am_ (bA_ rfl ?_)
 simp(disch:=omega)only[zE_,c39,gT,gM,hfd,Option.getD_some,go_sem,seval]
 refine kj_ hkey hv64 hh 65 mx sl true root _ _ ids H B z _ hhn hm7 hmx ok t nd g hzB hzid ?_
 intro G B' hgo hpg
 obtain⟨hgr,hsep⟩:=eX_ hkey hv64 hh 65 sl true root _ _ ids hhn ok t nd
 obtain⟨sl',sep,new,code,hr⟩:∃sl' sep new code,bt_ 65 sl root key value=(sl',sep,new,code):=⟨_,_,_,_,rfl⟩
 have hI:eq_ 65 ⟨root,sl⟩ key value=if code≠0 then(⟨root,sl'⟩,code)else if new=0 then(⟨root,sl'⟩,0)else if aG_ (aa_ sl') 64=0 then(⟨root,sl'⟩,4)else(⟨aG_ (aa_ sl') 64,aq_ ⟨aG_ (aa_ sl') 64,cN_ sep root new⟩ false sl'⟩,0):=by
  unfold eq_;simp only[hr]
 rw[hI]at hK
 rw[hr]at hpg hgr hsep
 rw[hr]
 simp only at hpg hgr hsep hK
 clear hI hfd hsf hz
 by_cases hc:code=0
 ·by_cases hn0:new=0
  ·rw[if_neg (by simpa using hc),if_pos hn0]at hK
   simp(disch:=first|omega|simp only[lzz0_];first|done|omega)only[go_sem,seval,hc,hn0]
   exact hK _ _ hgo hpg
  ·rw[if_neg (by simpa using hc),if_neg hn0]at hK
   obtain⟨ents1,ck1,g1⟩:=hpg.pg
   have gT1:=g1.box
   have gM1:=g1.map
   have hTl:=(g1.lows T (by simp)).2
   simp(disch:=first|omega|simp only[lzz0_];first|done|omega)only[ac_,go_sem,seval,hc,hn0,gT1,co_]
   refine callSem.at fun Hx hHx=>?_
   refine callSem.args (eL_ (ez_ _) (eL_ (tA_ (eL_ (ez_ _) (eL_ (dK_ _ _) (eL_ (ez_ _) (eL_ (dK_ _ _) (fun _ _ h=>h)))))) (fun _ _ h=>h))) ?_
   have len:Hx.length=G.length+2:=by rw[hHx];simp
   have kept:∀l,l<G.length→Hx[l]?=G[l]?:=fun l q1=>by rw[hHx];exact ac_ q1
   have rk:Hx[G.length]?=some ⟨.ty 9,1,[sep].map ak_⟩:=by rw[hHx];(simp(disch:=(first|omega|(simp only[ls_,la_,lc_,ln_];omega)))only[ar_]);rfl
   have rd:Hx[G.length+1]?=some ⟨.ty 2,1,[root,new].map aK_⟩:=by rw[hHx];(simp(disch:=(first|omega|(simp only[ls_,la_,lc_,ln_];omega)))only[a1_]);rfl
   clear hHx
   refine callSem.nilrow 9 1 (fun S S' xs le hn hr=>t5_ le hn hr) ?_
   have ol:∀(r:Row) l,l<Hx.length→(Hx++[r])[l]?=Hx[l]?:=fun r l q=>getElem?_append_left q
   refine uM_ hpg hgr.ok.rise (right:=cN_ sep root new) ⟨by rw[la_,len];omega,fun l hl=>(ol _ l (by omega)).trans (kept l hl)⟩ (by omega) (r1:=G.length) (r2:=Hx.length) (r3:=G.length+1)
    (aI_.all (xs:=[sep]) rfl ((ol _ _ (by omega)).trans rk)) (aI_.all (f:=ak_) (xs:=[]) rfl (by rw[getElem?_append_right (Nat.le_refl _),Nat.sub_self];rfl)) (aI_.all (xs:=[root,new]) rfl ((ol _ _ (by omega)).trans rd)) (by omega) ?_ _ ?_
   ·intro l hl2 r hq
    simp only[mem_cons,not_mem_nil,or_false]at hl2
    rcases hl2 with rfl|rfl|rfl
    ·rw[(ol _ _ (by omega)).trans rk]at hq
     obtain rfl:=Option.some.inj hq
     simp only[length_map,lc_,ln_];omega
    ·rw[getElem?_append_right (Nat.le_refl _),Nat.sub_self]at hq
     obtain rfl:=Option.some.inj hq
     exact Nat.zero_le _
    ·rw[(ol _ _ (by omega)).trans rd]at hq
     obtain rfl:=Option.some.inj hq
     simp only[length_map,lc_,ln_];omega
   ·intro H3 B3 hgo3 hpg3
    by_cases hw:aG_ (aa_ sl') 64=0
    ·rw[if_pos hw]at hK hpg3
     simp(disch:=first|omega|simp only[lzz0_];first|done|omega)only[go_sem,↓reduceIte,hw]
     exact hK _ _ (hgo.trans hgo3) hpg3
    ·rw[if_neg hw]at hK hpg3
     obtain⟨ents3,ck3,g3⟩:=hpg3.pg
     have gT3:=g3.box
     have hTl3:=(g3.lows T (by simp)).2
     obtain⟨ge,hgo4⟩:=hpg3.reroot (by omega) (aG_ (aa_ sl') 64)
     simp(disch:=first|omega|simp only[lzz0_];first|done|omega)only[go_sem,seval,hw,gT3]
     exact hK _ _ ((hgo.trans hgo3).trans hgo4) ge
 ·rw[if_pos hc]at hK
  simp(disch:=first|omega|simp only[lzz0_];first|done|omega)only[go_sem,seval,hc]
  exact hK _ _ hgo hpg
end Go.Proofs.YtlcmlgihlojdmaaGreatDoor
