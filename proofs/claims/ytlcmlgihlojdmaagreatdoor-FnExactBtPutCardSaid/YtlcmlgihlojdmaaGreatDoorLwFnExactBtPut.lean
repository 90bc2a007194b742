/-
 Contracts of functions. Conditions: as each theorem says.
-/
import Derived.Test.YtlcmlgihlojdmaaGreatDoorFnPZ
import Derived.Test.YtlcmlgihlojdmaaGreatDoorMkFnExactBtPut
import Derived.Test.YtlcmlgihlojdmaaGreatDoorAwC
namespace Go.Proofs.YtlcmlgihlojdmaaGreatDoor
open List
open Go.AW
set_option linter.unusedVariables false
set_option linter.unusedSimpArgs false
set_option maxRecDepth 4000
def c3:LC :=
 .q [.o [.bx 3 24 0,.f 6],.q [.o [.m 18 1,.s 19 (.lenStr (.tmp 18)),.bk 20 .gtr false 19 1048576],.k 20 (.q [.o [.t 6],.ret]) .skip],.q [.o [.m 21 2,.s 22 (.lenStr (.tmp 21)),.bk 23 .gtr false 22 1048576],.k 23
 (.q [.o [.t 6],.ret]) .skip],.o [.ki 7 1048576],.o [.ld 24 2 3,.m 25 7,.c2 26 7 24 25,.m 7 26],.q [.o [.m 27 7,.bk 28 .lss false 27 0],.k 28 (.q [.o [.t 6],.ret]) .skip],.o [.ld 30 2 3,.c1 31 9 30,.m 32 1,
 .m 33 2,.c3 34 8 31 32 33,.m 29 34,.ex 35 29 0,.ex 36 29 1,.s 8 (.alloc 28 z1z),.st 2 8 35,.m 9 36],.o [.ld 37 2 3,.c1 38 9 37,.s 10 (.alloc 28 z1z),.st 2 10 38],.o [.ld 40 2 10,.m 41 1,.m 42 2,.c3 43 10
 40 41 42,.m 39 43,.ex 44 39 0,.ex 45 39 1,.s 11 (.alloc 28 z1z),.st 2 11 44,.m 12 45],.q [.o [.ld 46 2 11,.ld 47 2 8,.c2 48 11 46 47,.nt 49 48,.m 50 49,.gm 51 50 false 12,.gm 52 50 false 9,.g 53 50 false
 (.bin .neq false (.tmp 51) (.tmp 52)),.pt 54 50 53],.k 54 (.q [.o [.f 6],.ret]) .skip],.q [.dops [.ld 55 2 10,.ld 56 2 3,.c1 57 9 56,.c2 58 11 55 57,.nt 59 58],.k 59 (.q [.o [.f 6],.ret]) .skip],.o [.ki 13 1],
 .o [.ld 60 2 10,.m 61 13,.c2 62 12 60 61,.m 13 62],.q [.o [.m 63 13,.bk 64 .lss false 63 0,.m 65 64,.gl 66 65 false 2 11,.gl 67 65 false 2 8,.g 68 65 false (.call 11 [.tmp 66,.tmp 67]),.gu 69 65 false 68,.pt
 70 65 69,.m 71 70,.gm 72 71 false 12,.gm 73 71 false 9,.g 74 71 false (.bin .neq false (.tmp 72) (.tmp 73)),.pt 75 71 74],.k 75 (.q [.o [.f 6],.ret]) .skip],.o [.ki 14 1],.o [.ld 76 2 11,.m 77 14,.c2 78 12 76
 77,.m 14 78],.o [.ki 15 1],.o [.ld 79 2 11,.m 80 15,.c2 81 13 79 80,.m 15 81],.q [.o [.m 82 15,.bk 83 .lss false 82 0],.k 83 (.q [.o [.f 6],.ret]) .skip],.q [.o [.m 84 15,.m 85 14,.bb 86 .neq false 84 85],
 .k 86 (.q [.o [.f 6],.ret]) .skip],.o [.ld 88 2 3,.c1 89 9 88,.m 90 1,.m 91 2,.c3 92 10 89 90 91,.m 87 92,.ex 93 87 0,.ex 94 87 1,.s 16 (.alloc 28 z1z),.st 2 16 93,.m 17 94],.q [.o [.ld 95 2 16,.ld 96 2 8,
 .c2 97 11 95 96,.nt 98 97,.m 99 98,.gm 100 99 false 17,.gm 101 99 false 9,.g 102 99 false (.bin .neq false (.tmp 100) (.tmp 101)),.pt 103 99 102],.k 103 (.q [.o [.f 6],.ret]) .skip],.o [.ki 15 1],.o [.ld 104 2
 11,.m 105 15,.c2 106 13 104 105,.m 15 106],.q [.o [.m 107 15,.bk 108 .lss false 107 0],.k 108 (.q [.o [.f 6],.ret]) .skip],.q [.o [.m 109 15,.m 110 14,.bb 111 .neq false 109 110],.k 111 (.q [.o [.f 6],.ret])
 .skip],.o [.t 6],.ret]
def lf3:LF:=⟨3,112,c3,[.tmp 6]⟩
theorem d9_:aA_ Tryz.prog Tryz.f3 lf3:=as_
theorem FnExactBtPut_law(x0:af_)(x1:ByteArray)(x2:ByteArray)(wx0:af_.wf x0)(wx1:dX_ x1)(wx2:dX_ x2)(h:List Row):aa_ Tryz.prog 3 [.agg (af_.cells x0),.val (.string x1),.val (.string x2)] h (.val (.bool true)):=by
 refine ar_ mixed Tryz.func3 d9_ rfl rfl ?_ h
 unfold dX_ at wx1
 unfold dX_ at wx2
 simp(disch:=omega)only[lf3,c3,af_.cells,go_sem,seval,aw_]
 refine⟨fun hn=>?_,fun hn_x1=>?_⟩
 ·exact ah_ _ _
 try simp(disch:=omega)only[au_]
 refine⟨fun hn=>?_,fun hn_x2=>?_⟩
 ·exact ah_ _ _
 try simp(disch:=omega)only[au_]
 refine aa_.call (sD_ x0 (1048576) (by omega) (by omega) wx0 _) ?_
 by_cases hn_x0:(af_.sz x0:Int)≤1048576
 case neg =>
  rw[cR_ (n:=af_.sz x0) (l:=1048576) (by omega)]
  simp(disch:=omega)only[aw_,go_sem,seval]
  exact ah_ _ _
 rw[dz_ (n:=af_.sz x0) (l:=1048576) hn_x0]
 simp(disch:=omega)only[aw_,go_sem,seval]
 refine⟨fun hn=>absurd hn (by omega),fun _=>?_⟩
 have hbx0:af_.sz x0≤1048576:=by omega
 have hbx1:ByteArray.size x1≤1048576:=by omega
 have hbx2:ByteArray.size x2≤1048576:=by omega
 have hR:af_.sz (bm_ x0 x1 x2).1≤1048576:=tO_ x0 x1 x2
 first|refine aa_.q (fj_ x0 (by assumption) _) ?_|refine aa_.call (fj_ x0 (by assumption) _) ?_
 try simp(disch:=omega)only[af_.cells,go_sem,seval]
 first|refine aa_.q (kb_ x0 x1 x2 hbx0 hbx1 hbx2 _) ?_|refine aa_.call (kb_ x0 x1 x2 hbx0 hbx1 hbx2 _) ?_
 try simp(disch:=omega)only[af_.cells,go_sem,seval]
 refine rA_ (pJ_ x0 (by assumption)) (fun av1 H1 m1 F1 q1=>?_)
 obtain⟨l0_Slots,rfl⟩:=q1
 have o0_1:=m1.at (i:=0) rfl
 have o1_1:=m1.at (i:=1) rfl
 have X0_1:=F1
 have w_o0_1:=fun l=>bT_ (l:=l) o0_1
 have w_o1_1:=fun l=>bT_ (l:=l) o1_1
 try simp(disch:=omega)only[go_sem,seval]
 refine sp_ (fV_ x0 x1 x2 hbx0 hbx1 hbx2) (bc_.cons ((bd_.row _ _).fb X0_1).arg (bc_.cons (cG_.same rfl) (bc_.cons (cG_.same rfl) bc_.nil))) (fun av2 H2 m2 F2 q2=>?_)
 have o0_2:=m2.at (bT_ o0_1)
 have o1_2:=m2.at (bT_ o1_1)
 have p0_2:=m2.at (r7_ _ _)
 have X0_2:=m2.fb ((bd_.row _ _).fb X0_1)
 obtain⟨r,s,hs,v,rfl⟩:=q2
 obtain⟨G_2,hv⟩:=F2.two
 simp only[AV.val.injEq,Value.int.injEq,true_and]at hv
 subst hv
 simp only[AV.cell,Value.oneCell']at hs
 have w_o0_2:=fun l=>bT_ (l:=l) o0_2
 have w_o1_2:=fun l=>bT_ (l:=l) o1_2
 have w_p0_2:=fun l=>bT_ (l:=l) p0_2
 have len1:=m1.len
 have len2:=m2.len
 simp only[la_,lc_,ln_,Nat.zero_add,Nat.reduceAdd]at len1 len2
 try simp(disch:=omega)only[w_o1_2,hs,go_sem,seval]
 have o0_3:=bT_ (l:=[⟨.ty 28,2,[[.val (.int .i64 r),s]]⟩]) o0_2
 have o1_3:=bT_ (l:=[⟨.ty 28,2,[[.val (.int .i64 r),s]]⟩]) o1_2
 have p0_3:=bT_ (l:=[⟨.ty 28,2,[[.val (.int .i64 r),s]]⟩]) p0_2
 have pg_3:=r7_ H2 ⟨.ty 28,2,[[.val (.int .i64 r),s]]⟩
 have X0_3:=(bd_.row H2 ⟨.ty 28,2,[[.val (.int .i64 r),s]]⟩).fb X0_2
 have G_3:=(bd_.row H2 ⟨.ty 28,2,[[.val (.int .i64 r),s]]⟩).fb G_2
 have w_o0_3:=fun l=>bT_ (l:=l) o0_3
 have w_o1_3:=fun l=>bT_ (l:=l) o1_3
 have w_p0_3:=fun l=>bT_ (l:=l) p0_3
 have w_pg_3:=fun l=>bT_ (l:=l) pg_3
 try simp(disch:=omega)only[o0_3,o1_3,p0_3,pg_3,w_o0_3,w_o1_3,w_p0_3,w_pg_3,hs,af_.cells,go_sem,seval]
 refine aa_.call (aa_.own (fun h=>fr_ ((bm_ x0 x1 x2).1) hR h) (bc_.cons G_3.arg (bc_.cons (cG_.same rfl) bc_.nil))) ?_
 try simp(disch:=omega)only[o0_3,p0_3,go_sem,seval]
 first|refine aa_.q (fj_ x0 (by assumption) _) ?_|refine aa_.call (fj_ x0 (by assumption) _) ?_
 try simp(disch:=omega)only[af_.cells,go_sem]
 first|refine aa_.q (aa_.own (fun h=>fr_ x0 (by assumption) h) (bc_.cons X0_3.arg (bc_.cons (cG_.same rfl) bc_.nil))) ?_|refine aa_.call (aa_.own (fun h=>fr_ x0 (by assumption) h) (bc_.cons X0_3.arg (bc_.cons (cG_.same rfl) bc_.nil))) ?_
 try simp(disch:=omega)only[p0_3,go_sem,seval]
 have hc0:=kd_ x0 hbx0
 refine p2_ kD_ (ds:=af_.cells x0) X0_3 (oA_ x0) (by omega) (by omega) (fun H4 g4 rg4 m4 Y4=>?_)
 have hz0:=f0_ (mt:=aL_) [.int,.list [.int,.bool,.list [.str],.list [.str],.list [.int]]] (af_.cells x0) (1)
 have o0_4:=m4.at o0_3 (fun hq=>by have:=rg4 _ hq;(try simp only[lc_,ln_,Nat.zero_add,Nat.reduceAdd]at this);omega)
 have o1_4:=m4.at o1_3 (fun hq=>by have:=rg4 _ hq;(try simp only[lc_,ln_,Nat.zero_add,Nat.reduceAdd]at this);omega)
 have p0_4:=m4.at p0_3 (fun hq=>by have:=rg4 _ hq;(try simp only[lc_,ln_,Nat.zero_add,Nat.reduceAdd]at this);omega)
 have pg_4:=m4.at pg_3 (fun hq=>by have:=rg4 _ hq;(try simp only[lc_,ln_,Nat.zero_add,Nat.reduceAdd]at this);omega)
 have X0_4:=Y4
 have G_4:=m4.fb G_3 (fun l h1 h2 hq=>by have:=rg4 _ hq;(try simp only[la_,lc_,ln_,Nat.zero_add,Nat.reduceAdd]at this h1 h2);omega)
 generalize (bq_ aL_ [.int,.list [.int,.bool,.list [.str],.list [.str],.list [.int]]] (af_.cells x0) (1)).2=zv4 at hz0⊢
 have w_o0_4:=fun l=>bT_ (l:=l) o0_4
 have w_o1_4:=fun l=>bT_ (l:=l) o1_4
 have w_p0_4:=fun l=>bT_ (l:=l) p0_4
 have w_pg_4:=fun l=>bT_ (l:=l) pg_4
 try simp(disch:=omega)only[go_sem,↓reduceIte]
 have hneg:¬ (zv4<0):=by omega
 try simp(disch:=omega)only[o1_4,pg_4,hneg,go_sem,seval]
 refine aa_.call (aa_.own (fun h=>fr_ ((bm_ x0 x1 x2).1) hR h) (bc_.cons G_4.arg (bc_.cons (cG_.same rfl) bc_.nil))) ?_
 try simp(disch:=omega)only[pg_4,go_sem,seval]
 have hcR:=kd_ ((bm_ x0 x1 x2).1) hR
 have hsR:=oA_ ((bm_ x0 x1 x2).1)
 refine p2_ kD_ (ds:=af_.cells ((bm_ x0 x1 x2).1)) G_4 hsR (by omega) (by omega) (fun H5 g5 rg5 m5 G_5=>?_)
 have o0_5:=m5.at o0_4 (fun hq=>by have:=rg5 _ hq;(try simp only[la_,lc_,ln_,Nat.zero_add]at this);omega)
 have o1_5:=m5.at o1_4 (fun hq=>by have:=rg5 _ hq;(try simp only[la_,lc_,ln_,Nat.zero_add]at this);omega)
 have p0_5:=m5.at p0_4 (fun hq=>by have:=rg5 _ hq;(try simp only[la_,lc_,ln_,Nat.zero_add]at this);omega)
 have pg_5:=m5.at pg_4 (fun hq=>by have:=rg5 _ hq;(try simp only[la_,lc_,ln_,Nat.zero_add]at this);omega)
 have w_o0_5:=fun l=>bT_ (l:=l) o0_5
 have w_o1_5:=fun l=>bT_ (l:=l) o1_5
 have w_p0_5:=fun l=>bT_ (l:=l) p0_5
 have w_pg_5:=fun l=>bT_ (l:=l) pg_5
 have hzR:=f0_ (mt:=aL_) [.int,.list [.int,.bool,.list [.str],.list [.str],.list [.int]]] (af_.cells ((bm_ x0 x1 x2).1)) 1
 have hdR:fN_ aL_ [.int,.list [.int,.bool,.list [.str],.list [.str],.list [.int]]] (bq_ aL_ [.int,.list [.int,.bool,.list [.str],.list [.str],.list [.int]]] (af_.cells ((bm_ x0 x1 x2).1)) 1).1 1=(bq_ aL_ [.int,.list [.int,.bool,.list [.str],.list [.str],.list [.int]]] (af_.cells ((bm_ x0 x1 x2).1)) 1).2:=h6_ [.int,.list [.int,.bool,.list [.str],.list [.str],.list [.int]]] _ 1 hsR (by omega)
 have hsM:aS_ [.int,.list [.int,.bool,.list [.str],.list [.str],.list [.int]]] (bq_ aL_ [.int,.list [.int,.bool,.list [.str],.list [.str],.list [.int]]] (af_.cells ((bm_ x0 x1 x2).1)) 1).1:=h5_ [.int,.list [.int,.bool,.list [.str],.list [.str],.list [.int]]] _ 1 hsR
 have hcM:bV_ [.int,.list [.int,.bool,.list [.str],.list [.str],.list [.int]]] (bq_ aL_ [.int,.list [.int,.bool,.list [.str],.list [.str],.list [.int]]] (af_.cells ((bm_ x0 x1 x2).1)) 1).1=bV_ [.int,.list [.int,.bool,.list [.str],.list [.str],.list [.int]]] (af_.cells ((bm_ x0 x1 x2).1)):=hg_ [.int,.list [.int,.bool,.list [.str],.list [.str],.list [.int]]] _ 1 hsR
 have hfM:=oL_ _ _ hsM
 have hngR:¬ ((bq_ aL_ [.int,.list [.int,.bool,.list [.str],.list [.str],.list [.int]]] (af_.cells ((bm_ x0 x1 x2).1)) 1).2<0):=by omega
 have hbM:(1:Int)+bV_ [.int,.list [.int,.bool,.list [.str],.list [.str],.list [.int]]] (bq_ aL_ [.int,.list [.int,.bool,.list [.str],.list [.str],.list [.int]]] (af_.cells ((bm_ x0 x1 x2).1)) 1).1≤4611686018427387904:=by omega
 simp only[af_.cells]at hzR hdR hcM hcR hngR
 try simp(disch:=omega)only[pg_5,af_.cells,go_sem,seval]
 refine aa_.call (aa_.own (fun h=>kv_ (bq_ aL_ [.int,.list [.int,.bool,.list [.str],.list [.str],.list [.int]]] (af_.cells ((bm_ x0 x1 x2).1)) 1).1 1 hsM hfM (by omega) hbM h) (bc_.cons G_5.arg (bc_.cons (cG_.same rfl) bc_.nil))) ?_
 try simp(disch:=omega)only[o0_5,hdR,hngR,af_.cells,go_sem,seval]
 first|refine aa_.q (fj_ x0 (by assumption) _) ?_|refine aa_.call (fj_ x0 (by assumption) _) ?_
 try simp(disch:=omega)only[af_.cells,go_sem,seval]
 first|refine aa_.q ((fV_ x0 x1 x2 hbx0 hbx1 hbx2).pure rfl _) ?_|refine aa_.call ((fV_ x0 x1 x2 hbx0 hbx1 hbx2).pure rfl _) ?_
 try simp(disch:=omega)only[w_o1_5,af_.cells,go_sem,seval]
 first|refine aa_.q (fr_ ((bm_ x0 x1 x2).1) hR _) ?_|refine aa_.call (fr_ ((bm_ x0 x1 x2).1) hR _) ?_
 try simp(disch:=omega)only[w_pg_5,go_sem,seval]
 refine aa_.call (aa_.own (fun h=>kv_ (bq_ aL_ [.int,.list [.int,.bool,.list [.str],.list [.str],.list [.int]]] (af_.cells ((bm_ x0 x1 x2).1)) 1).1 1 hsM hfM (by omega) hbM h) (bc_.cons ((bd_.row _ _).fb G_5).arg (bc_.cons (cG_.same rfl) bc_.nil))) ?_
 try simp(disch:=omega)only[hdR,hngR,af_.cells,go_sem,seval]
 exact ah_ _ _
end Go.Proofs.YtlcmlgihlojdmaaGreatDoor
