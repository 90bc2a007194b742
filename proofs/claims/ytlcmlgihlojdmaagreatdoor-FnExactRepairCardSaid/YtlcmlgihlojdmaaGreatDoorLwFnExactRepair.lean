/-
 Contracts of functions. Conditions: as each theorem says.
-/
import Derived.Test.YtlcmlgihlojdmaaGreatDoorFnPJ
import Derived.Test.YtlcmlgihlojdmaaGreatDoorMkFnExactRepair
import Derived.Test.YtlcmlgihlojdmaaGreatDoorAwC
namespace Go.Proofs.YtlcmlgihlojdmaaGreatDoor
open List
open Go.AW
set_option linter.unusedVariables false
set_option linter.unusedSimpArgs false
set_option maxRecDepth 4000
def c6:LC :=
 .q [.o [.bx 1 24 0,.f 2],.o [.ki 3 1048576],.o [.ld 14 2 1,.m 15 3,.c2 16 7 14 15,.m 3 16],.q [.o [.m 17 3,.bk 18 .lss false 17 0],.k 18 (.q [.o [.t 2],.ret]) .skip],.o [.ld 20 2 1,.c1 21 9 20,.c1 22 29 21,
 .m 19 22,.ex 23 19 0,.ex 24 19 1,.s 4 (.alloc 28 z0z),.st 2 4 23,.m 5 24],.o [.ld 25 2 1,.c1 26 9 25,.s 6 (.alloc 28 z0z),.st 2 6 26],.o [.ld 28 2 6,.c1 29 30 28,.m 27 29,.ex 30 27 0,.ex 31 27 1,.s 7
 (.alloc 28 z0z),.st 2 7 30,.m 8 31],.q [.o [.ld 32 2 7,.ld 33 2 4,.c2 34 11 32 33,.nt 35 34,.m 36 35,.gm 37 36 false 8,.gm 38 36 false 5,.g 39 36 false (.bin .neq false (.tmp 37) (.tmp 38)),.pt 40 36 39],.k
 40 (.q [.o [.f 2],.ret]) .skip],.q [.dops [.ld 41 2 6,.ld 42 2 1,.c1 43 9 42,.c2 44 11 41 43,.nt 45 44],.k 45 (.q [.o [.f 2],.ret]) .skip],.o [.ki 9 1],.o [.ld 46 2 6,.m 47 9,.c2 48 12 46 47,.m 9 48],.q [.o
 [.m 49 9,.bk 50 .lss false 49 0,.m 51 50,.gl 52 51 false 2 7,.gl 53 51 false 2 4,.g 54 51 false (.call 11 [.tmp 52,.tmp 53]),.gu 55 51 false 54,.pt 56 51 55,.m 57 56,.gm 58 57 false 8,.gm 59 57 false 5,.g 60
 57 false (.bin .neq false (.tmp 58) (.tmp 59)),.pt 61 57 60],.k 61 (.q [.o [.f 2],.ret]) .skip],.o [.ki 10 1],.o [.ld 62 2 7,.m 63 10,.c2 64 12 62 63,.m 10 64],.o [.ki 11 1],.o [.ld 65 2 7,.m 66 11,.c2 67 13
 65 66,.m 11 67],.q [.o [.m 68 11,.bk 69 .lss false 68 0],.k 69 (.q [.o [.f 2],.ret]) .skip],.q [.o [.m 70 11,.m 71 10,.bb 72 .neq false 70 71],.k 72 (.q [.o [.f 2],.ret]) .skip],.o [.ld 74 2 1,.c1 75 9 74,
 .c1 76 30 75,.m 73 76,.ex 77 73 0,.ex 78 73 1,.s 12 (.alloc 28 z0z),.st 2 12 77,.m 13 78],.q [.o [.ld 79 2 12,.ld 80 2 4,.c2 81 11 79 80,.nt 82 81,.m 83 82,.gm 84 83 false 13,.gm 85 83 false 5,.g 86 83
 false (.bin .neq false (.tmp 84) (.tmp 85)),.pt 87 83 86],.k 87 (.q [.o [.f 2],.ret]) .skip],.o [.ki 11 1],.o [.ld 88 2 7,.m 89 11,.c2 90 13 88 89,.m 11 90],.q [.o [.m 91 11,.bk 92 .lss false 91 0],.k 92 (.q
 [.o [.f 2],.ret]) .skip],.q [.o [.m 93 11,.m 94 10,.bb 95 .neq false 93 94],.k 95 (.q [.o [.f 2],.ret]) .skip],.o [.t 2],.ret]
def lf6:LF:=⟨1,96,c6,[.tmp 2]⟩
theorem DL_:az_ Tryz.prog Tryz.f6 lf6:=at_
theorem FnExactRepair_law(x0:ae_)(wx0:ae_.wf x0)(h:List Row):PureCall Tryz.prog 6 [.agg (ae_.cells x0)] h (.val (.bool true)):=by
 refine ar_ mixed Tryz.func6 DL_ rfl rfl ?_ h
 simp(disch:=omega)only[lf6,c6,ae_.cells,go_sem,seval]
 refine PureCall.call (sV_ x0 (1048576) (by omega) (by omega) wx0 _) ?_
 by_cases hn_x0:(ae_.sz x0:Int)≤1048576
 case neg =>
  rw[cI_ (n:=ae_.sz x0) (l:=1048576) (by omega)]
  simp(disch:=omega)only[ax_,go_sem,seval]
  exact ak_ _ _
 rw[dx_ (n:=ae_.sz x0) (l:=1048576) hn_x0]
 simp(disch:=omega)only[ax_,go_sem,seval]
 refine⟨fun hn=>absurd hn (by omega),fun _=>?_⟩
 have hbx0:ae_.sz x0≤1048576:=by omega
 have hR:ae_.sz (cm_ x0).1≤1048576:=yW_ x0
 first|refine PureCall.q (fq_ x0 (by assumption) _) ?_|refine PureCall.call (fq_ x0 (by assumption) _) ?_
 try simp(disch:=omega)only[ae_.cells,go_sem,↓reduceIte]
 first|refine PureCall.q (jd_ x0 hbx0 _) ?_|refine PureCall.call (jd_ x0 hbx0 _) ?_
 try simp(disch:=omega)only[ae_.cells,go_sem,seval]
 refine rP_ (pI_ x0 (by assumption)) (fun av1 H1 m1 F1 q1=>?_)
 obtain⟨l0_Slots,rfl⟩:=q1
 have o0_1:=m1.at (i:=0) rfl
 have o1_1:=m1.at (i:=1) rfl
 have X0_1:=F1
 have w_o0_1:=fun l=>bV_ (l:=l) o0_1
 have w_o1_1:=fun l=>bV_ (l:=l) o1_1
 try simp(disch:=omega)only[go_sem,seval]
 refine tk_ (fu_ x0 hbx0) (bf_.cons ((bb_.row _ _).fb X0_1).arg bf_.nil) (fun av2 H2 m2 F2 q2=>?_)
 have o0_2:=m2.at (bV_ o0_1)
 have o1_2:=m2.at (bV_ o1_1)
 have p0_2:=m2.at (sr_ _ _)
 have X0_2:=m2.fb ((bb_.row _ _).fb X0_1)
 obtain⟨r,s,hs,v,rfl⟩:=q2
 obtain⟨G_2,hv⟩:=F2.two
 simp only[AV.val.injEq,Value.int.injEq,true_and]at hv
 subst hv
 simp only[AV.cell,Value.oneCell']at hs
 have w_o0_2:=fun l=>bV_ (l:=l) o0_2
 have w_o1_2:=fun l=>bV_ (l:=l) o1_2
 have w_p0_2:=fun l=>bV_ (l:=l) p0_2
 have len1:=m1.len
 have len2:=m2.len
 simp only[la_,lc_,ln_,Nat.zero_add,Nat.reduceAdd]at len1 len2
 try simp(disch:=omega)only[w_o1_2,hs,go_sem,seval]
 have o0_3:=bV_ (l:=[⟨.ty 28,2,[[.val (.int .i64 r),s]]⟩]) o0_2
 have o1_3:=bV_ (l:=[⟨.ty 28,2,[[.val (.int .i64 r),s]]⟩]) o1_2
 have p0_3:=bV_ (l:=[⟨.ty 28,2,[[.val (.int .i64 r),s]]⟩]) p0_2
 have pg_3:=sr_ H2 ⟨.ty 28,2,[[.val (.int .i64 r),s]]⟩
 have X0_3:=(bb_.row H2 ⟨.ty 28,2,[[.val (.int .i64 r),s]]⟩).fb X0_2
 have G_3:=(bb_.row H2 ⟨.ty 28,2,[[.val (.int .i64 r),s]]⟩).fb G_2
 have w_o0_3:=fun l=>bV_ (l:=l) o0_3
 have w_o1_3:=fun l=>bV_ (l:=l) o1_3
 have w_p0_3:=fun l=>bV_ (l:=l) p0_3
 have w_pg_3:=fun l=>bV_ (l:=l) pg_3
 try simp(disch:=omega)only[o0_3,o1_3,p0_3,pg_3,w_o0_3,w_o1_3,w_p0_3,w_pg_3,hs,ae_.cells,go_sem,seval]
 refine PureCall.call (PureCall.own (fun h=>fi_ ((cm_ x0).1) hR h) (bf_.cons G_3.arg (bf_.cons (cR_.same rfl) bf_.nil))) ?_
 try simp(disch:=omega)only[o0_3,p0_3,go_sem,seval]
 first|refine PureCall.q (fq_ x0 (by assumption) _) ?_|refine PureCall.call (fq_ x0 (by assumption) _) ?_
 try simp(disch:=omega)only[ae_.cells,go_sem]
 first|refine PureCall.q (PureCall.own (fun h=>fi_ x0 (by assumption) h) (bf_.cons X0_3.arg (bf_.cons (cR_.same rfl) bf_.nil))) ?_|refine PureCall.call (PureCall.own (fun h=>fi_ x0 (by assumption) h) (bf_.cons X0_3.arg (bf_.cons (cR_.same rfl) bf_.nil))) ?_
 try simp(disch:=omega)only[p0_3,go_sem,seval]
 have hc0:=j2_ x0 hbx0
 refine qh_ ka_ (ds:=ae_.cells x0) X0_3 (oz_ x0) (by omega) (by omega) (fun H4 g4 rg4 m4 Y4=>?_)
 have hz0:=f7_ (mt:=aN_) [.int,.list [.int,.bool,.list [.str],.list [.str],.list [.int]]] (ae_.cells x0) (1)
 have o0_4:=m4.at o0_3 (fun hq=>by have:=rg4 _ hq;(try simp only[lc_,ln_,Nat.zero_add,Nat.reduceAdd]at this);omega)
 have o1_4:=m4.at o1_3 (fun hq=>by have:=rg4 _ hq;(try simp only[lc_,ln_,Nat.zero_add,Nat.reduceAdd]at this);omega)
 have p0_4:=m4.at p0_3 (fun hq=>by have:=rg4 _ hq;(try simp only[lc_,ln_,Nat.zero_add,Nat.reduceAdd]at this);omega)
 have pg_4:=m4.at pg_3 (fun hq=>by have:=rg4 _ hq;(try simp only[lc_,ln_,Nat.zero_add,Nat.reduceAdd]at this);omega)
 have X0_4:=Y4
 have G_4:=m4.fb G_3 (fun l h1 h2 hq=>by have:=rg4 _ hq;(try simp only[la_,lc_,ln_,Nat.zero_add,Nat.reduceAdd]at this h1 h2);omega)
 generalize (br_ aN_ [.int,.list [.int,.bool,.list [.str],.list [.str],.list [.int]]] (ae_.cells x0) (1)).2=zv4 at hz0⊢
 have w_o0_4:=fun l=>bV_ (l:=l) o0_4
 have w_o1_4:=fun l=>bV_ (l:=l) o1_4
 have w_p0_4:=fun l=>bV_ (l:=l) p0_4
 have w_pg_4:=fun l=>bV_ (l:=l) pg_4
 try simp(disch:=omega)only[go_sem,↓reduceIte]
 have hneg:¬ (zv4<0):=by omega
 try simp(disch:=omega)only[o1_4,pg_4,hneg,go_sem,seval]
 refine PureCall.call (PureCall.own (fun h=>fi_ ((cm_ x0).1) hR h) (bf_.cons G_4.arg (bf_.cons (cR_.same rfl) bf_.nil))) ?_
 try simp(disch:=omega)only[pg_4,go_sem,seval]
 have hcR:=j2_ ((cm_ x0).1) hR
 have hsR:=oz_ ((cm_ x0).1)
 refine qh_ ka_ (ds:=ae_.cells ((cm_ x0).1)) G_4 hsR (by omega) (by omega) (fun H5 g5 rg5 m5 G_5=>?_)
 have o0_5:=m5.at o0_4 (fun hq=>by have:=rg5 _ hq;(try simp only[la_,lc_,ln_,Nat.zero_add]at this);omega)
 have o1_5:=m5.at o1_4 (fun hq=>by have:=rg5 _ hq;(try simp only[la_,lc_,ln_,Nat.zero_add]at this);omega)
 have p0_5:=m5.at p0_4 (fun hq=>by have:=rg5 _ hq;(try simp only[la_,lc_,ln_,Nat.zero_add]at this);omega)
 have pg_5:=m5.at pg_4 (fun hq=>by have:=rg5 _ hq;(try simp only[la_,lc_,ln_,Nat.zero_add]at this);omega)
 have w_o0_5:=fun l=>bV_ (l:=l) o0_5
 have w_o1_5:=fun l=>bV_ (l:=l) o1_5
 have w_p0_5:=fun l=>bV_ (l:=l) p0_5
 have w_pg_5:=fun l=>bV_ (l:=l) pg_5
 have hzR:=f7_ (mt:=aN_) [.int,.list [.int,.bool,.list [.str],.list [.str],.list [.int]]] (ae_.cells ((cm_ x0).1)) 1
 have hdR:fS_ aN_ [.int,.list [.int,.bool,.list [.str],.list [.str],.list [.int]]] (br_ aN_ [.int,.list [.int,.bool,.list [.str],.list [.str],.list [.int]]] (ae_.cells ((cm_ x0).1)) 1).1 1=(br_ aN_ [.int,.list [.int,.bool,.list [.str],.list [.str],.list [.int]]] (ae_.cells ((cm_ x0).1)) 1).2:=hT_ [.int,.list [.int,.bool,.list [.str],.list [.str],.list [.int]]] _ 1 hsR (by omega)
 have hsM:aW_ [.int,.list [.int,.bool,.list [.str],.list [.str],.list [.int]]] (br_ aN_ [.int,.list [.int,.bool,.list [.str],.list [.str],.list [.int]]] (ae_.cells ((cm_ x0).1)) 1).1:=hW_ [.int,.list [.int,.bool,.list [.str],.list [.str],.list [.int]]] _ 1 hsR
 have hcM:bX_ [.int,.list [.int,.bool,.list [.str],.list [.str],.list [.int]]] (br_ aN_ [.int,.list [.int,.bool,.list [.str],.list [.str],.list [.int]]] (ae_.cells ((cm_ x0).1)) 1).1=bX_ [.int,.list [.int,.bool,.list [.str],.list [.str],.list [.int]]] (ae_.cells ((cm_ x0).1)):=g4_ [.int,.list [.int,.bool,.list [.str],.list [.str],.list [.int]]] _ 1 hsR
 have hfM:=oO_ _ _ hsM
 have hngR:¬ ((br_ aN_ [.int,.list [.int,.bool,.list [.str],.list [.str],.list [.int]]] (ae_.cells ((cm_ x0).1)) 1).2<0):=by omega
 have hbM:(1:Int)+bX_ [.int,.list [.int,.bool,.list [.str],.list [.str],.list [.int]]] (br_ aN_ [.int,.list [.int,.bool,.list [.str],.list [.str],.list [.int]]] (ae_.cells ((cm_ x0).1)) 1).1≤4611686018427387904:=by omega
 simp only[ae_.cells]at hzR hdR hcM hcR hngR
 try simp(disch:=omega)only[pg_5,ae_.cells,go_sem,seval]
 refine PureCall.call (PureCall.own (fun h=>kd_ (br_ aN_ [.int,.list [.int,.bool,.list [.str],.list [.str],.list [.int]]] (ae_.cells ((cm_ x0).1)) 1).1 1 hsM hfM (by omega) hbM h) (bf_.cons G_5.arg (bf_.cons (cR_.same rfl) bf_.nil))) ?_
 try simp(disch:=omega)only[o0_5,hdR,hngR,ae_.cells,go_sem,seval]
 first|refine PureCall.q (fq_ x0 (by assumption) _) ?_|refine PureCall.call (fq_ x0 (by assumption) _) ?_
 try simp(disch:=omega)only[ae_.cells,go_sem,↓reduceIte]
 first|refine PureCall.q ((fu_ x0 hbx0).pure rfl _) ?_|refine PureCall.call ((fu_ x0 hbx0).pure rfl _) ?_
 try simp(disch:=omega)only[w_o1_5,ae_.cells,go_sem,seval]
 first|refine PureCall.q (fi_ ((cm_ x0).1) hR _) ?_|refine PureCall.call (fi_ ((cm_ x0).1) hR _) ?_
 try simp(disch:=omega)only[w_pg_5,go_sem,seval]
 refine PureCall.call (PureCall.own (fun h=>kd_ (br_ aN_ [.int,.list [.int,.bool,.list [.str],.list [.str],.list [.int]]] (ae_.cells ((cm_ x0).1)) 1).1 1 hsM hfM (by omega) hbM h) (bf_.cons ((bb_.row _ _).fb G_5).arg (bf_.cons (cR_.same rfl) bf_.nil))) ?_
 try simp(disch:=omega)only[hdR,hngR,ae_.cells,go_sem,seval]
 exact ak_ _ _
end Go.Proofs.YtlcmlgihlojdmaaGreatDoor
