/-
 Contracts of functions. Conditions: as each theorem says.
-/
import Derived.Test.YtlcmlgihlojdmaaGreatDoorFnBI
import Derived.Test.YtlcmlgihlojdmaaGreatDoorAwShed
namespace Go.Proofs.YtlcmlgihlojdmaaGreatDoor
open Tryz (prog)
open List
open Go.AW
set_option linter.unusedVariables false
set_option linter.unusedSimpArgs false
set_option maxRecDepth 4000
def c67:LC :=
 .q [.o [.bx 1 77 0,.s 2 (.alloc 77 z1z)],.gops [.fa 3 0 1,.ln 4 3,.fa 5 1 1,.ln 6 5,.fa 8 2 1,.ln 9 8,.fa 11 3 1,.ln 12 11] [(.c1 7 113 6,[.fa 3 0 1,.ln 4 3,.fa 8 2 1,.ln 9 8,.fa 11 3 1,.ln 12 11]),(.c1
 10 113 9,[.fa 3 0 1,.ln 4 3,.fa 11 3 1,.ln 12 11]),(.c1 13 115 12,[.fa 3 0 1,.ln 4 3]),(.s 14 (.build z1z [(0,1),(1,1),(2,1),(3,1)] [(0,.tmp 4),(1,.tmp 7),(2,.tmp 10),(3,.tmp 13)]),[]),(.st 4 2
 14,[])],.ret]
def xr_:LF:=⟨1,15,c67,[.cell 2 (some 4)]⟩
theorem yk_:az_ prog Tryz.f67 xr_:=at_
def Ad_:LC :=
 .q [.o [.bx 1 28 0,.ki 2 0],.q [.o [.ki 3 1],.block 0 (.loop (.q [.q [.o [.m 4 3,.bk 5 .leq false 4 64],.k 5 .skip (.exit 0)],.block 1 (.q [.o [.ld 8 2 1,.m 9 3,.c2 10 105 8 9,.bk 11 .lss false 10 0],.k 11 (.q
 [.o [.m 12 3,.m 2 12],.ret]) .skip]),.o [.m 6 3,.bk 7 .add false 6 1,.m 3 7]]))],.o [.ki 2 0],.ret]
def x5_:LF:=⟨1,13,Ad_,[.tmp 2]⟩
theorem BM_:az_ prog Tryz.f118 x5_:=at_
def z9_:LC :=
 .q [.o [.bx 2 77 0,.ki 4 0,.f 5],.o [.ki 6 0],.block 0 (.loop (.q [.q [.o [.m 8 6,.fa 9 1 2,.ln 10 9,.ll 11 10,.bb 12 .lss false 8 11,.m 13 12,.gf 14 13 true 1 2,.gn 15 13 true 14,.gm 16 13 true 6,.g 17 13
 true (.indexAddr 1 (.tmp 15) (.tmp 16)),.gn 18 13 true 17,.gm 19 13 true 1,.g 20 13 true (.bin .lss false (.tmp 18) (.tmp 19)),.pf 21 13 20],.k 21 .skip (.exit 0)],.block 1 (.o [.m 22 6,.bk 23 .add false 22 1,.m
 6 23])])),.o [.m 24 6,.fa 25 1 2,.ln 26 25,.ll 27 26,.bb 28 .lss false 24 27,.m 29 28,.gf 30 29 true 1 2,.gn 31 29 true 30,.gm 32 29 true 6,.g 33 29 true (.indexAddr 1 (.tmp 31) (.tmp 32)),.gn 34 29 true 33,
 .gm 35 29 true 1,.g 36 29 true (.bin .eql false (.tmp 34) (.tmp 35)),.pf 37 29 36,.m 7 37],.q [.o [.m 38 7,.m 39 38,.gf 40 39 true 0 2,.gn 41 39 true 40,.gu 42 39 true 41,.pf 43 39 42],.k 43 (.o [.m 44 6,.bk
 45 .add false 44 1,.m 6 45]) .skip],.o [.m 46 6,.m 47 7,.m 4 46,.m 5 47],.ret]
def xV_:LF:=⟨2,48,z9_,[.tmp 4,.tmp 5]⟩
theorem Ai_:az_ prog Tryz.f114 xV_:=at_
def c69:LC :=
 .q [.o [.nl 6],.o [.s 8 (.buildSlice 9 1 (.string ⟨#[]⟩) 0 []),.m 9 0,.m 10 1,.s 11 (.sliceSl 1 (.tmp 9) none (some (.tmp 10))),.ap 12 9 1 16 8 11,.m 7 12],.o [.m 13 7,.m 14 2,.s 15 (.buildSlice 9 1 (.string
 ⟨#[]⟩) 1 [(0,.tmp 14)]),.ap 16 9 1 16 13 15,.m 7 16],.o [.m 17 7,.m 18 0,.m 19 1,.s 20 (.sliceSl 1 (.tmp 18) (some (.tmp 19)) none),.ap 21 9 1 16 17 20,.m 6 21],.ret]
def z6_:LF:=⟨3,22,c69,[.tmp 6]⟩
theorem Dd_:az_ prog Tryz.f69 z6_:=at_
def zP_:LC :=
 .q [.o [.nl 6],.o [.s 8 (.buildSlice 2 1 (.int .i64 0) 0 []),.m 9 0,.m 10 1,.s 11 (.sliceSl 1 (.tmp 9) none (some (.tmp 10))),.ap 12 2 1 8 8 11,.m 7 12],.o [.m 13 7,.m 14 2,.s 15 (.buildSlice 2 1 (.int .i64 0) 1
 [(0,.tmp 14)]),.ap 16 2 1 8 13 15,.m 7 16],.o [.m 17 7,.m 18 0,.m 19 1,.s 20 (.sliceSl 1 (.tmp 18) (some (.tmp 19)) none),.ap 21 2 1 8 17 20,.m 6 21],.ret]
def xY_:LF:=⟨3,22,zP_,[.tmp 6]⟩
theorem Cf_:az_ prog Tryz.f119 xY_:=at_
def wc_:LC :=
 .q [.o [.bx 1 77 0,.s 2 (.alloc 77 z1z),.s 3 (.alloc 77 z1z),.s 4 (.mov (.const (.string ⟨#[]⟩)))],.o [.ki 5 3],.q [.o [.fa 6 0 1,.ln 7 6],.k 7 (.q [.gops [.fa 8 1 1,.ln 9 8,.m 10 5,.s 11 (.sliceSl 1 (.tmp 9)
 none (some (.tmp 10))),.fa 13 2 1,.ln 14 13,.m 15 5,.s 16 (.sliceSl 1 (.tmp 14) none (some (.tmp 15))),.fa 19 1 1,.ln 20 19,.m 21 5,.s 22 (.sliceSl 1 (.tmp 20) (some (.tmp 21)) none),.fa 24 2 1,.ln 25 24,.m 26
 5,.s 27 (.sliceSl 1 (.tmp 25) (some (.tmp 26)) none),.fa 30 1 1,.ln 31 30,.m 32 5,.ia 33 1 31 32,.ln 34 33] [(.c1 12 113 11,[.fa 13 2 1,.ln 14 13,.m 15 5,.s 16 (.sliceSl 1 (.tmp 14) none (some (.tmp 15))),.fa
 19 1 1,.ln 20 19,.m 21 5,.s 22 (.sliceSl 1 (.tmp 20) (some (.tmp 21)) none),.fa 24 2 1,.ln 25 24,.m 26 5,.s 27 (.sliceSl 1 (.tmp 25) (some (.tmp 26)) none),.fa 30 1 1,.ln 31 30,.m 32 5,.ia 33 1 31 32,.ln 34
 33]),(.c1 17 113 16,[.fa 19 1 1,.ln 20 19,.m 21 5,.s 22 (.sliceSl 1 (.tmp 20) (some (.tmp 21)) none),.fa 24 2 1,.ln 25 24,.m 26 5,.s 27 (.sliceSl 1 (.tmp 25) (some (.tmp 26)) none),.fa 30 1 1,.ln 31 30,.m 32
 5,.ia 33 1 31 32,.ln 34 33]),(.s 18 (.build z1z [(0,1),(1,1),(2,1),(3,1)] [(0,.const (.bool true)),(1,.tmp 12),(2,.tmp 17)]),[.fa 19 1 1,.ln 20 19,.m 21 5,.s 22 (.sliceSl 1 (.tmp 20) (some (.tmp 21))
 none),.fa 24 2 1,.ln 25 24,.m 26 5,.s 27 (.sliceSl 1 (.tmp 25) (some (.tmp 26)) none),.fa 30 1 1,.ln 31 30,.m 32 5,.ia 33 1 31 32,.ln 34 33]),(.c1 23 113 22,[.fa 24 2 1,.ln 25 24,.m 26 5,.s 27 (.sliceSl 1
 (.tmp 25) (some (.tmp 26)) none),.fa 30 1 1,.ln 31 30,.m 32 5,.ia 33 1 31 32,.ln 34 33]),(.c1 28 113 27,[.fa 30 1 1,.ln 31 30,.m 32 5,.ia 33 1 31 32,.ln 34 33]),(.s 29 (.build z1z [(0,1),(1,1),(2,1),(3,
 1)] [(0,.const (.bool true)),(1,.tmp 23),(2,.tmp 28)]),[.fa 30 1 1,.ln 31 30,.m 32 5,.ia 33 1 31 32,.ln 34 33]),(.st 4 2 18,[.fa 30 1 1,.ln 31 30,.m 32 5,.ia 33 1 31 32,.ln 34 33]),(.st 4 3 29,[.fa 30 1
 1,.ln 31 30,.m 32 5,.ia 33 1 31 32,.ln 34 33]),(.m 4 34,[])],.ret]) .skip],.gops [.fa 35 1 1,.ln 36 35,.m 37 5,.bk 38 .sub false 37 1,.s 39 (.sliceSl 1 (.tmp 36) none (some (.tmp 38))),.fa 41 3 1,.ln 42 41,
 .m 43 5,.s 44 (.sliceSl 1 (.tmp 42) none (some (.tmp 43))),.fa 47 1 1,.ln 48 47,.m 49 5,.s 50 (.sliceSl 1 (.tmp 48) (some (.tmp 49)) none),.fa 52 3 1,.ln 53 52,.m 54 5,.s 55 (.sliceSl 1 (.tmp 53) (some (.tmp
 54)) none),.fa 58 1 1,.ln 59 58,.m 60 5,.bk 61 .sub false 60 1,.ia 62 1 59 61,.ln 63 62] [(.c1 40 113 39,[.fa 41 3 1,.ln 42 41,.m 43 5,.s 44 (.sliceSl 1 (.tmp 42) none (some (.tmp 43))),.fa 47 1 1,.ln 48 47,
 .m 49 5,.s 50 (.sliceSl 1 (.tmp 48) (some (.tmp 49)) none),.fa 52 3 1,.ln 53 52,.m 54 5,.s 55 (.sliceSl 1 (.tmp 53) (some (.tmp 54)) none),.fa 58 1 1,.ln 59 58,.m 60 5,.bk 61 .sub false 60 1,.ia 62 1 59 61,.ln
 63 62]),(.c1 45 115 44,[.fa 47 1 1,.ln 48 47,.m 49 5,.s 50 (.sliceSl 1 (.tmp 48) (some (.tmp 49)) none),.fa 52 3 1,.ln 53 52,.m 54 5,.s 55 (.sliceSl 1 (.tmp 53) (some (.tmp 54)) none),.fa 58 1 1,.ln 59 58,.m
 60 5,.bk 61 .sub false 60 1,.ia 62 1 59 61,.ln 63 62]),(.s 46 (.build z1z [(0,1),(1,1),(2,1),(3,1)] [(1,.tmp 40),(3,.tmp 45)]),[.fa 47 1 1,.ln 48 47,.m 49 5,.s 50 (.sliceSl 1 (.tmp 48) (some (.tmp 49))
 none),.fa 52 3 1,.ln 53 52,.m 54 5,.s 55 (.sliceSl 1 (.tmp 53) (some (.tmp 54)) none),.fa 58 1 1,.ln 59 58,.m 60 5,.bk 61 .sub false 60 1,.ia 62 1 59 61,.ln 63 62]),(.c1 51 113 50,[.fa 52 3 1,.ln 53 52,.m
 54 5,.s 55 (.sliceSl 1 (.tmp 53) (some (.tmp 54)) none),.fa 58 1 1,.ln 59 58,.m 60 5,.bk 61 .sub false 60 1,.ia 62 1 59 61,.ln 63 62]),(.c1 56 115 55,[.fa 58 1 1,.ln 59 58,.m 60 5,.bk 61 .sub false 60 1,.ia
 62 1 59 61,.ln 63 62]),(.s 57 (.build z1z [(0,1),(1,1),(2,1),(3,1)] [(1,.tmp 51),(3,.tmp 56)]),[.fa 58 1 1,.ln 59 58,.m 60 5,.bk 61 .sub false 60 1,.ia 62 1 59 61,.ln 63 62]),(.st 4 2 46,[.fa 58 1 1,
 .ln 59 58,.m 60 5,.bk 61 .sub false 60 1,.ia 62 1 59 61,.ln 63 62]),(.st 4 3 57,[.fa 58 1 1,.ln 59 58,.m 60 5,.bk 61 .sub false 60 1,.ia 62 1 59 61,.ln 63 62]),(.m 4 63,[])],.ret]
def th_:LF:=⟨1,64,wc_,[.cell 2 (some 4),.cell 3 (some 4),.tmp 4]⟩
theorem t5_:az_ prog Tryz.f117 th_:=at_
def Bp_:LC :=
 .q [.o [.bx 1 77 0,.f 2],.o [.fa 3 1 1,.ln 4 3,.ll 5 4,.bk 6 .gtr false 5 6,.m 7 6,.gf 8 7 false 3 1,.gn 9 7 false 8,.g 10 7 false (.lenSl (.tmp 9)),.g 11 7 false (.bin .gtr false (.tmp 10) (.const (.int .i64
 6))),.pt 12 7 11,.m 2 12],.ret]
def xR_:LF:=⟨1,13,Bp_,[.tmp 2]⟩
theorem zO_:az_ prog Tryz.f116 xR_:=at_
theorem fb_(p:ai_)(hk:p.Keys.length≤1048576)(hv:p.Vals.length≤1048576)(hd:p.Kids.length≤1048576)(h:List Row):PureCall prog 67 [.agg (ai_.cells p)] h (.agg (ai_.cells p)):=by
 refine ar_ mixed Tryz.func67 yk_ rfl rfl ?_ h
 simp(disch:=omega)only[xr_,c67,ai_.cells,go_sem,seval]
 repeat' (first
  | exact ak_ _ _
  | (exact fJ_ _ _ rfl)
  | simp(disch:=omega)only[bT_,Option.map_some,go_sem,seval]
  | (refine PureCall.call (cl_ _ hk _) ?_)
  | (refine PureCall.q (cl_ _ hk _) ?_)
  | (refine PureCall.call (cl_ _ hv _) ?_)
  | (refine PureCall.q (cl_ _ hv _) ?_)
  | (refine PureCall.call (dA_ _ hd _) ?_)
  | (refine PureCall.q (dA_ _ hd _) ?_)
  | ((first|(apply a3_;assumption)|(apply a4_;assumption)|(apply bm_;assumption)|(apply bl_;assumption));intro hb;try simp only[hb])
  | ((first|apply aG_|apply aF_)<;>intro hb<;>(try simp only[hb])<;>(first|have hp:=bF_ hb|have hp:=bK_ hb|have hp:=bL_ hb|have hp:=bG_ hb|skip)))
theorem iB_(p:ai_)(h:List Row):PureCall prog 116 [.agg (ai_.cells p)] h (.val (.bool (decide (6<p.Keys.length)||decide (6<p.Kids.length)))):=by
 refine ar_ mixed Tryz.func116 zO_ rfl rfl ?_ h
 have q1:((p.Keys.length:Int)>6)=(6<p.Keys.length):=propext (by omega)
 have q2:((p.Kids.length:Int)>6)=(6<p.Kids.length):=propext (by omega)
 simp(disch:=omega)only[xR_,Bp_,ai_.cells,go_sem,seval]
 repeat' (first
  | exact ak_ _ _
  | (refine ao_ ?_;first|rfl|(simp only[*,Bool.and_true,Bool.true_and,Bool.and_false,Bool.false_and,Bool.or_true,Bool.true_or,Bool.or_false,Bool.false_or,Bool.not_true,Bool.not_false,decide_true,decide_false,Bool.and_self,Bool.or_self];done)|(simp[*];done))
  | simp(disch:=omega)only[q1,q2,go_sem,seval]
  | ((first|(apply b0_;assumption)|(apply bY_;assumption)|(apply ck_;assumption)|(apply cj_;assumption));intro hb;try simp only[hb])
  | ((first|(apply a3_;assumption)|(apply a4_;assumption)|(apply bm_;assumption)|(apply bl_;assumption));intro hb;try simp only[hb])
  | ((first|apply a6_|apply bd_|apply aG_|apply aF_)<;>intro hb<;>(try simp only[hb])<;>(first|have hp:=bF_ hb|have hp:=bK_ hb|have hp:=bL_ hb|have hp:=bG_ hb|skip)))
def aI_(st:de_):Nat→Int
 | 0=>0
 | n+1=>if st (64-(n:Int))=none then 64-(n:Int)else aI_ st n
theorem i7_(b:ae_)(hx:b.Slots.length≤1048576)(h:List Row):PureCall prog 118 [.agg (ae_.cells b)] h (.val (.int .i64 (aI_ (ag_ b.Slots) 64))):=by
 refine ar_ mixed Tryz.func118 BM_ rfl rfl ?_ h
 have hat:=fun id h=>ha_ b id hx h
 unfold ae_.cells at hat
 simp(disch:=omega)only[x5_,Ad_,ae_.cells,go_sem,seval]
 refine aL_ (fun n t h=>∃k:Nat,t 1=.ptr 0 1 0 0∧t 3=.val (.int .i64 (64-(k:Int)+1))∧h[0]?=some ⟨.ty 28,2,[[.val (.int .i64 b.Root),.list 0 5 (b.Slots.map aa_.cells)]]⟩∧n=k∧k≤64∧aI_ (ag_ b.Slots) 64=aI_ (ag_ b.Slots) k) 64 ?_ ?_
 ·exact⟨64,rfl,rfl,rfl,rfl,Nat.le_refl _,rfl⟩
 ·rintro J hJ n t h ⟨k,t1,t3,o0,rfl,hk,hS⟩
  cases n with
  | zero =>
   have q:(64-((0:Nat):Int)+1≤64)=False:=eq_false (by omega)
   simp(disch:=first|omega|simp only[lzz0_];first|done|omega)only[go_sem,seval,t3]
   rw[hS]
   exact ak_ _ _
  | succ k =>
   have q:(64-((k+1:Nat):Int)+1≤64)=True:=eq_true (by omega)
   have q2:64-((k+1:Nat):Int)+1=64-(k:Int):=by omega
   simp(disch:=first|omega|simp only[lzz0_];first|done|omega)only[go_sem,seval,t1,t3,o0,q]
   refine PureCall.call (hat _ _) ?_
   rw[q2]
   cases hs:ag_ b.Slots (64-(k:Int))with
   | none =>
    rw[wd_ hs]
    simp(disch:=first|omega|simp only[lzz0_];first|done|omega)only[go_sem,seval,t3,q2]
    rw[hS,aI_,if_pos hs]
    exact ak_ _ _
   | some p =>
    obtain⟨i,hi,e1,_⟩:=jl_ hs
    rw[e1]
    have q3:decide ((i:Int)<0)=false:=by rw[decide_eq_false_iff_not];omega
    simp(disch:=first|omega|simp only[lzz0_];first|done|omega)only[go_sem,seval,t3,q2,q3,aw_]
    exact⟨k,by omega,hJ _ _ _ ⟨k,by simp[upd,t1],by simp[upd],o0,rfl,by omega,by rw[hS,aI_,if_neg (by rw[hs];simp)]⟩⟩
theorem fv_(xs:List ByteArray)(k:Nat)(x:ByteArray)(hx:xs.length≤1048576)(hk:k≤xs.length)(h:List Row):PureCall prog 69 [.list 0 1 (xs.map ah_),.val (.int .i64 k),.val (.string x)] h (.list 0 1 ((xs.take k++x::xs.drop k).map ah_)):=by
 refine ar_ mixed Tryz.func69 Dd_ rfl rfl ?_ h
 simp(disch:=omega)only[z6_,c69,go_sem,seval]
 repeat(refine And.intro (by first|(simp;omega)|(simp;done)|(intro e he;exact dZ_ xs e (mem_of_mem_take (mem_of_mem_drop he)))|(intro e he;exact dZ_ xs e (mem_of_mem_take he))|(intro e he;exact dZ_ xs e (mem_of_mem_drop he))) ?_)
 have e:List.take k (List.map ah_ xs)++[.val (.string x)]::List.drop k (List.take xs.length (List.map ah_ xs))=(xs.take k++x::xs.drop k).map ah_:=by
  rw[take_of_length_le (l:=List.map ah_ xs) (i:=xs.length) (by simp),map_append,map_cons,map_take,map_drop]
 rw[e]
 exact d8_ (r:=⟨.ty 9,1,(xs.take k++x::xs.drop k).map ah_⟩) rfl (by simp;omega) (fn_ _)
theorem j7_(xs:List Int)(k:Nat)(x:Int)(hx:xs.length≤1048576)(hk:k≤xs.length)(h:List Row):PureCall prog 119 [.list 0 1 (xs.map aB_),.val (.int .i64 k),.val (.int .i64 x)] h (.list 0 1 ((xs.take k++x::xs.drop k).map aB_)):=by
 refine ar_ mixed Tryz.func119 Cf_ rfl rfl ?_ h
 simp(disch:=omega)only[xY_,zP_,go_sem,seval]
 repeat(refine And.intro (by first|(simp;omega)|(simp;done)|(intro e he;exact dX_ xs e (mem_of_mem_take (mem_of_mem_drop he)))|(intro e he;exact dX_ xs e (mem_of_mem_take he))|(intro e he;exact dX_ xs e (mem_of_mem_drop he))) ?_)
 have e:List.take k (List.map aB_ xs)++[.val (.int .i64 x)]::List.drop k (List.take xs.length (List.map aB_ xs))=(xs.take k++x::xs.drop k).map aB_:=by
  rw[take_of_length_le (l:=List.map aB_ xs) (i:=xs.length) (by simp),map_append,map_cons,map_take,map_drop]
 rw[e]
 exact d8_ (r:=⟨.ty 2,1,(xs.take k++x::xs.drop k).map aB_⟩) rfl (by simp;omega) (hF_ _)
def aM_(p:ai_):ai_×ai_×ByteArray :=
 if p.Leaf=true then(⟨true,p.Keys.take 3,p.Vals.take 3,[]⟩,⟨true,p.Keys.drop 3,p.Vals.drop 3,[]⟩,p.Keys.getD 3 ⟨#[]⟩)
 else(⟨false,p.Keys.take 2,[],p.Kids.take 3⟩,⟨false,p.Keys.drop 3,[],p.Kids.drop 3⟩,p.Keys.getD 2 ⟨#[]⟩)
theorem p2_{t:Nat→AV}{h:List Row}(a b s:Nat)(n m:Option Nat)(K:AV→List Row→Prop):cC_ [.cell a n,.cell b m,.tmp s] K .ret t h=match an_ t h (.load n (.tmp a))with|some x=>(match an_ t h (.load m (.tmp b))with|some y=>K (.tup [x,y,t s]) h|none=>False)|none=>False:=by
 simp only[cC_,dn_,mapM_cons,mapM_nil]
 cases an_ t h (.load n (.tmp a))<;>cases an_ t h (.load m (.tmp b))<;>simp[cT_]
theorem m6_{cs ds:List AV}(h:∀S xs,af_ S cs xs→af_ S ds xs):∀(S:Sit) (x:Value),Rep S (.tup cs) x→Rep S (.tup ds) x:=by
 intro S x r
 simp only[Rep]at r⊢
 obtain⟨vs,e,q⟩:=r
 exact⟨vs,e,h S _ q⟩
theorem fC_(sz:Nat):∀(S:Sit) (x:Value),Rep S (.val (.slice none 0 0)) x→Rep S (.list 0 sz []) x:=by
 intro S x r
 simp only[Rep]at r
 subst r
 simp[Rep]
theorem mc_(p:ai_)(hk:p.Keys.length≤1048576)(hv:p.Vals.length≤1048576)(hd:p.Kids.length≤1048576)(h1:p.Leaf=true→3<p.Keys.length∧3≤p.Vals.length)(h2:p.Leaf=false→3≤p.Keys.length∧3≤p.Kids.length)(h:List Row):PureCall prog 117 [.agg (ai_.cells p)] h (.tup [.agg (ai_.cells (aM_ p).1),.agg (ai_.cells (aM_ p).2.1),.val (.string (aM_ p).2.2)]):=by
 have mk1:∀k,List.take k (p.Keys.map ah_)=(p.Keys.take k).map ah_:=fun k=>map_take.symm
 have mk2:∀k,List.drop k (p.Keys.map ah_)=(p.Keys.drop k).map ah_:=fun k=>map_drop.symm
 have mv1:∀k,List.take k (p.Vals.map ah_)=(p.Vals.take k).map ah_:=fun k=>map_take.symm
 have mv2:∀k,List.drop k (p.Vals.map ah_)=(p.Vals.drop k).map ah_:=fun k=>map_drop.symm
 have md1:∀k,List.take k (p.Kids.map aB_)=(p.Kids.take k).map aB_:=fun k=>map_take.symm
 have md2:∀k,List.drop k (p.Kids.map aB_)=(p.Kids.drop k).map aB_:=fun k=>map_drop.symm
 have tk:=take_length (l:=p.Keys)
 have tv:=take_length (l:=p.Vals)
 have td:=take_length (l:=p.Kids)
 cases hl:p.Leaf with
 | true =>
  obtain⟨a1,a2⟩:=h1 hl
  have key:PureCall prog 117 [.agg (ai_.cells p)] h (.tup [.agg [.val (.bool true),.list 0 1 ((p.Keys.take 3).map ah_),.list 0 1 ((p.Vals.take 3).map ah_),.val (.slice none 0 0)],.agg [.val (.bool true),.list 0 1 ((p.Keys.drop 3).map ah_),.list 0 1 ((p.Vals.drop 3).map ah_),.val (.slice none 0 0)],.val (.string p.Keys[3])]):=by
   refine ar_ mixed Tryz.func117 t5_ rfl rfl ?_ h
   simp(disch:=omega)only[th_,wc_,ai_.cells,hl,go_sem,seval]
   repeat' (first
    | exact ak_ _ _
    | (exact⟨4,rfl⟩)
    | simp(disch:=omega)only[p2_,mk1,mk2,mv1,mv2,tk,tv,bT_,Option.map_some,ah_,go_sem,seval]
    | (refine PureCall.call (cl_ _ (by simp;omega) _) ?_)
    | (refine PureCall.q (cl_ _ (by simp;omega) _) ?_)
    | (refine PureCall.call (dA_ _ (by simp;omega) _) ?_)
    | (refine PureCall.q (dA_ _ (by simp;omega) _) ?_)
    | ((first|(apply a3_;assumption)|(apply a4_;assumption)|(apply bm_;assumption)|(apply bl_;assumption));intro hb;try simp only[hb])
    | ((first|apply aG_|apply aF_)<;>intro hb<;>(try simp only[hb])<;>(first|have hp:=bF_ hb|have hp:=bK_ hb|have hp:=bL_ hb|have hp:=bG_ hb|skip)))
  refine fun K hK=>callSem.weaken (key _ ⟨_,m6_ (aU_ (gf_ (aU_ (bs_ _) (aU_ (bs_ _) (aU_ (bs_ _) (aU_ (fC_ 1) dy_))))) (aU_ (gf_ (aU_ (bs_ _) (aU_ (bs_ _) (aU_ (bs_ _) (aU_ (fC_ 1) dy_))))) (aU_ (bs_ _) dy_))),?_⟩)
  have e:p.Keys.getD 3 ⟨#[]⟩=p.Keys[3]:=by simp[a1]
  have e2:aM_ p=(⟨true,p.Keys.take 3,p.Vals.take 3,[]⟩,⟨true,p.Keys.drop 3,p.Vals.drop 3,[]⟩,p.Keys[3]):=by rw[aM_,if_pos hl,e]
  rw[e2]at hK
  exact hK
 | false =>
  obtain⟨a1,a2⟩:=h2 hl
  have a3:2<p.Keys.length:=by omega
  have key:PureCall prog 117 [.agg (ai_.cells p)] h (.tup [.agg [.val (.bool false),.list 0 1 ((p.Keys.take 2).map ah_),.val (.slice none 0 0),.list 0 1 ((p.Kids.take 3).map aB_)],.agg [.val (.bool false),.list 0 1 ((p.Keys.drop 3).map ah_),.val (.slice none 0 0),.list 0 1 ((p.Kids.drop 3).map aB_)],.val (.string p.Keys[2])]):=by
   refine ar_ mixed Tryz.func117 t5_ rfl rfl ?_ h
   simp(disch:=omega)only[th_,wc_,ai_.cells,hl,go_sem,seval]
   repeat' (first
    | exact ak_ _ _
    | (exact⟨4,rfl⟩)
    | simp(disch:=omega)only[p2_,mk1,mk2,md1,md2,tk,td,bT_,Option.map_some,ah_,aw_,go_sem,seval]
    | (refine PureCall.call (cl_ _ (by simp;omega) _) ?_)
    | (refine PureCall.q (cl_ _ (by simp;omega) _) ?_)
    | (refine PureCall.call (dA_ _ (by simp;omega) _) ?_)
    | (refine PureCall.q (dA_ _ (by simp;omega) _) ?_)
    | ((first|(apply a3_;assumption)|(apply a4_;assumption)|(apply bm_;assumption)|(apply bl_;assumption));intro hb;try simp only[hb])
    | ((first|apply aG_|apply aF_)<;>intro hb<;>(try simp only[hb])<;>(first|have hp:=bF_ hb|have hp:=bK_ hb|have hp:=bL_ hb|have hp:=bG_ hb|skip)))
  refine fun K hK=>callSem.weaken (key _ ⟨_,m6_ (aU_ (gf_ (aU_ (bs_ _) (aU_ (bs_ _) (aU_ (fC_ 1) (aU_ (bs_ _) dy_))))) (aU_ (gf_ (aU_ (bs_ _) (aU_ (bs_ _) (aU_ (fC_ 1) (aU_ (bs_ _) dy_))))) (aU_ (bs_ _) dy_))),?_⟩)
  have e:p.Keys.getD 2 ⟨#[]⟩=p.Keys[2]:=by simp[a3]
  have e2:aM_ p=(⟨false,p.Keys.take 2,[],p.Kids.take 3⟩,⟨false,p.Keys.drop 3,[],p.Kids.drop 3⟩,p.Keys[2]):=by rw[aM_,if_neg (by simp[hl]),e]
  rw[e2]at hK
  exact hK
theorem mq_{xs:List ByteArray}{key:ByteArray}{k:Nat}(hk:k≤xs.length)(h1:∀j,j<k→∀hj:j<xs.length,aP_ xs[j] key=true)(h2:∀(h:k<xs.length),aP_ xs[k] key=false):lbK xs key=k :=
 Ar_ hk (fun j hj=>h1 j hj (by omega)) h2
theorem mx_(p:ai_)(key:ByteArray)(hx:p.Keys.length≤1048576)(h:List Row):PureCall prog 114 [.agg (ai_.cells p),.val (.string key)] h (.tup [.val (.int .i64 (aA_ p key).1),.val (.bool (aA_ p key).2)]):=by
 refine ar_ mixed Tryz.func114 Ai_ rfl rfl ?_ h
 simp(disch:=omega)only[xV_,z9_,ai_.cells,go_sem,seval]
 refine aL_ (fun n t h=>∃k:Nat,t 1=.val (.string key)∧t 2=.ptr 0 1 0 0∧t 6=.val (.int .i64 k)∧h[0]?=some ⟨.ty 77,4,[[.val (.bool p.Leaf),.list 0 1 (p.Keys.map ah_),.list 0 1 (p.Vals.map ah_),.list 0 1 (p.Kids.map aB_)]]⟩∧n=p.Keys.length-k∧k≤p.Keys.length∧∀j,j<k→∀hj:j<p.Keys.length,aP_ p.Keys[j] key=true) p.Keys.length ?_ ?_
 ·exact⟨0,rfl,rfl,rfl,rfl,rfl,Nat.zero_le _,fun j hj=>absurd hj (Nat.not_lt_zero j)⟩
 ·rintro J hJ n t h ⟨k,t1,t2,t6,o0,rfl,hk,hS⟩
  by_cases hlt:k<p.Keys.length
  ·cases hs:aP_ p.Keys[k] key with
   | true =>
    simp(disch:=first|omega|simp only[lzz0_];first|done|omega)only[go_sem,seval,t1,t2,t6,o0,hlt,hs,ah_,aw_]
    refine⟨p.Keys.length-(k+1),by omega,hJ _ _ _ ⟨k+1,by simp[upd,t1],by simp[upd,t2],by simp[upd],o0,rfl,by omega,fun j hj hj2=>?_⟩⟩
    by_cases e:j=k
    ·subst e;exact hs
    ·exact hS j (by omega) hj2
   | false =>
    have hlb:=mq_ hk hS fun _=>hs
    have hf:bQ_ p.Keys key=decide (p.Keys[k]=key):=by
     rw[bQ_,hlb,getElem?_eq_getElem hlt,decide_eq_decide];simp
    cases hk2:decide (p.Keys[k]=key)with
    | false =>
     simp(disch:=first|omega|simp only[lzz0_];first|done|omega)only[go_sem,seval,t1,t2,t6,o0,hlt,hs,hk2,ah_]
     rw[aA_,hf,hk2,hlb,if_neg (by simp)]
     exact⟨2,rfl⟩
    | true =>
     cases hl:p.Leaf with
     | true =>
      rw[hl]at o0
      simp(disch:=first|omega|simp only[lzz0_];first|done|omega)only[go_sem,seval,t1,t2,t6,o0,hlt,hs,hk2,ah_]
      rw[aA_,hf,hk2,hlb,hl,if_neg (by simp)]
      exact⟨2,rfl⟩
     | false =>
      rw[hl]at o0
      simp(disch:=first|omega|simp only[lzz0_];first|done|omega)only[go_sem,seval,t1,t2,t6,o0,hlt,hs,hk2,ah_,aw_]
      rw[aA_,hf,hk2,hlb,hl,if_pos (by simp)]
      exact⟨2,rfl⟩
  ·have hlb:=mq_ hk hS fun h=>absurd h hlt
   have hf:bQ_ p.Keys key=false:=by
    rw[bQ_,hlb,getElem?_eq_none (by omega)];rfl
   simp(disch:=first|omega|simp only[lzz0_];first|done|omega)only[go_sem,seval,t2,t6,o0,hlt]
   rw[aA_,hf,hlb,if_neg (by simp)]
   exact⟨2,rfl⟩
structure aO_ where
 id:Int
 a:AV
 b:AV
 c:AV
 d:AV
def aO_.cells(s:aO_):List AV:=[.val (.int .i64 s.id),s.a,s.b,s.c,s.d]
def b6_(p:aO_):Bool→List aO_→List aO_
 | dn,[]=>if dn=true then []else [p]
 | dn,e::r=>(if(!dn&&decide (e.id≥p.id))=true then [p]else [])++((if decide (e.id=p.id)=true then []else [e])++b6_ p (dn||decide (e.id≥p.id)) r)
theorem ju_(p:aO_):∀(dn:Bool) (l:List aO_),(b6_ p dn l).length≤l.length+1
 | true,[]=>by simp[b6_]
 | false,[]=>by simp[b6_]
 | true,e::r=>by
  have:=ju_ p true r
  simp only[b6_,Bool.not_true,Bool.false_and,Bool.false_eq_true,if_false,Bool.true_or,nil_append,la_,lc_]
  split<;>simp<;>omega
 | false,e::r=>by
  have h1:=ju_ p true r
  have h2:=ju_ p false r
  have h3:∀r,(b6_ p true r).length≤r.length:=by
   intro r
   induction r with
   | nil=>simp[b6_]
   | cons x r ih =>
    simp only[b6_,Bool.not_true,Bool.false_and,Bool.false_eq_true,if_false,Bool.true_or,nil_append,la_,lc_]
    split<;>simp<;>omega
  have h4:=h3 r
  simp only[b6_,Bool.not_false,Bool.true_and,Bool.false_or,la_,lc_]
  cases decide (e.id≥p.id)
  ·simp only[Bool.false_eq_true,if_false]
   split<;>simp<;>omega
  ·simp only[if_true]
   split<;>simp<;>omega
def aO_.ofG(s:aa_):aO_:=⟨s.Id,.val (.bool s.Page.Leaf),.list 0 1 (s.Page.Keys.map ah_),.list 0 1 (s.Page.Vals.map ah_),.list 0 1 (s.Page.Kids.map aB_)⟩
def c70:LC :=
 .q [.o [.bx 5 77 2],.o [.s 9 (.buildSlice 79 5 z2z 0 []),.m 6 9],.o [.f 7],.q [.o [.ki 8 0],.block 0 (.loop (.q [.q [.o [.m 10 8,.m 11 0,.nc 12 11,.fa 13 1 12,.ln 14 13,.ll 15 14,.bb 16 .lss false 10 15],.k
 16 .skip (.exit 0)],.block 1 (.q [.q [.o [.m 19 7,.nt 20 19,.m 21 20,.gm 22 21 true 0,.g 23 21 true (.nilCheck (.tmp 22)),.gf 24 21 true 1 23,.gn 25 21 true 24,.gm 26 21 true 8,.g 27 21 true (.indexAddr 5 (.tmp
 25) (.tmp 26)),.gf 28 21 true 0 27,.gn 29 21 true 28,.gm 30 21 true 1,.g 31 21 true (.bin .geq false (.tmp 29) (.tmp 30)),.pf 32 21 31],.k 32 (.q [.o [.m 33 6,.m 34 1,.ld 35 4 5,.s 36 (.build z2z [(0,1),(1,
 4)] [(0,.tmp 34),(1,.tmp 35)]),.s 37 (.buildSlice 79 5 z2z 1 [(0,.tmp 36)]),.ap 38 79 5 88 33 37,.m 6 38],.o [.t 7]]) .skip],.o [.m 39 0,.nc 40 39,.fa 41 1 40,.ln 42 41,.m 43 8,.ia 44 5 42 43,.fa 45 0 44,
 .ln 46 45,.m 47 1,.bb 48 .neq false 46 47],.k 48 (.o [.m 49 6,.m 50 0,.nc 51 50,.fa 52 1 51,.ln 53 52,.m 54 8,.ia 55 5 53 54,.ld 56 5 55,.s 57 (.buildSlice 79 5 z2z 1 [(0,.tmp 56)]),.ap 58 79 5 88 49 57,.m
 6 58]) .skip]),.o [.m 17 8,.bk 18 .add false 17 1,.m 8 18]]))],.q [.o [.m 59 7,.nt 60 59],.k 60 (.o [.m 61 6,.m 62 1,.ld 63 4 5,.s 64 (.build z2z [(0,1),(1,4)] [(0,.tmp 62),(1,.tmp 63)]),.s 65
 (.buildSlice 79 5 z2z 1 [(0,.tmp 64)]),.ap 66 79 5 88 61 65,.m 6 66]) .skip],.o [.m 67 0,.m 68 6,.nc 69 67,.fa 70 1 69,.st 1 70 68]]
def An_:LF:=⟨3,71,c70,[]⟩
theorem Di_:az_ Tryz.prog Tryz.f70 An_:=at_
set_option maxHeartbeats 2000000 in
theorem gn_(L:Nat)(root:Int)(sl:List aa_)(hes:sl.length≤1000000)(p:aO_)(hc:p.cells.all AV.cell=true)(h:List Row)(hL:h[L]?=some ⟨.ty 28,2,[[.val (.int .i64 root),.list 0 5 (sl.map aa_.cells)]]⟩)(K:AV→List Row→Prop)
 (hK:∀H' R,h.length≤R→(∀l,l<h.length→l≠L→H'[l]?=h[l]?)→h.length≤H'.length→H'[L]?=some ⟨.ty 28,2,[[.val (.int .i64 root),.own R (b6_ p false (sl.map aO_.ofG)).length]]⟩→H'[R]?=some ⟨.ty 79,5,(b6_ p false (sl.map aO_.ofG)).map aO_.cells⟩→K (.tup []) H') :
 callSem Tryz.prog 70 [.ptr L 1 0 0,.val (.int .i64 p.id),.agg [p.a,p.b,p.c,p.d]] h K:=by
 refine aJ_ mixed Tryz.func70 Di_ (bi_ rfl ?_)
 have lL:=(List.getElem?_eq_some_iff.1 hL).1
 obtain⟨id,a,b,c,d⟩:=p
 have hc5:[.val (.int .i64 id),a,b,c,d].all AV.cell=true:=hc
 have hc4:[a,b,c,d].all AV.cell=true:=by
  simp only[all_cons,all_nil,Bool.and_true,Bool.and_eq_true]at hc5⊢
  exact hc5.2
 simp(disch:=omega)only[An_,c70,hc4,go_sem,seval]
 refine aL_ (fun n t H=>∃(k:Nat) (dn:Bool) (out:List aO_),t 0=.ptr L 1 0 0∧t 1=.val (.int .i64 id)∧t 5=.ptr h.length 1 0 0∧t 6=.own (h.length+1) out.length∧t 7=.val (.bool dn)∧t 8=.val (.int .i64 k)∧n=sl.length-k∧k≤sl.length∧out.length≤k+(if dn=true then 1 else 0) ∧
  (∀l,l<h.length→H[l]?=h[l]?)∧h.length+2≤H.length∧H[h.length]?=some ⟨.ty 77,4,[[a,b,c,d]]⟩∧H[h.length+1]?=some ⟨.ty 79,5,out.map aO_.cells⟩∧b6_ ⟨id,a,b,c,d⟩ false (sl.map aO_.ofG)=out++b6_ ⟨id,a,b,c,d⟩ dn ((sl.drop k).map aO_.ofG)) sl.length ?_ ?_
 ·refine⟨0,false,[],rfl,rfl,rfl,rfl,rfl,rfl,rfl,Nat.zero_le _,Nat.zero_le _,fun l hl=>getElem?_append_left hl,by simp,?_,?_,rfl⟩
  ·rw[getElem?_append_right (Nat.le_refl _),Nat.sub_self];rfl
  ·rw[getElem?_append_right (by omega),Nat.add_sub_cancel_left];rfl
 ·rintro J hJ n t H ⟨k,dn,out,t0,t1,t5,t6,t7,t8,rfl,hk,hol,hkp,hlen,hB,hR,hS⟩
  have hLL:=(hkp L lL).trans hL
  by_cases hlt:k<sl.length
  ·rw[drop_eq_getElem_cons hlt,map_cons,b6_]at hS
   have hide:(aO_.ofG sl[k]).id=sl[k].Id:=rfl
   rw[hide]at hS
   cases dn<;>cases hge:decide (sl[k].Id≥id)<;>cases heq:decide (sl[k].Id=id)<;>(
    simp only[hge,heq,Bool.not_true,Bool.not_false,Bool.true_and,Bool.false_and,Bool.true_or,Bool.false_or,Bool.false_eq_true,if_true,if_false,nil_append]at hS hol
    simp(disch:=first|omega|simp only[lzz0_];first|done|omega)only[am_,aq_,ab_,as_,ls_,go_sem,seval,t0,t1,t5,t6,t7,t8,hLL,hB,hR,hlt,hge,heq,aa_.cells,aw_,bT_,Option.map_some,hc4,hc5]
    repeat(refine And.intro (by omega) ?_))
   ·exact⟨sl.length-(k+1),by omega,hJ _ _ _ ⟨k+1,false,out++[aO_.ofG sl[k]],by simp[upd,t0],by simp[upd,t1],by simp[upd,t5],by simp[upd],by simp[upd,t7],by simp[upd],rfl,by omega,by simp;omega,
     fun l hl=>by(simp(disch:=(first|omega|(simp only[ls_,la_,lc_,ln_];omega)))only[am_,ab_]);exact hkp l hl,by(simp only[ls_,la_,lc_,ln_]);omega,by(simp(disch:=(first|omega|(simp only[ls_,la_,lc_,ln_];omega)))only[am_,ab_]);exact hB,by(simp(disch:=(first|omega|(simp only[ls_,la_,lc_,ln_];omega)))only[aq_];simp[aO_.cells,aO_.ofG]),by rw[hS];simp⟩⟩
   ·exact⟨sl.length-(k+1),by omega,hJ _ _ _ ⟨k+1,false,out++[],by simp[upd,t0],by simp[upd,t1],by simp[upd,t5],by simp[upd,t6],by simp[upd,t7],by simp[upd],rfl,by omega,by simp;omega,
     fun l hl=>by(skip);exact hkp l hl,by(skip);omega,by(skip);exact hB,by(simpa using hR),by rw[hS];simp⟩⟩
   ·exact⟨sl.length-(k+1),by omega,hJ _ _ _ ⟨k+1,true,out++[⟨id,a,b,c,d⟩,aO_.ofG sl[k]],by simp[upd,t0],by simp[upd,t1],by simp[upd,t5],by simp[upd],by simp[upd],by simp[upd],rfl,by omega,by simp;omega,
     fun l hl=>by(simp(disch:=(first|omega|(simp only[ls_,la_,lc_,ln_];omega)))only[am_,ab_]);exact hkp l hl,by(simp only[ls_,la_,lc_,ln_]);omega,by(simp(disch:=(first|omega|(simp only[ls_,la_,lc_,ln_];omega)))only[am_,ab_]);exact hB,by(simp(disch:=(first|omega|(simp only[ls_,la_,lc_,ln_];omega)))only[aq_];simp[aO_.cells,aO_.ofG]),by rw[hS];simp⟩⟩
   ·exact⟨sl.length-(k+1),by omega,hJ _ _ _ ⟨k+1,true,out++[⟨id,a,b,c,d⟩],by simp[upd,t0],by simp[upd,t1],by simp[upd,t5],by simp[upd],by simp[upd],by simp[upd],rfl,by omega,by simp;omega,
     fun l hl=>by(simp(disch:=(first|omega|(simp only[ls_,la_,lc_,ln_];omega)))only[am_,ab_]);exact hkp l hl,by(simp only[ls_,la_,lc_,ln_]);omega,by(simp(disch:=(first|omega|(simp only[ls_,la_,lc_,ln_];omega)))only[am_,ab_]);exact hB,by(simp(disch:=(first|omega|(simp only[ls_,la_,lc_,ln_];omega)))only[aq_];simp[aO_.cells]),by rw[hS];simp⟩⟩
   ·exact⟨sl.length-(k+1),by omega,hJ _ _ _ ⟨k+1,true,out++[aO_.ofG sl[k]],by simp[upd,t0],by simp[upd,t1],by simp[upd,t5],by simp[upd],by simp[upd,t7],by simp[upd],rfl,by omega,by simp;omega,
     fun l hl=>by(simp(disch:=(first|omega|(simp only[ls_,la_,lc_,ln_];omega)))only[am_,ab_]);exact hkp l hl,by(simp only[ls_,la_,lc_,ln_]);omega,by(simp(disch:=(first|omega|(simp only[ls_,la_,lc_,ln_];omega)))only[am_,ab_]);exact hB,by(simp(disch:=(first|omega|(simp only[ls_,la_,lc_,ln_];omega)))only[aq_];simp[aO_.cells,aO_.ofG]),by rw[hS];simp⟩⟩
   ·exact⟨sl.length-(k+1),by omega,hJ _ _ _ ⟨k+1,true,out++[],by simp[upd,t0],by simp[upd,t1],by simp[upd,t5],by simp[upd,t6],by simp[upd,t7],by simp[upd],rfl,by omega,by simp;omega,
     fun l hl=>by(skip);exact hkp l hl,by(skip);omega,by(skip);exact hB,by(simpa using hR),by rw[hS];simp⟩⟩
   ·exact⟨sl.length-(k+1),by omega,hJ _ _ _ ⟨k+1,true,out++[aO_.ofG sl[k]],by simp[upd,t0],by simp[upd,t1],by simp[upd,t5],by simp[upd],by simp[upd,t7],by simp[upd],rfl,by omega,by simp;omega,
     fun l hl=>by(simp(disch:=(first|omega|(simp only[ls_,la_,lc_,ln_];omega)))only[am_,ab_]);exact hkp l hl,by(simp only[ls_,la_,lc_,ln_]);omega,by(simp(disch:=(first|omega|(simp only[ls_,la_,lc_,ln_];omega)))only[am_,ab_]);exact hB,by(simp(disch:=(first|omega|(simp only[ls_,la_,lc_,ln_];omega)))only[aq_];simp[aO_.cells,aO_.ofG]),by rw[hS];simp⟩⟩
   ·exact⟨sl.length-(k+1),by omega,hJ _ _ _ ⟨k+1,true,out++[],by simp[upd,t0],by simp[upd,t1],by simp[upd,t5],by simp[upd,t6],by simp[upd,t7],by simp[upd],rfl,by omega,by simp;omega,
     fun l hl=>by(skip);exact hkp l hl,by(skip);omega,by(skip);exact hB,by(simpa using hR),by rw[hS];simp⟩⟩
  ·rw[drop_eq_nil_of_le (by omega),map_nil]at hS
   cases dn with
   | true =>
    simp only[b6_,if_true,append_nil]at hS
    simp(disch:=first|omega|simp only[lzz0_];first|done|omega)only[go_sem,seval,t0,t6,t7,t8,hLL,hlt]
    refine⟨[],rfl,hK _ (h.length+1) (by omega) (fun l hl hne=>by(simp(disch:=(first|omega|(simp only[ls_,la_,lc_,ln_];omega)))only[am_]);exact hkp l hl) (by rw[ls_];omega) (by(simp(disch:=(first|omega|(simp only[ls_,la_,lc_,ln_];omega)))only[aq_]);rw[hS]) (by(simp(disch:=(first|omega|(simp only[ls_,la_,lc_,ln_];omega)))only[am_]);rw[hS];exact hR)⟩
   | false =>
    simp only[b6_,Bool.false_eq_true,if_false]at hS
    simp(disch:=first|omega|simp only[lzz0_];first|done|omega)only[am_,ab_,as_,go_sem,seval,t0,t1,t5,t6,t7,t8,hLL,hB,hR,hlt,bT_,Option.map_some,hc4,hc5]
    have hol2:out.length≤k:=by simpa using hol
    refine⟨by omega,by omega,[],rfl,hK _ (h.length+1) (by omega) (fun l hl hne=>by(simp(disch:=(first|omega|(simp only[ls_,la_,lc_,ln_];omega)))only[am_,ab_]);exact hkp l hl) (by simp only[ls_,la_,lc_,ln_];omega) (by(simp(disch:=(first|omega|(simp only[ls_,la_,lc_,ln_];omega)))only[aq_]);rw[hS,la_];rfl) (by(simp(disch:=(first|omega|(simp only[ls_,la_,lc_,ln_];omega)))only[am_,aq_]);rw[hS];simp[aO_.cells])⟩
def av_(s:aa_):Bool→List aa_→List aa_
 | dn,[]=>if dn=true then []else [s]
 | dn,e::r=>(if(!dn&&decide (e.Id≥s.Id))=true then [s]else [])++((if decide (e.Id=s.Id)=true then []else [e])++av_ s (dn||decide (e.Id≥s.Id)) r)
theorem h7_(s:aa_):∀(dn:Bool) (l:List aa_),b6_ (aO_.ofG s) dn (l.map aO_.ofG)=(av_ s dn l).map aO_.ofG
 | dn,[]=>by
  simp only[b6_,av_,map_nil]
  split<;>rfl
 | dn,e::r=>by
  have h1:(aO_.ofG e).id=e.Id:=rfl
  have h2:(aO_.ofG s).id=s.Id:=rfl
  simp only[b6_,av_,map_cons,map_append,h1,h2,h7_ s _ r]
  congr 1
  ·split<;>rfl
  ·congr 1
   split<;>rfl
theorem jy_(s:aa_)(l:List aa_):(b6_ (aO_.ofG s) false (l.map aO_.ofG)).map aO_.cells=(av_ s false l).map aa_.cells:=by
 rw[h7_,map_map]
 rfl
theorem pm_{b n:Nat}{h:List Row}{a:AV}(hf:a.flat=true):cv_ b h (n+1) a=some a:=by
 cases a<;>first|rfl|(simp[AV.flat]at hf)
theorem kq_{b n:Nat}{h:List Row}:∀{cs:List AV},cs.all AV.flat=true→cs.mapM (cv_ b h (n+1))=some cs
 | [],_=>rfl
 | c::cs,hc=>by
  rw[all_cons,Bool.and_eq_true]at hc
  rw[mapM_cons,pm_ hc.1,kq_ hc.2];rfl
theorem mW_{b n:Nat}{h:List Row}:∀{es:List (List AV)},(∀e∈es,e.all AV.flat=true)→(es.mapM fun(e:List AV)=>e.mapM (cv_ b h (n+1)))=some es
 | [],_=>rfl
 | e::es,hc=>by
  rw[mapM_cons,kq_ (hc e (mem_cons_self)),mW_ fun x hx=>hc x (mem_cons_of_mem _ hx)];rfl
theorem mm_{b l k n:Nat}{h:List Row}{r:Row}(hb:b≤l)(hl:h[l]?=some r)(hk:r.es.length=k)(hf:∀e∈r.es,e.all AV.flat=true):cv_ b h (n+2) (.own l k)=some (.list 0 r.sz r.es):=by
 have e:cv_ b h (n+2) (.own l k)=match h[l]? with
  | some r=>if b≤l∧r.es.length=k then(r.es.mapM fun(e:List AV)=>e.mapM (cv_ b h (n+1))).map (.list 0 r.sz)else none
  | none=>none:=rfl
 rw[e,hl]
 simp only[hb,hk,and_self,if_true]
 rw[mW_ hf];rfl
theorem lu_(sl:List aa_):∀e∈sl.map aa_.cells,e.all AV.flat=true:=by
 intro e he
 obtain⟨x,_,q⟩:=mem_map.1 he;subst q;rfl
theorem eS_(L:Nat)(root:Int)(sl:List aa_)(hes:sl.length≤1000000)(s:aa_)(h:List Row)(hL:h[L]?=some ⟨.ty 28,2,[[.val (.int .i64 root),.list 0 5 (sl.map aa_.cells)]]⟩)(K:AV→List Row→Prop)
 (hK:∀H',H'.length=h.length→(∀l,l≠L→H'[l]?=h[l]?)→H'[L]?=some ⟨.ty 28,2,[[.val (.int .i64 root),.list 0 5 ((av_ s false sl).map aa_.cells)]]⟩→K (.tup []) H') :
 callSem Tryz.prog 70 [.ptr L 1 0 0,.val (.int .i64 s.Id),.agg (ai_.cells s.Page)] h K:=by
 have lL:=(List.getElem?_eq_some_iff.1 hL).1
 refine pe_ (gn_ L root sl hes (aO_.ofG s) rfl h hL _ ?_)
 intro H' R hR hkp hlen hbox hrow
 rw[jy_]at hrow
 have hn:(b6_ (aO_.ofG s) false (sl.map aO_.ofG)).length=(av_ s false sl).length:=by rw[h7_,length_map]
 rw[hn]at hbox
 refine⟨4,.tup [],h.set L ⟨.ty 28,2,[[.val (.int .i64 root),.list 0 5 ((av_ s false sl).map aa_.cells)]]⟩,rfl,by simp,fun l hl=>?_,hK _ (by simp) (fun l hne=>getElem?_set_ne (Ne.symm hne)) (getElem?_set_self lL)⟩
 by_cases e:l=L
 ·subst e
  refine .inr ⟨_,28,[[.val (.int .i64 root),.list 0 5 ((av_ s false sl).map aa_.cells)]],hbox,rfl,?_,getElem?_set_self lL⟩
  have e1:cv_ h.length H' 4 (.own R (av_ s false sl).length)=some (.list 0 5 ((av_ s false sl).map aa_.cells)):=mm_ hR hrow (by simp) (lu_ _)
  show List.mapM (fun e=>List.mapM (cv_ h.length H' 4) e) [[AV.val (.int .i64 root),.own R (av_ s false sl).length]]=_
  rw[mapM_cons,mapM_cons,mapM_cons,e1]
  rfl
 ·exact .inl ⟨hkp l hl e,getElem?_set_ne (Ne.symm e)⟩
def c65:LC :=
 .q [.o [.bx 1 28 0,.s 2 (.alloc 28 z0z)],.o [.fa 5 0 1,.ln 6 5,.s 7 (.build z0z [(0,1),(1,1)] [(0,.tmp 6)]),.s 3 (.alloc 28 z0z),.st 2 3 7],.q [.o [.ki 4 0],.block 0 (.ghost (.loop (.q [.q [.o [.m 8 4,.fa 9
 1 1,.ln 10 9,.ll 11 10,.bb 12 .lss false 8 11],.k 12 .skip (.exit 0)],.block 1 (.gops [.fa 15 1 3,.ln 16 15,.fa 17 1 1,.ln 18 17,.m 19 4,.ia 20 5 18 19,.fa 21 0 20,.ln 22 21,.fa 23 1 1,.ln 24 23,.m 25 4,
 .ia 26 5 24 25,.fa 27 1 26,.ld 28 4 27] [(.c1 29 67 28,[.fa 15 1 3,.ln 16 15,.fa 17 1 1,.ln 18 17,.m 19 4,.ia 20 5 18 19,.fa 21 0 20,.ln 22 21]),(.s 30 (.build z2z [(0,1),(1,4)] [(0,.tmp 22),(1,.tmp
 29)]),[.fa 15 1 3,.ln 16 15]),(.s 31 (.buildSlice 79 5 z2z 1 [(0,.tmp 30)]),[.fa 15 1 3,.ln 16 15]),(.ap 32 79 5 88 16 31,[]),(.fa 33 1 3,[]),(.st 1 33 32,[])]),.o [.m 13 4,.bk 14 .add false 13 1,.m 4
 14]])))],.o [.ld 34 2 3,.st 2 2 34],.ret]
def Bi_:LF:=⟨1,35,c65,[.cell 2 (some 2)]⟩
theorem Dv_:az_ Tryz.prog Tryz.f65 Bi_:=at_
def c66:LC :=
 .q [.o [.bx 2 28 0,.nl 4,.f 5],.o [.s 11 (.buildSlice 107 2 z3z 0 []),.m 6 11],.o [.fa 12 0 2,.ln 13 12,.m 7 13],.block 0 (.ghost (.loop (.block 1 (.q [.o [.ld 14 2 2,.m 15 7,.c2 16 68 14 15,.s 8 (.alloc 77
 z1z),.st 4 8 16],.o [.ld 18 4 8,.m 19 1,.c2 20 114 18 19,.m 17 20,.ex 21 17 0,.ex 22 17 1,.m 9 21,.m 10 22],.o [.m 23 6,.m 24 7,.m 25 9,.s 26 (.build z3z [(0,1),(1,1)] [(0,.tmp 24),(1,.tmp 25)]),.s 27
 (.buildSlice 107 2 z3z 1 [(0,.tmp 26)]),.ap 28 107 2 16 23 27,.m 6 28],.q [.o [.fa 29 0 8,.ln 30 29],.k 30 (.q [.o [.m 31 6,.m 32 10,.m 4 31,.m 5 32],.ret]) .skip],.o [.fa 33 3 8,.ln 34 33,.m 35 9,.ia 36 1
 34 35,.ln 37 36,.m 7 37]]))))]
def BX_:LF:=⟨2,38,c66,[.tmp 4,.tmp 5]⟩
theorem Df_:az_ Tryz.prog Tryz.f66 BX_:=at_
theorem ou_(b:ae_)(hx:b.Slots.length≤1000000)(hsm:∀s∈b.Slots,smallP s.Page)(h:List Row):PureCall Tryz.prog 65 [.agg (ae_.cells b)] h (.agg (ae_.cells b)):=by
 refine ar_ mixed Tryz.func65 Dv_ rfl rfl ?_ h
 simp(disch:=omega)only[Bi_,c65,ae_.cells,bT_,Option.map_some,go_sem,seval]
 refine kt_ _ (fun t=>qT_ (L:=2) [.val (.int .i64 b.Root)] [] 79 5 rfl) ?_
 refine aL_ (fun n t H=>∃k:Nat,t 1=.ptr 0 1 0 0∧t 2=.ptr 1 1 0 0∧t 3=.ptr 2 1 0 0∧t 4=.val (.int .i64 k)∧n=b.Slots.length-k∧k≤b.Slots.length∧4≤H.length∧H[0]?=some ⟨.ty 28,2,[[.val (.int .i64 b.Root),.list 0 5 (b.Slots.map aa_.cells)]]⟩∧H[1]?=some ⟨.ty 28,2,[[.val (.int .i64 0),.val (.slice none 0 0)]]⟩∧H[2]?=some ⟨.ty 28,2,[[.val (.int .i64 b.Root),.own 3 k]]⟩∧H[3]?=some ⟨.ty 79,5,(b.Slots.take k).map aa_.cells⟩) b.Slots.length ?_ ?_
 ·exact⟨0,rfl,rfl,rfl,rfl,rfl,Nat.zero_le _,Nat.le_refl _,rfl,rfl,rfl,rfl⟩
 ·rintro J hJ n t H ⟨k,t1,t2,t3,t4,rfl,hk,hlen,o0,o1,o2,o3⟩
  by_cases hlt:k<b.Slots.length
  ·obtain⟨z1,z2,z3⟩:=hsm _ (getElem_mem hlt)
   simp(disch:=first|omega|simp only[lzz0_];first|done|omega)only[go_sem,seval,t1,t3,t4,o0,o2,hlt,aa_.cells]
   refine PureCall.call (fb_ b.Slots[k].Page z1 z2 z3 _) ?_
   simp(disch:=first|omega|simp only[lzz0_];first|done|omega)only[am_,ab_,as_,go_sem,seval,t1,t3,t4,o0,o2,o3,aa_.cells,ai_.cells,bT_,Option.map_some,aw_]
   refine⟨by simp;omega,by omega,by omega,?_⟩
   exact⟨b.Slots.length-(k+1),by omega,hJ _ _ _ ⟨k+1,by simp[upd,t1],by simp[upd,t2],by simp[upd,t3],by simp[upd],rfl,by omega,by simp;omega,by(simp(disch:=(first|omega|(simp only[ls_,la_,lc_,ln_];omega)))only[am_,ab_]);exact o0,by(simp(disch:=(first|omega|(simp only[ls_,la_,lc_,ln_];omega)))only[am_,ab_]);exact o1,by(simp(disch:=(first|omega|(simp only[ls_,la_,lc_,ln_];omega)))only[aq_]),by(simp(disch:=(first|omega|(simp only[ls_,la_,lc_,ln_];omega)))only[am_,aq_]);rw[take_succ_eq_append_getElem hlt,map_append];rfl⟩⟩
  ·simp(disch:=first|omega|simp only[lzz0_];first|done|omega)only[aq_,go_sem,seval,t1,t2,t3,t4,o0,o1,o2,hlt]
   have hkk:k=b.Slots.length:=by omega
   subst hkk
   rw[take_length]at o3
   have e1:AW.resolve (H.set 1 ⟨.ty 28,2,[[.val (.int .i64 b.Root),.own 3 b.Slots.length]]⟩) 4 (.own 3 b.Slots.length)=some (.list 0 5 (b.Slots.map aa_.cells)):=em_ (n:=2) (r:=⟨.ty 79,5,b.Slots.map aa_.cells⟩) (by rw[getElem?_set_ne (by omega)];exact o3) (by simp) (lu_ _)
   refine⟨5,?_⟩
   show(List.mapM (AW.resolve _ 4) [AV.val (.int .i64 b.Root),.own 3 b.Slots.length]).map AV.agg=_
   rw[mapM_cons,mapM_cons,e1]
   rfl
def lh_(st:de_)(key:ByteArray):Nat→Int→Prop
 | 0,_=>False
 | n+1,id=>∃p,st id=some p∧p.Keys.length≤1048576∧(p.Leaf=true∨∃hk:(aA_ p key).1<p.Kids.length,lh_ st key n p.Kids[(aA_ p key).1])
def cw_(st:de_)(key:ByteArray):Nat→Int→List (Int×Nat)×Bool
 | 0,_=>([],false)
 | n+1,id=>match st id with
  | none=>([],false)
  | some p=>if p.Leaf=true then([(id,(aA_ p key).1)],(aA_ p key).2)else((id,(aA_ p key).1)::(cw_ st key n (p.Kids.getD (aA_ p key).1 0)).1,(cw_ st key n (p.Kids.getD (aA_ p key).1 0)).2)
def d1_(s:Int×Nat):List AV:=[.val (.int .i64 s.1),.val (.int .i64 s.2)]
theorem sY_(l:List (Int×Nat)):∀e∈l.map d1_,e.all AV.flat=true:=by
 intro e he
 obtain⟨x,_,q⟩:=mem_map.1 he;subst q;rfl
theorem nL_(b:ae_)(key:ByteArray)(n:Nat)(hn:n≤1000)(hx:b.Slots.length≤1048576)(hw:lh_ (ag_ b.Slots) key n b.Root)(h:List Row):PureCall Tryz.prog 66 [.agg (ae_.cells b),.val (.string key)] h (.tup [.list 0 2 ((cw_ (ag_ b.Slots) key n b.Root).1.map d1_),.val (.bool (cw_ (ag_ b.Slots) key n b.Root).2)]):=by
 refine ar_ mixed Tryz.func66 Df_ rfl rfl ?_ h
 have hpg:=fun id p hp h=>eN_ b id p hx hp h
 unfold ae_.cells at hpg
 simp(disch:=omega)only[BX_,c66,ae_.cells,go_sem,seval]
 refine bw_ _ _ b3_ ?_
 refine aL_ (fun m t H=>∃(id:Int) (out:List (Int×Nat)),t 1=.val (.string key)∧t 2=.ptr 0 1 0 0∧t 6=.own 1 out.length∧t 7=.val (.int .i64 id)∧lh_ (ag_ b.Slots) key m id∧out.length+m=n∧2≤H.length∧H[0]?=some ⟨.ty 28,2,[[.val (.int .i64 b.Root),.list 0 5 (b.Slots.map aa_.cells)]]⟩∧H[1]?=some ⟨.ty 107,2,out.map d1_⟩ ∧
  cw_ (ag_ b.Slots) key n b.Root=(out++(cw_ (ag_ b.Slots) key m id).1,(cw_ (ag_ b.Slots) key m id).2)) n ?_ ?_
 ·exact⟨b.Root,[],rfl,rfl,rfl,rfl,hw,by simp,Nat.le_refl _,rfl,rfl,by simp⟩
 ·rintro J hJ m t H ⟨id,out,t1,t2,t6,t7,hok,hom,hlen,o0,o1,hS⟩
  cases m with
  | zero=>exact absurd hok (by simp[lh_])
  | succ m =>
   obtain⟨p,hp,hkl,hr⟩:=hok
   simp(disch:=first|omega|simp only[lzz0_];first|done|omega)only[go_sem,seval,t2,t7,o0]
   refine PureCall.call (hpg id p hp _) ?_
   have hfd:=mx_ p key hkl
   unfold ai_.cells at hfd
   simp(disch:=first|omega|simp only[lzz0_];first|done|omega)only[as_,go_sem,seval,t1,ai_.cells]
   refine PureCall.call (hfd _) ?_
   have hlen1:out.length≤1000:=by omega
   cases hl:p.Leaf with
   | true =>
    have hw1:cw_ (ag_ b.Slots) key (m+1) id=([(id,(aA_ p key).1)],(aA_ p key).2):=by rw[cw_,hp];simp[hl]
    rw[hw1]at hS
    simp(disch:=first|omega|simp only[lzz0_];first|done|omega)only[am_,ab_,as_,aX_,go_sem,seval,t6,t7,o1,bT_,Option.map_some]
    refine⟨by omega,by omega,5,?_⟩
    rw[hS]
    have eo:out.map d1_++[[AV.val (.int .i64 id),AV.val (.int .i64 ((aA_ p key).1:Nat))]]=(out++[(id,(aA_ p key).1)]).map d1_:=by rw[map_append];rfl
    rw[eo]
    show(List.mapM (AW.resolve _ 4) [AV.own 1 (out.length+1),.val (.bool (aA_ p key).2)]).map AV.tup=_
    rw[mapM_cons,mapM_cons,em_ (n:=2) (r:=⟨.ty 107,2,(out++[(id,(aA_ p key).1)]).map d1_⟩) (getElem?_set_self (by simp only[la_,lc_];omega)) (by simp) (sY_ _)]
    rfl
   | false =>
    obtain⟨hk,hok2⟩:=hr.resolve_left (by simp[hl])
    have hk1:p.Kids[(aA_ p key).1]?=some p.Kids[(aA_ p key).1]:=getElem?_eq_getElem hk
    have hgd:p.Kids.getD (aA_ p key).1 0=p.Kids[(aA_ p key).1]:=by rw[getD_eq_getElem?_getD,hk1];rfl
    have hw1:cw_ (ag_ b.Slots) key (m+1) id=((id,(aA_ p key).1)::(cw_ (ag_ b.Slots) key m p.Kids[(aA_ p key).1]).1,(cw_ (ag_ b.Slots) key m p.Kids[(aA_ p key).1]).2):=by rw[cw_,hp];simp only[hl,Bool.false_eq_true,if_false,hgd]
    rw[hw1]at hS
    simp(disch:=first|omega|simp only[lzz0_];first|done|omega)only[am_,ab_,as_,aX_,go_sem,seval,t6,t7,o1,bT_,Option.map_some,hk1,aB_]
    refine⟨by omega,by omega,m,by omega,hJ _ _ _ ⟨p.Kids[(aA_ p key).1],out++[(id,(aA_ p key).1)],by simp[upd,t1],by simp[upd,t2],by simp[upd],by simp[upd],hok2,by simp;omega,by simp only[ls_,la_,lc_];omega,by(simp(disch:=(first|omega|(simp only[ls_,la_,lc_,ln_];omega)))only[am_,ab_]);exact o0,by(simp(disch:=(first|omega|(simp only[ls_,la_,lc_,ln_];omega)))only[aq_]);rw[map_append];rfl,by rw[hS];simp⟩⟩
def bM_(p:ai_):Bool:=decide (6<p.Keys.length)||decide (6<p.Kids.length)
def up2(sl:List aa_)(id:Int)(p:ai_):List aa_:=av_ ⟨aI_ (ag_ sl) 64,(aM_ p).2.1⟩ false (av_ ⟨id,(aM_ p).1⟩ false sl)
def aV_(u:ai_)(at':Nat)(key:ByteArray)(other:Int):ai_:=⟨u.Leaf,u.Keys.take at'++key::u.Keys.drop at',u.Vals,u.Kids.take (at'+1)++other::u.Kids.drop (at'+1)⟩
def c7_(key:ByteArray)(a b:Int):ai_:=⟨false,[key],[],[a,b]⟩
def upF(way:List (Int×Nat))(root:Int):Nat→List aa_→List aa_×Int×Int
 | 0,sl=>(sl,root,0)
 | k+1,sl=>match ag_ sl (way.getD k (0,0)).1 with
  | none=>(sl,root,0)
  | some p =>
   if bM_ p=false then(sl,root,0)
   else if aI_ (ag_ sl) 64=0 then(sl,root,4)
   else if k=0 then
    if aI_ (ag_ (up2 sl (way.getD k (0,0)).1 p)) 64=0 then(up2 sl (way.getD k (0,0)).1 p,root,4)
    else(av_ ⟨aI_ (ag_ (up2 sl (way.getD k (0,0)).1 p)) 64,c7_ (aM_ p).2.2 (way.getD k (0,0)).1 (aI_ (ag_ sl) 64)⟩ false (up2 sl (way.getD k (0,0)).1 p),aI_ (ag_ (up2 sl (way.getD k (0,0)).1 p)) 64,0)
   else match ag_ (up2 sl (way.getD k (0,0)).1 p) (way.getD (k-1) (0,0)).1 with
    | none=>(sl,root,0)
    | some u=>upF way root k (av_ ⟨(way.getD (k-1) (0,0)).1,aV_ u (way.getD (k-1) (0,0)).2 (aM_ p).2.2 (aI_ (ag_ sl) 64)⟩ false (up2 sl (way.getD k (0,0)).1 p))
def lW_(way:List (Int×Nat)):Nat→List aa_→Prop
 | 0,sl=>True
 | k+1,sl=>sl.length≤1000∧∃p,ag_ sl (way.getD k (0,0)).1=some p∧smallP p∧(bM_ p=true→(p.Leaf=true→3<p.Keys.length∧3≤p.Vals.length)∧(p.Leaf=false→3≤p.Keys.length∧3≤p.Kids.length) ∧
  (aI_ (ag_ sl) 64≠0→k≠0→∃u,ag_ (up2 sl (way.getD k (0,0)).1 p) (way.getD (k-1) (0,0)).1=some u∧smallP u∧(way.getD (k-1) (0,0)).2≤u.Keys.length∧(way.getD (k-1) (0,0)).2+1≤u.Kids.length ∧
    lW_ way k (av_ ⟨(way.getD (k-1) (0,0)).1,aV_ u (way.getD (k-1) (0,0)).2 (aM_ p).2.2 (aI_ (ag_ sl) 64)⟩ false (up2 sl (way.getD k (0,0)).1 p))))
theorem lU_(s:aa_)(l:List aa_):(av_ s false l).length≤l.length+1:=by
 have:=ju_ (aO_.ofG s) false (l.map aO_.ofG)
 rw[h7_,length_map,length_map]at this
 exact this
theorem jR_{h h':List Row}{L:Nat}{root:Int}{sl:List aa_}{av:AV}{K:AV→List Row→Prop}(hav:av.flat=true)(hL:L<h.length)(hkp:∀l,l<h.length→l≠L→h'[l]?=h[l]?)(hb:h'[L]?=some ⟨.ty 28,2,[[.val (.int .i64 root),.list 0 5 (sl.map aa_.cells)]]⟩)
 (hK:∀H',H'.length=h.length→(∀l,l≠L→H'[l]?=h[l]?)→H'[L]?=some ⟨.ty 28,2,[[.val (.int .i64 root),.list 0 5 (sl.map aa_.cells)]]⟩→K av H'):CB_ h h' av K:=by
 refine⟨4,av,h.set L ⟨.ty 28,2,[[.val (.int .i64 root),.list 0 5 (sl.map aa_.cells)]]⟩,pm_ hav,by simp,fun l hl=>?_,hK _ (by simp) (fun l hne=>getElem?_set_ne (Ne.symm hne)) (getElem?_set_self hL)⟩
 by_cases e:l=L
 ·subst e
  exact .inr ⟨_,28,[[.val (.int .i64 root),.list 0 5 (sl.map aa_.cells)]],hb,rfl,rfl,getElem?_set_self hL⟩
 ·exact .inl ⟨hkp l hl e,getElem?_set_ne (Ne.symm e)⟩
theorem vc_{b l k n:Nat}{h:List Row}{r:Row}{es:List (List AV)}(hb:b≤l)(hl:h[l]?=some r)(hk:r.es.length=k)(hm:(r.es.mapM fun(e:List AV)=>e.mapM (cv_ b h n))=some es):cv_ b h (n+1) (.own l k)=some (.list 0 r.sz es):=by
 have e:cv_ b h (n+1) (.own l k)=match h[l]? with
  | some r=>if b≤l∧r.es.length=k then(r.es.mapM fun(e:List AV)=>e.mapM (cv_ b h n)).map (.list 0 r.sz)else none
  | none=>none:=rfl
 rw[e,hl]
 simp only[hb,hk,and_self,if_true]
 rw[hm];rfl
theorem o8_{α β:Type}(f:α→Option β):∀{l1 l2:List α} {r1 r2:List β},l1.mapM f=some r1→l2.mapM f=some r2→(l1++l2).mapM f=some (r1++r2):=by
 intro l1 l2 r1 r2 h1 h2
 rw[mapM_append,h1,h2];rfl
theorem kr_{R:AV→Option AV}(c c':aO_)(hid:c'.id=c.id)(hc:c.cells.mapM R=some c'.cells):∀(dn:Bool) (l:List aO_),(∀e∈l,e.cells.mapM R=some e.cells)→((b6_ c dn l).map aO_.cells).mapM (fun(e:List AV)=>e.mapM R)=some ((b6_ c' dn l).map aO_.cells)
 | dn,[],_=>by
  simp only[b6_]
  split
  ·rfl
  ·rw[map_cons,map_nil,mapM_cons,hc];rfl
 | dn,e::l,he=>by
  have h1:=kr_ c c' hid hc (dn||decide (e.id≥c.id)) l fun x hx=>he x (mem_cons_of_mem _ hx)
  have h2:=he e mem_cons_self
  have one:∀x y:aO_,x.cells.mapM R=some y.cells→([x].map aO_.cells).mapM (fun(e:List AV)=>e.mapM R)=some ([y].map aO_.cells):=by
   intro x y h
   rw[map_cons,map_nil,mapM_cons,h];rfl
  simp only[b6_,map_append,hid]
  refine o8_ _ ?_ (o8_ _ ?_ h1)
  ·split
   ·exact one _ _ hc
   ·rfl
  ·split
   ·rfl
   ·exact one _ _ h2
def c71:LC :=
 .q [.o [.ki 4 0],.q [.o [.m 14 1,.ll 15 14,.bk 16 .sub false 15 1,.m 5 16],.block 0 (.loop (.q [.q [.o [.m 17 5,.bk 18 .geq false 17 0],.k 18 .skip (.exit 0)],.block 1 (.q [.o [.m 21 1,.m 22 5,.ia 23 2 21 22,
 .fa 24 0 23,.ln 25 24,.m 6 25],.o [.m 26 0,.nc 27 26,.ld 28 2 27,.m 29 6,.c2 30 68 28 29,.s 7 (.alloc 77 z1z),.st 4 7 30],.q [.o [.ld 31 4 7,.c1 32 116 31,.nt 33 32],.k 33 (.q [.o [.ki 4 0],.ret]) .skip],
 .o [.ld 35 4 7,.c1 36 117 35,.m 34 36,.ex 37 34 0,.ex 38 34 1,.ex 39 34 2,.s 8 (.alloc 77 z1z),.s 9 (.alloc 77 z1z),.st 4 8 37,.st 4 9 38,.m 10 39],.o [.m 40 0,.nc 41 40,.ld 42 2 41,.c1 43 118 42,.m 11
 43],.q [.o [.m 44 11,.bk 45 .eql false 44 0],.k 45 (.q [.o [.ki 4 4],.ret]) .skip],.o [.m 46 0,.m 47 6,.ld 48 4 8,.c3 49 70 46 47 48],.o [.m 50 0,.m 51 11,.ld 52 4 9,.c3 53 70 50 51 52],.q [.o [.m 54 5,.bk
 55 .eql false 54 0],.k 55 (.q [.o [.m 56 0,.nc 57 56,.ld 58 2 57,.c1 59 118 58,.m 12 59],.q [.o [.m 60 12,.bk 61 .eql false 60 0],.k 61 (.q [.o [.ki 4 4],.ret]) .skip],.o [.m 62 0,.m 63 12,.m 64 10,.s 65
 (.buildSlice 9 1 (.string ⟨#[]⟩) 1 [(0,.tmp 64)]),.m 66 6,.m 67 11,.s 68 (.buildSlice 2 1 (.int .i64 0) 2 [(0,.tmp 66),(1,.tmp 67)]),.s 69 (.build z1z [(0,1),(1,1),(2,1),(3,1)] [(1,.tmp 65),(3,.tmp
 68)]),.c3 70 70 62 63 69],.o [.m 71 0,.m 72 12,.nc 73 71,.fa 74 0 73,.st 1 74 72],.o [.ki 4 0],.ret]) .skip],.gops [.m 75 0,.nc 76 75,.ld 77 2 76,.m 78 1,.m 79 5,.bk 80 .sub false 79 1,.ia 81 2 78 80,.fa
 82 0 81,.ln 83 82] [(.c2 84 68 77 83,[]),(.c1 85 67 84,[]),(.s 13 (.alloc 77 z1z),[.m 75 0,.nc 76 75,.ld 77 2 76,.m 78 1,.m 79 5,.bk 80 .sub false 79 1,.ia 81 2 78 80,.fa 82 0 81,.ln 83 82]),(.st 4 13 85,
 [])],.gops [.fa 86 1 13,.ln 87 86,.m 88 1,.m 89 5,.bk 90 .sub false 89 1,.ia 91 2 88 90,.fa 92 1 91,.ln 93 92,.m 94 10] [(.c3 95 69 87 93 94,[]),(.fa 96 1 13,[]),(.st 1 96 95,[])],.gops [.fa 97 3 13,.ln
 98 97,.m 99 1,.m 100 5,.bk 101 .sub false 100 1,.ia 102 2 99 101,.fa 103 1 102,.ln 104 103,.bk 105 .add false 104 1,.m 106 11] [(.c3 107 119 98 105 106,[]),(.fa 108 3 13,[]),(.st 1 108 107,[])],.gops [.m
 109 0,.m 110 1,.m 111 5,.bk 112 .sub false 111 1,.ia 113 2 110 112,.fa 114 0 113,.ln 115 114,.ld 116 4 13] [(.c3 117 70 109 115 116,[])]]),.o [.m 19 5,.bk 20 .sub false 19 1,.m 5 20]]))],.o [.ki 4 0],.ret]
def wC_:LF:=⟨2,118,c71,[.tmp 4]⟩
theorem xA_:az_ Tryz.prog Tryz.f71 wC_:=gM_
set_option maxHeartbeats 4000000 in
theorem n4_(L:Nat)(root:Int)(sl:List aa_)(way:List (Int×Nat))(hw:way.length≤1000)(hok:lW_ way way.length sl)(h:List Row)(hL:h[L]?=some ⟨.ty 28,2,[[.val (.int .i64 root),.list 0 5 (sl.map aa_.cells)]]⟩)(K:AV→List Row→Prop)
 (hK:∀H',H'.length=h.length→(∀l,l≠L→H'[l]?=h[l]?)→H'[L]?=some ⟨.ty 28,2,[[.val (.int .i64 (upF way root way.length sl).2.1),.list 0 5 ((upF way root way.length sl).1.map aa_.cells)]]⟩→K (.val (.int .i64 (upF way root way.length sl).2.2)) H') :
 callSem Tryz.prog 71 [.ptr L 1 0 0,.list 0 2 (way.map d1_)] h K:=by
 have lL:=(List.getElem?_eq_some_iff.1 hL).1
 refine pe_ (aJ_ mixed Tryz.func71 xA_ (bi_ rfl ?_))
 simp(disch:=omega)only[wC_,c71,aw_,go_sem,seval]
 refine aL_ (fun n t H=>∃(k:Nat) (sl':List aa_),t 0=.ptr L 1 0 0∧t 1=.list 0 2 (way.map d1_)∧t 5=.val (.int .i64 ((k:Int)-1))∧n=k∧k≤way.length∧(∀l,l<h.length→l≠L→H[l]?=h[l]?)∧h.length≤H.length∧H[L]?=some ⟨.ty 28,2,[[.val (.int .i64 root),.list 0 5 (sl'.map aa_.cells)]]⟩∧lW_ way k sl'∧upF way root way.length sl=upF way root k sl') way.length ?_ ?_
 ·exact⟨way.length,sl,rfl,rfl,by simp[upd],rfl,Nat.le_refl _,fun _ _ _=>rfl,Nat.le_refl _,hL,hok,rfl⟩
 ·rintro J hJ n t H ⟨k,sl',t0,t1,t5,rfl,hk,hkp,hlen,hB,hu,hS⟩
  cases n with
  | zero =>
   have q:(((0:Nat):Int)-1≥0)=False:=eq_false (by omega)
   simp(disch:=first|omega|simp only[lzz0_];first|done|omega)only[go_sem,seval,t5]
   rw[hS]at hK
   exact jR_ rfl lL hkp hB hK
  | succ k =>
   have q0:((k+1:Nat):Int)-1=(k:Int):=by omega
   rw[q0]at t5
   have q:((k:Int)≥0)=True:=eq_true (by omega)
   have hlt:k<way.length:=by omega
   have hgd:way.getD k (0,0)=way[k]:=by rw[getD_eq_getElem?_getD,getElem?_eq_getElem hlt];rfl
   obtain⟨hl1,p,hp,⟨z1,z2,z3⟩,hf⟩:=hu
   rw[hgd]at hp hf
   have hpg:=fun h=>eN_ ⟨root,sl'⟩ way[k].1 p (by show sl'.length≤1048576;omega) hp h
   unfold ae_.cells at hpg
   simp(disch:=first|omega|simp only[lzz0_];first|done|omega)only[go_sem,seval,t0,t1,t5,hB,q,d1_]
   refine PureCall.call (hpg _) ?_
   simp(disch:=first|omega|simp only[lzz0_];first|done|omega)only[as_,go_sem,seval,ai_.cells]
   refine PureCall.call (iB_ p _) ?_
   have hfp:(decide (6<p.Keys.length)||decide (6<p.Kids.length))=bM_ p:=rfl
   rw[hfp]
   cases hfu:bM_ p with
   | false =>
    simp(disch:=first|omega|simp only[lzz0_];first|done|omega)only[go_sem,↓reduceIte]
    have e:upF way root (k+1) sl'=(sl',root,0):=by rw[upF,hgd,hp];simp[hfu]
    rw[hS,e]at hK
    exact jR_ rfl lL (fun l hl hne=>(getElem?_append_left (by omega)).trans (hkp l hl hne)) ((getElem?_append_left (by omega)).trans hB) hK
   | true =>
    obtain⟨f1,f2,f3⟩:=hf hfu
    simp(disch:=first|omega|simp only[lzz0_];first|done|omega)only[as_,go_sem,seval]
    refine PureCall.call (mc_ p z1 z2 z3 f1 f2 _) ?_
    obtain⟨x,y,key,hsp⟩:∃x y key,aM_ p=(x,y,key):=⟨_,_,_,rfl⟩
    have hnew:=fun h=>i7_ ⟨root,sl'⟩ (by show sl'.length≤1048576;omega) h
    unfold ae_.cells at hnew
    rw[hsp]
    simp(disch:=first|omega|simp only[lzz0_];first|done|omega)only[ab_,aX_,bO_,go_sem,seval,t0,hB,ai_.cells]
    refine PureCall.call (hnew _) ?_
    have hstep:=(rfl:upF way root (k+1) sl'=upF way root (k+1) sl')
    conv at hstep=>rhs;rw[upF,hgd,hp]
    simp only[hfu,Bool.true_eq_false,if_false,hsp]at hstep
    have hu2:up2 sl' way[k].1 p=av_ ⟨aI_ (ag_ sl') 64,y⟩ false (av_ ⟨way[k].1,x⟩ false sl'):=by rw[up2,hsp]
    rw[hu2]at hstep f3
    rw[hsp]at f3
    generalize aI_ (ag_ sl') 64=o at *
    by_cases ho:o=0
    ·rw[if_pos ho]at hstep
     simp(disch:=first|omega|simp only[lzz0_];first|done|omega)only[go_sem,↓reduceIte,ho]
     rw[hS,hstep]at hK
     exact jR_ rfl lL (fun l hl hne=>(getElem?_append_left (by omega)).trans (hkp l hl hne)) ((getElem?_append_left (by omega)).trans hB) hK
    ·rw[if_neg ho]at hstep
     have l1:=lU_ ⟨way[k].1,x⟩ sl'
     have l2:=lU_ ⟨o,y⟩ (av_ ⟨way[k].1,x⟩ false sl')
     simp(disch:=first|omega|simp only[lzz0_];first|done|omega)only[aX_,go_sem,seval,t0,ho]
     refine eS_ L root sl' (by omega) ⟨way[k].1,x⟩ _ ((getElem?_append_left (by omega)).trans hB) _ ?_
     intro H1 len1 kp1 box1
     have b1:=(kp1 (H.length+2) (by omega)).trans (getElem?_append_right (by omega))
     rw[la_]at len1
     rw[Nat.add_sub_cancel_left]at b1
     simp only[lc_,ln_,Nat.zero_add,Nat.reduceAdd,getElem?_cons_succ,getElem?_cons_zero]at len1 b1
     simp(disch:=first|omega|simp only[lzz0_];first|done|omega)only[go_sem,seval,t0,b1]
     refine eS_ L root _ (by omega) ⟨o,y⟩ _ box1 _ ?_
     intro H2 len2 kp2 box2
     have kept:∀l,l<H.length→l≠L→H2[l]?=H[l]?:=fun l h1 h2=>by rw[kp2 l h2,kp1 l h2,getElem?_append_left h1]
     generalize hu:av_ ⟨o,y⟩ false (av_ ⟨way[k].1,x⟩ false sl')=u2 at *
     by_cases hk0:k=0
     ·subst hk0
      rw[if_pos rfl]at hstep
      have q2:(((0:Nat):Int)=0)=True:=eq_true rfl
      have hnew2:=fun h=>i7_ ⟨root,u2⟩ (by show u2.length≤1048576;omega) h
      unfold ae_.cells at hnew2
      generalize aI_ (ag_ u2) 64=o2 at *
      simp(disch:=first|omega|simp only[lzz0_];first|done|omega)only[go_sem,seval,t0,t5,box2]
      refine PureCall.call (hnew2 _) ?_
      by_cases ho2:o2=0
      ·rw[if_pos ho2]at hstep
       simp(disch:=first|omega|simp only[lzz0_];first|done|omega)only[go_sem,↓reduceIte,ho2]
       rw[hS,hstep]at hK
       exact jR_ rfl lL (fun l h1 h2=>(kept l (by omega) h2).trans (hkp l h1 h2)) box2 hK
      ·rw[if_neg ho2]at hstep
       simp(disch:=first|omega|simp only[lzz0_];first|done|omega)only[go_sem,seval,t0,ho2,bT_,Option.map_some]
       refine callSem.args (args':=[.ptr L 1 0 0,.val (.int .i64 o2),.agg [.val (.bool false),.own H2.length 1,.list 0 1 [],.own (H2.length+1) 2]]) (aU_ (bs_ _) (aU_ (bs_ _) (aU_ (gf_ (aU_ (bs_ _) (aU_ (bs_ _) (aU_ (fC_ 1) (aU_ (bs_ _) dy_))))) dy_))) ?_
       refine gn_ L root u2 (by omega) ⟨o2,.val (.bool false),.own H2.length 1,.list 0 1 [],.own (H2.length+1) 2⟩ rfl _ ((getElem?_append_left (by omega)).trans box2) _ ?_
       intro H3 R hR kp3 len3 box3 row3
       rw[la_]at len3 hR
       simp only[lc_,ln_]at len3 hR
       have r1:=(kp3 H2.length (by simp) (by omega)).trans (getElem?_append_right (Nat.le_refl _))
       have r2:=(kp3 (H2.length+1) (by simp) (by omega)).trans (getElem?_append_right (by omega))
       rw[Nat.sub_self]at r1
       rw[Nat.add_sub_cancel_left]at r2
       simp(disch:=first|omega|simp only[lzz0_];first|done|omega)only[go_sem,seval,t0,box3]
       rw[hS,hstep]at hK
       have hbox:∀v,(H3.set L v)[L]?=some v:=fun v=>getElem?_set_self (by have:=(List.getElem?_eq_some_iff.1 box3).1;exact this)
       have hoth:∀v l,l≠L→(H3.set L v)[l]?=H3[l]?:=fun v l hne=>getElem?_set_ne (Ne.symm hne)
       generalize hV:(⟨.ty 28,2,[[.val (.int .i64 o2),.own R (b6_ ⟨o2,.val (.bool false),.own H2.length 1,.list 0 1 [],.own (H2.length+1) 2⟩ false (u2.map aO_.ofG)).length]]⟩:Row)=V
       have c1:cv_ h.length (H3.set L V) 3 (.own H2.length 1)=some (.list 0 1 [[.val (.string key)]]):=mm_ (n:=1) (r:=⟨.ty 9,1,[[.val (.string key)]]⟩) (by omega) ((hoth _ _ (by omega)).trans r1) rfl (by simp[AV.flat])
       have c2:cv_ h.length (H3.set L V) 3 (.own (H2.length+1) 2)=some (.list 0 1 [[.val (.int .i64 way[0].1)],[.val (.int .i64 o)]]):=mm_ (n:=1) (r:=⟨.ty 2,1,[[.val (.int .i64 way[0].1)],[.val (.int .i64 o)]]⟩) (by omega) ((hoth _ _ (by omega)).trans r2) rfl (by simp[AV.flat])
       have hcc:(aO_.cells ⟨o2,.val (.bool false),.own H2.length 1,.list 0 1 [],.own (H2.length+1) 2⟩).mapM (cv_ h.length (H3.set L V) 3)=some (aO_.ofG ⟨o2,c7_ key way[0].1 o⟩).cells:=by
        unfold aO_.cells
        rw[mapM_cons,mapM_cons,mapM_cons,mapM_cons,mapM_cons,c1,c2]
        rfl
       have hrow:=kr_ (R:=cv_ h.length (H3.set L V) 3) ⟨o2,.val (.bool false),.own H2.length 1,.list 0 1 [],.own (H2.length+1) 2⟩ (aO_.ofG ⟨o2,c7_ key way[0].1 o⟩) rfl hcc false (u2.map aO_.ofG) (fun e he=>kq_ (by obtain⟨x,_,rfl⟩:=mem_map.1 he;rfl))
       rw[jy_]at hrow
       have hown:=vc_ (b:=h.length) (n:=3) (by omega) ((hoth V R (by omega)).trans row3) (length_map _) hrow
       refine⟨4,.val (.int .i64 0),h.set L ⟨.ty 28,2,[[.val (.int .i64 o2),.list 0 5 ((av_ ⟨o2,c7_ key way[0].1 o⟩ false u2).map aa_.cells)]]⟩,rfl,by simp,fun l hl=>?_,hK _ (by simp) (fun l hne=>getElem?_set_ne (Ne.symm hne)) (getElem?_set_self lL)⟩
       by_cases e:l=L
       ·subst e
        refine .inr ⟨V,28,[[.val (.int .i64 o2),.list 0 5 ((av_ ⟨o2,c7_ key way[0].1 o⟩ false u2).map aa_.cells)]],hbox V,by rw[←hV],?_,by rw[←hV];exact getElem?_set_self lL⟩
        rw[←hV]at hown⊢
        show List.mapM (fun e=>List.mapM (cv_ h.length _ 4) e) [[AV.val (.int .i64 o2),.own R _]]=_
        rw[mapM_cons,mapM_cons,mapM_cons,hown]
        rfl
       ·refine .inl ⟨?_,getElem?_set_ne (Ne.symm e)⟩
        rw[hoth V l e,kp3 l (by rw[la_];omega) e,getElem?_append_left (by omega)]
        exact(kept l (by omega) e).trans (hkp l hl e)
     ·have q2:((k:Int)=0)=False:=eq_false (by omega)
      have km:(k:Int)-1=((k-1:Nat):Int):=by omega
      have hk1:k-1<way.length:=by omega
      have hgd1:way.getD (k-1) (0,0)=way[k-1]:=by rw[getD_eq_getElem?_getD,getElem?_eq_getElem hk1];rfl
      obtain⟨u,hu1,⟨w1,w2,w3⟩,hat,hat2,hok2⟩:=f3 ho hk0
      rw[if_neg hk0,hu1]at hstep
      rw[hgd1]at hu1 hat hat2 hok2 hstep
      have hpg2:=fun h=>eN_ ⟨root,u2⟩ way[k-1].1 u (by show u2.length≤1048576;omega) hu1 h
      unfold ae_.cells at hpg2
      simp(disch:=first|omega|simp only[lzz0_];first|done|omega)only[go_sem,seval,t0,t1,t5,q2,box2,km,d1_,aw_]
      refine PureCall.call (hpg2 _) ?_
      simp(disch:=first|omega|simp only[lzz0_];first|done|omega)only[go_sem,↓reduceIte,ai_.cells]
      refine PureCall.call (fb_ u w1 w2 w3 _) ?_
      have ka:((way[k-1].2:Nat):Int)+1=((way[k-1].2+1:Nat):Int):=by omega
      simp(disch:=first|omega|simp only[lzz0_];first|done|omega)only[ab_,as_,go_sem,seval,t0,t1,t5,box2,km,d1_,aw_,ai_.cells,Option.map_some]
      refine PureCall.call (fv_ u.Keys way[k-1].2 key w1 hat _) ?_
      simp(disch:=first|omega|simp only[lzz0_];first|done|omega)only[as_,go_sem,seval,t1,t5,km,d1_,aw_,ka]
      refine PureCall.call (j7_ u.Kids (way[k-1].2+1) o w3 hat2 _) ?_
      simp(disch:=first|omega|simp only[lzz0_];first|done|omega)only[as_,go_sem,seval,t0,t1,t5,km,d1_,aw_]
      have hL3:∀r,(H2++[r])[L]?=some ⟨.ty 28,2,[[.val (.int .i64 root),.list 0 5 (u2.map aa_.cells)]]⟩:=fun r=>(getElem?_append_left (by omega)).trans box2
      refine eS_ L root u2 (by omega) ⟨way[k-1].1,aV_ u way[k-1].2 key o⟩ _ (hL3 _) _ ?_
      intro H3 len3 kp3 box3
      rw[la_,length_singleton]at len3
      simp(disch:=first|omega|simp only[lzz0_];first|done|omega)only[go_sem,seval,t5,aw_]
      exact⟨k,by omega,hJ _ _ _ ⟨k,_,by simp[upd,t0],by simp[upd,t1],by simp[upd],rfl,by omega,fun l h1 h2=>by rw[kp3 l h2,getElem?_append_left (by omega)];exact(kept l (by omega) h2).trans (hkp l h1 h2),by omega,box3,hok2,by rw[hS,hstep]⟩⟩
theorem hY_(xs:List ByteArray)(hx:xs.length≤1048576)(h:List Row)(K:AV→List Row→Prop)(hK:K (.own h.length xs.length) (h++[⟨.ty 9,1,xs.map ah_⟩])):callSem Tryz.prog 113 [.list 0 1 (xs.map ah_)] h K:=by
 refine aJ_ mixed Tryz.func113 uC_ (bi_ rfl ?_)
 simp(disch:=omega)only[tc_,xg_,go_sem,seval]
 refine⟨by omega,by omega,dZ_ xs,?_⟩
 simpa using hK
theorem mB_(xs:List Int)(hx:xs.length≤1048576)(h:List Row)(K:AV→List Row→Prop)(hK:K (.own h.length xs.length) (h++[⟨.ty 2,1,xs.map aB_⟩])):callSem Tryz.prog 115 [.list 0 1 (xs.map aB_)] h K:=by
 refine aJ_ mixed Tryz.func115 uZ_ (bi_ rfl ?_)
 simp(disch:=omega)only[sU_,vV_,go_sem,seval]
 refine⟨by omega,by omega,dX_ xs,?_⟩
 simpa using hK
theorem j8_(p:ai_)(hk:p.Keys.length≤1048576)(hv:p.Vals.length≤1048576)(hd:p.Kids.length≤1048576)(h:List Row)(K:AV→List Row→Prop)
 (hK:∀(H':List Row) (k v d:Nat),bb_ h H'→h.length≤k→k<v→v<d→d<H'.length→H'[k]?=some ⟨.ty 9,1,p.Keys.map ah_⟩→H'[v]?=some ⟨.ty 9,1,p.Vals.map ah_⟩→H'[d]?=some ⟨.ty 2,1,p.Kids.map aB_⟩→K (.agg [.val (.bool p.Leaf),.own k p.Keys.length,.own v p.Vals.length,.own d p.Kids.length]) H') :
 callSem Tryz.prog 67 [.agg (ai_.cells p)] h K:=by
 refine aJ_ mixed Tryz.func67 yk_ (bi_ rfl ?_)
 simp(disch:=omega)only[xr_,c67,ai_.cells,go_sem,seval]
 refine hY_ _ hk _ _ ?_
 simp(disch:=first|omega|simp only[lzz0_];first|done|omega)only[as_,go_sem,seval]
 refine hY_ _ hv _ _ ?_
 simp(disch:=first|omega|simp only[lzz0_];first|done|omega)only[as_,go_sem,seval]
 refine mB_ _ hd _ _ ?_
 simp(disch:=first|omega|simp only[lzz0_];first|done|omega)only[as_,aX_,go_sem,seval,bT_,Option.map_some]
 exact hK _ (h.length+2) (h.length+3) (h.length+4) (bb_.app _ _) (by omega) (by omega) (by omega) (by simp) (by rw[getElem?_append_right (by omega),Nat.add_sub_cancel_left];rfl) (by rw[getElem?_append_right (by omega),Nat.add_sub_cancel_left];rfl) (by rw[getElem?_append_right (by omega),Nat.add_sub_cancel_left];rfl)
theorem l8_(root:Int)(R:Nat)(cs:List aO_)(sl:List aa_)(id:Int)(i:Nat)(hi:i<cs.length)(hx:sl.length≤1048576)(hat:atI sl id=(i:Int))(h:List Row)(n:Nat)(hrow:h[R]?=some ⟨.ty 79,5,cs.map aO_.cells⟩)(hc:cs[i].cells.all AV.cell=true)
 (hres:∀H',bb_ h H'→AW.resolve H' (n+1) (.own R cs.length)=some (.list 0 5 (sl.map aa_.cells))) (K:AV→List Row→Prop) (hK:∀H',bb_ h H'→K (.agg [cs[i].a,cs[i].b,cs[i].c,cs[i].d]) H') :
 callSem Tryz.prog 68 [.agg [.val (.int .i64 root),.own R cs.length],.val (.int .i64 id)] h K:=by
 refine aJ_ mixed Tryz.func68 yi_ (bi_ rfl ?_)
 have lR:=(List.getElem?_eq_some_iff.1 hrow).1
 simp(disch:=omega)only[wu_,c68,go_sem,seval]
 have hatp:=fun h=>ha_ ⟨root,sl⟩ id hx h
 unfold ae_.cells at hatp
 simp only[hat]at hatp
 have ha:∀H',bb_ h H'→[AV.agg [.val (.int .i64 root),.own R cs.length],.val (.int .i64 id)].mapM (AW.resolve H' (n+2))=some [.agg [.val (.int .i64 root),.list 0 5 (sl.map aa_.cells)],.val (.int .i64 id)]:=fun H' m=>by
  have e:AW.resolve H' (n+2) (.agg [.val (.int .i64 root),.own R cs.length])=([AV.val (.int .i64 root),.own R cs.length].mapM (AW.resolve H' (n+1))).map .agg:=rfl
  rw[mapM_cons,mapM_cons,e,mapM_cons,mapM_cons,hres H' m]
  rfl
 refine PureCall.call (Go.AW.frozen hatp (ha _ (bb_.app _ _))) ?_
 have hcell:∀r,(h++r)[R]?=some ⟨.ty 79,5,cs.map aO_.cells⟩:=fun r=>(getElem?_append_left lR).trans hrow
 have hc4:[cs[i].a,cs[i].b,cs[i].c,cs[i].d].all AV.cell=true:=by
  simp only[aO_.cells,all_cons,all_nil,Bool.and_true,Bool.and_eq_true]at hc⊢
  exact hc.2
 simp(disch:=first|omega|simp only[lzz0_];first|done|omega)only[ab_,as_,aX_,go_sem,seval,hrow,hi,aO_.cells,hc4]
 exact hK _ (bb_.app _ _)
theorem mM_(L R:Nat)(root:Int)(way:List (Int×Nat))(k:Nat)(hw:way.length=k+1)(hw2:k≤1000)(cs:List aO_)(sl:List aa_)(i:Nat)(hi:i<cs.length)(hx:sl.length≤1048576)(hat:atI sl (way[k]'(by omega)).1=(i:Int))(p:ai_)(hf:bM_ p=false)(h:List Row)(n:Nat)(hL:h[L]?=some ⟨.ty 28,2,[[.val (.int .i64 root),.own R cs.length]]⟩)(hrow:h[R]?=some ⟨.ty 79,5,cs.map aO_.cells⟩)(hc:cs[i].cells.all AV.cell=true)
 (hres:∀H',bb_ h H'→AW.resolve H' (n+1) (.own R cs.length)=some (.list 0 5 (sl.map aa_.cells))) (hpg:∀H',bb_ h H'→AW.resolve H' (n+1) (.agg [cs[i].a,cs[i].b,cs[i].c,cs[i].d])=some (.agg (ai_.cells p))) (K:AV→List Row→Prop) (hK:∀H',bb_ h H'→K (.val (.int .i64 0)) H') :
 callSem Tryz.prog 71 [.ptr L 1 0 0,.list 0 2 (way.map d1_)] h K:=by
 refine aJ_ mixed Tryz.func71 xA_ (bi_ rfl ?_)
 have lL:=(List.getElem?_eq_some_iff.1 hL).1
 have q0:((way.length:Nat):Int)-1=(k:Int):=by omega
 have q1:((k:Int)≥0)=True:=eq_true (by omega)
 have hlt:k<way.length:=by omega
 simp(disch:=omega)only[wC_,c71,aw_,q0,go_sem,seval]
 refine aL_ (fun m t H=>t 0=.ptr L 1 0 0∧t 1=.list 0 2 (way.map d1_)∧t 5=.val (.int .i64 (k:Int))∧H=h) 1 ⟨rfl,rfl,rfl,rfl⟩ ?_
 rintro J hJ m t H ⟨t0,t1,t5,rfl⟩
 simp(disch:=first|omega|simp only[lzz0_];first|done|omega)only[go_sem,seval,t0,t1,t5,hL,q1,d1_]
 refine l8_ root R cs sl _ i hi hx hat H n hrow hc hres _ ?_
 intro H1 m1
 have hc4:[cs[i].a,cs[i].b,cs[i].c,cs[i].d].all AV.cell=true:=by
  simp only[aO_.cells,all_cons,all_nil,Bool.and_true,Bool.and_eq_true]at hc⊢
  exact hc.2
 simp(disch:=first|omega|simp only[lzz0_];first|done|omega)only[as_,go_sem,seval,hc4]
 have m2:∀r,bb_ H (H1++[r]):=fun r=>m1.trans (bb_.app _ _)
 refine PureCall.call (Go.AW.frozen (iB_ p) (l0_ (hpg _ (m2 _)))) ?_
 have hfp:(decide (6<p.Keys.length)||decide (6<p.Kids.length))=false:=hf
 rw[hfp]
 simp(disch:=first|omega|simp only[lzz0_];first|done|omega)only[go_sem,↓reduceIte]
 exact hK _ (m2 _)
def dD_(sl:List aa_):Prop:=sl.Pairwise fun a b=>a.Id<b.Id
theorem jD_(id:Int):ag_ [] id=none:=rfl
theorem bE_(e:aa_)(r:List aa_)(id:Int):ag_ (e::r) id=if e.Id=id then some e.Page else ag_ r id:=by
 unfold ag_
 rw[find?_cons]
 by_cases h:e.Id=id
 ·simp[h]
 ·have:(e.Id==id)=false:=by simpa using h
  simp[this,h]
theorem lb_{r:List aa_}{id:Int}(h:∀x∈r,id<x.Id):ag_ r id=none:=by
 unfold ag_
 have:r.find? (fun s=>s.Id==id)=none:=by
  rw[find?_eq_none]
  intro x hx e
  have h1:=h x hx
  have h2:x.Id=id:=by simpa using e
  omega
 rw[this];rfl
theorem gN_{sl:List aa_}{id:Int}{p:ai_}(h:ag_ sl id=some p):⟨id,p⟩∈sl:=by
 induction sl with
 | nil=>cases h
 | cons e r ih =>
  rw[bE_]at h
  split at h
  ·rename_i q
   have:=Option.some.inj h
   subst q this
   exact mem_cons_self
  ·exact mem_cons_of_mem _ (ih h)
theorem n7_{sl:List aa_}(hr:dD_ sl){s:aa_}(h:s∈sl):ag_ sl s.Id=some s.Page:=by
 induction sl with
 | nil=>cases h
 | cons e r ih =>
  obtain⟨h1,h2⟩:=pairwise_cons.1 hr
  rw[bE_]
  rcases mem_cons.1 h with q|q
  ·rw[if_pos (by rw[q]),q]
  ·have:=h1 s q
   rw[if_neg (by omega)]
   exact ih h2 q
theorem o0_(s:aa_):∀l:List aa_,(∀x∈l,s.Id<x.Id)→av_ s true l=l
 | [],_=>by simp[av_]
 | e::r,h=>by
  have h1:=h e mem_cons_self
  have hne:¬ e.Id=s.Id:=by omega
  simp[av_,hne,o0_ s r fun x hx=>h x (mem_cons_of_mem _ hx)]
theorem ke_{e:aa_}{r:List aa_}(hr:dD_ (e::r))(s:aa_):av_ s false (e::r)=if e.Id<s.Id then e::av_ s false r else if e.Id=s.Id then s::r else s::e::r:=by
 have hlt:∀x∈r,e.Id<x.Id:=(pairwise_cons.1 hr).1
 by_cases h1:e.Id<s.Id
 ·have h2:decide (e.Id≥s.Id)=false:=decide_eq_false (by omega)
  have h3:decide (e.Id=s.Id)=false:=decide_eq_false (by omega)
  rw[if_pos h1,av_,h2,h3];rfl
 ·have h2:decide (e.Id≥s.Id)=true:=decide_eq_true (by omega)
  have h4:=o0_ s r fun x hx=>by have:=hlt x hx;omega
  rw[if_neg h1,av_,h2,Bool.or_true,h4]
  by_cases h3:e.Id=s.Id
  ·rw[if_pos h3,decide_eq_true h3];rfl
  ·rw[if_neg h3,decide_eq_false h3];rfl
theorem by_{s:aa_}:∀{sl:List aa_},dD_ sl→∀id,ag_ (av_ s false sl) id=if s.Id=id then some s.Page else ag_ sl id
 | [],_,id=>by simp[av_,bE_,jD_]
 | e::r,h,id=>by
  have hr:dD_ r:=(pairwise_cons.1 h).2
  have ih:=by_ (s:=s) hr id
  rw[ke_ h s]
  split
  ·rename_i h1
   rw[bE_,ih,bE_]
   by_cases q:e.Id=id
   ·have:¬ s.Id=id:=by omega
    rw[if_pos q,if_neg this,if_pos q]
   ·rw[if_neg q,if_neg q]
  ·split
   ·rename_i h1 h2
    rw[bE_,bE_]
    by_cases q:s.Id=id
    ·rw[if_pos q,if_pos q]
    ·have:¬ e.Id=id:=by omega
     rw[if_neg q,if_neg q,if_neg this]
   ·rw[bE_]
theorem sD_{s x:aa_}:∀{sl:List aa_},dD_ sl→x∈av_ s false sl→x=s∨x∈sl
 | [],_,h=>by simp[av_]at h;exact .inl h
 | e::r,hr,h=>by
  rw[ke_ hr s]at h
  split at h
  ·rcases mem_cons.1 h with q|q
   ·exact .inr (q▸mem_cons_self)
   ·rcases sD_ (pairwise_cons.1 hr).2 q with q|q
    ·exact .inl q
    ·exact .inr (mem_cons_of_mem _ q)
  ·split at h
   ·rcases mem_cons.1 h with q|q
    ·exact .inl q
    ·exact .inr (mem_cons_of_mem _ q)
   ·rcases mem_cons.1 h with q|q
    ·exact .inl q
    ·exact .inr q
theorem jp_{s:aa_}:∀{sl:List aa_},dD_ sl→dD_ (av_ s false sl)
 | [],_=>by simp[av_,dD_]
 | e::r,hr=>by
  obtain⟨h1,h2⟩:=pairwise_cons.1 hr
  rw[ke_ hr s]
  split
  ·rename_i q
   refine pairwise_cons.2 ⟨fun x hx=>?_,jp_ h2⟩
   rcases sD_ h2 hx with rfl|hx
   ·exact q
   ·exact h1 x hx
  ·split
   ·rename_i q1 q2
    refine pairwise_cons.2 ⟨fun x hx=>?_,h2⟩
    have:=h1 x hx;omega
   ·rename_i q1 q2
    refine pairwise_cons.2 ⟨fun x hx=>?_,hr⟩
    rcases mem_cons.1 hx with rfl|hx
    ·omega
    ·have:=h1 x hx;omega
theorem rk_:∀{a b:List aa_},dD_ a→dD_ b→(∀id,ag_ a id=ag_ b id)→a=b
 | [],[],_,_,_=>rfl
 | [],e::r,_,_,h=>by have:=h e.Id;rw[bE_,if_pos rfl,jD_]at this;cases this
 | e::r,[],_,_,h=>by have:=h e.Id;rw[bE_,if_pos rfl,jD_]at this;cases this
 | e::r,f::q,ha,hb,h=>by
  obtain⟨a1,a2⟩:=pairwise_cons.1 ha
  obtain⟨b1,b2⟩:=pairwise_cons.1 hb
  have lt:∀{x y:aa_} {z:List aa_},x.Id<y.Id→(∀w∈z,y.Id<w.Id)→∀w∈y::z,x.Id<w.Id:=by
   intro x y z h1 h2 w hw
   rcases mem_cons.1 hw with rfl|hw
   ·exact h1
   ·have:=h2 w hw;omega
  have he:e.Id=f.Id:=by
   rcases Int.lt_trichotomy e.Id f.Id with z|z|z
   ·have:=h e.Id
    rw[bE_,if_pos rfl,lb_ (lt z b1)]at this
    cases this
   ·exact z
   ·have:=h f.Id
    rw[bE_ f,if_pos rfl,lb_ (lt z a1)]at this
    cases this
  have hp:e.Page=f.Page:=by
   have:=h e.Id
   rw[bE_,bE_,if_pos rfl,if_pos he.symm]at this
   exact Option.some.inj this
  have hrest:r=q:=rk_ a2 b2 fun id=>by
   by_cases z:e.Id=id
   ·rw[lb_ (fun x hx=>z▸a1 x hx),lb_ (fun x hx=>by have:=b1 x hx;omega)]
   ·have:=h id
    rwa [bE_,bE_,if_neg z,if_neg (fun w=>z (he.trans w))]at this
  obtain⟨i1,p1⟩:=e
  obtain⟨i2,p2⟩:=f
  simp only at he hp
  rw[he,hp,hrest]
theorem mU_{st st':de_}(h:∀id,(st id).isSome=(st' id).isSome):∀n,aI_ st n=aI_ st' n
 | 0=>rfl
 | n+1=>by
  have h1:(st (64-(n:Int))=none)=(st' (64-(n:Int))=none):=by
   have:=h (64-(n:Int))
   cases e1:st (64-(n:Int))<;>cases e2:st' (64-(n:Int))<;>rw[e1,e2]at this<;>first|rfl|(simp;done)|(simp at this;done)
  simp only[aI_,h1,mU_ h n]
theorem f8_{st:de_}:∀n,n≤64→aI_ st n=0∨(1≤aI_ st n∧aI_ st n≤64∧st (aI_ st n)=none)
 | 0,_=>.inl rfl
 | n+1,h=>by
  rw[aI_]
  split
  ·rename_i q
   exact .inr ⟨by omega,by omega,q⟩
  ·exact f8_ n (by omega)
theorem cQ_{p:ai_}(h:pageB p=true)(hl:p.Leaf=true):c6_ p.Keys=true∧p.Keys.length≤6∧p.Vals.length=p.Keys.length∧p.Kids=[]∧∀v∈p.Vals,v.size≤64:=by
 simp only[pageB,hl,if_true,Bool.and_eq_true,decide_eq_true_eq,all_eq_true]at h
 obtain⟨h1,⟨⟨h2,h3⟩,h4⟩,h5⟩:=h
 exact⟨h1,by omega,by omega,eq_nil_of_length_eq_zero h5,fun v hv=>by have:=h4 v hv;omega⟩
theorem dq_{p:ai_}(h:pageB p=true)(hl:p.Leaf=false):c6_ p.Keys=true∧2≤p.Kids.length∧p.Kids.length≤6∧p.Kids.length=p.Keys.length+1∧p.Vals=[]∧∀k∈p.Kids,1≤k∧k≤64:=by
 simp only[pageB,hl,Bool.false_eq_true,if_false,bx_,Bool.and_eq_true,decide_eq_true_eq,all_eq_true]at h
 obtain⟨h1,⟨⟨⟨h2,h2'⟩,h3⟩,h4⟩,h5⟩:=h
 exact⟨h1,by omega,by omega,by omega,eq_nil_of_length_eq_zero h4,fun k hk=>h5 k hk⟩
def shapeP(p:ai_):Prop:=(p.Leaf=true→p.Vals.length=p.Keys.length∧p.Kids=[]∧p.Keys.length≤7)∧(p.Leaf=false→p.Kids.length=p.Keys.length+1∧p.Vals=[]∧p.Kids.length≤7)∧(∀k∈p.Keys,b5_ k=true)∧∀v∈p.Vals,v.size≤64
theorem pZ_{xs:List ByteArray}(h:c6_ xs=true):∀k∈xs,b5_ k=true:=by
 intro k hk
 obtain⟨j,hj,rfl⟩:=mem_iff_getElem.1 hk
 rw[c6_,all_eq_true]at h
 have:=h j (by simpa using hj)
 rw[ns_ hj,Bool.and_eq_true]at this
 exact this.1
theorem d4_{p:ai_}(h:pageB p=true):shapeP p:=by
 have hk:c6_ p.Keys=true:=by
  rw[pageB,Bool.and_eq_true]at h
  exact h.1
 refine⟨fun hl=>?_,fun hl=>?_,pZ_ hk,fun v hv=>?_⟩
 ·obtain⟨_,h1,h2,h3,_⟩:=cQ_ h hl
  exact⟨h2,h3,by omega⟩
 ·obtain⟨_,_,h1,h2,h3,_⟩:=dq_ h hl
  exact⟨h2,h3,by omega⟩
 ·cases hl:p.Leaf with
  | true =>
   obtain⟨_,h1,h2,h3,h4⟩:=cQ_ h hl
   exact h4 v hv
  | false =>
   obtain⟨_,_,h1,h2,h3,_⟩:=dq_ h hl
   rw[h3]at hv;cases hv
theorem shapeP.small{p:ai_}(h:shapeP p):p.Keys.length≤7∧p.Vals.length≤7∧p.Kids.length≤7:=by
 cases hl:p.Leaf with
 | true =>
  obtain⟨h1,h2,h3⟩:=h.1 hl
  rw[h2]
  exact⟨h3,by omega,by simp⟩
 | false =>
  obtain⟨h1,h2,h3⟩:=h.2.1 hl
  rw[h2]
  exact⟨by omega,by simp,by omega⟩
theorem shapeP.smallP{p:ai_}(h:shapeP p):smallP p:=by
 obtain⟨h1,h2,h3⟩:=h.small
 exact⟨by omega,by omega,by omega⟩
theorem g7_{xs:List ByteArray}{key:ByteArray}(h:bQ_ xs key=true):lbK xs key<xs.length:=by
 rw[bQ_,decide_eq_true_eq]at h
 exact(List.getElem?_eq_some_iff.1 h).1
theorem eV_(p:ai_)(key:ByteArray):(aA_ p key).1≤p.Keys.length:=by
 unfold aA_
 split
 ·rename_i h
  simp only[Bool.and_eq_true]at h
  have:=g7_ h.2
  exact this
 ·exact k3_ _ _
theorem gu_{p:ai_}(hl:p.Leaf=true)(key:ByteArray):aA_ p key=(lbK p.Keys key,bQ_ p.Keys key):=by
 unfold aA_;rw[hl];rfl
theorem hD_{p:ai_}(h:shapeP p)(hl:p.Leaf=true)(hf:bM_ p=true):p.Keys.length=7:=by
 obtain⟨h1,h2,h3⟩:=h.1 hl
 simp only[bM_,h2,Bool.or_eq_true,decide_eq_true_eq,ln_]at hf
 omega
theorem hC_{p:ai_}(h:shapeP p)(hl:p.Leaf=false)(hf:bM_ p=true):p.Keys.length=6∧p.Kids.length=7:=by
 obtain⟨h1,h2,h3⟩:=h.2.1 hl
 simp only[bM_,Bool.or_eq_true,decide_eq_true_eq]at hf
 omega
theorem m8_{p:ai_}(h:pageB p=true):bM_ p=false:=by
 cases hl:p.Leaf with
 | true =>
  obtain⟨_,h1,h2,h3,_⟩:=cQ_ h hl
  simp only[bM_,h3,ln_,Bool.or_eq_false_iff,decide_eq_false_iff_not]
  omega
 | false =>
  obtain⟨_,_,h1,h2,h3,_⟩:=dq_ h hl
  simp only[bM_,Bool.or_eq_false_iff,decide_eq_false_iff_not]
  omega
theorem q6_{p:ai_}(h:shapeP p)(hf:bM_ p=true):shapeP (aM_ p).1∧shapeP (aM_ p).2.1:=by
 cases hl:p.Leaf with
 | true =>
  have h1:=hD_ h hl hf
  obtain⟨h2,h3,h4⟩:=h.1 hl
  rw[aM_,if_pos hl]
  refine⟨⟨fun _=>⟨?_,rfl,?_⟩,fun e=>(by cases e),fun k hk=>h.2.2.1 k (mem_of_mem_take hk),fun v hv=>h.2.2.2 v (mem_of_mem_take hv)⟩,⟨fun _=>⟨?_,rfl,?_⟩,fun e=>(by cases e),fun k hk=>h.2.2.1 k (mem_of_mem_drop hk),fun v hv=>h.2.2.2 v (mem_of_mem_drop hv)⟩⟩<;>simp only[length_take,length_drop]<;>omega
 | false =>
  obtain⟨h1,h5⟩:=hC_ h hl hf
  obtain⟨h2,h3,h4⟩:=h.2.1 hl
  rw[aM_,if_neg (by rw[hl];simp)]
  refine⟨⟨fun e=>(by cases e),fun _=>⟨?_,rfl,?_⟩,fun k hk=>h.2.2.1 k (mem_of_mem_take hk),fun v hv=>(by cases hv)⟩,⟨fun e=>(by cases e),fun _=>⟨?_,rfl,?_⟩,fun k hk=>h.2.2.1 k (mem_of_mem_drop hk),fun v hv=>(by cases hv)⟩⟩<;>simp only[length_take,length_drop]<;>omega
theorem sK_{p:ai_}(h:shapeP p)(hf:bM_ p=true):b5_ (aM_ p).2.2=true:=by
 cases hl:p.Leaf with
 | true =>
  have h1:=hD_ h hl hf
  rw[aM_,if_pos hl]
  show b5_ (p.Keys.getD 3 ⟨#[]⟩)=true
  rw[getD_eq_getElem?_getD,getElem?_eq_getElem (by omega)]
  exact h.2.2.1 _ (getElem_mem _)
 | false =>
  have h1:=hC_ h hl hf
  rw[aM_,if_neg (by rw[hl];simp)]
  show b5_ (p.Keys.getD 2 ⟨#[]⟩)=true
  rw[getD_eq_getElem?_getD,getElem?_eq_getElem (by omega)]
  exact h.2.2.1 _ (getElem_mem _)
def a9_(T:Int→ByteArray→ByteArray→List Int→Prop):List Int→List ByteArray→ByteArray→ByteArray→List Int→Prop
 | [],_,_,_,_=>False
 | [kid],[],low,high,ids=>T kid low high ids
 | _::_::_,[],_,_,_=>False
 | kid::kids,k::keys,low,high,ids=>∃a b,ids=a++b∧T kid low k a∧a9_ T kids keys k high b
def a7_(st:de_):Nat→Bool→Int→ByteArray→ByteArray→List Int→Prop
 | 0,top,id,low,high,ids=>∃p,st id=some p∧p.Leaf=true∧pageB p=true∧jE_ p low high=false∧(top=true∨3≤p.Keys.length)∧ids=[id]
 | h+1,top,id,low,high,ids=>∃p,st id=some p∧p.Leaf=false∧pageB p=true∧jE_ p low high=false∧(top=true∨3≤p.Kids.length)∧∃r,ids=id::r∧a9_ (fun kid lo hi m=>a7_ st h false kid lo hi m) p.Kids p.Keys low high r
theorem a9_.mono{T T':Int→ByteArray→ByteArray→List Int→Prop}:∀{kids:List Int} {keys:List ByteArray} {low high:ByteArray} {ids:List Int},(∀kid lo hi m,(∀i∈m,i∈ids)→T kid lo hi m→T' kid lo hi m)→a9_ T kids keys low high ids→a9_ T' kids keys low high ids
 | [],_,_,_,_,_,h=>h.elim
 | [kid],[],low,high,ids,hT,h=>hT _ _ _ _ (fun _ q=>q) h
 | _::_::_,[],_,_,_,_,h=>h.elim
 | [kid],k::keys,low,high,ids,hT,h=>by
  obtain⟨a,b,e,h1,h2⟩:=h
  exact h2.elim
 | kid::kid'::kids,k::keys,low,high,ids,hT,h=>by
  obtain⟨a,b,e,h1,h2⟩:=h
  exact⟨a,b,e,hT _ _ _ _ (fun i hi=>by rw[e];exact mem_append_left _ hi) h1,a9_.mono (fun kid lo hi m hm q=>hT _ _ _ _ (fun i hi=>by rw[e];exact mem_append_right _ (hm i hi)) q) h2⟩
theorem a9_.len{T:Int→ByteArray→ByteArray→List Int→Prop}:∀{kids:List Int} {keys:List ByteArray} {low high:ByteArray} {ids:List Int},a9_ T kids keys low high ids→kids.length=keys.length+1
 | [],_,_,_,_,h=>h.elim
 | [kid],[],low,high,ids,h=>rfl
 | _::_::_,[],_,_,_,h=>h.elim
 | [kid],k::keys,low,high,ids,h=>by
  obtain⟨a,b,e,h1,h2⟩:=h
  exact h2.elim
 | kid::kid'::kids,k::keys,low,high,ids,h=>by
  obtain⟨a,b,e,h1,h2⟩:=h
  have:=a9_.len h2
  simp only[lc_]at this⊢
  omega
theorem a9_.get{T:Int→ByteArray→ByteArray→List Int→Prop}:∀{kids:List Int} {keys:List ByteArray} {low high:ByteArray} {ids:List Int} (k:Nat) (hk:k<kids.length),a9_ T kids keys low high ids →
 ∃a m b,ids=a++(m++b)∧T kids[k] (if 0<k then keys.getD (k-1) ⟨#[]⟩else low) (if k<keys.length then keys.getD k ⟨#[]⟩else high) m
 | [],_,_,_,_,_,hk,h=>h.elim
 | [kid],[],low,high,ids,k,hk,h=>by
  have:k=0:=by simpa using hk
  subst this
  exact⟨[],ids,[],by simp,h⟩
 | _::_::_,[],_,_,_,_,_,h=>h.elim
 | [kid],k'::keys,low,high,ids,k,hk,h=>by
  obtain⟨a,b,e,h1,h2⟩:=h
  exact h2.elim
 | kid::kid'::kids,k'::keys,low,high,ids,k,hk,h=>by
  obtain⟨a,b,e,h1,h2⟩:=h
  cases k with
  | zero=>exact⟨[],a,b,e,by simpa using h1⟩
  | succ k =>
   obtain⟨a',m,b',e',h3⟩:=a9_.get (kids:=kid'::kids) k (by simpa using hk) h2
   refine⟨a++a',m,b',by rw[e,e'];simp,?_⟩
   have e1:(if 0<k+1 then(k'::keys).getD (k+1-1) ⟨#[]⟩else low)=if 0<k then keys.getD (k-1) ⟨#[]⟩else k':=by
    cases k with
    | zero=>rfl
    | succ k=>simp
   have e2:(if k+1<(k'::keys).length then(k'::keys).getD (k+1) ⟨#[]⟩else high)=if k<keys.length then keys.getD k ⟨#[]⟩else high:=by
    simp
   rw[e1,e2]
   exact h3
theorem a7_.page{st:de_}{h:Nat}{top:Bool}{id:Int}{low high:ByteArray}{ids:List Int}(t:a7_ st h top id low high ids):∃p,st id=some p∧pageB p=true∧jE_ p low high=false∧p.Leaf=decide (h=0)∧id∈ids:=by
 cases h with
 | zero =>
  obtain⟨p,h1,h2,h3,h4,h5,h6⟩:=t
  exact⟨p,h1,h3,h4,by rw[h2];rfl,by rw[h6];exact mem_cons_self⟩
 | succ h =>
  obtain⟨p,h1,h2,h3,h4,h5,r,h6,h7⟩:=t
  exact⟨p,h1,h3,h4,by rw[h2];simp,by rw[h6];exact mem_cons_self⟩
theorem a7_.congr{st st':de_}:∀{h:Nat} {top:Bool} {id:Int} {low high:ByteArray} {ids:List Int},(∀i∈ids,st' i=st i)→a7_ st h top id low high ids→a7_ st' h top id low high ids
 | 0,top,id,low,high,ids,hs,t=>by
  obtain⟨p,h1,h2,h3,h4,h5,h6⟩:=t
  exact⟨p,by rw[hs id (by rw[h6];exact mem_cons_self)];exact h1,h2,h3,h4,h5,h6⟩
 | h+1,top,id,low,high,ids,hs,t=>by
  obtain⟨p,h1,h2,h3,h4,h5,r,h6,h7⟩:=t
  refine⟨p,by rw[hs id (by rw[h6];exact mem_cons_self)];exact h1,h2,h3,h4,h5,r,h6,a9_.mono (fun kid lo hi m hm q=>a7_.congr (fun i hi=>hs i ?_) q) h7⟩
  rw[h6];exact mem_cons_of_mem _ (hm i hi)
theorem a9_.has{T:Int→ByteArray→ByteArray→List Int→Prop}{Q:Int→Prop}(hQ:∀kid lo hi m,T kid lo hi m→∀i∈m,Q i):∀{kids:List Int} {keys:List ByteArray} {low high:ByteArray} {ids:List Int},a9_ T kids keys low high ids→∀i∈ids,Q i
 | [],_,_,_,_,h=>h.elim
 | [kid],[],low,high,ids,h=>hQ _ _ _ _ h
 | _::_::_,[],_,_,_,h=>h.elim
 | [kid],k::keys,low,high,ids,h=>by
  obtain⟨a,b,e,h1,h2⟩:=h
  exact h2.elim
 | kid::kid'::kids,k::keys,low,high,ids,h=>by
  obtain⟨a,b,e,h1,h2⟩:=h
  intro i hi
  rw[e]at hi
  rcases mem_append.1 hi with q|q
  ·exact hQ _ _ _ _ h1 i q
  ·exact a9_.has hQ h2 i q
theorem a7_.has{st:de_}:∀{h:Nat} {top:Bool} {id:Int} {low high:ByteArray} {ids:List Int},a7_ st h top id low high ids→∀i∈ids,(st i).isSome=true
 | 0,top,id,low,high,ids,t=>by
  obtain⟨p,h1,h2,h3,h4,h5,h6⟩:=t
  intro i hi
  rw[h6,mem_singleton]at hi
  rw[hi,h1];rfl
 | h+1,top,id,low,high,ids,t=>by
  obtain⟨p,h1,h2,h3,h4,h5,r,h6,h7⟩:=t
  intro i hi
  rw[h6]at hi
  rcases mem_cons.1 hi with q|q
  ·rw[q,h1];rfl
  ·exact a9_.has (Q:=fun i=>(st i).isSome=true) (fun kid lo hi m q=>a7_.has q) h7 i q
structure pT_(b:ae_)(h:Nat)(ids:List Int):Prop where
 slots:iW_ b.Slots=true
 tree:a7_ (ag_ b.Slots) h true b.Root ⟨#[]⟩ ⟨#[]⟩ ids
 nodup:ids.Nodup
 all:∀i,(ag_ b.Slots i).isSome=true→i∈ids
theorem qz_{sl:List aa_}(h:iW_ sl=true):dD_ sl :=
 pairwise_iff_getElem.2 fun i j hi hj hij=>lt_ h j i hij hj
def aC_(p:ai_)(has:Bool)(at':Nat)(key value:ByteArray):ai_ :=
 if has=true then⟨p.Leaf,p.Keys,p.Vals.set at' value,p.Kids⟩else⟨p.Leaf,p.Keys.take at'++key::p.Keys.drop at',p.Vals.take at'++value::p.Vals.drop at',p.Kids⟩
def bt0:ae_:=⟨0,[]⟩
structure cO_(sl:List aa_):Prop where
 rise:dD_ sl
 pgs:∀id p,ag_ sl id=some p→1≤id∧id≤64∧shapeP p
theorem cO_.set{sl:List aa_}(h:cO_ sl){s:aa_}(h1:1≤s.Id∧s.Id≤64∧shapeP s.Page):cO_ (av_ s false sl) :=
 ⟨jp_ h.rise,fun id p hp=>by
  rw[by_ h.rise]at hp
  split at hp
  ·rename_i q
   have:=Option.some.inj hp
   subst q this
   exact h1
  ·exact h.pgs id p hp⟩
theorem dD_.ids{sl:List aa_}(h:dD_ sl):(sl.map aa_.Id).Nodup:=by
 refine pairwise_map.2 (List.Pairwise.imp (fun hab=>?_) h)
 omega
theorem cO_.len{sl:List aa_}(h:cO_ sl):sl.length≤64:=by
 have h1:(sl.map aa_.Id) ⊆ (List.range 64).map (fun(k:Nat)=>(k:Int)+1):=by
  intro i hi
  obtain⟨s,hs,rfl⟩:=mem_map.1 hi
  obtain⟨a,b,_⟩:=h.pgs _ _ (n7_ h.rise hs)
  exact mem_map.2 ⟨(s.Id-1).toNat,by simp;omega,by omega⟩
 have:=dM_ h.rise.ids h1
 simpa using this
theorem cO_.page{sl:List aa_}(h:cO_ sl){s:aa_}(hs:s∈sl):shapeP s.Page:=(h.pgs _ _ (n7_ h.rise hs)).2.2
theorem pT_.ok{b:ae_}{h:Nat}{ids:List Int}(r:pT_ b h ids):cO_ b.Slots :=
 ⟨qz_ r.slots,fun id p hp=>by
  obtain⟨h1,h2,h3⟩:=tW_ r.slots (gN_ hp)
  exact⟨h1,h2,d4_ h3⟩⟩
structure dm_(sl sl':List aa_)(ids:List Int):Prop where
 ok:cO_ sl'
 kept:∀j,j∉ids→(ag_ sl j).isSome=true→ag_ sl' j=ag_ sl j
 dom:∀j,(ag_ sl j).isSome=true→(ag_ sl' j).isSome=true
theorem dm_.refl{sl:List aa_}(h:cO_ sl)(ids:List Int):dm_ sl sl ids:=⟨h,fun _ _ _=>rfl,fun _ h=>h⟩
theorem dm_.trans{sl sl1 sl2:List aa_}{i1 i2 ids:List Int}(a:dm_ sl sl1 i1)(b:dm_ sl1 sl2 i2)(h1:∀i∈i1,i∈ids)(h2:∀i∈i2,i∈ids):dm_ sl sl2 ids :=
 ⟨b.ok,fun j hj hs=>(b.kept j (fun q=>hj (h2 j q)) (a.dom j hs)).trans (a.kept j (fun q=>hj (h1 j q)) hs),fun j hs=>b.dom j (a.dom j hs)⟩
theorem dm_.set{sl:List aa_}(h:cO_ sl){s:aa_}(h1:1≤s.Id∧s.Id≤64∧shapeP s.Page):dm_ sl (av_ s false sl) [s.Id]:=by
 refine⟨h.set h1,fun j hj _=>?_,fun j hj=>?_⟩
 ·rw[by_ h.rise,if_neg (fun e=>hj (by rw[←e];exact mem_cons_self))]
 ·rw[by_ h.rise]
  split
  ·rfl
  ·exact hj
theorem dm_.add{sl:List aa_}(h:cO_ sl){s:aa_}(h1:1≤s.Id∧s.Id≤64∧shapeP s.Page)(hn:ag_ sl s.Id=none)(ids:List Int):dm_ sl (av_ s false sl) ids:=by
 refine⟨h.set h1,fun j _ hj=>?_,fun j hj=>?_⟩
 ·rw[by_ h.rise,if_neg (fun e=>by rw[←e,hn]at hj;cases hj)]
 ·rw[by_ h.rise]
  split
  ·rfl
  ·exact hj
def cy_(sl:List aa_)(id:Int):List aa_×ByteArray×Int×Int :=
 match ag_ sl id with
 | none=>(sl,⟨#[]⟩,0,0)
 | some p=>if bM_ p=false then(sl,⟨#[]⟩,0,0)
  else if aI_ (ag_ sl) 64=0 then(av_ ⟨id,(aM_ p).1⟩ false sl,⟨#[]⟩,0,4)
  else(up2 sl id p,(aM_ p).2.2,aI_ (ag_ sl) 64,0)
def bN_:Nat→List aa_→Int→ByteArray→ByteArray→List aa_×ByteArray×Int×Int
 | 0,sl,_,_,_=>(sl,⟨#[]⟩,0,0)
 | n+1,sl,id,key,value=>match ag_ sl id with
  | none=>(sl,⟨#[]⟩,0,0)
  | some p =>
   if p.Leaf=true then cy_ (av_ ⟨id,aC_ p (aA_ p key).2 (aA_ p key).1 key value⟩ false sl) id
   else if(bN_ n sl (p.Kids.getD (aA_ p key).1 0) key value).2.2.2≠0 then((bN_ n sl (p.Kids.getD (aA_ p key).1 0) key value).1,⟨#[]⟩,0,(bN_ n sl (p.Kids.getD (aA_ p key).1 0) key value).2.2.2)
   else if(bN_ n sl (p.Kids.getD (aA_ p key).1 0) key value).2.2.1=0 then((bN_ n sl (p.Kids.getD (aA_ p key).1 0) key value).1,⟨#[]⟩,0,0)
   else cy_ (av_ ⟨id,aV_ p (aA_ p key).1 (bN_ n sl (p.Kids.getD (aA_ p key).1 0) key value).2.1 (bN_ n sl (p.Kids.getD (aA_ p key).1 0) key value).2.2.1⟩ false (bN_ n sl (p.Kids.getD (aA_ p key).1 0) key value).1) id
theorem dr_{n:Nat}{sl:List aa_}{id:Int}{key value:ByteArray}{p:ai_}(hp:ag_ sl id=some p)(hl:p.Leaf=true):bN_ (n+1) sl id key value=cy_ (av_ ⟨id,aC_ p (aA_ p key).2 (aA_ p key).1 key value⟩ false sl) id:=by
 rw[bN_,hp];simp only[hl,if_true]
theorem is_{n:Nat}{sl:List aa_}{id:Int}{key value:ByteArray}{p:ai_}{sl':List aa_}{sep:ByteArray}{new code:Int}(hp:ag_ sl id=some p)(hl:p.Leaf=false)(hr:bN_ n sl (p.Kids.getD (aA_ p key).1 0) key value=(sl',sep,new,code)) :
 bN_ (n+1) sl id key value=if code≠0 then(sl',⟨#[]⟩,0,code)else if new=0 then(sl',⟨#[]⟩,0,0)else cy_ (av_ ⟨id,aV_ p (aA_ p key).1 sep new⟩ false sl') id:=by
 rw[bN_,hp];simp only[hl,Bool.false_eq_true,if_false,hr]
theorem iO_{p:ai_}(h:pageB p=true)(hl:p.Leaf=true){key value:ByteArray}(hk:b5_ key=true)(hv:value.size≤64):shapeP (aC_ p (aA_ p key).2 (aA_ p key).1 key value):=by
 obtain⟨_,h1,h2,h3,_⟩:=cQ_ h hl
 have hle:=eV_ p key
 have hl2:(aC_ p (aA_ p key).2 (aA_ p key).1 key value).Leaf=true:=by unfold aC_;split<;>exact hl
 have hsh:=d4_ h
 refine⟨fun _=>?_,fun e=>(by rw[hl2]at e;cases e),?_,?_⟩
 rotate_left
 ·intro k hk2
  unfold aC_ at hk2
  split at hk2
  ·exact hsh.2.2.1 k hk2
  ·simp only[mem_append,mem_cons]at hk2
   rcases hk2 with q|q|q
   ·exact hsh.2.2.1 k (mem_of_mem_take q)
   ·rw[q];exact hk
   ·exact hsh.2.2.1 k (mem_of_mem_drop q)
 ·intro v hv2
  unfold aC_ at hv2
  split at hv2
  ·rcases mem_or_eq_of_mem_set hv2 with q|q
   ·exact hsh.2.2.2 v q
   ·rw[q];exact hv
  ·simp only[mem_append,mem_cons]at hv2
   rcases hv2 with q|q|q
   ·exact hsh.2.2.2 v (mem_of_mem_take q)
   ·rw[q];exact hv
   ·exact hsh.2.2.2 v (mem_of_mem_drop q)
 unfold aC_
 split
 ·exact⟨by simp[h2],h3,by show p.Keys.length≤7;omega⟩
 ·refine⟨?_,h3,?_⟩<;>simp only[la_,lc_,length_take,length_drop]<;>omega
theorem jn_{p:ai_}(h:pageB p=true)(hl:p.Leaf=false)(key:ByteArray){sep:ByteArray}(hs:b5_ sep=true)(new:Int):shapeP (aV_ p (aA_ p key).1 sep new):=by
 obtain⟨_,_,h1,h2,h3,_⟩:=dq_ h hl
 have hle:=eV_ p key
 refine⟨fun e=>(by rw[show(aV_ p (aA_ p key).1 sep new).Leaf=p.Leaf from rfl,hl]at e;cases e),fun _=>⟨?_,h3,?_⟩,fun k hk=>?_,fun v hv=>(d4_ h).2.2.2 v hv⟩
 rotate_left 2
 ·simp only[aV_,mem_append,mem_cons]at hk
  rcases hk with q|q|q
  ·exact(d4_ h).2.2.1 k (mem_of_mem_take q)
  ·rw[q];exact hs
  ·exact(d4_ h).2.2.1 k (mem_of_mem_drop q)
 all_goals simp only[aV_,la_,lc_,length_take,length_drop];omega
theorem o1_{sl:List aa_}{id:Int}{p:ai_}(h:cO_ sl)(hp:ag_ sl id=some p):dm_ sl (cy_ sl id).1 [id]∧((cy_ sl id).2.2.1≠0→b5_ (cy_ sl id).2.1=true):=by
 obtain⟨i1,i2,hs⟩:=h.pgs id p hp
 rw[cy_,hp]
 simp only
 split
 ·exact⟨dm_.refl h _,fun e=>absurd rfl e⟩
 ·rename_i hf
  have hf':bM_ p=true:=by simpa using hf
  obtain⟨s1,s2⟩:=q6_ hs hf'
  split
  ·exact⟨dm_.set h (s:=⟨id,(aM_ p).1⟩) ⟨i1,i2,s1⟩,fun e=>absurd rfl e⟩
  ·rename_i hn
   rcases f8_ (st:=ag_ sl) 64 (Nat.le_refl _)with q|⟨q1,q2,q3⟩
   ·exact absurd q hn
   ·have g1:=dm_.set h (s:=⟨id,(aM_ p).1⟩) ⟨i1,i2,s1⟩
    have hne:id≠aI_ (ag_ sl) 64:=fun e=>by rw[←e,hp]at q3;cases q3
    have g2:=dm_.add g1.ok (s:=⟨aI_ (ag_ sl) 64,(aM_ p).2.1⟩) ⟨q1,q2,s2⟩ (by rw[by_ h.rise,if_neg hne];exact q3) [id]
    exact⟨g1.trans g2 (fun _ q=>q) (fun _ q=>q),fun _=>sK_ hs hf'⟩
theorem a7_.kid{st:de_}{h:Nat}{top:Bool}{id:Int}{low high:ByteArray}{ids:List Int}{p:ai_}(t:a7_ st (h+1) top id low high ids)(hn:ids.Nodup)(hp:st id=some p)(key:ByteArray):p.Leaf=false∧pageB p=true∧(aA_ p key).1<p.Kids.length∧∃m lo hi,a7_ st h false (p.Kids.getD (aA_ p key).1 0) lo hi m∧m.Nodup∧id∉m∧∀i∈m,i∈ids:=by
 obtain⟨p',h1,h2,h3,h4,h5,r,h6,h7⟩:=t
 rw[hp]at h1
 have:=Option.some.inj h1
 subst this
 obtain⟨_,n1,n2,n3,n4,n5⟩:=dq_ h3 h2
 have hle:=eV_ p key
 have hlt:(aA_ p key).1<p.Kids.length:=by omega
 obtain⟨a,m,b,e,t⟩:=a9_.get _ hlt h7
 have hgd:p.Kids.getD (aA_ p key).1 0=p.Kids[(aA_ p key).1]:=by rw[getD_eq_getElem?_getD,getElem?_eq_getElem hlt];rfl
 rw[h6,e]at hn
 obtain⟨d1,d2⟩:=nodup_cons.1 hn
 have d3:=(nodup_append.1 (nodup_append.1 d2).2.1).1
 refine⟨h2,h3,hlt,m,_,_,by rw[hgd];exact t,d3,fun q=>d1 (mem_append_right _ (mem_append_left _ q)),fun i hi=>?_⟩
 rw[h6,e]
 exact mem_cons_of_mem _ (mem_append_right _ (mem_append_left _ hi))
theorem f5_{key value:ByteArray}(hk:b5_ key=true)(hv:value.size≤64):∀(h n:Nat) (sl:List aa_) (top:Bool) (id:Int) (low high:ByteArray) (ids:List Int),h<n→cO_ sl→a7_ (ag_ sl) h top id low high ids→ids.Nodup→dm_ sl (bN_ n sl id key value).1 ids∧((bN_ n sl id key value).2.2.1≠0→b5_ (bN_ n sl id key value).2.1=true)
 | h,0,_,_,_,_,_,_,hn,_,_,_=>absurd hn (Nat.not_lt_zero _)
 | 0,n+1,sl,top,id,low,high,ids,hn,ok,t,nd=>by
  obtain⟨p,hp,hb,ho,hl,hin⟩:=t.page
  have hl:p.Leaf=true:=by rw[hl];rfl
  obtain⟨i1,i2,hs⟩:=ok.pgs id p hp
  rw[dr_ hp hl]
  have g1:=dm_.set ok (s:=⟨id,aC_ p (aA_ p key).2 (aA_ p key).1 key value⟩) ⟨i1,i2,iO_ hb hl hk hv⟩
  obtain⟨g2,g3⟩:=o1_ (id:=id) (p:=aC_ p (aA_ p key).2 (aA_ p key).1 key value) g1.ok (by rw[by_ ok.rise,if_pos rfl])
  have hsub:∀i∈[id],i∈ids:=fun i hi=>by rw[mem_singleton]at hi;rw[hi];exact hin
  exact⟨g1.trans g2 hsub hsub,g3⟩
 | h+1,n+1,sl,top,id,low,high,ids,hn,ok,t,nd=>by
  obtain⟨p,hp,_,ho,_,hin⟩:=t.page
  obtain⟨hl,hb,hlt,m,lo,hi,tk,ndm,hnm,hsub⟩:=t.kid nd hp key
  obtain⟨i1,i2,hs⟩:=ok.pgs id p hp
  have ih:=f5_ hk hv h n sl false _ lo hi m (by omega) ok tk ndm
  obtain⟨sl',sep,new,code,hr⟩:∃sl' sep new code,bN_ n sl (p.Kids.getD (aA_ p key).1 0) key value=(sl',sep,new,code):=⟨_,_,_,_,rfl⟩
  rw[is_ hp hl hr]
  rw[hr]at ih
  obtain⟨ih,ihs⟩:=ih
  have g0:dm_ sl sl' ids:=⟨ih.ok,fun j hj hs=>ih.kept j (fun q=>hj (hsub j q)) hs,ih.dom⟩
  split
  ·exact⟨g0,fun e=>absurd rfl e⟩
  ·split
   ·exact⟨g0,fun e=>absurd rfl e⟩
   ·rename_i hnz
    have g1:=dm_.set g0.ok (s:=⟨id,aV_ p (aA_ p key).1 sep new⟩) ⟨i1,i2,jn_ hb hl key (ihs hnz) new⟩
    obtain⟨g2,g3⟩:=o1_ (id:=id) (p:=aV_ p (aA_ p key).1 sep new) g1.ok (by rw[by_ g0.ok.rise,if_pos rfl])
    have hsub:∀i∈[id],i∈ids:=fun i hi=>by rw[mem_singleton]at hi;rw[hi];exact hin
    exact⟨g0.trans (g1.trans g2 (fun _ q=>q) (fun _ q=>q)) (fun _ q=>q) hsub,g3⟩
def dg_(n:Nat)(b:ae_)(key value:ByteArray):ae_×Int :=
 if(bN_ n b.Slots b.Root key value).2.2.2≠0 then(⟨b.Root,(bN_ n b.Slots b.Root key value).1⟩,(bN_ n b.Slots b.Root key value).2.2.2)
 else if(bN_ n b.Slots b.Root key value).2.2.1=0 then(⟨b.Root,(bN_ n b.Slots b.Root key value).1⟩,0)
 else if aI_ (ag_ (bN_ n b.Slots b.Root key value).1) 64=0 then(⟨b.Root,(bN_ n b.Slots b.Root key value).1⟩,4)
 else(⟨aI_ (ag_ (bN_ n b.Slots b.Root key value).1) 64,av_ ⟨aI_ (ag_ (bN_ n b.Slots b.Root key value).1) 64,c7_ (bN_ n b.Slots b.Root key value).2.1 b.Root (bN_ n b.Slots b.Root key value).2.2.1⟩ false (bN_ n b.Slots b.Root key value).1⟩,0)
def jc_(way:List (Int×Nat))(root:Int)(k:Nat)(sl:List aa_)(sep:ByteArray)(new:Int):List aa_×Int×Int :=
 if k=0 then(if aI_ (ag_ sl) 64=0 then(sl,root,4)else(av_ ⟨aI_ (ag_ sl) 64,c7_ sep (way.getD 0 (0,0)).1 new⟩ false sl,aI_ (ag_ sl) 64,0))
 else match ag_ sl (way.getD (k-1) (0,0)).1 with
  | none=>(sl,root,0)
  | some u=>upF way root k (av_ ⟨(way.getD (k-1) (0,0)).1,aV_ u (way.getD (k-1) (0,0)).2 sep new⟩ false sl)
theorem xn_(way:List (Int×Nat))(root:Int)(k:Nat)(sl:List aa_)(p:ai_)(hp:ag_ sl (way.getD k (0,0)).1=some p)(hs:aI_ (ag_ sl) 64≠0→k≠0→(ag_ (up2 sl (way.getD k (0,0)).1 p) (way.getD (k-1) (0,0)).1).isSome=true):upF way root (k+1) sl=if bM_ p=false then(sl,root,0)else if aI_ (ag_ sl) 64=0 then(sl,root,4)else jc_ way root k (up2 sl (way.getD k (0,0)).1 p) (aM_ p).2.2 (aI_ (ag_ sl) 64):=by
 rw[upF,hp]
 simp only
 by_cases h1:bM_ p=false
 ·rw[if_pos h1,if_pos h1]
 ·rw[if_neg h1,if_neg h1]
  by_cases h2:aI_ (ag_ sl) 64=0
  ·rw[if_pos h2,if_pos h2]
  ·rw[if_neg h2,if_neg h2,jc_]
   by_cases h3:k=0
   ·subst h3;rfl
   ·rw[if_neg h3,if_neg h3]
    obtain⟨u,hu⟩:=Option.isSome_iff_exists.1 (hs h2 h3)
    rw[hu]
def xE_(way:List (Int×Nat))(root:Int)(k:Nat)(r:List aa_×ByteArray×Int×Int)(u:List aa_×Int×Int):Prop :=
 (r.2.2.2≠0→u.2.2=r.2.2.2)∧(r.2.2.2=0→r.2.2.1=0→u=(r.1,root,0))∧(r.2.2.2=0→r.2.2.1≠0→(k≠0→(ag_ r.1 (way.getD (k-1) (0,0)).1).isSome=true)→u=jc_ way root k r.1 r.2.1 r.2.2.1)
theorem oW_{way:List (Int×Nat)}{root:Int}{k:Nat}{sl:List aa_}{p:ai_}(hp:ag_ sl (way.getD k (0,0)).1=some p):xE_ way root k (cy_ sl (way.getD k (0,0)).1) (upF way root (k+1) sl):=by
 have hu:=xn_ way root k sl p hp
 rw[cy_,hp]
 simp only
 by_cases h1:bM_ p=false
 ·have hu0:upF way root (k+1) sl=(sl,root,0):=by rw[upF,hp];simp only[h1,if_true]
  rw[if_pos h1,hu0]
  exact⟨fun e=>absurd rfl e,fun _ _=>rfl,fun _ e=>absurd rfl e⟩
 ·by_cases h2:aI_ (ag_ sl) 64=0
  ·have hu0:=hu (fun e=>absurd h2 e)
   rw[if_neg h1,if_pos h2]at hu0
   rw[if_neg h1,if_pos h2,hu0]
   exact⟨fun _=>rfl,fun e=>by simp at e,fun e=>by simp at e⟩
  ·rw[if_neg h1,if_neg h2]
   refine⟨fun e=>absurd rfl e,fun _ e=>absurd e h2,fun _ _ h3=>?_⟩
   have hu0:=hu (fun _=>h3)
   rw[if_neg h1,if_neg h2]at hu0
   exact hu0
def qk_(way:List (Int×Nat))(k:Nat)(r:List aa_×ByteArray×Int×Int):Prop :=
 r.2.2.2=0→r.2.2.1≠0→k≠0→∃u,ag_ r.1 (way.getD (k-1) (0,0)).1=some u∧smallP u∧(way.getD (k-1) (0,0)).2≤u.Keys.length∧(way.getD (k-1) (0,0)).2+1≤u.Kids.length ∧
  lW_ way k (av_ ⟨(way.getD (k-1) (0,0)).1,aV_ u (way.getD (k-1) (0,0)).2 r.2.1 r.2.2.1⟩ false r.1)
theorem q8_{way:List (Int×Nat)}{k:Nat}{sl:List aa_}{p:ai_}(ok:cO_ sl)(hp:ag_ sl (way.getD k (0,0)).1=some p)(hn:qk_ way k (cy_ sl (way.getD k (0,0)).1)):lW_ way (k+1) sl:=by
 obtain⟨_,_,hs⟩:=ok.pgs _ _ hp
 have hl:=ok.len
 refine⟨by omega,p,hp,hs.smallP,fun hf=>⟨fun h=>?_,fun h=>?_,fun h1 h2=>?_⟩⟩
 ·have:=hD_ hs h hf
  have:=(hs.1 h).1
  omega
 ·have:=hC_ hs h hf
  omega
 ·rw[cy_,hp]at hn
  simp only[hf,Bool.true_eq_false,if_false,h1,qk_]at hn
  exact hn trivial h1 h2
theorem qJ_{α:Type}(a:List α)(x:α)(b:List α)(d:α):(a++x::b).getD a.length d=x:=by
 rw[getD_eq_getElem?_getD,getElem?_append_right (Nat.le_refl _),Nat.sub_self];rfl
theorem kh_{key value:ByteArray}(hk:b5_ key=true)(hv:value.size≤64)(root:Int):∀(h n:Nat) (sl:List aa_) (top:Bool) (id:Int) (low high:ByteArray) (ids:List Int),h<n→cO_ sl→a7_ (ag_ sl) h top id low high ids→ids.Nodup →
 lh_ (ag_ sl) key n id∧∃(q:List (Int×Nat)) (lf:Int×Nat) (has:Bool) (p:ai_),cw_ (ag_ sl) key n id=(q++[lf],has)∧q.length=h∧ag_ sl lf.1=some p∧p.Leaf=true∧pageB p=true∧lf.2=(aA_ p key).1∧has=(aA_ p key).2 ∧
  ∀pre w,w=pre++(q++[lf])→xE_ w root pre.length (bN_ n sl id key value) (upF w root w.length (av_ ⟨lf.1,aC_ p has lf.2 key value⟩ false sl))∧(qk_ w pre.length (bN_ n sl id key value)→lW_ w w.length (av_ ⟨lf.1,aC_ p has lf.2 key value⟩ false sl))
 | h,0,_,_,_,_,_,_,hn,_,_,_=>absurd hn (Nat.not_lt_zero _)
 | 0,n+1,sl,top,id,low,high,ids,hn,ok,t,nd=>by
  obtain⟨p,hp,hb,ho,hl,hin⟩:=t.page
  have hl:p.Leaf=true:=by rw[hl];rfl
  obtain⟨i1,i2,hs⟩:=ok.pgs id p hp
  have hsm:=hs.smallP
  have hw:cw_ (ag_ sl) key (n+1) id=([(id,(aA_ p key).1)],(aA_ p key).2):=by rw[cw_,hp];simp[hl]
  refine⟨⟨p,hp,hsm.1,.inl hl⟩,[],(id,(aA_ p key).1),(aA_ p key).2,p,hw,rfl,hp,hl,hb,rfl,rfl,fun pre w hw=>?_⟩
  have hg:w.getD pre.length (0,0)=(id,(aA_ p key).1):=by rw[hw];exact qJ_ _ _ _ _
  have hlen:w.length=pre.length+1:=by rw[hw];simp
  have ok1:=ok.set (s:=⟨id,aC_ p (aA_ p key).2 (aA_ p key).1 key value⟩) ⟨i1,i2,iO_ hb hl hk hv⟩
  have hp1:ag_ (av_ ⟨id,aC_ p (aA_ p key).2 (aA_ p key).1 key value⟩ false sl) (w.getD pre.length (0,0)).1=some (aC_ p (aA_ p key).2 (aA_ p key).1 key value):=by rw[hg,by_ ok.rise,if_pos rfl]
  have m:=oW_ (root:=root) hp1
  have u:=q8_ ok1 hp1
  rw[hg]at m u
  rw[hlen,dr_ hp hl]
  exact⟨m,u⟩
 | h+1,n+1,sl,top,id,low,high,ids,hn,ok,t,nd=>by
  obtain⟨p,hp,_,ho,_,hin⟩:=t.page
  obtain⟨hl,hb,hlt,m,lo,hi,tk,ndm,hnm,hsub⟩:=t.kid nd hp key
  obtain⟨i1,i2,hs⟩:=ok.pgs id p hp
  have hsm:=hs.smallP
  have hgd:p.Kids.getD (aA_ p key).1 0=p.Kids[(aA_ p key).1]:=by rw[getD_eq_getElem?_getD,getElem?_eq_getElem hlt];rfl
  have hg:=f5_ hk hv h n sl false _ lo hi m (by omega) ok tk ndm
  obtain⟨wok,q,lf,has,pl,e1,e2,e3,e4,e5,e6,e7,e8⟩:=kh_ hk hv root h n sl false _ lo hi m (by omega) ok tk ndm
  have hw:cw_ (ag_ sl) key (n+1) id=((id,(aA_ p key).1)::q++[lf],has):=by
   rw[cw_,hp]
   simp only[hl,Bool.false_eq_true,if_false,e1]
   rfl
  refine⟨⟨p,hp,hsm.1,.inr ⟨hlt,by rw[←hgd];exact wok⟩⟩,(id,(aA_ p key).1)::q,lf,has,pl,hw,by simp[e2],e3,e4,e5,e6,e7,fun pre w hw=>?_⟩
  obtain⟨m1,m2⟩:=e8 (pre++[(id,(aA_ p key).1)]) w (by rw[hw];simp)
  have hgw:w.getD pre.length (0,0)=(id,(aA_ p key).1):=by rw[hw];exact qJ_ _ _ _ _
  obtain⟨sl',sep,new,code,hr⟩:∃sl' sep new code,bN_ n sl (p.Kids.getD (aA_ p key).1 0) key value=(sl',sep,new,code):=⟨_,_,_,_,rfl⟩
  rw[is_ hp hl hr]
  rw[hr]at m1 m2 hg
  obtain⟨hg,hgs⟩:=hg
  rw[la_,length_singleton]at m1 m2
  have hp':ag_ sl' id=some p:=(hg.kept id hnm (by rw[hp];rfl)).trans hp
  by_cases hc:code=0
  ·rw[if_neg (by simpa using hc)]
   by_cases hz:new=0
   ·rw[if_pos hz]
    refine⟨⟨fun e=>absurd rfl e,fun _ _=>m1.2.1 hc hz,fun _ e=>absurd rfl e⟩,fun _=>m2 fun _ e=>absurd hz e⟩
   ·rw[if_neg hz]
    have ok1:=hg.ok.set (s:=⟨id,aV_ p (aA_ p key).1 sep new⟩) ⟨i1,i2,jn_ hb hl key (hgs hz) new⟩
    have hp1:ag_ (av_ ⟨id,aV_ p (aA_ p key).1 sep new⟩ false sl') (w.getD pre.length (0,0)).1=some (aV_ p (aA_ p key).1 sep new):=by rw[hgw,by_ hg.ok.rise,if_pos rfl]
    have mm:=oW_ (root:=root) hp1
    have u:=q8_ ok1 hp1
    rw[hgw]at mm u
    have ha:jc_ w root (pre.length+1) sl' sep new=upF w root (pre.length+1) (av_ ⟨id,aV_ p (aA_ p key).1 sep new⟩ false sl'):=by
     rw[jc_,if_neg (by omega),Nat.add_sub_cancel,hgw,hp']
    have m3:=m1.2.2 hc hz (fun _=>by rw[Nat.add_sub_cancel,hgw,hp'];rfl)
    simp only at m3
    rw[ha]at m3
    rw[m3]
    refine⟨mm,fun hnx=>m2 fun _ _ _=>⟨p,?_,hsm,?_,?_,?_⟩⟩
    ·rw[Nat.add_sub_cancel,hgw];exact hp'
    ·rw[Nat.add_sub_cancel,hgw];exact eV_ p key
    ·rw[Nat.add_sub_cancel,hgw];exact hlt
    ·rw[Nat.add_sub_cancel,hgw];exact u hnx
  ·rw[if_pos hc]
   refine⟨⟨fun _=>m1.1 hc,fun e=>absurd e hc,fun e=>absurd e hc⟩,fun _=>m2 fun e=>absurd e hc⟩
def nU_(n:Nat)(b:ae_)(key value:ByteArray):ae_×Int :=
 match(cw_ (ag_ b.Slots) key n b.Root).1.getLast? with
 | none=>(bt0,0)
 | some leaf=>match ag_ b.Slots leaf.1 with
  | none=>(bt0,0)
  | some p =>
   if(upF (cw_ (ag_ b.Slots) key n b.Root).1 b.Root (cw_ (ag_ b.Slots) key n b.Root).1.length (av_ ⟨leaf.1,aC_ p (cw_ (ag_ b.Slots) key n b.Root).2 leaf.2 key value⟩ false b.Slots)).2.2=0 then
    (⟨(upF (cw_ (ag_ b.Slots) key n b.Root).1 b.Root (cw_ (ag_ b.Slots) key n b.Root).1.length (av_ ⟨leaf.1,aC_ p (cw_ (ag_ b.Slots) key n b.Root).2 leaf.2 key value⟩ false b.Slots)).2.1,(upF (cw_ (ag_ b.Slots) key n b.Root).1 b.Root (cw_ (ag_ b.Slots) key n b.Root).1.length (av_ ⟨leaf.1,aC_ p (cw_ (ag_ b.Slots) key n b.Root).2 leaf.2 key value⟩ false b.Slots)).1⟩,0)
   else(bt0,(upF (cw_ (ag_ b.Slots) key n b.Root).1 b.Root (cw_ (ag_ b.Slots) key n b.Root).1.length (av_ ⟨leaf.1,aC_ p (cw_ (ag_ b.Slots) key n b.Root).2 leaf.2 key value⟩ false b.Slots)).2.2)
structure Fit(b:ae_)(h:Nat)(ids:List Int):Prop where
 ok:cO_ b.Slots
 tree:a7_ (ag_ b.Slots) h true b.Root ⟨#[]⟩ ⟨#[]⟩ ids
 nodup:ids.Nodup
theorem uc_{b:ae_}{h n:Nat}{ids:List Int}(f:Fit b h ids)(hn:h<n){key value:ByteArray}(hk:b5_ key=true)(hv:value.size≤64):nU_ n b key value=if(dg_ n b key value).2=0 then((dg_ n b key value).1,0)else(bt0,(dg_ n b key value).2):=by
 obtain⟨wok,q,lf,has,p,e1,e2,e3,e4,e5,e6,e7,e8⟩:=kh_ hk hv b.Root h n b.Slots true b.Root _ _ ids hn f.ok f.tree f.nodup
 obtain⟨m1,m2⟩:=e8 [] (q++[lf]) rfl
 unfold nU_
 rw[e1]
 simp only[getLast?_append,getLast?_singleton,Option.some_or,e3]
 generalize upF (q++[lf]) b.Root (q++[lf]).length (av_ ⟨lf.1,aC_ p has lf.2 key value⟩ false b.Slots)=U at *
 have hroot:((q++[lf]).getD 0 (0,0)).1=b.Root:=by
  have:∃x r,cw_ (ag_ b.Slots) key n b.Root=((b.Root,x)::r,has):=by
   obtain⟨p0,hp0,_⟩:=f.tree.page
   cases n with
   | zero=>omega
   | succ n =>
    have:=e1
    rw[cw_,hp0]at this⊢
    simp only at this⊢
    split at this
    ·rename_i hl
     rw[if_pos hl]
     exact⟨_,_,by rw[(Prod.mk.inj this).2]⟩
    ·rename_i hl
     rw[if_neg hl]
     exact⟨_,_,by rw[(Prod.mk.inj this).2]⟩
  obtain⟨x,r,e⟩:=this
  rw[e1]at e
  rw[(Prod.mk.inj e).1];rfl
 obtain⟨sl',sep,new,code,hr⟩:∃sl' sep new code,bN_ n b.Slots b.Root key value=(sl',sep,new,code):=⟨_,_,_,_,rfl⟩
 have hI:dg_ n b key value=if code≠0 then(⟨b.Root,sl'⟩,code)else if new=0 then(⟨b.Root,sl'⟩,0)else if aI_ (ag_ sl') 64=0 then(⟨b.Root,sl'⟩,4)else(⟨aI_ (ag_ sl') 64,av_ ⟨aI_ (ag_ sl') 64,c7_ sep b.Root new⟩ false sl'⟩,0):=by
  unfold dg_;rw[hr]
 rw[hr]at m1
 by_cases hc:code=0
 ·rw[if_neg (by simpa using hc)]at hI
  by_cases hz:new=0
  ·have:=m1.2.1 hc hz
   rw[if_pos hz]at hI
   rw[this,hI]
   try simp
  ·have:=m1.2.2 hc hz (fun e=>absurd rfl e)
   rw[if_neg hz]at hI
   rw[this,hI]
   simp only[jc_,ln_,if_true,hroot]
   by_cases hw:aI_ (ag_ sl') 64=0
   ·simp[hw]
   ·simp[hw]
 ·have:=m1.1 hc
  simp only at this
  rw[if_pos hc]at hI
  rw[hI,this,if_neg hc,if_neg hc]
def c33:LC :=
 .q [.o [.bx 3 28 0,.s 6 (.alloc 28 z0z),.ki 7 0],.o [.ld 14 2 3,.c1 15 65 14,.s 8 (.alloc 28 z0z),.st 2 8 15],.o [.ld 17 2 8,.m 18 1,.c2 19 66 17 18,.m 16 19,.ex 20 16 0,.ex 21 16 1,.m 9 20,.m 10 21],.o
 [.m 22 9,.m 23 9,.ll 24 23,.bk 25 .sub false 24 1,.ia 26 2 22 25,.ld 27 2 26,.s 11 (.alloc 107 z3z),.st 2 11 27],.o [.ld 28 2 8,.fa 29 0 11,.ln 30 29,.c2 31 68 28 30,.c1 32 67 31,.s 12 (.alloc 77 z1z),.st 4
 12 32],.q [.o [.m 33 10],.k 33 (.o [.fa 34 2 12,.ln 35 34,.fa 36 1 11,.ln 37 36,.m 38 2,.ia 39 1 35 37,.st 1 39 38]) (.q [.o [.fa 40 1 12,.ln 41 40,.fa 42 1 11,.ln 43 42,.m 44 1,.c3 45 69 41 43 44,.fa 46 1
 12,.st 1 46 45],.o [.fa 47 2 12,.ln 48 47,.fa 49 1 11,.ln 50 49,.m 51 2,.c3 52 69 48 50 51,.fa 53 2 12,.st 1 53 52]])],.o [.fa 54 0 11,.ln 55 54,.ld 56 4 12,.c3 57 70 8 55 56],.q [.o [.m 58 9,.c2 59 71 8
 58,.m 13 59],.o [.m 60 13,.bk 61 .neq false 60 0],.k 61 (.q [.o [.s 62 (.build z0z [(0,1),(1,1)] []),.m 63 13,.st 2 6 62,.m 7 63],.ret]) .skip],.o [.ld 64 2 8,.st 2 6 64,.ki 7 0],.ret]
def AI_:LF:=⟨3,65,c33,[.cell 6 (some 2),.tmp 7]⟩
theorem DE_:az_ Tryz.prog Tryz.f33 AI_:=gM_
theorem hL_{t:Nat→AV}{h:List Row}(a s:Nat)(n:Option Nat)(K:AV→List Row→Prop):cC_ [.cell a n,.tmp s] K .ret t h=match an_ t h (.load n (.tmp a))with|some av=>K (.tup [av,t s]) h|none=>False:=by
 simp only[cC_,dn_,mapM_cons,mapM_nil]
 cases an_ t h (.load n (.tmp a))<;>simp[cT_]
theorem v2_{H:List Row}{l k n:Nat}{r:Row}{es:List (List AV)}(hl:H[l]?=some r)(hk:r.es.length=k)(hm:(r.es.mapM fun(e:List AV)=>e.mapM (AW.resolve H n))=some es):AW.resolve H (n+1) (.own l k)=some (.list 0 r.sz es):=by
 have e:AW.resolve H (n+1) (.own l k)=match H[l]? with
  | some r=>if r.es.length=k then(r.es.mapM fun(e:List AV)=>e.mapM (AW.resolve H n)).map (.list 0 r.sz)else none
  | none=>none:=rfl
 rw[e,hl]
 simp only[hk,if_true]
 rw[hm];rfl
theorem sx_{α β:Type}{f:α→Option β}:∀{xs:List α} {ys:List β},xs.mapM f=some ys→∀(i:Nat) (h:i<xs.length) (h':i<ys.length),f xs[i]=some ys[i]
 | [],_,_,i,h,_=>absurd h (Nat.not_lt_zero i)
 | x::xs,ys,e,i,h,h'=>by
  rw[mapM_cons]at e
  cases h1:f x with
  | none=>rw[h1]at e;cases e
  | some y =>
   cases h2:xs.mapM f with
   | none=>rw[h1,h2]at e;cases e
   | some zs =>
    rw[h1,h2]at e
    have:=Option.some.inj e
    subst this
    cases i with
    | zero=>exact h1
    | succ i=>exact sx_ h2 i (by simpa using h) (by simpa using h')
theorem qM_(c:aO_)(hc:c.cells.all AV.cell=true):∀(dn:Bool) (l:List aO_),(∀e∈l,e.cells.all AV.cell=true)→∀e∈b6_ c dn l,e.cells.all AV.cell=true
 | dn,[],_,e,he=>by
  simp only[b6_]at he
  split at he
  ·cases he
  ·rw[mem_singleton]at he;rw[he];exact hc
 | dn,x::l,hl,e,he=>by
  simp only[b6_,mem_append]at he
  rcases he with q|q|q
  ·split at q
   ·rw[mem_singleton]at q;rw[q];exact hc
   ·cases q
  ·split at q
   ·cases q
   ·rw[mem_singleton]at q;rw[q];exact hl x mem_cons_self
  ·exact qM_ c hc _ l (fun y hy=>hl y (mem_cons_of_mem _ hy)) e q
theorem ur_(c c':aO_)(hid:c'.id=c.id)(dn:Bool)(l:List aO_):(b6_ c dn l).length=(b6_ c' dn l).length:=by
 induction l generalizing dn with
 | nil=>cases dn<;>rfl
 | cons e l ih =>
  rw[b6_,b6_,hid,la_,la_,la_,la_,ih]
  cases(!dn&&decide (e.id≥c.id))<;>rfl
set_option maxHeartbeats 2000000 in
theorem nK_(n:Nat)(hn:n≤1000)(b:ae_)(key value:ByteArray)(hx:b.Slots.length≤900)(hrise:dD_ b.Slots)(hsm:∀s∈b.Slots,smallP s.Page)(hw:lh_ (ag_ b.Slots) key n b.Root)(w:List (Int×Nat))(has:Bool)(hwf:cw_ (ag_ b.Slots) key n b.Root=(w,has))(hwl:w.length≤1000)(k:Nat)(hk:w.length=k+1)(p:ai_)(hp:ag_ b.Slots (w[k]'(by omega)).1=some p)
 (h1:has=true→(w[k]'(by omega)).2<p.Vals.length∧bM_ p=false) (h2:has=false→(w[k]'(by omega)).2≤p.Keys.length∧(w[k]'(by omega)).2≤p.Vals.length) (hu:lW_ w w.length (av_ ⟨(w[k]'(by omega)).1,aC_ p has (w[k]'(by omega)).2 key value⟩ false b.Slots)) (h:List Row) :
 PureCall Tryz.prog 33 [.agg (ae_.cells b),.val (.string key),.val (.string value)] h (.tup [.agg (ae_.cells (nU_ n b key value).1),.val (.int .i64 (nU_ n b key value).2)]):=by
 have hlt:k<w.length:=by omega
 have hgl:w.getLast?=some w[k]:=by
  rw[getLast?_eq_getElem?,hk,Nat.add_sub_cancel,getElem?_eq_getElem hlt]
 generalize hU:upF w b.Root w.length (av_ ⟨w[k].1,aC_ p has w[k].2 key value⟩ false b.Slots)=U
 have hput:nU_ n b key value=if U.2.2=0 then(⟨U.2.1,U.1⟩,0)else(bt0,U.2.2):=by
  unfold nU_
  rw[hwf,hgl]
  simp only[hp,hU]
 rw[hput]
 intro K hK
 refine callSem.weaken (k1_ (R:=fun r=>∀S x,Rep S r x→Rep S (.tup [.agg (ae_.cells (if U.2.2=0 then((⟨U.2.1,U.1⟩,0):ae_×Int)else(bt0,U.2.2)).1),.val (.int .i64 (if U.2.2=0 then((⟨U.2.1,U.1⟩,0):ae_×Int)else(bt0,U.2.2)).2)]) x) rfl ?_ h _ (fun r hr=>⟨_,hr,hK⟩))
 clear hK
 refine aJ_ mixed Tryz.func33 DE_ (bi_ rfl ?_)
 simp(disch:=omega)only[AI_,c33,ae_.cells,go_sem,seval]
 have q0:((w.length:Nat):Int)-1=(k:Int):=by omega
 have hown:=fun h=>ou_ b (by omega) hsm h
 have hway:=fun h=>nL_ b key n hn (by omega) hw h
 have hpg:=fun h=>eN_ b _ p (by omega) hp h
 rw[hwf]at hway
 unfold ae_.cells at hown hway hpg
 refine PureCall.call (hown _) ?_
 simp(disch:=first|omega|simp only[lzz0_];first|done|omega)only[go_sem,seval]
 refine PureCall.call (hway _) ?_
 simp(disch:=first|omega|simp only[lzz0_];first|done|omega)only[go_sem,seval,q0,d1_,aw_]
 refine PureCall.call (hpg _) ?_
 simp(disch:=first|omega|simp only[lzz0_];first|done|omega)only[go_sem,↓reduceIte,ai_.cells]
 obtain⟨z1,z2,z3⟩:smallP p:=by
  obtain⟨i,hi,_,e,_⟩:=jl_ hp
  exact e▸hsm _ (getElem_mem hi)
 cases has with
 | false =>
  obtain⟨g1,g2⟩:=h2 rfl
  refine PureCall.call (fb_ p z1 z2 z3 _) ?_
  simp(disch:=first|omega|simp only[lzz0_];first|done|omega)only[go_sem,seval,ai_.cells]
  refine PureCall.call (fv_ p.Keys w[k].2 key z1 g1 _) ?_
  simp(disch:=first|omega|simp only[lzz0_];first|done|omega)only[go_sem,seval]
  refine PureCall.call (fv_ p.Vals w[k].2 value z2 g2 _) ?_
  simp(disch:=first|omega|simp only[lzz0_];first|done|omega)only[go_sem,seval]
  refine eS_ 2 b.Root b.Slots (by omega) ⟨w[k].1,aC_ p false w[k].2 key value⟩ _ rfl _ ?_
  intro H1 len1 kp1 box1
  simp(disch:=first|omega|simp only[lzz0_];first|done|omega)only[go_sem,seval]
  refine n4_ 2 b.Root _ w hwl hu H1 box1 _ ?_
  rw[hU]
  intro H2 len2 kp2 box2
  have b1:H2[1]?=_:=(kp2 1 (by omega)).trans ((kp1 1 (by omega)).trans rfl)
  have hl2:1<H2.length:=(List.getElem?_eq_some_iff.1 b1).1
  generalize hz:decide (U.2.2=0)=z
  cases z with
  | true =>
   have hz':U.2.2=0:=of_decide_eq_true hz
   simp(disch:=first|omega|simp only[lzz0_];first|done|omega)only[aq_,go_sem,seval,hz',box2,b1,hL_]
   exact⟨4,_,rfl,fun _ _ q=>q⟩
  | false =>
   have hz':¬ U.2.2=0:=of_decide_eq_false hz
   simp(disch:=first|omega|simp only[lzz0_];first|done|omega)only[aq_,go_sem,seval,hz',b1,bT_,Option.map_some,hL_]
   exact⟨4,_,rfl,m6_ (aU_ (gf_ (aU_ (bs_ _) (aU_ (fC_ 5) dy_))) (aU_ (bs_ _) dy_))⟩
 | true =>
  obtain⟨g1,g2⟩:=h1 rfl
  refine j8_ p z1 z2 z3 _ _ ?_
  intro H1 rk rv rd m1 o1 o2 o3 o4 e1 e2 e3
  have b0:=m1.at (i:=1) (row:=⟨.ty 28,2,[[.val (.int .i64 0),.val (.slice none 0 0)]]⟩) rfl
  have b2:=m1.at (i:=2) (row:=⟨.ty 28,2,[[.val (.int .i64 b.Root),.list 0 5 (b.Slots.map aa_.cells)]]⟩) rfl
  have b3:=m1.at (i:=3) (row:=⟨.ty 107,2,[[.val (.int .i64 w[k].1),.val (.int .i64 w[k].2)]]⟩) rfl
  have hl1:=m1.len
  simp only[lc_,ln_]at hl1 o1
  simp(disch:=first|omega|simp only[lzz0_];first|done|omega)only[am_,ab_,as_,go_sem,seval,b3,e2,g1,ah_]
  obtain⟨Ha,hHa⟩:∃Ha:List Row,Ha=List.set (H1++([⟨.ty 77,4,[[.val (.bool p.Leaf),.own rk p.Keys.length,.own rv p.Vals.length,.own rd p.Kids.length]]⟩]:List Row)) rv ⟨.ty 9,1,(p.Vals.map ah_).set w[k].2 [.val (.string value)]⟩:=⟨_,rfl⟩
  rw[←hHa]
  have lenA:Ha.length=H1.length+1:=by rw[hHa];simp
  have a2:Ha[2]?=some ⟨.ty 28,2,[[.val (.int .i64 b.Root),.list 0 5 (b.Slots.map aa_.cells)]]⟩:=by rw[hHa,am_ (by omega),ab_ (by omega)];exact b2
  have a1:Ha[1]?=some ⟨.ty 28,2,[[.val (.int .i64 0),.val (.slice none 0 0)]]⟩:=by rw[hHa,am_ (by omega),ab_ (by omega)];exact b0
  have ak:Ha[rk]?=some ⟨.ty 9,1,p.Keys.map ah_⟩:=by rw[hHa,am_ (by omega),ab_ (by omega)];exact e1
  have av:Ha[rv]?=some ⟨.ty 9,1,(p.Vals.set w[k].2 value).map ah_⟩:=by
   have e:(p.Vals.set w[k].2 value).map ah_=(p.Vals.map ah_).set w[k].2 [.val (.string value)]:=by rw[map_set]
   rw[hHa,aq_ (by simp only[la_,lc_,ln_];omega),e]
  have ad:Ha[rd]?=some ⟨.ty 2,1,p.Kids.map aB_⟩:=by rw[hHa,am_ (by omega),ab_ (by omega)];exact e3
  clear hHa
  have hp':ag_ (av_ ⟨w[k].1,aC_ p true w[k].2 key value⟩ false b.Slots) w[k].1=some (aC_ p true w[k].2 key value):=by rw[by_ hrise,if_pos rfl]
  have hf':bM_ (aC_ p true w[k].2 key value)=false:=g2
  obtain⟨i,hi,hat,hi2,hi3⟩:=jl_ hp'
  have hUe:U=(av_ ⟨w[k].1,aC_ p true w[k].2 key value⟩ false b.Slots,b.Root,0):=by
   have hgd:w.getD k (0,0)=w[k]:=by rw[getD_eq_getElem?_getD,getElem?_eq_getElem hlt];rfl
   rw[←hU,hk,upF,hgd,hp']
   simp only[hf',if_true]
  have hcl:(b6_ ⟨w[k].1,.val (.bool p.Leaf),.own rk p.Keys.length,.own rv p.Vals.length,.own rd p.Kids.length⟩ false (b.Slots.map aO_.ofG)).length=(av_ ⟨w[k].1,aC_ p true w[k].2 key value⟩ false b.Slots).length:=by
   have h1:=ur_ ⟨w[k].1,.val (.bool p.Leaf),.own rk p.Keys.length,.own rv p.Vals.length,.own rd p.Kids.length⟩ (aO_.ofG ⟨w[k].1,aC_ p true w[k].2 key value⟩) rfl false (b.Slots.map aO_.ofG)
   rw[h1,h7_,length_map]
  have hlen64:=lU_ ⟨w[k].1,aC_ p true w[k].2 key value⟩ b.Slots
  refine gn_ 2 b.Root b.Slots (by omega) ⟨w[k].1,.val (.bool p.Leaf),.own rk p.Keys.length,.own rv p.Vals.length,.own rd p.Kids.length⟩ rfl Ha a2 _ ?_
  intro H2 R hR kp2 len2 box2 row2
  have c1:H2[1]?=_:=(kp2 1 (by omega) (by omega)).trans a1
  have ck:H2[rk]?=_:=(kp2 rk (by omega) (by omega)).trans ak
  have cv:H2[rv]?=_:=(kp2 rv (by omega) (by omega)).trans av
  have cd:H2[rd]?=_:=(kp2 rd (by omega) (by omega)).trans ad
  have hl2:1<H2.length:=(List.getElem?_eq_some_iff.1 c1).1
  have hres:∀H':List Row,(∀l,l<H2.length→l≠1→H'[l]?=H2[l]?)→((b6_ ⟨w[k].1,.val (.bool p.Leaf),.own rk p.Keys.length,.own rv p.Vals.length,.own rd p.Kids.length⟩ false (b.Slots.map aO_.ofG)).map aO_.cells).mapM (fun(e:List AV)=>e.mapM (AW.resolve H' 3))=some ((av_ ⟨w[k].1,aC_ p true w[k].2 key value⟩ false b.Slots).map aa_.cells):=by
   intro H' m
   have r1:AW.resolve H' 3 (.own rk p.Keys.length)=some (.list 0 1 (p.Keys.map ah_)):=em_ (n:=1) ((m rk (List.getElem?_eq_some_iff.1 ck).1 (by omega)).trans ck) (by simp) (fn_ _)
   have r2:AW.resolve H' 3 (.own rv p.Vals.length)=some (.list 0 1 ((p.Vals.set w[k].2 value).map ah_)):=em_ (n:=1) ((m rv (List.getElem?_eq_some_iff.1 cv).1 (by omega)).trans cv) (by simp) (fn_ _)
   have r3:AW.resolve H' 3 (.own rd p.Kids.length)=some (.list 0 1 (p.Kids.map aB_)):=em_ (n:=1) ((m rd (List.getElem?_eq_some_iff.1 cd).1 (by omega)).trans cd) (by simp) (hF_ _)
   rw[←jy_]
   refine kr_ ⟨w[k].1,.val (.bool p.Leaf),.own rk p.Keys.length,.own rv p.Vals.length,.own rd p.Kids.length⟩ (aO_.ofG ⟨w[k].1,aC_ p true w[k].2 key value⟩) rfl ?_ false _ ?_
   ·show [AV.val (.int .i64 w[k].1),.val (.bool p.Leaf),.own rk p.Keys.length,.own rv p.Vals.length,.own rd p.Kids.length].mapM (AW.resolve H' 3)=_
    rw[mapM_cons,mapM_cons,mapM_cons,mapM_cons,mapM_cons,r1,r2,r3]
    rfl
   ·intro e he
    obtain⟨s,hs,rfl⟩:=mem_map.1 he
    rfl
  simp(disch:=first|omega|simp only[lzz0_];first|done|omega)only[go_sem,seval]
  have hic:i<(b6_ ⟨w[k].1,.val (.bool p.Leaf),.own rk p.Keys.length,.own rv p.Vals.length,.own rd p.Kids.length⟩ false (b.Slots.map aO_.ofG)).length:=by omega
  have hown:∀H':List Row,(∀l,l<H2.length→l≠1→H'[l]?=H2[l]?)→AW.resolve H' 4 (.own R (b6_ ⟨w[k].1,.val (.bool p.Leaf),.own rk p.Keys.length,.own rv p.Vals.length,.own rd p.Kids.length⟩ false (b.Slots.map aO_.ofG)).length)=some (.list 0 5 ((av_ ⟨w[k].1,aC_ p true w[k].2 key value⟩ false b.Slots).map aa_.cells)):=fun H' m=>v2_ ((m R (List.getElem?_eq_some_iff.1 row2).1 (by omega)).trans row2) (by simp) (hres H' m)
  have hcell:∀c∈(b6_ ⟨w[k].1,.val (.bool p.Leaf),.own rk p.Keys.length,.own rv p.Vals.length,.own rd p.Kids.length⟩ false (b.Slots.map aO_.ofG)),c.cells.all AV.cell=true:=qM_ _ rfl false _ (fun c hc=>by
   obtain⟨s,hs,rfl⟩:=mem_map.1 hc
   rfl)
  refine mM_ 2 R b.Root w k hk (by omega) _ (av_ ⟨w[k].1,aC_ p true w[k].2 key value⟩ false b.Slots) i hic (by omega) hat (aC_ p true w[k].2 key value) hf' H2 3 box2 row2 (hcell _ (getElem_mem hic)) (fun H' m=>hown H' fun l hl _=>m.kept l hl) ?_ _ ?_
  ·intro H' m
   have h1:=sx_ (hres H' fun l hl _=>m.kept l hl) i (by simpa using hic) (by simpa using hi)
   rw[getElem_map,getElem_map]at h1
   have e1:(av_ ⟨w[k].1,aC_ p true w[k].2 key value⟩ false b.Slots)[i].cells=.val (.int .i64 w[k].1)::ai_.cells (aC_ p true w[k].2 key value):=by
    rw[aa_.cells,hi2,hi3];rfl
   rw[e1,aO_.cells,mapM_cons]at h1
   generalize hcs:(b6_ ⟨w[k].1,.val (.bool p.Leaf),.own rk p.Keys.length,.own rv p.Vals.length,.own rd p.Kids.length⟩ false (b.Slots.map aO_.ofG))[i]=c at h1⊢
   have e2:AW.resolve H' 4 (.agg [c.a,c.b,c.c,c.d])=([c.a,c.b,c.c,c.d].mapM (AW.resolve H' 3)).map .agg:=rfl
   rw[e2]
   cases h2:[c.a,c.b,c.c,c.d].mapM (AW.resolve H' 3)with
   | none=>rw[h2]at h1;cases h1
   | some q =>
    rw[h2]at h1
    have h3:=(List.cons.inj (Option.some.inj h1)).2
    rw[h3];rfl
  ·intro H3 m3
   have d1:=m3.at c1
   have d2:=m3.at box2
   have hl3:1<H3.length:=(List.getElem?_eq_some_iff.1 d1).1
   have hl4:2<H3.length:=(List.getElem?_eq_some_iff.1 d2).1
   subst hUe
   simp(disch:=first|omega|simp only[lzz0_];first|done|omega)only[aq_,go_sem,seval,d1,d2,hL_]
   refine⟨6,.tup [.agg [.val (.int .i64 b.Root),.list 0 5 ((av_ ⟨w[k].1,aC_ p true w[k].2 key value⟩ false b.Slots).map aa_.cells)],.val (.int .i64 0)],?_,fun _ _ q=>q⟩
   have h6:=hown (List.set H3 1 ⟨.ty 28,2,[[.val (.int .i64 b.Root),.own R (b6_ ⟨w[k].1,.val (.bool p.Leaf),.own rk p.Keys.length,.own rv p.Vals.length,.own rd p.Kids.length⟩ false (b.Slots.map aO_.ofG)).length]]⟩) (fun l hl hne=>(am_ (Ne.symm hne)).trans (m3.kept l hl))
   show(List.mapM (AW.resolve _ 5) [AV.agg [.val (.int .i64 b.Root),.own R _],.val (.int .i64 0)]).map AV.tup=_
   have h7:AW.resolve (List.set H3 1 ⟨.ty 28,2,[[.val (.int .i64 b.Root),.own R (b6_ ⟨w[k].1,.val (.bool p.Leaf),.own rk p.Keys.length,.own rv p.Vals.length,.own rd p.Kids.length⟩ false (b.Slots.map aO_.ofG)).length]]⟩) 5 (.agg [.val (.int .i64 b.Root),.own R (b6_ ⟨w[k].1,.val (.bool p.Leaf),.own rk p.Keys.length,.own rv p.Vals.length,.own rd p.Kids.length⟩ false (b.Slots.map aO_.ofG)).length])=some (.agg [.val (.int .i64 b.Root),.list 0 5 ((av_ ⟨w[k].1,aC_ p true w[k].2 key value⟩ false b.Slots).map aa_.cells)]):=by
    show(List.mapM (AW.resolve _ 4) [AV.val (.int .i64 b.Root),.own R _]).map AV.agg=_
    rw[mapM_cons,mapM_cons,h6]
    rfl
   rw[mapM_cons,h7]
   rfl
theorem sm_{b:ae_}(h:ae_.sz b≤1048576):b.Slots.length≤1048576∧(∀s∈b.Slots,smallP s.Page)∧∀s∈b.Slots,f0_ s.Page.Keys:=by
 have h1:=ae_.sz_Slots h
 refine⟨tj_ h1,fun s hs=>?_,fun s hs x hx=>?_⟩
 ·have h2:=pi_ h1 hs
  unfold aa_.sz ai_.sz at h2
  have a1:=bU_ (f:=ByteArray.size) (xs:=s.Page.Keys)
  have a2:=bU_ (f:=ByteArray.size) (xs:=s.Page.Vals)
  have a3:=bU_ (f:=fun _=>0) (xs:=s.Page.Kids)
  exact⟨by omega,by omega,by omega⟩
 ·have h2:=pi_ h1 hs
  unfold aa_.sz ai_.sz at h2
  have a1:=gq_ (f:=ByteArray.size) hx
  omega
theorem pT_.ht{b:ae_}{h:Nat}{ids:List Int}(r:pT_ b h ids):h<65:=by
 have h1:∀(h:Nat) (top:Bool) (id:Int) (low high:ByteArray) (ids:List Int),a7_ (ag_ b.Slots) h top id low high ids→h<ids.length:=by
  intro h
  induction h with
  | zero =>
   intro top id low high ids t
   obtain⟨p,_,_,_,_,_,e⟩:=t
   rw[e];simp
  | succ h ih =>
   intro top id low high ids t
   obtain⟨p,q1,q2,q3,q4,q5,r,q6,q7⟩:=t
   obtain⟨_,n1,n2,n3,n4,n5⟩:=dq_ q3 q2
   obtain⟨a,m,c,e,t⟩:=a9_.get 0 (by omega) q7
   have:=ih _ _ _ _ _ t
   rw[q6,e]
   simp only[lc_,la_]
   omega
 have h2:=h1 _ _ _ _ _ _ r.tree
 have h3:ids.length≤b.Slots.length:=by
  have:ids ⊆ b.Slots.map aa_.Id:=by
   intro i hi
   obtain⟨p,hp⟩:=Option.isSome_iff_exists.1 (r.tree.has i hi)
   exact List.mem_map.2 ⟨_,gN_ hp,rfl⟩
  have:=dM_ r.nodup this
  simpa using this
 have:=r.ok.len
 omega
def Srt(xs:List ByteArray):Prop:=xs.Pairwise fun a b=>aP_ a b=true
def inR(key low high:ByteArray):Prop:=aP_ key low=false∧(high=⟨#[]⟩∨aP_ key high=true)
theorem fI_{a b:ByteArray}(h1:aP_ a b=false)(h2:aP_ b a=false):a=b:=by
 rw[←BU_,←d7_,←d7_]
 exact jx_ _ _ h1 h2
theorem eJ_{a b:ByteArray}(h:aP_ a b=true):aP_ b a=false:=mC_ _ _ h
theorem iL_{a b c:ByteArray}(h1:aP_ b a=false)(h2:aP_ b c=true):aP_ a c=true:=by
 cases h:aP_ a b with
 | true=>exact cN_ h h2
 | false=>rw[fI_ h h1];exact h2
theorem r6_{a b c:ByteArray}(h1:aP_ a b=true)(h2:aP_ c b=false):aP_ a c=true:=by
 cases h:aP_ b c with
 | true=>exact cN_ h1 h
 | false=>rw[←fI_ h h2];exact h1
theorem qr_{a b c:ByteArray}(h1:aP_ b a=false)(h2:aP_ c b=false):aP_ c a=false:=by
 cases h:aP_ c a with
 | false=>rfl
 | true=>rw[r6_ h h1]at h2;cases h2
theorem oF_{xs:List ByteArray}:c6_ xs=true↔(∀k∈xs,b5_ k=true)∧Srt xs:=by
 constructor
 ·intro h
  exact⟨pZ_ h,pairwise_iff_getElem.2 fun i j hi hj hij=>mR_ h i j hj hij⟩
 ·intro ⟨h1,h2⟩
  refine gh_ fun k hk=>?_
  rw[ns_ hk,h1 _ (getElem_mem hk),Bool.true_and]
  by_cases h0:k=0
  ·subst h0;rfl
  ·have:=pairwise_iff_getElem.1 h2 (k-1) k (by omega) hk (by omega)
   rw[this,Bool.or_true]
theorem ea_{p:ai_}{low high:ByteArray}:jE_ p low high=false↔∀k∈p.Keys,inR k low high:=by
 unfold jE_ inR
 rw[any_eq_false]
 refine forall_congr' fun k=>forall_congr' fun hk=>?_
 cases h1:aP_ k low<;>by_cases h2:high=⟨#[]⟩<;>cases h3:aP_ k high<;>simp[h2]
theorem nZ_{xs:List ByteArray}{key:ByteArray}{k:Nat}(h:Srt xs)(h1:∀x∈xs.take k,aP_ x key=true)(h2:∀x∈xs.drop k,aP_ key x=true):Srt (xs.take k++key::xs.drop k):=by
 refine pairwise_append.2 ⟨h.sublist (take_sublist _ _),pairwise_cons.2 ⟨h2,h.sublist (drop_sublist _ _)⟩,fun a ha b hb=>?_⟩
 rcases mem_cons.1 hb with q|q
 ·rw[q];exact h1 a ha
 ·exact cN_ (h1 a ha) (h2 b q)
theorem nY_{xs:List ByteArray}{key:ByteArray}:∀x∈xs.take (lbK xs key),aP_ x key=true:=by
 intro x hx
 obtain⟨j,hj,rfl⟩:=mem_iff_getElem.1 hx
 rw[getElem_take]
 exact kc_ (by rw[length_take]at hj;omega)
theorem y1_{xs:List ByteArray}(h:Srt xs){key:ByteArray}:∀x∈xs.drop (lbK xs key),aP_ x key=false:=by
 intro x hx
 obtain⟨j,hj,rfl⟩:=mem_iff_getElem.1 hx
 rw[length_drop]at hj
 rw[getElem_drop]
 have h3:=lS_ (xs:=xs) (key:=key) (by omega)
 by_cases q:j=0
 ·subst q;exact h3
 ·have:=pairwise_iff_getElem.1 h (lbK xs key) (lbK xs key+j) (by omega) (by omega) (by omega)
  cases e:aP_ xs[lbK xs key+j] key with
  | false=>rfl
  | true=>rw[cN_ this e]at h3;cases h3
theorem jr_{xs:List ByteArray}(h:Srt xs){key:ByteArray}(hn:bQ_ xs key=false):∀x∈xs.drop (lbK xs key),aP_ key x=true:=by
 intro x hx
 have hge:=y1_ h x hx
 cases e:aP_ key x with
 | true=>rfl
 | false =>
  exfalso
  have hxk:=fI_ hge e
  subst hxk
  obtain⟨j,hj,hx2⟩:=mem_iff_getElem.1 hx
  rw[length_drop]at hj
  rw[getElem_drop]at hx2
  by_cases q:j=0
  ·subst q
   rw[bQ_,decide_eq_false_iff_not]at hn
   exact hn (by rw[getElem?_eq_getElem (by omega)];exact congrArg some hx2)
  ·have h3:=lS_ (xs:=xs) (key:=x) (by omega)
   have:=pairwise_iff_getElem.1 h (lbK xs x) (lbK xs x+j) (by omega) (by omega) (by omega)
   rw[hx2,h3]at this;cases this
structure PgN(n:Nat)(p:ai_):Prop where
 keys:∀k∈p.Keys,b5_ k=true
 srt:Srt p.Keys
 vals:∀v∈p.Vals,v.size≤64
 kids:∀k∈p.Kids,1≤k∧k≤64
 leaf:p.Leaf=true→p.Keys.length≤n∧p.Vals.length=p.Keys.length∧p.Kids=[]
 node:p.Leaf=false→2≤p.Kids.length∧p.Kids.length≤n∧p.Kids.length=p.Keys.length+1∧p.Vals=[]
theorem iI_{p:ai_}(h:pageB p=true):PgN 6 p:=by
 have hk:c6_ p.Keys=true:=by
  rw[pageB,Bool.and_eq_true]at h
  exact h.1
 obtain⟨h1,h2⟩:=oF_.1 hk
 cases hl:p.Leaf with
 | true =>
  obtain⟨_,a,b,c,d⟩:=cQ_ h hl
  exact⟨h1,h2,d,fun k q=>(by rw[c]at q;cases q),fun _=>⟨a,b,c⟩,fun e=>by rw[hl]at e;cases e⟩
 | false =>
  obtain⟨_,a,b,c,d,e⟩:=dq_ h hl
  exact⟨h1,h2,fun v q=>(by rw[d]at q;cases q),e,fun e=>(by rw[hl]at e;cases e),fun _=>⟨a,b,c,d⟩⟩
theorem PgN.pageB{p:ai_}(h:PgN 6 p):pageB p=true:=by
 have hk:=oF_.2 ⟨h.keys,h.srt⟩
 rw[Go.Proofs.YtlcmlgihlojdmaaGreatDoor.pageB,hk,Bool.true_and]
 cases hl:p.Leaf with
 | true =>
  obtain⟨a,b,c⟩:=h.leaf hl
  simp only[if_true,Bool.and_eq_true,decide_eq_true_eq,all_eq_true]
  exact⟨⟨⟨by omega,by omega⟩,fun v hv=>by have:=h.vals v hv;omega⟩,by rw[c];rfl⟩
 | false =>
  obtain⟨a,b,c,d⟩:=h.node hl
  simp only[Bool.false_eq_true,if_false,bx_,Bool.and_eq_true,decide_eq_true_eq,all_eq_true]
  exact⟨⟨⟨⟨by omega,by omega⟩,by omega⟩,by rw[d];rfl⟩,fun k hk=>h.kids k hk⟩
theorem PgN.small{n:Nat}{p:ai_}(h:PgN n p)(hf:bM_ p=false):PgN 6 p:=by
 simp only[bM_,Bool.or_eq_false_iff,decide_eq_false_iff_not]at hf
 refine⟨h.keys,h.srt,h.vals,h.kids,fun hl=>?_,fun hl=>?_⟩
 ·obtain⟨a,b,c⟩:=h.leaf hl;exact⟨by omega,b,c⟩
 ·obtain⟨a,b,c,d⟩:=h.node hl;exact⟨a,by omega,c,d⟩
theorem PgN.up{n m:Nat}{p:ai_}(h:PgN n p)(hm:n≤m):PgN m p :=
 ⟨h.keys,h.srt,h.vals,h.kids,fun hl=>by obtain⟨a,b,c⟩:=h.leaf hl;exact⟨by omega,b,c⟩,fun hl=>by obtain⟨a,b,c,d⟩:=h.node hl;exact⟨a,by omega,c,d⟩⟩
theorem PgN.shape{p:ai_}(h:PgN 7 p):shapeP p :=
 ⟨fun hl=>by obtain⟨a,b,c⟩:=h.leaf hl;exact⟨b,c,a⟩,fun hl=>by obtain⟨a,b,c,d⟩:=h.node hl;exact⟨c,d,b⟩,h.keys,h.vals⟩
theorem a9_.app{T:Int→ByteArray→ByteArray→List Int→Prop}:∀{k1:List Int} {q1:List ByteArray} {k2:List Int} {q2:List ByteArray} {low sep high:ByteArray} {a b:List Int},a9_ T k1 q1 low sep a→a9_ T k2 q2 sep high b→a9_ T (k1++k2) (q1++sep::q2) low high (a++b)
 | [],_,_,_,_,_,_,_,_,h,_=>h.elim
 | _::_::_,[],_,_,_,_,_,_,_,h,_=>h.elim
 | [kid],[],k2,q2,low,sep,high,a,b,h,h2=>by
  cases k2 with
  | nil=>exact h2.elim
  | cons x k2=>exact⟨a,b,rfl,h,h2⟩
 | [kid],k::keys,_,_,_,_,_,_,_,h,_=>by
  obtain⟨a,b,e,h1,h2⟩:=h
  exact h2.elim
 | kid::kid'::kids,k::keys,k2,q2,low,sep,high,a,b,h,h2=>by
  obtain⟨a1,b1,e,h3,h4⟩:=h
  exact⟨a1,b1++b,by rw[e,append_assoc],h3,a9_.app h4 h2⟩
theorem a9_.split{T:Int→ByteArray→ByteArray→List Int→Prop}:∀{k1:List Int} {q1:List ByteArray} {k2:List Int} {q2:List ByteArray} {low sep high:ByteArray} {ids:List Int},k1.length=q1.length+1→a9_ T (k1++k2) (q1++sep::q2) low high ids→∃a b,ids=a++b∧a9_ T k1 q1 low sep a∧a9_ T k2 q2 sep high b
 | [],q1,_,_,_,_,_,_,hl,_=>by simp at hl
 | _::_::_,[],_,_,_,_,_,_,hl,_=>by simp at hl
 | [kid],_::_,_,_,_,_,_,_,hl,_=>by simp at hl
 | [kid],[],[],q2,low,sep,high,ids,_,h=>by
  obtain⟨a,b,e,h1,h2⟩:=h
  exact h2.elim
 | [kid],[],x::k2,q2,low,sep,high,ids,_,h=>by
  obtain⟨a,b,e,h1,h2⟩:=h
  exact⟨a,b,e,h1,h2⟩
 | kid::kid'::kids,k::keys,k2,q2,low,sep,high,ids,hl,h=>by
  obtain⟨a1,b1,e,h3,h4⟩:=h
  obtain⟨a,b,e2,h5,h6⟩:=a9_.split (k1:=kid'::kids) (q1:=keys) (by simpa using hl) h4
  exact⟨a1++a,b,by rw[e,e2,append_assoc],⟨a1,a,rfl,h3,h5⟩,h6⟩
def loQ(keys:List ByteArray)(low:ByteArray)(k:Nat):ByteArray:=if 0<k then keys.getD (k-1) ⟨#[]⟩else low
def hiQ(keys:List ByteArray)(high:ByteArray)(k:Nat):ByteArray:=if k<keys.length then keys.getD k ⟨#[]⟩else high
theorem q0_(q:ByteArray)(keys:List ByteArray)(low:ByteArray)(k:Nat):loQ (q::keys) low (k+1)=loQ keys q k:=by
 cases k<;>simp[loQ]
theorem rd_(q:ByteArray)(keys:List ByteArray)(high:ByteArray)(k:Nat):hiQ (q::keys) high (k+1)=hiQ keys high k:=by
 simp[hiQ]
theorem a9_.seg{T:Int→ByteArray→ByteArray→List Int→Prop}(n:Nat):∀(k:Nat) {kids:List Int} {keys:List ByteArray} {low high:ByteArray} {ids:List Int},k+n<kids.length→a9_ T kids keys low high ids →
 ∃a m b,ids=a++(m++b)∧a9_ T ((kids.drop k).take (n+1)) ((keys.drop k).take n) (loQ keys low k) (hiQ keys high (k+n)) m ∧
  ∀(T':Int→ByteArray→ByteArray→List Int→Prop) (kids':List Int) (keys':List ByteArray) (m':List Int),(∀kid lo hi x,(∀i∈x,i∈a++b)→T kid lo hi x→T' kid lo hi x)→a9_ T' kids' keys' (loQ keys low k) (hiQ keys high (k+n)) m' →
   a9_ T' (kids.take k++(kids'++kids.drop (k+(n+1)))) (keys.take k++(keys'++keys.drop (k+n))) low high (a++(m'++b))
 | 0,kids,keys,low,high,ids,hk,h=>by
  have hlen:=h.len
  rw[Nat.zero_add]at hk
  have e0:loQ keys low 0=low:=rfl
  rw[e0]
  by_cases hn:n+1=kids.length
  ·have e1:kids.take (n+1)=kids:=take_of_length_le (by omega)
   have e2:keys.take n=keys:=take_of_length_le (by omega)
   have e3:kids.drop (n+1)=[]:=drop_eq_nil_of_le (by omega)
   have e4:keys.drop n=[]:=drop_eq_nil_of_le (by omega)
   have e5:hiQ keys high (0+n)=high:=by rw[hiQ,if_neg (by omega)]
   refine⟨[],ids,[],by simp,?_,fun T' kids' keys' m' _ h'=>?_⟩
   ·rw[drop_zero,drop_zero,e1,e2,e5];exact h
   ·rw[Nat.zero_add,Nat.zero_add,e3,e4]
    rw[e5]at h'
    simpa using h'
  ·have hn':n<keys.length:=by omega
   have e1:kids=kids.take (n+1)++kids.drop (n+1):=(take_append_drop _ _).symm
   have e2:keys=keys.take n++keys[n]::keys.drop (n+1):=by rw[←drop_eq_getElem_cons hn',take_append_drop]
   have e5:hiQ keys high (0+n)=keys[n]:=by rw[Nat.zero_add,hiQ,if_pos hn',getD_eq_getElem?_getD,getElem?_eq_getElem hn'];rfl
   have h0:=h
   rw[e1,e2]at h0
   obtain⟨a,b,e,h1,h2⟩:=a9_.split (by rw[length_take,length_take];omega) h0
   refine⟨[],a,b,by simpa using e,?_,fun T' kids' keys' m' hT h'=>?_⟩
   ·rw[drop_zero,drop_zero,e5];exact h1
   ·rw[e5]at h'
    rw[Nat.zero_add,Nat.zero_add,drop_eq_getElem_cons hn']
    have:=a9_.app h' (a9_.mono (fun kid lo hi x hx q=>hT kid lo hi x (fun i hi=>by simpa using hx i hi) q) h2)
    simpa using this
 | k+1,[],_,_,_,_,_,h=>h.elim
 | k+1,[_],_,_,_,_,hk,_=>by simp at hk
 | k+1,_::_::_,[],_,_,_,_,h=>h.elim
 | k+1,kid::kid'::kids,q::keys,low,high,ids,hk,h=>by
  obtain⟨a1,b1,e,h3,h4⟩:=h
  obtain⟨a,m,b,e2,h5,h6⟩:=a9_.seg n k (kids:=kid'::kids) (by simp only[lc_]at hk⊢;omega) h4
  have hk2:k+1+n=(k+n)+1:=by omega
  have hk3:k+1+(n+1)=(k+(n+1))+1:=by omega
  refine⟨a1++a,m,b,by rw[e,e2];simp,?_,fun T' kids' keys' m' hT h'=>?_⟩
  ·rw[q0_,hk2,rd_];exact h5
  ·rw[q0_,hk2,rd_]at h'
   have h7:=h6 T' kids' keys' m' (fun kid lo hi x hx=>hT kid lo hi x fun i hi=>by
    have:=hx i hi
    rw[append_assoc];exact mem_append_right _ this) h'
   rw[hk2,hk3,take_succ_cons,drop_succ_cons,take_succ_cons,drop_succ_cons,append_assoc]
   have h8:T' kid low q a1:=hT _ _ _ _ (fun i hi=>by rw[append_assoc];exact mem_append_left _ hi) h3
   generalize hks:(kid'::kids).take k++(kids'++(kid'::kids).drop (k+(n+1)))=ks at h7⊢
   rw[cons_append,cons_append,hks]
   cases ks with
   | nil=>exact h7.elim
   | cons x ks=>exact⟨a1,_,rfl,h8,h7⟩
theorem a9_.one{T:Int→ByteArray→ByteArray→List Int→Prop}{kid:Int}{low high:ByteArray}{ids:List Int}:a9_ T [kid] [] low high ids↔T kid low high ids:=Iff.rfl
def dW_(st:de_):Nat→ai_→ByteArray→ByteArray→List Int→Prop
 | 0,p,low,high,r=>p.Leaf=true∧jE_ p low high=false∧r=[]
 | h+1,p,low,high,r=>p.Leaf=false∧jE_ p low high=false∧a9_ (fun kid lo hi m=>a7_ st h false kid lo hi m) p.Kids p.Keys low high r
theorem a7_.iff{st:de_}{h:Nat}{top:Bool}{id:Int}{low high:ByteArray}{ids:List Int}:a7_ st h top id low high ids↔∃p r,st id=some p∧pageB p=true∧(top=true∨3≤dG_ p)∧dW_ st h p low high r∧ids=id::r:=by
 cases h with
 | zero =>
  constructor
  ·rintro⟨p,h1,h2,h3,h4,h5,h6⟩
   exact⟨p,[],h1,h3,by rw[dG_,if_pos h2];exact h5,⟨h2,h4,rfl⟩,h6⟩
  ·rintro⟨p,r,h1,h3,h5,⟨h2,h4,h7⟩,h6⟩
   rw[dG_,if_pos h2]at h5
   exact⟨p,h1,h2,h3,h4,h5,by rw[h6,h7]⟩
 | succ h =>
  constructor
  ·rintro⟨p,h1,h2,h3,h4,h5,r,h6,h7⟩
   exact⟨p,r,h1,h3,by rw[dG_,if_neg (by rw[h2];simp)];exact h5,⟨h2,h4,h7⟩,h6⟩
  ·rintro⟨p,r,h1,h3,h5,⟨h2,h4,h7⟩,h6⟩
   rw[dG_,if_neg (by rw[h2];simp)]at h5
   exact⟨p,h1,h2,h3,h4,h5,r,h6,h7⟩
theorem dW_.congr{st st':de_}{h:Nat}{p:ai_}{low high:ByteArray}{r:List Int}(hs:∀i∈r,st' i=st i)(t:dW_ st h p low high r):dW_ st' h p low high r:=by
 cases h with
 | zero=>exact t
 | succ h =>
  obtain⟨h1,h2,h3⟩:=t
  exact⟨h1,h2,a9_.mono (fun kid lo hi m hm q=>a7_.congr (fun i hi=>hs i (hm i hi)) q) h3⟩
theorem dW_.has{st:de_}{h:Nat}{p:ai_}{low high:ByteArray}{r:List Int}(t:dW_ st h p low high r):∀i∈r,(st i).isSome=true:=by
 cases h with
 | zero=>obtain⟨_,_,e⟩:=t;rw[e];intro i hi;cases hi
 | succ h =>
  obtain⟨_,_,h3⟩:=t
  exact a9_.has (Q:=fun i=>(st i).isSome=true) (fun kid lo hi m q=>a7_.has q) h3
theorem dW_.leafB{st:de_}{h:Nat}{p:ai_}{low high:ByteArray}{r:List Int}(t:dW_ st h p low high r):p.Leaf=decide (h=0):=by
 cases h with
 | zero=>obtain⟨e,_⟩:=t;rw[e];rfl
 | succ h=>obtain⟨e,_⟩:=t;rw[e];simp
theorem sn_{key low high sep:ByteArray}(h:inR key low high)(hs:aP_ key sep=true):inR key low sep:=⟨h.1,.inr hs⟩
theorem rN_{p:ai_}(hl:p.Leaf=true):aM_ p=(⟨true,p.Keys.take 3,p.Vals.take 3,[]⟩,⟨true,p.Keys.drop 3,p.Vals.drop 3,[]⟩,p.Keys.getD 3 ⟨#[]⟩):=by rw[aM_,if_pos hl]
theorem rS_{p:ai_}(hl:p.Leaf=false):aM_ p=(⟨false,p.Keys.take 2,[],p.Kids.take 3⟩,⟨false,p.Keys.drop 3,[],p.Kids.drop 3⟩,p.Keys.getD 2 ⟨#[]⟩):=by rw[aM_,if_neg (by rw[hl];simp)]
theorem tM_{st:de_}{h:Nat}{p:ai_}{low high:ByteArray}{r:List Int}(t:dW_ st h p low high r)(hp:PgN 7 p)(hf:bM_ p=true) :
 ∃a b,r=a++b∧dW_ st h (aM_ p).1 low (aM_ p).2.2 a∧dW_ st h (aM_ p).2.1 (aM_ p).2.2 high b∧pageB (aM_ p).1=true∧pageB (aM_ p).2.1=true∧3≤dG_ (aM_ p).1∧3≤dG_ (aM_ p).2.1∧b5_ (aM_ p).2.2=true∧aP_ low (aM_ p).2.2=true∧(high=⟨#[]⟩∨aP_ (aM_ p).2.2 high=true):=by
 cases hl:p.Leaf with
 | true =>
  have h0:h=0:=by have:=t.leafB;rw[hl]at this;simpa using this.symm
  subst h0
  obtain⟨_,ho,er⟩:=t
  have ho:=ea_.1 ho
  obtain⟨n1,n2,n3⟩:=hp.leaf hl
  have hk7:=hD_ hp.shape hl hf
  have hsep:p.Keys.getD 3 ⟨#[]⟩=p.Keys[3]:=by rw[getD_eq_getElem?_getD,getElem?_eq_getElem (by omega)];rfl
  rw[rN_ hl,hsep]
  simp only
  have lt3:∀x∈p.Keys.take 3,aP_ x p.Keys[3]=true:=by
   intro x hx
   obtain⟨j,hj,rfl⟩:=mem_iff_getElem.1 hx
   rw[length_take]at hj
   rw[getElem_take]
   exact pairwise_iff_getElem.1 hp.srt j 3 (by omega) (by omega) (by omega)
  have ge3:∀x∈p.Keys.drop 3,aP_ x p.Keys[3]=false:=by
   intro x hx
   obtain⟨j,hj,rfl⟩:=mem_iff_getElem.1 hx
   rw[length_drop]at hj
   rw[getElem_drop]
   by_cases q:j=0
   ·subst q;exact da_ _
   ·exact eJ_ (pairwise_iff_getElem.1 hp.srt 3 (3+j) (by omega) (by omega) (by omega))
  have hm3:p.Keys[3]∈p.Keys:=getElem_mem _
  refine⟨[],[],by rw[er];rfl,⟨rfl,ea_.2 fun x hx=>sn_ (ho x (mem_of_mem_take hx)) (lt3 x hx),rfl⟩,⟨rfl,ea_.2 fun x hx=>⟨ge3 x hx,(ho x (mem_of_mem_drop hx)).2⟩,rfl⟩,PgN.pageB ⟨fun k hk=>hp.keys k (mem_of_mem_take hk),hp.srt.sublist (take_sublist _ _),fun v hv=>hp.vals v (mem_of_mem_take hv),fun k hk=>(by cases hk),fun _=>⟨by simp only[length_take];omega,by simp only[length_take];omega,rfl⟩,fun e=>by cases e⟩,PgN.pageB ⟨fun k hk=>hp.keys k (mem_of_mem_drop hk),hp.srt.sublist (drop_sublist _ _),fun v hv=>hp.vals v (mem_of_mem_drop hv),fun k hk=>(by cases hk),fun _=>⟨by simp only[length_drop];omega,by simp only[length_drop];omega,rfl⟩,fun e=>by cases e⟩,?_,?_,hp.keys _ hm3,?_,(ho _ hm3).2⟩
  ·simp only[dG_,if_true,length_take];omega
  ·simp only[dG_,if_true,length_drop];omega
  ·exact iL_ (ho _ (getElem_mem (by omega:0<p.Keys.length))).1 (pairwise_iff_getElem.1 hp.srt 0 3 (by omega) (by omega) (by omega))
 | false =>
  have⟨h',h0⟩:∃h',h=h'+1:=by
   have:=t.leafB
   rw[hl]at this
   exact ⟨h - 1, by have : h ≠ 0 := by simpa using this.symm
                    omega⟩
  subst h0
  obtain⟨_,ho,hk⟩:=t
  have ho:=ea_.1 ho
  obtain⟨n1,n2,n3,n4⟩:=hp.node hl
  have hk7:=hC_ hp.shape hl hf
  have hsep:p.Keys.getD 2 ⟨#[]⟩=p.Keys[2]:=by rw[getD_eq_getElem?_getD,getElem?_eq_getElem (by omega)];rfl
  rw[rS_ hl,hsep]
  simp only
  have lt3:∀x∈p.Keys.take 2,aP_ x p.Keys[2]=true:=by
   intro x hx
   obtain⟨j,hj,rfl⟩:=mem_iff_getElem.1 hx
   rw[length_take]at hj
   rw[getElem_take]
   exact pairwise_iff_getElem.1 hp.srt j 2 (by omega) (by omega) (by omega)
  have ge3:∀x∈p.Keys.drop 3,aP_ x p.Keys[2]=false:=by
   intro x hx
   obtain⟨j,hj,rfl⟩:=mem_iff_getElem.1 hx
   rw[length_drop]at hj
   rw[getElem_drop]
   exact eJ_ (pairwise_iff_getElem.1 hp.srt 2 (3+j) (by omega) (by omega) (by omega))
  have hm3:p.Keys[2]∈p.Keys:=getElem_mem _
  have e1:p.Kids=p.Kids.take 3++p.Kids.drop 3:=(take_append_drop _ _).symm
  have e2:p.Keys=p.Keys.take 2++p.Keys[2]::p.Keys.drop 3:=by rw[←drop_eq_getElem_cons (by omega),take_append_drop]
  rw[e1]at hk
  rw[e2]at hk
  obtain⟨a,b,e,k1,k2⟩:=a9_.split (by simp only[length_take];omega) hk
  refine⟨a,b,e,⟨rfl,ea_.2 fun x hx=>sn_ (ho x (mem_of_mem_take hx)) (lt3 x hx),k1⟩,⟨rfl,ea_.2 fun x hx=>⟨ge3 x hx,(ho x (mem_of_mem_drop hx)).2⟩,k2⟩,PgN.pageB ⟨fun k hk=>hp.keys k (mem_of_mem_take hk),hp.srt.sublist (take_sublist _ _),fun v hv=>(by cases hv),fun k hk=>hp.kids k (mem_of_mem_take hk),fun e=>(by cases e),fun _=>⟨by simp only[length_take];omega,by simp only[length_take];omega,by simp only[length_take];omega,rfl⟩⟩,PgN.pageB ⟨fun k hk=>hp.keys k (mem_of_mem_drop hk),hp.srt.sublist (drop_sublist _ _),fun v hv=>(by cases hv),fun k hk=>hp.kids k (mem_of_mem_drop hk),fun e=>(by cases e),fun _=>⟨by simp only[length_drop];omega,by simp only[length_drop];omega,by simp only[length_drop];omega,rfl⟩⟩,?_,?_,hp.keys _ hm3,?_,(ho _ hm3).2⟩
  ·simp only[dG_,Bool.false_eq_true,if_false,length_take];omega
  ·simp only[dG_,Bool.false_eq_true,if_false,length_drop];omega
  ·exact iL_ (ho _ (getElem_mem (by omega:0<p.Keys.length))).1 (pairwise_iff_getElem.1 hp.srt 0 2 (by omega) (by omega) (by omega))
theorem o2_{a:List Int}{st:de_}{new:Int}(hn:a.Nodup)(hs:∀i∈a,(st i).isSome=true)(hnew:st new=none):new∉a:=fun q=>by
 have:=hs new q
 rw[hnew]at this;cases this
theorem mP_{id:Int}{a m b m':List Int}(nd:(id::(a++(m++b))).Nodup)(nd':m'.Nodup)(h:∀i∈m',i∈m∨i∉id::(a++(m++b))):(id::(a++(m'++b))).Nodup:=by
 obtain⟨n1,n2⟩:=nodup_cons.1 nd
 obtain⟨a1,a2,a3⟩:=nodup_append.1 n2
 obtain⟨b1,b2,b3⟩:=nodup_append.1 a2
 have hm:∀i∈m',i∈m∨(i≠id∧i∉a∧i∉b):=fun i hi=>by
  rcases h i hi with e|e
  ·exact .inl e
  ·right
   simp only[mem_cons,mem_append,not_or]at e
   exact⟨e.1,e.2.1,e.2.2.2⟩
 simp only[mem_append,not_or]at n1
 refine nodup_cons.2 ⟨?_,nodup_append.2 ⟨a1,nodup_append.2 ⟨nd',b2,fun x hx y hy e=>?_⟩,fun x hx y hy e=>?_⟩⟩
 ·simp only[mem_append,not_or]
  refine⟨n1.1,fun q=>?_,n1.2.2⟩
  rcases hm id q with e|e
  ·exact n1.2.1 e
  ·exact e.1 rfl
 ·subst e
  rcases hm x hx with e|e
  ·exact b3 x e x hy rfl
  ·exact e.2.2 hy
 ·subst e
  rcases mem_append.1 hy with q|q
  ·rcases hm x q with e|e
   ·exact a3 x hx x (mem_append_left _ e) rfl
   ·exact e.2.1 hx
  ·exact a3 x hx x (mem_append_right _ q) rfl
theorem qG_{id:Int}{a m b m':List Int}{P:Int→Prop}(h:∀i∈m',i∈m∨P i):∀i∈id::(a++(m'++b)),i∈id::(a++(m++b))∨P i:=by
 intro i hi
 simp only[mem_cons,mem_append]at hi⊢
 rcases hi with e|e|e|e
 ·exact .inl (.inl e)
 ·exact .inl (.inr (.inl e))
 ·exact(h i e).imp (fun q=>.inr (.inr (.inl q))) (fun q=>q)
 ·exact .inl (.inr (.inr (.inr e)))
theorem oL_(a:ByteArray):aP_ a ⟨#[]⟩=false:=by
 show Op.bytesLess a.toList (⟨#[]⟩:ByteArray).toList=false
 rw[d7_,d7_]
 cases a.data.toList<;>rfl
def pP_(st0:de_)(ids:List Int)(h:Nat)(top:Bool)(id:Int)(low high:ByteArray)(r:List aa_×ByteArray×Int×Int):Prop :=
 r.2.2.2=0→(r.2.2.1=0→∃ids',a7_ (ag_ r.1) h top id low high ids'∧ids'.Nodup∧∀i∈ids',i∈ids∨st0 i=none) ∧
  (r.2.2.1≠0→∃a b,a7_ (ag_ r.1) h false id low r.2.1 a∧a7_ (ag_ r.1) h false r.2.2.1 r.2.1 high b∧(a++b).Nodup∧(∀i∈a++b,i∈ids∨st0 i=none)∧1≤r.2.2.1∧r.2.2.1≤64∧aP_ low r.2.1=true∧(high=⟨#[]⟩∨aP_ r.2.1 high=true)∧b5_ r.2.1=true)
theorem oT_{sl:List aa_}{id:Int}{p:ai_}{h:Nat}{top:Bool}{low high:ByteArray}{r:List Int}(ok:cO_ sl)(hp:ag_ sl id=some p)(hpg:PgN 7 p)(hf:top=true∨3≤dG_ p)(t:dW_ (ag_ sl) h p low high r)(nd:(id::r).Nodup) :
 pP_ (ag_ sl) (id::r) h top id low high (cy_ sl id):=by
 obtain⟨i1,i2,_⟩:=ok.pgs id p hp
 obtain⟨n1,n2⟩:=nodup_cons.1 nd
 unfold pP_
 rw[cy_,hp]
 simp only
 by_cases hfu:bM_ p=false
 ·rw[if_pos hfu]
  exact fun _=>⟨fun _=>⟨id::r,a7_.iff.2 ⟨p,r,hp,(hpg.small hfu).pageB,hf,t,rfl⟩,nd,fun i hi=>.inl hi⟩,fun e=>absurd rfl e⟩
 ·rw[if_neg hfu]
  have hfu':bM_ p=true:=by simpa using hfu
  by_cases hn:aI_ (ag_ sl) 64=0
  ·rw[if_pos hn]
   exact fun e=>absurd (show(4:Int)=0 from e) (by decide)
  ·rw[if_neg hn]
   rcases f8_ (st:=ag_ sl) 64 (Nat.le_refl _)with q|⟨q1,q2,q3⟩
   ·exact absurd q hn
   refine fun _=>⟨fun e=>absurd e hn,fun _=>?_⟩
   obtain⟨a,b,er,ta,tb,pa,pb,fa,fb,ks,lo,hi⟩:=tM_ t hpg hfu'
   have hne:id≠aI_ (ag_ sl) 64:=fun e=>by rw[←e,hp]at q3;cases q3
   have hr1:dD_ (av_ ⟨id,(aM_ p).1⟩ false sl):=jp_ ok.rise
   have st1:∀i,ag_ (up2 sl id p) i=if aI_ (ag_ sl) 64=i then some (aM_ p).2.1 else if id=i then some (aM_ p).1 else ag_ sl i:=by
    intro i
    rw[up2,by_ hr1]
    by_cases e:aI_ (ag_ sl) 64=i
    ·rw[if_pos e,if_pos e]
    ·rw[if_neg e,if_neg e,by_ ok.rise]
   have hnew:aI_ (ag_ sl) 64∉r:=o2_ n2 t.has q3
   have kept:∀i∈r,ag_ (up2 sl id p) i=ag_ sl i:=fun i hi=>by
    rw[st1,if_neg (fun e=>hnew (by rw[e];exact hi)),if_neg (fun e=>n1 (by rw[e];exact hi))]
   refine⟨id::a,aI_ (ag_ sl) 64::b,a7_.iff.2 ⟨(aM_ p).1,a,by rw[st1,if_neg (Ne.symm hne),if_pos rfl],pa,.inr fa,dW_.congr (fun i hi=>kept i (by rw[er];exact mem_append_left _ hi)) ta,rfl⟩,a7_.iff.2 ⟨(aM_ p).2.1,b,by rw[st1,if_pos rfl],pb,.inr fb,dW_.congr (fun i hi=>kept i (by rw[er];exact mem_append_right _ hi)) tb,rfl⟩,?_,?_,q1,q2,lo,hi,ks⟩
   ·rw[er]at n1 n2 hnew
    obtain⟨m1,m2,m3⟩:=nodup_append.1 n2
    rw[nodup_append]
    simp only[mem_append,not_or]at n1 hnew
    refine⟨nodup_cons.2 ⟨n1.1,m1⟩,nodup_cons.2 ⟨hnew.2,m2⟩,fun x hx y hy=>?_⟩
    rcases mem_cons.1 hx with e1|e1<;>rcases mem_cons.1 hy with e2|e2
    ·rw[e1,e2];exact hne
    ·rw[e1];exact fun e=>n1.2 (e▸e2)
    ·rw[e2];exact fun e=>hnew.1 (e▸e1)
    ·exact m3 x e1 y e2
   ·intro i hi
    rcases mem_append.1 hi with q|q
    ·rcases mem_cons.1 q with e|e
     ·exact .inl (by rw[e];exact mem_cons_self)
     ·exact .inl (mem_cons_of_mem _ (by rw[er];exact mem_append_left _ e))
    ·rcases mem_cons.1 q with e|e
     ·exact .inr (by rw[e];exact q3)
     ·exact .inl (mem_cons_of_mem _ (by rw[er];exact mem_append_right _ e))
theorem w0_{p:ai_}(h:pageB p=true)(hl:p.Leaf=true){key value:ByteArray}(hk:b5_ key=true)(hv:value.size≤64):PgN 7 (aC_ p (aA_ p key).2 (aA_ p key).1 key value):=by
 have hp:=iI_ h
 obtain⟨a,b,c⟩:=hp.leaf hl
 have hle:=eV_ p key
 rw[gu_ hl]at hle⊢
 simp only at hle⊢
 cases hf:bQ_ p.Keys key with
 | true =>
  simp only[aC_,if_true]
  exact⟨hp.keys,hp.srt,fun v hv2=>by
   rcases mem_or_eq_of_mem_set hv2 with q|q
   ·exact hp.vals v q
   ·rw[q];exact hv,hp.kids,fun _=>⟨by show p.Keys.length≤7;omega,by simp[b],c⟩,fun e=>by rw[show p.Leaf=true from hl]at e;cases e⟩
 | false =>
  simp only[aC_,Bool.false_eq_true,if_false]
  refine⟨fun k hk2=>?_,nZ_ hp.srt nY_ (jr_ hp.srt hf),fun v hv2=>?_,hp.kids,fun _=>⟨?_,?_,c⟩,fun e=>by rw[show p.Leaf=true from hl]at e;cases e⟩
  ·simp only[mem_append,mem_cons]at hk2
   rcases hk2 with q|q|q
   ·exact hp.keys k (mem_of_mem_take q)
   ·rw[q];exact hk
   ·exact hp.keys k (mem_of_mem_drop q)
  ·simp only[mem_append,mem_cons]at hv2
   rcases hv2 with q|q|q
   ·exact hp.vals v (mem_of_mem_take q)
   ·rw[q];exact hv
   ·exact hp.vals v (mem_of_mem_drop q)
  all_goals simp only[la_,lc_,length_take,length_drop];omega
theorem uw_{p:ai_}{key value low high:ByteArray}(has:Bool)(k:Nat)(ho:jE_ p low high=false)(hr:inR key low high):jE_ (aC_ p has k key value) low high=false:=by
 rw[ea_]at ho⊢
 intro x hx
 unfold aC_ at hx
 split at hx
 ·exact ho x hx
 ·simp only[mem_append,mem_cons]at hx
  rcases hx with q|q|q
  ·exact ho x (mem_of_mem_take q)
  ·rw[q];exact hr
  ·exact ho x (mem_of_mem_drop q)
theorem tI_{p:ai_}(hl:p.Leaf=true){key value:ByteArray}(has:Bool){k:Nat}:dG_ p≤dG_ (aC_ p has k key value):=by
 have e:(aC_ p has k key value).Leaf=p.Leaf:=by unfold aC_;split<;>rfl
 rw[dG_,dG_,e,if_pos hl,if_pos hl]
 unfold aC_
 split
 ·exact Nat.le_refl _
 ·simp only[la_,lc_,length_take,length_drop];omega
theorem ue_{p:ai_}(hs:Srt p.Keys)(hl:p.Leaf=false){key low high:ByteArray}(hr:inR key low high):inR key (loQ p.Keys low (aA_ p key).1) (hiQ p.Keys high (aA_ p key).1):=by
 have hle:=k3_ p.Keys key
 have hfd:aA_ p key=(if bQ_ p.Keys key=true then lbK p.Keys key+1 else lbK p.Keys key,bQ_ p.Keys key):=by
  unfold aA_;rw[hl];rfl
 rw[hfd]
 simp only
 cases hf:bQ_ p.Keys key with
 | true =>
  simp only[if_true]
  have hlt:=g7_ hf
  have he:p.Keys[lbK p.Keys key]=key:=by
   rw[bQ_,decide_eq_true_eq,getElem?_eq_getElem hlt]at hf
   exact Option.some.inj hf
  refine⟨?_,?_⟩
  ·rw[loQ,if_pos (by omega),Nat.add_sub_cancel,getD_eq_getElem?_getD,getElem?_eq_getElem hlt]
   show aP_ key p.Keys[lbK p.Keys key]=false
   rw[he];exact da_ _
  ·unfold hiQ
   split
   ·rename_i h2
    right
    rw[getD_eq_getElem?_getD,getElem?_eq_getElem h2]
    show aP_ key p.Keys[lbK p.Keys key+1]=true
    have:=pairwise_iff_getElem.1 hs (lbK p.Keys key) (lbK p.Keys key+1) hlt h2 (by omega)
    rwa [he]at this
   ·exact hr.2
 | false =>
  simp only[Bool.false_eq_true,if_false]
  refine⟨?_,?_⟩
  ·unfold loQ
   split
   ·rename_i h2
    rw[getD_eq_getElem?_getD,getElem?_eq_getElem (by omega)]
    exact eJ_ (kc_ (xs:=p.Keys) (key:=key) (j:=lbK p.Keys key-1) (by omega))
   ·exact hr.1
  ·unfold hiQ
   split
   ·rename_i h2
    right
    rw[getD_eq_getElem?_getD,getElem?_eq_getElem h2]
    exact jr_ hs hf _ (by rw[drop_eq_getElem_cons h2];exact mem_cons_self)
   ·exact hr.2
theorem wR_{keys:List ByteArray}{k:Nat}{low high sep:ByteArray}(hs:Srt keys)(hk:k≤keys.length)(h1:aP_ (loQ keys low k) sep=true)(h2:hiQ keys high k=⟨#[]⟩∨aP_ sep (hiQ keys high k)=true)(hne:∀x∈keys,x≠⟨#[]⟩):Srt (keys.take k++sep::keys.drop k):=by
 refine nZ_ hs (fun x hx=>?_) (fun x hx=>?_)
 ·obtain⟨j,hj,rfl⟩:=mem_iff_getElem.1 hx
  rw[length_take]at hj
  rw[getElem_take]
  have e:loQ keys low k=keys[k-1]:=by rw[loQ,if_pos (by omega),getD_eq_getElem?_getD,getElem?_eq_getElem (by omega)];rfl
  rw[e]at h1
  by_cases q:j=k-1
  ·subst q;exact h1
  ·exact cN_ (pairwise_iff_getElem.1 hs j (k-1) (by omega) (by omega) (by omega)) h1
 ·obtain⟨j,hj,rfl⟩:=mem_iff_getElem.1 hx
  rw[length_drop]at hj
  rw[getElem_drop]
  have e:hiQ keys high k=keys[k]:=by rw[hiQ,if_pos (by omega),getD_eq_getElem?_getD,getElem?_eq_getElem (by omega)];rfl
  rw[e]at h2
  have h2:aP_ sep keys[k]=true:=h2.resolve_left (hne _ (getElem_mem _))
  by_cases q:j=0
  ·subst q;exact h2
  ·exact cN_ h2 (pairwise_iff_getElem.1 hs k (k+j) (by omega) (by omega) (by omega))
theorem Aw_{keys:List ByteArray}{k:Nat}{low high:ByteArray}(ho:∀x∈keys,inR x low high)(hk:k≤keys.length):aP_ (loQ keys low k) low=false:=by
 unfold loQ
 split
 ·rw[getD_eq_getElem?_getD,getElem?_eq_getElem (by omega)]
  exact(ho _ (getElem_mem _)).1
 ·exact da_ _
theorem CL_{keys:List ByteArray}{k:Nat}{low high:ByteArray}(ho:∀x∈keys,inR x low high):hiQ keys high k=high∨(∃h:k<keys.length,hiQ keys high k=keys[k]):=by
 unfold hiQ
 split
 ·rename_i h
  right
  exact⟨h,by rw[getD_eq_getElem?_getD,getElem?_eq_getElem h];rfl⟩
 ·exact .inl rfl
theorem qd_{k:ByteArray}(h:b5_ k=true):k≠⟨#[]⟩:=by
 intro e
 rw[e]at h
 revert h
 decide
theorem p9_{key value:ByteArray}(hk:b5_ key=true)(hv:value.size≤64):∀(h n:Nat) (sl:List aa_) (top:Bool) (id:Int) (low high:ByteArray) (ids:List Int),h<n→cO_ sl→a7_ (ag_ sl) h top id low high ids→ids.Nodup→inR key low high→pP_ (ag_ sl) ids h top id low high (bN_ n sl id key value)
 | h,0,_,_,_,_,_,_,hn,_,_,_,_=>absurd hn (Nat.not_lt_zero _)
 | 0,n+1,sl,top,id,low,high,ids,hn,ok,t,nd,hr=>by
  obtain⟨p,r,hp,hb,hf,⟨hl,ho,er⟩,ei⟩:=a7_.iff.1 t
  subst er ei
  obtain⟨i1,i2,hs⟩:=ok.pgs id p hp
  rw[dr_ hp hl]
  have pg:=w0_ hb hl (key:=key) (value:=value) hk hv
  have hlf:(aC_ p (aA_ p key).2 (aA_ p key).1 key value).Leaf=true:=by unfold aC_;split<;>exact hl
  have hrs:=ok.rise
  generalize hq:aC_ p (aA_ p key).2 (aA_ p key).1 key value=q at *
  have ok1:=ok.set (s:=⟨id,q⟩) ⟨i1,i2,pg.shape⟩
  have g:=oT_ (top:=top) (low:=low) (high:=high) (h:=0) (r:=[]) ok1 (p:=q) (by rw[by_ hrs,if_pos rfl]) pg
   (by rcases hf with e | e
       ·exact .inl e
       ·right
        have:=tI_ hl (key:=key) (value:=value) (aA_ p key).2 (k:=(aA_ p key).1)
        rw[hq]at this
        omega) ⟨hlf,by rw[←hq];exact uw_ _ _ ho hr,rfl⟩ nd
  intro hc
  obtain⟨g1,g2⟩:=g hc
  have hst:∀i,ag_ (av_ ⟨id,q⟩ false sl) i=none→ag_ sl i=none:=fun i hi=>by
   rw[by_ hrs]at hi
   split at hi
   ·cases hi
   ·exact hi
  refine⟨fun hz=>?_,fun hz=>?_⟩
  ·obtain⟨ids',t',nd',hs'⟩:=g1 hz
   exact⟨ids',t',nd',fun i hi=>(hs' i hi).imp (fun q=>q) (hst i)⟩
  ·obtain⟨a,b,ta,tb,nd',hs',rest⟩:=g2 hz
   exact⟨a,b,ta,tb,nd',fun i hi=>(hs' i hi).imp (fun x=>x) (hst i),rest⟩
 | h+1,n+1,sl,top,id,low,high,ids,hn,ok,t,nd,hr=>by
  obtain⟨p,r,hp,hb,hf,⟨hl,ho,hka⟩,ei⟩:=a7_.iff.1 t
  subst ei
  obtain⟨i1,i2,hs⟩:=ok.pgs id p hp
  obtain⟨n1,n2⟩:=nodup_cons.1 nd
  have hpg:=iI_ hb
  obtain⟨k1,k2,k3,k4⟩:=hpg.node hl
  have ho':=ea_.1 ho
  have hle:=eV_ p key
  have hlt:(aA_ p key).1<p.Kids.length:=by omega
  have hrange:=ue_ hpg.srt hl hr
  generalize hkk:(aA_ p key).1=k at *
  obtain⟨a,m,b,er,hm,hput⟩:=a9_.seg 0 k (by omega) hka
  have hgd:p.Kids.getD k 0=p.Kids[k]:=by rw[getD_eq_getElem?_getD,getElem?_eq_getElem hlt];rfl
  have hseg:(p.Kids.drop k).take (0+1)=[p.Kids[k]]:=by rw[drop_eq_getElem_cons hlt];rfl
  rw[hseg,take_zero,Nat.add_zero]at hm
  have hm:a7_ (ag_ sl) h false p.Kids[k] (loQ p.Keys low k) (hiQ p.Keys high k) m:=hm
  have hmr:∀i∈m,i∈r:=fun i hi=>by rw[er];exact mem_append_right _ (mem_append_left _ hi)
  have hab:∀i∈a++b,i∈r:=fun i hi=>by
   rw[er]
   rcases mem_append.1 hi with q|q
   ·exact mem_append_left _ q
   ·exact mem_append_right _ (mem_append_right _ q)
  rw[er]at n2
  obtain⟨d1,d2,d3⟩:=nodup_append.1 n2
  obtain⟨d4,d5,d6⟩:=nodup_append.1 d2
  have hdis:∀i∈a++b,i∉m:=fun i hi q=>by
   rcases mem_append.1 hi with e|e
   ·exact d3 i e i (mem_append_left _ q) rfl
   ·exact d6 i q i e rfl
  have ih:=p9_ hk hv h n sl false p.Kids[k] _ _ m (by omega) ok hm d4 hrange
  obtain⟨hg,hgs⟩:=f5_ hk hv h n sl false p.Kids[k] _ _ m (by omega) ok hm d4
  obtain⟨sl',sep,new,code,hres⟩:∃sl' sep new code,bN_ n sl (p.Kids.getD (aA_ p key).1 0) key value=(sl',sep,new,code):=⟨_,_,_,_,rfl⟩
  rw[is_ hp hl hres]
  rw[hkk,hgd]at hres
  rw[hres]at ih hg hgs
  rw[hkk]
  simp only at ih hg hgs
  have hnm:id∉m:=fun q=>n1 (hmr id q)
  have hp':ag_ sl' id=some p:=(hg.kept id hnm (by rw[hp];rfl)).trans hp
  have hal:=hka.has (Q:=fun i=>(ag_ sl i).isSome=true) (fun kid lo hi m q=>a7_.has q)
  have hkeep:∀i∈a++b,ag_ sl' i=ag_ sl i:=fun i hi=>hg.kept i (hdis i hi) (hal i (hab i hi))
  have hnone:∀i,ag_ sl' i=none→ag_ sl i=none:=fun i hi=>by
   cases e:ag_ sl i with
   | none=>rfl
   | some q =>
    have:=hg.dom i (by rw[e];rfl)
    rw[hi]at this;cases this
  have hidl:(ag_ sl id).isSome=true:=by rw[hp];rfl
  have hold:∀i,ag_ sl i=none→i∉id::(a++(m++b)):=fun i hi q=>by
   have:(ag_ sl i).isSome=true:=by
    rcases mem_cons.1 q with e|e
    ·rw[e];exact hidl
    ·exact hal i (by rw[er];exact e)
   rw[hi]at this;cases this
  rw[er]at nd
  by_cases hc:code=0
  ·rw[if_neg (by simpa using hc)]
   obtain⟨g1,g2⟩:=ih hc
   by_cases hz:new=0
   ·rw[if_pos hz]
    obtain⟨m',t',nd',hs'⟩:=g1 hz
    refine fun _=>⟨fun _=>⟨id::(a++(m'++b)),a7_.iff.2 ⟨p,_,hp',hb,hf,⟨hl,ho,?_⟩,rfl⟩,?_,?_⟩,fun e=>absurd rfl e⟩
    ·have:=hput (fun kid lo hi m=>a7_ (ag_ sl') h false kid lo hi m) [p.Kids[k]] [] m' (fun kid lo hi x hx q=>a7_.congr (fun i hi=>hkeep i (hx i hi)) q) t'
     have e1:p.Kids.take k++([p.Kids[k]]++p.Kids.drop (k+(0+1)))=p.Kids:=by rw[singleton_append,Nat.zero_add,←drop_eq_getElem_cons hlt,take_append_drop]
     have e2:p.Keys.take k++([]++p.Keys.drop (k+0))=p.Keys:=by rw[nil_append,Nat.add_zero,take_append_drop]
     rw[e1,e2]at this
     exact this
    ·exact mP_ nd nd' fun i hi=>(hs' i hi).imp (fun q=>q) (hold i)
    ·intro i hi
     rw[er]
     exact qG_ hs' i hi
   ·rw[if_neg hz]
    obtain⟨x,y,tx,ty,nd',hs',new1,new2,lo1,hi1,ks⟩:=g2 hz
    have hkids:p.Kids.take (k+1)=p.Kids.take k++[p.Kids[k]]:=(take_append_getElem hlt).symm
    have pg:PgN 7 (aV_ p k sep new):=by
     refine⟨fun q hq=>?_,?_,fun v hv2=>hpg.vals v hv2,fun q hq=>?_,fun e=>?_,fun _=>⟨?_,?_,?_,k4⟩⟩
     ·simp only[aV_,mem_append,mem_cons]at hq
      rcases hq with e|e|e
      ·exact hpg.keys q (mem_of_mem_take e)
      ·rw[e];exact ks
      ·exact hpg.keys q (mem_of_mem_drop e)
     ·exact wR_ hpg.srt (by omega) lo1 hi1 fun q hq=>qd_ (hpg.keys q hq)
     ·simp only[aV_,mem_append,mem_cons]at hq
      rcases hq with e|e|e
      ·exact hpg.kids q (mem_of_mem_take e)
      ·rw[e];exact⟨new1,new2⟩
      ·exact hpg.kids q (mem_of_mem_drop e)
     ·rw[show(aV_ p k sep new).Leaf=p.Leaf from rfl,hl]at e;cases e
     all_goals simp only[aV_,la_,lc_,length_take,length_drop];omega
    have nd1:=mP_ nd nd' fun i hi=>(hs' i hi).imp (fun q=>q) (hold i)
    have hst1:∀i,i≠id→ag_ (av_ ⟨id,aV_ p k sep new⟩ false sl') i=ag_ sl' i:=fun i hi=>by rw[by_ hg.ok.rise,if_neg (fun e=>hi e.symm)]
    have hin:∀i∈a++((x++y)++b),i≠id:=fun i hi e=>(nodup_cons.1 nd1).1 (e▸hi)
    have hloq:=Aw_ (k:=k) ho' (by omega)
    have ok1:=hg.ok.set (s:=⟨id,aV_ p k sep new⟩) ⟨i1,i2,pg.shape⟩
    have g:=oT_ (top:=top) (low:=low) (high:=high) (h:=h+1) (r:=a++((x++y)++b)) ok1 (p:=aV_ p k sep new) (by rw[by_ hg.ok.rise,if_pos rfl]) pg
     (by rcases hf with e | e
         ·exact .inl e
         ·right
          rw[dG_,if_neg (by rw[hl];simp)]at e
          rw[dG_,if_neg (by rw[show(aV_ p k sep new).Leaf=p.Leaf from rfl,hl];simp)]
          simp only[aV_,la_,lc_,length_take,length_drop];omega)
     ⟨hl,by
      rw[ea_]
      intro q hq
      simp only[aV_,mem_append,mem_cons]at hq
      rcases hq with e|e|e
      ·exact ho' q (mem_of_mem_take e)
      ·rw[e]
       refine⟨eJ_ (iL_ hloq lo1),?_⟩
       rcases CL_ (k:=k) ho' with e2|⟨hh,e2⟩
       ·rw[←e2];exact hi1
       ·rw[e2]at hi1
        have h3:=hi1.resolve_left (qd_ (hpg.keys _ (getElem_mem hh)))
        rcases(ho' _ (getElem_mem hh)).2 with e4|e4
        ·exact .inl e4
        ·exact .inr (cN_ h3 e4)
      ·exact ho' q (mem_of_mem_drop e),by
      have:=hput (fun kid lo hi m=>a7_ (ag_ (av_ ⟨id,aV_ p k sep new⟩ false sl')) h false kid lo hi m) [p.Kids[k],new] [sep] (x++y) (fun kid lo hi z hz q=>a7_.congr (fun i hi=>(hst1 i (hin i (by
       rcases mem_append.1 (hz i hi)with e|e
       ·exact mem_append_left _ e
       ·exact mem_append_right _ (mem_append_right _ e)))).trans (hkeep i (hz i hi))) q)
       ⟨x,y,rfl,a7_.congr (fun i hi=>hst1 i (hin i (mem_append_right _ (mem_append_left _ (mem_append_left _ hi))))) tx,a7_.congr (fun i hi=>hst1 i (hin i (mem_append_right _ (mem_append_left _ (mem_append_right _ hi))))) ty⟩
      have e1:(aV_ p k sep new).Kids=p.Kids.take k++([p.Kids[k],new]++p.Kids.drop (k+(0+1))):=by
       show p.Kids.take (k+1)++new::p.Kids.drop (k+1)=_
       rw[hkids,Nat.zero_add,append_assoc];rfl
      have e2:(aV_ p k sep new).Keys=p.Keys.take k++([sep]++p.Keys.drop (k+0)):=rfl
      rw[e1,e2]
      exact this⟩ nd1
    have hsub:∀i,i∈id::(a++((x++y)++b))∨ag_ (av_ ⟨id,aV_ p k sep new⟩ false sl') i=none→i∈id::r∨ag_ sl i=none:=fun i hi=>by
     rcases hi with e|e
     ·rw[er];exact qG_ hs' i e
     ·right
      refine hnone i ?_
      rw[by_ hg.ok.rise]at e
      split at e
      ·cases e
      ·exact e
    intro hc2
    obtain⟨f1,f2⟩:=g hc2
    refine⟨fun hz2=>?_,fun hz2=>?_⟩
    ·obtain⟨ids',t',nd2,hs2⟩:=f1 hz2
     exact⟨ids',t',nd2,fun i hi=>hsub i (hs2 i hi)⟩
    ·obtain⟨a2,b2,ta,tb,nd2,hs2,rest⟩:=f2 hz2
     exact⟨a2,b2,ta,tb,nd2,fun i hi=>hsub i (hs2 i hi),rest⟩
  ·rw[if_pos hc]
   exact fun e=>absurd e hc
theorem nJ_{b:ae_}{h:Nat}{ids:List Int}{key value:ByteArray}(f:Fit b h ids)(hn:h<65)(hk:b5_ key=true)(hv:value.size≤64)(hc:(dg_ 65 b key value).2=0):∃h' ids',Fit (dg_ 65 b key value).1 h' ids':=by
 have hr:inR key ⟨#[]⟩ ⟨#[]⟩:=⟨oL_ key,.inl rfl⟩
 have g:=p9_ hk hv h 65 b.Slots true b.Root _ _ ids hn f.ok f.tree f.nodup hr
 obtain⟨hg,hs⟩:=f5_ hk hv h 65 b.Slots true b.Root _ _ ids hn f.ok f.tree f.nodup
 unfold dg_ at hc⊢
 unfold pP_ at g
 generalize bN_ 65 b.Slots b.Root key value=R at *
 by_cases hc0:R.2.2.2=0
 ·rw[if_neg (by simpa using hc0)]at hc⊢
  obtain⟨g1,g2⟩:=g hc0
  by_cases hz:R.2.2.1=0
  ·rw[if_pos hz]
   obtain⟨ids',t',nd',_⟩:=g1 hz
   exact⟨h,ids',hg.ok,t',nd'⟩
  ·rw[if_neg hz]at hc⊢
   by_cases hw:aI_ (ag_ R.1) 64=0
   ·rw[if_pos hw]at hc;exact absurd (show(4:Int)=0 from hc) (by decide)
   ·rw[if_neg hw]
    rcases f8_ (st:=ag_ R.1) 64 (Nat.le_refl _)with q|⟨q1,q2,q3⟩
    ·exact absurd q hw
    obtain⟨x,y,tx,ty,nd',hs',n1,n2,lo1,hi1,ks⟩:=g2 hz
    obtain⟨_,hrt,_⟩:=tx.page
    have ho:=hg.ok.pgs b.Root _ hrt
    have pg:PgN 6 (c7_ R.2.1 b.Root R.2.2.1):=⟨fun k hk2=>by rw[show k=R.2.1 by simpa[c7_]using hk2];exact ks,by simp[Srt,c7_],fun v hv2=>(by cases hv2),fun k hk2=>by
     rcases(show k=b.Root∨k=R.2.2.1 by simpa[c7_]using hk2)with e|e
     ·rw[e];exact⟨ho.1,ho.2.1⟩
     ·rw[e];exact⟨n1,n2⟩,fun e=>(by cases e),fun _=>⟨by simp[c7_],by simp[c7_],by simp[c7_],rfl⟩⟩
    have hne:aI_ (ag_ R.1) 64∉x++y:=o2_ nd' (fun i hi=>by
     rcases mem_append.1 hi with e|e
     ·exact tx.has i e
     ·exact ty.has i e) q3
    have hkeep:∀i∈x++y,ag_ (av_ ⟨aI_ (ag_ R.1) 64,c7_ R.2.1 b.Root R.2.2.1⟩ false R.1) i=ag_ R.1 i:=fun i hi=>by
     rw[by_ hg.ok.rise,if_neg (fun e=>hne (by rw[show aI_ (ag_ R.1) 64=i from e];exact hi))]
    refine⟨h+1,aI_ (ag_ R.1) 64::(x++y),hg.ok.set ⟨q1,q2,(pg.up (by omega)).shape⟩,a7_.iff.2 ⟨c7_ R.2.1 b.Root R.2.2.1,x++y,?_,pg.pageB,.inl rfl,⟨rfl,?_,x,y,rfl,a7_.congr (fun i hi=>hkeep i (mem_append_left _ hi)) tx,a7_.congr (fun i hi=>hkeep i (mem_append_right _ hi)) ty⟩,rfl⟩,nodup_cons.2 ⟨hne,nd'⟩⟩
    ·show ag_ (av_ ⟨aI_ (ag_ R.1) 64,c7_ R.2.1 b.Root R.2.2.1⟩ false R.1) (aI_ (ag_ R.1) 64)=_
     rw[by_ hg.ok.rise,if_pos rfl]
    ·rw[ea_]
     intro q hq
     rw[show q=R.2.1 by simpa[c7_]using hq]
     exact⟨oL_ _,.inl rfl⟩
 ·rw[if_pos hc0]at hc
  exact absurd hc hc0
theorem Fit.ht{b:ae_}{h:Nat}{ids:List Int}(r:Fit b h ids):h<65:=by
 have h1:∀(h:Nat) (top:Bool) (id:Int) (low high:ByteArray) (ids:List Int),a7_ (ag_ b.Slots) h top id low high ids→h<ids.length:=by
  intro h
  induction h with
  | zero =>
   intro top id low high ids t
   obtain⟨p,_,_,_,_,_,e⟩:=t
   rw[e];simp
  | succ h ih =>
   intro top id low high ids t
   obtain⟨p,q1,q2,q3,q4,q5,r,q6,q7⟩:=t
   obtain⟨_,n1,n2,n3,n4,n5⟩:=dq_ q3 q2
   obtain⟨a,m,c,e,t⟩:=a9_.get 0 (by omega) q7
   have:=ih _ _ _ _ _ t
   rw[q6,e]
   simp only[lc_,la_]
   omega
 have h2:=h1 _ _ _ _ _ _ r.tree
 have h3:ids.length≤b.Slots.length:=by
  have:ids ⊆ b.Slots.map aa_.Id:=by
   intro i hi
   obtain⟨p,hp⟩:=Option.isSome_iff_exists.1 (r.tree.has i hi)
   exact mem_map.2 ⟨_,gN_ hp,rfl⟩
  have:=dM_ r.nodup this
  simpa using this
 have:=r.ok.len
 omega
end Go.Proofs.YtlcmlgihlojdmaaGreatDoor
