/- Proved: the given card SyntaxCheckExprCardSaid, without conditions. -/
import Derived.Test.YtpcnadmaeebhbaaGreatDoorJaj
set_option linter.unusedVariables false
set_option linter.unusedSimpArgs false
section
open Go Go.Proofs Go.Ab Go.Rf
set_option maxRecDepth 100000
namespace Go.Rx
def RB(q:Ref)(s:List UInt8)(i:Int)(b:Bool):List (Ref×List A):=[(.up q,[A.d (.lit (Zco s)),A.d (.lit (.int .i64 i)),A.d (.lit (.bool b))])]
def RAft(q:Ref)(s:List UInt8)(good:A->Prop)(res:Res A):Out->List (Ref×List A)->Prop:=fun o H=>match res with
 |.ok v t=>o=.ret v/\ ∃i,At s t i/\H=RB q s i false
 |.bad t=>∃v i,good v/\At s t i/\o=.ret v/\H=RB q s i true
theorem Ycd{P:Program}{f:Nat}{args:List A}{B:List (Ref×List A)}{q:Ref}{s:List UInt8}{good:A->Prop}{res:Res A}(hc:Holds P f args B (RAft q s good res)){Q1:A->List (Ref×List A)->Prop}{Q2:Value->List (Ref×List A)->Prop}
 (h1:∀v t i,res=.ok v t->At s t i->Q1 v (RB q s i false)) (h2:∀v t i,res=.bad t->good v->At s t i->Q1 v (RB q s i true)):
 ∀_:Nat->Nat,∃R':Out->List (Ref×List A)->Prop,Holds P f args B R'/\(∀v H',R' (.ret v) H'->Q1 v H')/\(∀u H',R' (.pan u) H'->Q2 u H'):=by
 refine fun _=>⟨_,hc,fun v' H' e=>?_,fun u H' e=>?_⟩
 ·cases res with
  |ok v t=>obtain⟨e1,i,hi,rfl⟩:=e;cases e1;exact h1 _ t i rfl hi
  |bad t=>obtain⟨v,i,hg,hi,e1,rfl⟩:=e;cases e1;exact h2 _ t i rfl hg hi
 ·cases res with
  |ok v t=>cases e.1
  |bad t=>obtain⟨v,i,hg,hi,e1,rfl⟩:=e;cases e1
theorem Yaj{q:Ref}{s t:List UInt8}{good:A->Prop}{v:A}{res:Res A}{i:Int}(h:res=.ok v t)(hi:At s t i):RAft q s good res (.ret v) (RB q s i false):=by subst h;exact⟨rfl,i,hi,rfl⟩
theorem Yad{q:Ref}{s t:List UInt8}{good:A->Prop}{v:A}{res:Res A}{i:Int}(h:res=.bad t)(hg:good v)(hi:At s t i):RAft q s good res (.ret v) (RB q s i true):=by subst h;exact⟨v,i,hg,hi,rfl,rfl⟩
def i64A(n:Nat):A:=.d (.lit (.int .i64 n))
theorem c52t{q:Ref}{s t:List UInt8}{i:Int}{c:Nat}(h:At s t i)(hc:hd t=c)(h0:c≠0):Holds Tryz.prog 142 [A.ptr (.up q) 0,A.d (.lit (.int .u8 c))] (RB q s i false) (RetB (boolA true) (RB q s (i+1) false)):=by
 have hn:t≠[]:=Yaf (by omega);have h1:=h.lo;have h2:=h.lt.2 hn;refine w52 s i false c q ⟨?_,?_,fun hf=>?_,fun _=>⟨tle (by omega),tle (by omega),rfl,rfl⟩⟩
 ·simp only[Zwb,Bool.false_or,Bool.or_eq_true,decide_eq_true_eq];omega
 ·simp only[Zwb,Bool.false_or,Bool.or_eq_true,decide_eq_true_eq];omega
 ·rw[h.byte hn]at hf;simp only[Zwb,Bool.false_or,Bool.or_eq_true,decide_eq_true_eq,Bool.not_eq_true',beq_eq_false_iff_ne]at hf;omega
theorem c52f{q:Ref}{s t:List UInt8}{i:Int}{c:Nat}(h:At s t i)(hc:hd t≠c):Holds Tryz.prog 142 [A.ptr (.up q) 0,A.d (.lit (.int .u8 c))] (RB q s i false) (RetB (boolA false) (RB q s i false)):=by
 have h1:=h.lo;refine w52 s i false c q ⟨?_,?_,fun _=>⟨rfl,rfl⟩,fun hf=>?_⟩
 ·simp only[Zwb,Bool.false_or,Bool.or_eq_true,decide_eq_true_eq];omega
 ·simp only[Zwb,Bool.false_or,Bool.or_eq_true,decide_eq_true_eq];omega
 ·simp only[Zwb,Bool.false_or,Bool.or_eq_false_iff,decide_eq_false_iff_not,Bool.not_eq_false',beq_iff_eq]at hf;have hn:t≠[]:=h.lt.1 (by omega);rw[h.byte hn]at hf;omega
theorem c52x{q:Ref}{s:List UInt8}{i:Int}{c:Nat}:Holds Tryz.prog 142 [A.ptr (.up q) 0,A.d (.lit (.int .u8 c))] (RB q s i true) (RetB (boolA false) (RB q s i true)):=by
 refine w52 s i true c q ⟨rfl,rfl,fun _=>⟨rfl,rfl⟩,fun hf=>?_⟩;rw[Bool.true_or,Bool.true_or]at hf;cases hf
theorem c67{q:Ref}{s t:List UInt8}{i:Int}(h:At s t i):Holds Tryz.prog 151 [A.ptr (.up q) 0] (RB q s i false) (RetB (boolA (decide (t≠[]))) (RB q s i false)):=by
 refine w67 s i false q ⟨?_,rfl⟩;have e:(decide (i<(s.length:Int)))=decide (t≠[]):=decide_eq_decide.2 h.lt;simp only[Zwb,Bool.not_false,Bool.true_and,e];rfl
theorem c67x{q:Ref}{s:List UInt8}{i:Int}:Holds Tryz.prog 151 [A.ptr (.up q) 0] (RB q s i true) (RetB (boolA false) (RB q s i true)):=w67 s i true q ⟨rfl,rfl⟩
theorem c67r{q:Ref}{s t:List UInt8}{i:Int}(h:At s t i):∀_:Nat->Nat,Holds Tryz.prog 151 [A.ptr (.up q) 0] (RB q s i false) (Zpq (RB q s i false) (boolA (decide (t≠[])))):=fun _=>c67 h
theorem Yfu(x:Nat)(h:x<256):∀_:Nat->Nat,Holds Tryz.prog 184 [A.d (.lit (.int .u8 x))] [] (Zpq [] (.d (.lit (.int .i64 (optI (hexV x)))))):=fun _=>c103 x h
theorem c53(k:Int)(l:List Rx):Holds Tryz.prog 143 [A.d (.lit (.int .i64 k)),A.d (.slc (encs l))] [] (Ret (encA (Yd2 k l))):=by
 refine w53 k (encs l) ⟨fun h=>?_,fun h=>?_⟩
 ·have h:=of_teq h;simp only[Yas]at h
  match l,h with
  |[r],_=>
   have e:gAt (encs [r]) 0=enc r:=rfl;rw[e];exact⟨tlt (by simp),teq (by simp),rfl,rfl⟩
 ·have h:=of_feq h;simp only[Yas]at h
  match l,h with
  |[],_=>exact⟨rfl,rfl⟩
  |[r],h=>exact absurd rfl h
  |_::_::_,_=>exact⟨rfl,rfl⟩
def Yid(v:A):Prop:=v=i64A 0
theorem c95{q:Ref}{s t:List UInt8}{i:Int}(lo:Nat)(h:At s t i):Holds Tryz.prog 176 [A.ptr (.up q) 0,A.d (.lit (.int .i64 lo))] (RB q s i false) (RAft q s Yid ((hexR lo t).map i64A)):=by
 have hlo:=h.lo;have hx:=Yb7 t;have hy:=Yb7 t.tail;refine w95 s i false lo q ⟨_,c67r h,?_,?_,fun hm=>?_,fun hm=>?_⟩
 ·simp only[Zwb,Bool.or_eq_true,decide_eq_true_eq];exact .inr hlo.1
 ·cases hd:decide (t≠[])with
  |false=>rfl
  |true=>exact tlt (h.lt.2 (of_decide_eq_true hd))
 ·have hn:t≠[]:=of_decide_eq_true hm;have hlt:=h.lt.2 hn;have h':=h.next hn
  have hlo':=h'.lo;rw[h.byte hn];refine⟨_,Yfu _ hx,?_,?_,fun hp=>?_,fun hp=>?_⟩
  ·simp only[Zwb,Bool.or_eq_true,decide_eq_true_eq];exact .inr hlo.1
  ·simp only[Zwb,Bool.or_eq_true,decide_eq_true_eq];exact .inr hlt
  ·cases hv:hexV (hd t)with
   |none=>rw[hv]at hp;cases hp
   |some d=>
    have h1:=Ybo hv;have e1:optI (some d)=(d:Nat):=rfl;refine⟨(d:Nat),fun ν=>by have:=Yfu _ hx ν;rw[hv]at this;exact this,tle (by omega),tle (by omega),tle (by omega),tle (by omega),fun hl=>?_,fun hl=>⟨tle (by omega),tlt (by omega),call1 (c103 _ hx) ⟨(d:Nat),by rw[hv];rfl,rfl,tle (by omega),tle (by omega),tle (by omega),tle (by omega),_,c67r h',?_,?_,fun hm2=>?_,fun hm2=>?_⟩⟩⟩
    ·have hl:=of_tlt hl;refine Yad (t:=t) ?_ rfl h;unfold hexR;rw[hv];dsimp only;rw[if_pos (by omega)];rfl
    ·simp only[Zwb,Bool.or_eq_true,decide_eq_true_eq];exact .inr hlo'.1
    ·cases hd:decide (t.tail≠[])with
     |false=>rfl
     |true=>exact tlt (h'.lt.2 (of_decide_eq_true hd))
    ·have hl:=of_flt hl;have hn2:t.tail≠[]:=of_decide_eq_true hm2;have hlt2:=h'.lt.2 hn2;have h'':=h'.next hn2
     have hlo'':=h''.lo;rw[h'.byte hn2];refine⟨_,Yfu _ hy,?_,?_,fun hp2=>?_,fun hp2=>?_⟩
     ·simp only[Zwb,Bool.or_eq_true,decide_eq_true_eq];exact .inr hlo'.1
     ·simp only[Zwb,Bool.or_eq_true,decide_eq_true_eq];exact .inr hlt2
     ·cases hv2:hexV (hd t.tail)with
      |none=>rw[hv2]at hp2;cases hp2
      |some e=>
       have h3:=Ybo hv2;have ei:i+1+1-1=i+1:=by omega
       rw[ei,h'.byte hn2];refine⟨(e:Nat),fun ν=>by have:=Yfu _ hy ν;rw[hv2]at this;exact this,tle (by omega),tle (by omega),fun hl2=>?_,fun hl2=>⟨tle (by omega),tle (by omega),tle (by omega),tle (by omega),tle (by omega),tlt (by omega),(e:Nat),fun ν=>by have:=Yfu _ hy ν;rw[hv2]at this;exact this,tle (by omega),tle (by omega),?_⟩⟩
       ·have hl2:=of_tlt hl2;refine Yad (t:=t.tail) ?_ rfl h';unfold hexR;rw[hv];dsimp only;rw[if_neg (by omega),hv2];dsimp only;rw[if_pos (by omega)];rfl
       ·have hl2:=of_flt hl2;refine Yaj (t:=t.tail.tail) ?_ h'';unfold hexR;rw[hv];dsimp only;rw[if_neg (by omega),hv2];dsimp only;rw[if_neg (by omega)];show Res.ok _ _=_;unfold i64A
        congr 4
     ·cases hv2:hexV (hd t.tail)with
      |some e=>rw[hv2]at hp2;have hp2:(!(tB (decide (((e:Nat):Int)<0))))=false:=hp2;simp at hp2;omega
      |none=>
       refine Yad (t:=t.tail) ?_ rfl h';unfold hexR;rw[hv];dsimp only;rw[if_neg (by omega),hv2];rfl
    ·have hl:=of_flt hl;have hn2:t.tail=[]:=by simpa using hm2
     refine Yad (t:=t.tail) ?_ rfl h';unfold hexR;rw[hv];dsimp only;rw[if_neg (by omega),hn2];rfl
  ·cases hv:hexV (hd t)with
   |some d=>rw[hv]at hp;have hp:(!(tB (decide (((d:Nat):Int)<0))))=false:=hp;simp at hp;omega
   |none=>
    refine Yad (t:=t) ?_ rfl h;unfold hexR;rw[hv];rfl
 ·have hn:t=[]:=by simpa using hm
  subst hn;exact Yad (t:=[]) rfl rfl h
theorem Yc2{x:Nat}(h:x<256):(tB (decide ((-9223372036854775808:Int)<=(x:Int))))=true/\(tB (decide ((x:Int)<=(9223372036854775807:Int))))=true:=⟨tle (by omega),tle (by omega)⟩
def escM(lo:Nat)(t:List UInt8):Option Nat->Res Nat|none=>.bad t|some n=>if n<lo then .bad t else .ok n t.tail
theorem Ydq{t:List UInt8}(h:hd t≠120)(lo:Nat):escR lo t=escM lo t (escV (hd t)):=by
 unfold escR;rw[if_neg h];cases escV (hd t)<;>rfl
theorem spc3{x:Nat}:((spcV x||(tB ((x:Int)==94)))||(tB ((x:Int)==45)))=(spcV x||x==94||x==45):=by
 have e1:(tB ((x:Int)==94))=(x==94):=by rw[Zwb];exact Bool.eq_iff_iff.2 (by simp;omega)
 have e2:(tB ((x:Int)==45))=(x==45):=by rw[Zwb];exact Bool.eq_iff_iff.2 (by simp;omega)
 rw[e1,e2]
theorem Ydr{x:Nat}(h:(spcV x||x==94||x==45)=true):escV x=some x:=by
 have hc:ctlV x=none:=by
  refine Yd4 ?_ ?_ ?_
  all_goals
   rintro rfl;revert h;decide
 unfold escV;rw[hc];dsimp only;rw[if_pos h]
theorem Yds{x:Nat}(h:(spcV x||x==94||x==45)=false):escV x=ctlV x:=by
 unfold escV;cases ctlV x with
 |some n=>rfl
 |none=>dsimp only;rw[if_neg (by simp[h])]
theorem c98{q:Ref}{s t:List UInt8}{i:Int}(lo:Nat)(h:At s t i):Holds Tryz.prog 179 [A.ptr (.up q) 0,A.d (.lit (.int .i64 lo))] (RB q s i false) (RAft q s Yid ((Ya0 lo t).map i64A)):=by
 have hlo:=h.lo;have hx:=Yb7 t;by_cases hb:hd t=92
 ·have hn:t≠[]:=Yaf (by omega);have h':=h.next hn
  have hlo':=h'.lo;have hy:=Yb7 t.tail;have e:Ya0 lo t=escR lo t.tail:=by unfold Ya0;rw[if_pos hb]
  rw[e];refine w98 s i false lo q (callB (c52t h hb (by decide)) ⟨_,_,_,_,rfl,rfl,fun _=>?_,fun hf=>by cases hf⟩);by_cases hc:hd t.tail=120
  ·have hn':t.tail≠[]:=Yaf (by omega);have e:escR lo t.tail=hexR lo t.tail.tail:=by unfold escR;rw[if_pos hc]
   rw[e];refine callB (c52t h' hc (by decide)) ⟨_,_,_,_,rfl,rfl,fun _=>?_,fun hf=>by cases hf⟩;exact Ycd (c95 lo (h'.next hn')) (fun v t1 i1 e1 hi1=>by obtain⟨n,f1,rfl⟩:=Yam e1;exact⟨_,_,_,_,rfl,rfl,Yaj e1 hi1⟩) (fun v t1 i1 e1 hg hi1=>by cases hg;exact⟨_,_,_,_,rfl,rfl,Yad e1 rfl hi1⟩)
  ·rw[Ydq hc];refine callB (c52f h' hc) ⟨_,_,_,_,rfl,rfl,fun hf=>(by cases hf),fun _=>callB (c67 h') ⟨_,_,_,_,rfl,rfl,fun hm=>?_,fun hm=>?_⟩⟩
   ·have hn':t.tail≠[]:=of_decide_eq_true hm;have h'':=h'.next hn'
    have hlo'':=h''.lo;have hlt:=h'.lt.2 hn';rw[h'.byte hn'];refine⟨tle hlo'.1,tlt hlt,call1 (c97 _ hy) ⟨_,rfl,rfl,call1 (c87 _ hy) ⟨_,rfl,rfl,fun hs=>?_,fun hs=>?_⟩⟩⟩
    ·have hs':(spcV (hd t.tail)||hd t.tail==94||hd t.tail==45)=true:=by rw[<-spc3];exact hs
     refine⟨(Yc2 hy).1,(Yc2 hy).2,fun hl=>⟨tle (by omega),tle (by omega),Yaj (t:=t.tail.tail) ?_ h''⟩,fun hl=>Yad (t:=t.tail) ?_ rfl h'⟩
     ·have hl:=of_tle hl;rw[Ydr hs'];unfold escM;dsimp only;rw[if_neg (by omega)];rfl
     ·have hl:=of_fle hl;rw[Ydr hs'];unfold escM;dsimp only;rw[if_pos (by omega)];rfl
    ·have hs':(spcV (hd t.tail)||hd t.tail==94||hd t.tail==45)=false:=by rw[<-spc3];exact hs
     rw[Yds hs'];refine⟨fun hl=>⟨tle (by omega),tle (by omega),?_⟩,fun hl=>Yad (t:=t.tail) ?_ rfl h'⟩
     ·have hl:=of_tle hl;cases hv:ctlV (hd t.tail)with
      |none=>rw[hv]at hl;have:(lo:Int)<= -1:=hl;omega
      |some n=>
       rw[hv]at hl;have hl:(lo:Int)<=n:=hl;refine Yaj (t:=t.tail.tail) ?_ h'';unfold escM;dsimp only;rw[if_neg (by omega)];rfl
     ·have hl:=of_fle hl;cases hv:ctlV (hd t.tail)with
      |none=>rfl
      |some n=>
       rw[hv]at hl;have hl:(n:Int)<lo:=hl;unfold escM;dsimp only;rw[if_pos (by omega)];rfl
   ·have hn':t.tail=[]:=by simpa using hm
    refine Yad (t:=t.tail) ?_ rfl h';rw[hn'];rfl
 ·have e:Ya0 lo t=if hd t<32\/126<hd t\/hd t<lo\/(spcV (hd t)||hd t==94||hd t==45)=true then .bad t else .ok (hd t) t.tail:=by unfold Ya0;rw[if_neg hb]
  rw[e];refine w98 s i false lo q (callB (c52f h hb) ⟨_,_,_,_,rfl,rfl,fun hf=>(by cases hf),fun _=>callB (c67 h) ⟨_,_,_,_,rfl,rfl,fun hm=>?_,fun hm=>?_⟩⟩)
  ·have hn:t=[]:=by simpa using hm
   subst hn;exact Yad (t:=[]) (by rw[if_pos (.inl (by decide))];rfl) rfl h
  ·have hn:t≠[]:=by simpa using hm
   have hlt:=h.lt.2 hn;have h':=h.next hn
   have hlo':=h'.lo;rw[h.byte hn];refine⟨tle hlo.1,tlt hlt,fun hr=>?_,fun hr=>?_⟩
   ·simp only[Zwb,Bool.not_eq_true',Bool.or_eq_false_iff,decide_eq_false_iff_not]at hr;refine call1 (c87 _ hx) ⟨_,rfl,rfl,?_,?_,fun hs=>?_,fun hs=>?_⟩
    ·simp only[Bool.or_eq_true];exact .inr (Yc2 hx).1
    ·simp only[Bool.or_eq_true];exact .inr (Yc2 hx).2
    ·refine Yad (t:=t) ?_ rfl h;rw[spc3,Bool.or_eq_true]at hs;rw[if_pos]
     ·rfl
     ·rcases hs with hs|hs
      ·exact .inr (.inr (.inr hs))
      ·have:=of_tlt hs;omega
    ·rw[spc3,Bool.or_eq_false_iff]at hs;have hs2:=of_flt hs.2;refine⟨tle (by omega),tle (by omega),(Yc2 hx).1,(Yc2 hx).2,Yaj (t:=t.tail) ?_ h'⟩;rw[if_neg]
     ·rfl
     ·rintro(h1|h1|h1|h1)
      ·omega
      ·omega
      ·omega
      ·rw[hs.1]at h1;cases h1
   ·simp only[Zwb,Bool.not_eq_false',Bool.or_eq_true,decide_eq_true_eq]at hr;refine Yad (t:=t) ?_ rfl h;rw[if_pos (by omega)];rfl
def Yee(v:A):Prop:=∃r,v=encA r
theorem c85r(lo hi:Nat)(h:hi<256)(hl:lo<256):∀_:Nat->Nat,Holds Tryz.prog 166 [A.d (.lit (.int .i64 lo)),A.d (.lit (.int .i64 hi))] [] (Zpq [] (.agg (row4 (rng lo hi)))):=fun _=>c85' lo hi h hl
theorem c86{q:Ref}{s t:List UInt8}{i:Int}(n:Nat)(res:Res Rx)(hr:setR n t=some res)(h:At s t i):Holds Tryz.prog 167 [A.ptr (.up q) 0] (RB q s i false) (RAft q s Yee (res.map encA)):=by
 have hlo:=h.lo;by_cases h93:hd t=93
 ·have hn:t≠[]:=Yaf (by omega);unfold setR at hr;rw[if_neg (by omega),if_pos h93]at hr;cases hr;exact w86 s i false q (callB (c52t h h93 (by decide)) ⟨_,_,_,_,rfl,rfl,fun _=>Yaj rfl (h.next hn),fun hf=>by cases hf⟩)
 ·refine w86 s i false q (callB (c52f h h93) ⟨_,_,_,_,rfl,rfl,fun hf=>(by cases hf),fun _=>?_⟩)
  obtain⟨neg,t0,i0,hat0,hr0,hcall⟩:∃neg t0 i0,At s t0 i0/\setL n neg no t0=some res/\Holds Tryz.prog 142 [A.ptr (.up (.up q)) 0,A.d (.lit (.int .u8 (94:Int)))] (RB (.up q) s i false) (RetB (boolA neg) (RB (.up q) s i0 false)):=by
   by_cases h94:hd t=94
   ·have hn:t≠[]:=Yaf (by omega);refine⟨true,t.tail,i+1,h.next hn,?_,c52t h h94 (by decide)⟩
    unfold setR at hr;rw[if_pos h94]at hr;exact hr
   ·refine⟨false,t,i,h,?_,c52f h h94⟩;unfold setR at hr;rw[if_neg h94,if_neg h93]at hr;exact hr
  refine callB hcall ⟨_,_,_,_,rfl,rfl,?_⟩;refine⟨fun a0 a1 a2 a3 s' i' b=>∃p t',s'=s/\a0=.lit (.int .u64 (wd p 0))/\a1=.lit (.int .u64 (wd p 1))/\a2=.lit (.int .u64 (wd p 2))/\a3=.lit (.int .u64 (wd p 3))/\At s t' i'/\(if b then res=.bad t' else∃n,setL n neg p t'=some res),fun _ _ _ _ s' i' b=>if b then 0 else((s'.length:Int)-i').toNat+1,⟨no,t0,rfl,by simp[Ycg],by simp[Ycg],by simp[Ycg],by simp[Ycg],hat0,⟨n,hr0⟩⟩,?_,trivial⟩
  rintro a0 a1 a2 a3 s' i' b ⟨p,t',rfl,rfl,rfl,rfl,rfl,hat,hrun⟩;cases b with
  |true=>
   have hrun:res=.bad t':=hrun;refine⟨fun hf=>(by cases hf),fun _=>⟨fun hneg=>call1 (c100 p) ⟨_,rfl,rfl,rfl,Yad (t:=t') (by rw[hrun];rfl) ⟨setX fun i=>!p i,rfl⟩ hat⟩,fun hneg=>Yad (t:=t') (by rw[hrun];rfl) ⟨setX p,rfl⟩ hat⟩⟩
  |false=>
   obtain⟨m,hrun⟩:=hrun
   have go:∀lo t1 i1,Ya0 0 t'=.ok lo t1->At s' t1 i1-> ∀hi t3 i3,hiR lo t1=.ok hi t3->At s' t3 i3->
    (∃neg',negP neg (orP p (rng lo hi))=negP neg' (orP p (rng lo hi))/\neg'=neg)/\(hd t3=93->res=.ok (setX (negP neg (orP p (rng lo hi)))) t3.tail)/\(hd t3≠93-> ∃n,setL n neg (orP p (rng lo hi)) t3=some res)/\((s'.length:Int)-i3).toNat<((s'.length:Int)-i').toNat:=fun lo t1 i1 e1 h1 hi t3 i3 e2 h2=>by
    obtain⟨m,hm⟩:=Yct hrun e1 e2;refine⟨⟨neg,rfl,rfl⟩,fun h9=>?_,fun h9=>⟨m,?_⟩,SetI.lt hat h2 ?_⟩
    ·unfold setC at hm;rw[if_pos h9]at hm;cases hm;rfl
    ·unfold setC at hm;rw[if_neg h9]at hm;exact hm
    ·have hl1:=Ybx 0 t';rw[e1]at hl1;have hl2:=Yd3 lo t1;rw[e2]at hl2;have:=hl1.1;have:=List.IsSuffix.length_le hl2;omega
   refine⟨fun _=>?_,fun hf=>by cases hf⟩;refine Ycd (c98 0 hat) (fun v t1 i1 e1 hi1=>?_) (fun v t1 i1 e1 hg hi1=>?_)
   ·obtain⟨lo,f1,rfl⟩:=Yam e1;have hlo8:=Yay 0 f1;refine⟨_,_,_,_,rfl,rfl,?_⟩;by_cases h45:hd t1=45
    ·have hn1:t1≠[]:=Yaf (by omega);have eh:hiR lo t1=Ya0 lo t1.tail:=by unfold hiR;rw[if_pos h45]
     refine callB (c52t hi1 h45 (by decide)) ⟨_,_,_,_,rfl,rfl,fun _=>?_,fun hf=>by cases hf⟩;refine Ycd (c98 lo (hi1.next hn1)) (fun v t3 i3 e3 hi3=>?_) (fun v t3 i3 e3 hg hi3=>?_)
     ·obtain⟨hi,f3,rfl⟩:=Yam e3;obtain⟨_,g1,g2,g3⟩:=go lo t1 i1 f1 hi1 hi t3 i3 (by rw[eh,f3]) hi3;refine⟨_,_,_,_,rfl,rfl,fun _=>⟨_,c85r lo hi (Yay _ f3) hlo8,call1 (c99' p (rng lo hi)) ⟨_,rfl,rfl,rfl,?_⟩⟩,fun hf=>by cases hf⟩;by_cases h9:hd t3=93
      ·have hn3:t3≠[]:=Yaf (by omega);refine callB (c52t hi3 h9 (by decide)) ⟨_,_,_,_,rfl,rfl,fun _=>⟨fun hneg=>call1 (c100 _) ⟨_,rfl,rfl,rfl,?_⟩,fun hneg=>?_⟩,fun hf=>by cases hf⟩
       ·exact Yaj (by rw[g1 h9,hneg];rfl) (hi3.next hn3)
       ·exact Yaj (by rw[g1 h9,hneg];rfl) (hi3.next hn3)
      ·exact callB (c52f hi3 h9) ⟨_,_,_,_,rfl,rfl,fun hf=>(by cases hf),fun _=>⟨⟨orP p (rng lo hi),t3,rfl,rfl,rfl,rfl,rfl,hi3,g2 h9⟩,Nat.succ_lt_succ g3⟩⟩
     ·have f3:=Yal e3;cases hg;have:=Ycv hrun f1 (by rw[eh,f3]);refine⟨_,_,_,_,rfl,rfl,fun hf=>(by cases hf),fun _=>callB c52x ⟨_,_,_,_,rfl,rfl,fun hf=>(by cases hf),fun _=>⟨⟨p,t3,rfl,rfl,rfl,rfl,rfl,hi3,this⟩,Nat.succ_pos _⟩⟩⟩
    ·have eh:hiR lo t1=.ok lo t1:=by unfold hiR;rw[if_neg h45]
     obtain⟨_,g1,g2,g3⟩:=go lo t1 i1 f1 hi1 lo t1 i1 eh hi1;refine callB (c52f hi1 h45) ⟨_,_,_,_,rfl,rfl,fun hf=>(by cases hf),fun _=>⟨fun _=>⟨_,c85r lo lo hlo8 hlo8,call1 (c99' p (rng lo lo)) ⟨_,rfl,rfl,rfl,?_⟩⟩,fun hf=>by cases hf⟩⟩;by_cases h9:hd t1=93
     ·have hn3:t1≠[]:=Yaf (by omega);refine callB (c52t hi1 h9 (by decide)) ⟨_,_,_,_,rfl,rfl,fun _=>⟨fun hneg=>call1 (c100 _) ⟨_,rfl,rfl,rfl,?_⟩,fun hneg=>?_⟩,fun hf=>by cases hf⟩
      ·exact Yaj (by rw[g1 h9,hneg];rfl) (hi1.next hn3)
      ·exact Yaj (by rw[g1 h9,hneg];rfl) (hi1.next hn3)
     ·exact callB (c52f hi1 h9) ⟨_,_,_,_,rfl,rfl,fun hf=>(by cases hf),fun _=>⟨⟨orP p (rng lo lo),t1,rfl,rfl,rfl,rfl,rfl,hi1,g2 h9⟩,Nat.succ_lt_succ g3⟩⟩
   ·have f1:=Yal e1;cases hg;have:=Ycu hrun f1;refine⟨_,_,_,_,rfl,rfl,callB c52x ⟨_,_,_,_,rfl,rfl,fun hf=>(by cases hf),fun _=>⟨fun hf=>(by cases hf),fun _=>callB c52x ⟨_,_,_,_,rfl,rfl,fun hf=>(by cases hf),fun _=>⟨⟨p,t1,rfl,rfl,rfl,rfl,rfl,hi1,this⟩,Nat.succ_pos _⟩⟩⟩⟩⟩
end Go.Rx
end
section
open Go Go.Proofs Go.Ab Go.Rf
set_option maxRecDepth 100000
namespace Go.Rx
def escX(t:List UInt8):Res Rx:=match clsV (hd t)with
 |some p=>.ok (setX p) t.tail
 |none=>match escR 0 t with
  |.bad q=>.bad q
  |.ok c t1=>.ok (oneX c) t1
theorem Ygj{x:Nat}(h:(spcV x||x==94||x==45)=true):clsV x=none:=by
 have h1:x≠100:=by rintro rfl;revert h;decide
 have h2:x≠119:=by rintro rfl;revert h;decide
 have h3:x≠115:=by rintro rfl;revert h;decide
 unfold clsV;rw[if_neg h1,if_neg h2,if_neg h3]
theorem Ygk{x n:Nat}(h:ctlV x=some n):clsV x=none:=by
 unfold ctlV at h;unfold clsV;split at h
 ·rename_i e;subst e;rfl
 ·split at h
  ·rename_i e;subst e;rfl
  ·split at h
   ·rename_i e;subst e;rfl
   ·cases h
theorem Yhl{x n:Nat}(h:ctlV x=some n):n<256:=by
 unfold ctlV at h
 repeat' split at h
 all_goals first|cases h;decide|cases h
theorem Yhm(lo:Nat){t t':List UInt8}{n:Nat}(h:hexR lo t=.ok n t'):n<256:=by
 have:Ya0 lo (92::120::t)=.ok n t':=by
  unfold Ya0;rw[if_pos (by rfl)];unfold escR;rw[if_pos (by rfl)];exact h
 exact Yay lo this
theorem Yfv{x n:Nat}(h:ctlV x=some n):(spcV x||x==94||x==45)=false:=by
 unfold ctlV at h;split at h
 ·rename_i e;subst e;decide
 ·split at h
  ·rename_i e;subst e;decide
  ·split at h
   ·rename_i e;subst e;decide
   ·cases h
theorem Ygy(t:List UInt8)(n:Nat):escM 0 t (some n)=.ok n t.tail:=by unfold escM;dsimp only;rw[if_neg (by omega)]
theorem c84{q:Ref}{s t:List UInt8}{i:Int}(h:At s t i):Holds Tryz.prog 165 [A.ptr (.up q) 0] (RB q s i false) (RAft q s Yee ((escX t).map encA)):=by
 have hlo:=h.lo;have hx:=Yb7 t;by_cases h120:hd t=120
 ·have hn:t≠[]:=Yaf (by omega)
  have ex:escX t=match hexR 0 t.tail with|.bad q=>.bad q|.ok c t1=>.ok (oneX c) t1:=by
   unfold escX;rw[show clsV (hd t)=none by rw[h120];rfl];unfold escR;rw[if_pos h120]
  rw[ex];refine w84 s i false q (callB (c52t h h120 (by decide)) ⟨_,_,_,_,rfl,rfl,fun _=>?_,fun hf=>by cases hf⟩);refine Ycd (c95 0 (h.next hn)) (fun v t1 i1 e1 hi1=>?_) (fun v t1 i1 e1 hg hi1=>?_)
  ·obtain⟨n,f1,rfl⟩:=Yam e1;have hu:=Yhm 0 f1;exact⟨_,_,_,_,rfl,rfl,call1 (c85' n n hu hu) ⟨_,rfl,rfl,rfl,Yaj (by rw[f1];rfl) hi1⟩⟩
  ·have f1:=Yal e1;cases hg;exact⟨_,_,_,_,rfl,rfl,call1 (c85' 0 0 (by decide) (by decide)) ⟨_,rfl,rfl,rfl,Yad (by rw[f1];rfl) ⟨setX (rng 0 0),rfl⟩ hi1⟩⟩
 ·refine w84 s i false q (callB (c52f h h120) ⟨_,_,_,_,rfl,rfl,fun hf=>(by cases hf),fun _=>callB (c67 h) ⟨_,_,_,_,rfl,rfl,fun hm=>?_,fun hm=>?_⟩⟩)
  ·have hn:t≠[]:=of_decide_eq_true hm;have hlt:=h.lt.2 hn;have h':=h.next hn
   have hlo':=h'.lo;rw[h.byte hn];refine⟨tle hlo.1,tlt hlt,call1 (c96 _ hx) ⟨_,_,rfl,rfl,rfl,call1 (c97 _ hx) ⟨_,rfl,rfl,fun hc=>?_,fun hc=>?_⟩⟩⟩
   ·cases hv:ctlV (hd t)with
    |none=>rw[hv]at hc;cases hc
    |some n=>
     have hu:=Yhl hv
     have ex:escX t=.ok (oneX n) t.tail:=by
      unfold escX;rw[Ygk hv,Ydq h120,Yds (Yfv hv),hv,Ygy]
     rw[ex];refine call1 (c85' n n hu hu) ⟨_,rfl,rfl,rfl,call1 (c87 _ hx) ⟨_,rfl,rfl,fun hs=>?_,fun hs=>?_⟩⟩
     ·rw[spc3,Yfv hv]at hs;cases hs
     ·exact⟨tle (by omega),tle (by omega),Yaj rfl h'⟩
   ·have hv:ctlV (hd t)=none:=by
     cases hv:ctlV (hd t)with
     |none=>rfl
     |some n=>rw[hv]at hc;have:=of_fle hc;have e:optI (some n)=(n:Int):=rfl;rw[e]at this;omega
    refine call1 (c87 _ hx) ⟨_,rfl,rfl,fun hs=>?_,fun hs=>?_⟩
    ·rw[spc3]at hs
     have ex:escX t=.ok (oneX (hd t)) t.tail:=by
      unfold escX;rw[Ygj hs,Ydq h120,Ydr hs,Ygy]
     rw[ex];exact⟨(Yc2 hx).1,(Yc2 hx).2,call1 (c85' _ _ hx hx) ⟨_,rfl,rfl,rfl,tle (by omega),tle (by omega),Yaj rfl h'⟩⟩
    ·rw[spc3]at hs;refine⟨fun hcl=>?_,fun hcl=>?_⟩
     ·cases hcv:clsV (hd t)with
      |none=>rw[hcv]at hcl;cases hcl
      |some p=>
       have ex:escX t=.ok (setX p) t.tail:=by unfold escX;rw[hcv]
       rw[ex];exact⟨tle (by omega),tle (by omega),Yaj rfl h'⟩
     ·cases hcv:clsV (hd t)with
      |some p=>rw[hcv]at hcl;cases hcl
      |none=>
       have ex:escX t=.bad t:=by
        unfold escX;rw[hcv,Ydq h120,Yds hs,hv];rfl
       rw[ex];exact Yad rfl ⟨mk0 0 [],rfl⟩ h
  ·have hn:t=[]:=by simpa using hm
   subst hn;exact Yad (t:=[]) rfl ⟨mk0 0 [],rfl⟩ h
def L39(n:Nat):Prop:=∀(q:Ref)(s t:List UInt8)(i:Int)(res:Res Rx),alts n t=some res->At s t i->Holds Tryz.prog 130 [A.ptr (.up q) 0] (RB q s i false) (RAft q s Yee (res.map encA))
def L51(n:Nat):Prop:=∀(q:Ref)(s t:List UInt8)(i:Int)(res:Res Rx),seqs n t=some res->At s t i->Holds Tryz.prog 141 [A.ptr (.up q) 0] (RB q s i false) (RAft q s Yee (res.map encA))
def L66(n:Nat):Prop:=∀(q:Ref)(s t:List UInt8)(i:Int)(res:Res Rx),Ybd n t=some res->At s t i->Holds Tryz.prog 150 [A.ptr (.up q) 0] (RB q s i false) (RAft q s Yee (res.map encA))
def L74(n:Nat):Prop:=∀(q:Ref)(s t:List UInt8)(i:Int)(res:Res Rx),atom n t=some res->At s t i->Holds Tryz.prog 155 [A.ptr (.up q) 0] (RB q s i false) (RAft q s Yee (res.map encA))
theorem c74{n:Nat}(K:L39 n):L74 (n+1):=by
 intro q s t i res hr h;have hlo:=h.lo;have hx:=Yb7 t;unfold atom at hr;by_cases h92:hd t=92
 ·have hn:t≠[]:=Yaf (by omega);rw[if_neg (by omega),if_neg (by omega),if_neg (by omega),if_pos h92]at hr
  have e:res=escX t.tail:=by
   unfold escX;cases hcl:clsV (hd t.tail)with
   |some p=>rw[hcl]at hr;cases hr;rfl
   |none=>
    rw[hcl]at hr;dsimp only at hr⊢;cases hes:escR 0 t.tail with
    |ok c t1=>rw[hes]at hr;cases hr;rfl
    |bad q=>rw[hes]at hr;cases hr;rfl
  subst e;refine w74 s i false q (callB (c52t h h92 (by decide)) ⟨_,_,_,_,rfl,rfl,fun _=>?_,fun hf=>by cases hf⟩);exact Ycd (c84 (h.next hn)) (fun v t1 i1 e1 hi1=>by obtain⟨r,f1,rfl⟩:=Yam e1;exact⟨_,_,_,_,rfl,rfl,teq6 r,Yaj e1 hi1⟩) (fun v t1 i1 e1 hg hi1=>by obtain⟨r,rfl⟩:=hg;exact⟨_,_,_,_,rfl,rfl,teq6 r,Yad e1 ⟨r,rfl⟩ hi1⟩)
 refine w74 s i false q (callB (c52f h h92) ⟨_,_,_,_,rfl,rfl,fun hf=>(by cases hf),fun _=>?_⟩);by_cases h46:hd t=46
 ·have hn:t≠[]:=Yaf (by omega);rw[if_neg (by omega),if_neg (by omega),if_pos h46]at hr;cases hr;exact callB (c52t h h46 (by decide)) ⟨_,_,_,_,rfl,rfl,fun _=>call1 (c85' 0 255 (by decide) (by decide)) ⟨_,rfl,rfl,rfl,Yaj rfl (h.next hn)⟩,fun hf=>by cases hf⟩
 refine callB (c52f h h46) ⟨_,_,_,_,rfl,rfl,fun hf=>(by cases hf),fun _=>?_⟩;by_cases h91:hd t=91
 ·have hn:t≠[]:=Yaf (by omega);rw[if_neg (by omega),if_pos h91]at hr;refine callB (c52t h h91 (by decide)) ⟨_,_,_,_,rfl,rfl,fun _=>?_,fun hf=>by cases hf⟩;exact Ycd (c86 n res hr (h.next hn)) (fun v t1 i1 e1 hi1=>by obtain⟨r,f1,rfl⟩:=Yam e1;exact⟨_,_,_,_,rfl,rfl,teq6 r,Yaj e1 hi1⟩) (fun v t1 i1 e1 hg hi1=>by obtain⟨r,rfl⟩:=hg;exact⟨_,_,_,_,rfl,rfl,teq6 r,Yad e1 ⟨r,rfl⟩ hi1⟩)
 refine callB (c52f h h91) ⟨_,_,_,_,rfl,rfl,fun hf=>(by cases hf),fun _=>?_⟩;by_cases h40:hd t=40
 ·have hn:t≠[]:=Yaf (by omega);have h':=h.next hn
  rw[if_pos h40]at hr;refine callB (c52t h h40 (by decide)) ⟨_,_,_,_,rfl,rfl,fun _=>?_,fun hf=>by cases hf⟩;by_cases h41:hd t.tail=41
  ·have hn':t.tail≠[]:=Yaf (by omega);rw[if_pos h41]at hr;cases hr;exact callB (c52t h' h41 (by decide)) ⟨_,_,_,_,rfl,rfl,fun _=>Yaj rfl (h'.next hn'),fun hf=>by cases hf⟩
  ·rw[if_neg h41]at hr;refine callB (c52f h' h41) ⟨_,_,_,_,rfl,rfl,fun hf=>(by cases hf),fun _=>?_⟩;cases ha:alts n t.tail with
   |none=>rw[ha]at hr;cases hr
   |some ra=>
    rw[ha]at hr;refine Ycd (K (.up q) s t.tail (i+1) ra ha h') (fun v t1 i1 e1 hi1=>?_) (fun v t1 i1 e1 hg hi1=>?_)
    ·obtain⟨r,f1,rfl⟩:=Yam e1;subst f1;cases hr;refine⟨_,_,_,_,rfl,rfl,teq6 r,?_⟩;by_cases hc:hd t1=41
     ·have hn1:t1≠[]:=Yaf (by omega);exact callB (c52t hi1 hc (by decide)) ⟨_,_,_,_,rfl,rfl,fun hf=>(by cases hf),fun _=>Yaj (by unfold Ycf;rw[if_pos hc];rfl) (hi1.next hn1)⟩
     ·exact callB (c52f hi1 hc) ⟨_,_,_,_,rfl,rfl,fun _=>Yad (by unfold Ycf;rw[if_neg hc];rfl) ⟨r,rfl⟩ hi1,fun hf=>by cases hf⟩
    ·have f1:=Yal e1;subst f1;cases hr;obtain⟨r,rfl⟩:=hg;exact⟨_,_,_,_,rfl,rfl,teq6 r,callB c52x ⟨_,_,_,_,rfl,rfl,fun _=>Yad rfl ⟨r,rfl⟩ hi1,fun hf=>by cases hf⟩⟩
 rw[if_neg h40,if_neg h91,if_neg h46,if_neg h92]at hr;refine callB (c52f h h40) ⟨_,_,_,_,rfl,rfl,fun hf=>(by cases hf),fun _=>⟨_,c67r h,?_⟩⟩;by_cases hn:t=[]
 ·subst hn;rw[if_pos (.inl (by decide))]at hr;cases hr;exact⟨rfl,rfl,rfl,rfl,rfl,rfl,fun hf=>(by cases hf),fun _=>Yad rfl ⟨mk0 0 [],rfl⟩ h⟩
 ·have hlt:=h.lt.2 hn;have h':=h.next hn
  have hlo':=h'.lo;have e1:tB (decide (0<=i))=true:=tle hlo.1;have e2:tB (decide (i<(s.length:Int)))=true:=tlt hlt;have ei:i+1-1=i:=by omega
  have ed:(decide (t≠[]))=true:=decide_eq_true hn;rw[e1,e2,ei,h.byte hn,ed];refine⟨rfl,rfl,Bool.or_true _,Bool.or_true _,Bool.or_true _,Bool.or_true _,fun hr2=>?_,fun hr2=>?_⟩
  ·simp only[Zwb,Bool.not_eq_true',Bool.or_eq_false_iff,decide_eq_false_iff_not]at hr2;refine call1 (c87 _ hx) ⟨_,rfl,rfl,fun hs=>?_,fun hs=>?_⟩
   ·rw[if_pos (.inr (.inr hs))]at hr;cases hr;exact Yad rfl ⟨mk0 0 [],rfl⟩ h
   ·rw[if_neg (by rintro(h6|h6|h6)<;>first|omega|(rw[hs]at h6;cases h6))]at hr
    cases hr;exact⟨tle (by omega),tle (by omega),tle (by omega),tle (by omega),tle hlo.1,tlt hlt,(Yc2 hx).1,(Yc2 hx).2,call1 (c85' _ _ hx hx) ⟨_,rfl,rfl,rfl,Yaj rfl h'⟩⟩
  ·simp only[Zwb,Bool.not_eq_false',Bool.or_eq_true,decide_eq_true_eq]at hr2;rw[if_pos (by rcases hr2 with(h6|h6)|h6<;>first|(cases h6;done)|omega)]at hr
   cases hr;exact Yad rfl ⟨mk0 0 [],rfl⟩ h
theorem Yef{q:Ref}{s t:List UInt8}{r:Rx}{res:Res Rx}{i:Int}(h:res=.bad t)(hi:At s t i):RAft q s Yee (res.map encA) (.ret (encA r)) (RB q s i true):=by
 subst h;exact⟨_,i,⟨r,rfl⟩,hi,rfl,rfl⟩
theorem c66{n:Nat}(K:L74 n):L66 (n+1):=by
 intro q s t i res hr h;unfold Ybd at hr;cases ha:atom n t with
 |none=>rw[ha]at hr;cases hr
 |some ra=>
  rw[ha]at hr;have inv:∃I:D->D->D->D->D->D->List UInt8->Int->Bool->Prop,I=fun a b c d e f s' i' fl=>∃r t,s'=s/\[a,b,c,d,e,f]=enc r/\At s t i'/\if fl then res=.bad t else∃m,opsL m r t=some res:=⟨_,rfl⟩
  refine w66 s i false q (Ycd (K (.up q) s t i ra ha h) (fun v t1 i1 e1 hi1=>?_) (fun v t1 i1 e1 hg hi1=>?_))
  rotate_left
  ·have f1:=Yal e1;subst f1;cases hr;obtain⟨r,rfl⟩:=hg;refine⟨_,_,_,_,rfl,rfl,teq6 r,fun a b c d e f s' i' fl=>s'=s/\i'=i1/\fl=true/\[a,b,c,d,e,f]=enc r,fun _ _ _ _ _ _ _ _ _=>0,⟨rfl,rfl,rfl,Yb8 r⟩,?_,trivial⟩;rintro a b c d e f s' i' fl ⟨rfl,rfl,rfl,he⟩;refine⟨fun hf=>(by cases hf),fun _=>?_⟩;rw[he];exact Yef rfl hi1
  ·obtain⟨r,f1,rfl⟩:=Yam e1;subst f1;refine⟨_,_,_,_,rfl,rfl,teq6 r,fun a b c d e f s' i' fl=>∃m r t,s'=s/\fl=false/\[a,b,c,d,e,f]=enc r/\At s t i'/\opsL m r t=some res,fun _ _ _ _ _ _ s' i' _=>((s'.length:Int)-i').toNat,⟨n,r,t1,rfl,rfl,Yb8 r,hi1,hr⟩,?_,trivial⟩;rintro a b c d e f s' i' fl ⟨m,r',t',rfl,rfl,he,hat,hrun⟩;have hlo':=hat.lo;have lt:t'≠[]->((s'.length:Int)-(i'+1)).toNat<((s'.length:Int)-i').toNat:=fun hn=>by have:=hat.lt.2 hn;omega
   refine⟨fun _=>?_,fun hf=>by cases hf⟩;by_cases h0:hd t'=42
   ·have hn:=Yaf (t:=t') (by omega);obtain⟨m',hm⟩:=Ybn hrun (r':=Yem r') (by unfold opX;rw[if_pos h0]);refine callB (c52t hat h0 (by decide)) ⟨_,_,_,_,rfl,rfl,fun _=>⟨⟨m',_,_,rfl,rfl,?_,hat.next hn,hm⟩,lt hn⟩,fun hf=>by cases hf⟩
    rw[he];rfl
   refine callB (c52f hat h0) ⟨_,_,_,_,rfl,rfl,fun hf=>(by cases hf),fun _=>?_⟩;by_cases h1:hd t'=43
   ·have hn:=Yaf (t:=t') (by omega);obtain⟨m',hm⟩:=Ybn hrun (r':=mk0 3 [r',Yem r']) (by unfold opX;rw[if_neg h0,if_pos h1]);refine callB (c52t hat h1 (by decide)) ⟨_,_,_,_,rfl,rfl,fun _=>⟨⟨m',_,_,rfl,rfl,?_,hat.next hn,hm⟩,lt hn⟩,fun hf=>by cases hf⟩
    rw[he];rfl
   refine callB (c52f hat h1) ⟨_,_,_,_,rfl,rfl,fun hf=>(by cases hf),fun _=>?_⟩;by_cases h2:hd t'=63
   ·have hn:=Yaf (t:=t') (by omega);obtain⟨m',hm⟩:=Ybn hrun (r':=mk0 4 [r',mk0 1 []]) (by unfold opX;rw[if_neg h0,if_neg h1,if_pos h2]);refine callB (c52t hat h2 (by decide)) ⟨_,_,_,_,rfl,rfl,fun _=>⟨⟨m',_,_,rfl,rfl,?_,hat.next hn,hm⟩,lt hn⟩,fun hf=>by cases hf⟩
    rw[he];rfl
   refine callB (c52f hat h2) ⟨_,_,_,_,rfl,rfl,fun hf=>(by cases hf),fun _=>?_⟩;have:=Yd5 hrun (by unfold opX;rw[if_neg h0,if_neg h1,if_neg h2]);subst this;rw[he];exact Yaj rfl hat
theorem c51{n:Nat}(K:∀m,m<=n->L66 m):L51 (n+1):=by
 intro q s t i res hr h;unfold seqs at hr;cases ha:Ybd n t with
 |none=>rw[ha]at hr;cases hr
 |some ra=>
  rw[ha]at hr;refine w51 s i false q (Ycd (K n (Nat.le_refl _) (.up q) s t i ra ha h) (fun v t1 i1 e1 hi1=>?_) (fun v t1 i1 e1 hg hi1=>?_))
  rotate_left
  ·have f1:=Yal e1;subst f1;cases hr;obtain⟨r,rfl⟩:=hg;refine⟨_,_,_,_,rfl,rfl,teq6 r,fun x s' i' fl=>s'=s/\i'=i1/\fl=true/\x=encs [r],fun _ _ _ _=>0,⟨rfl,rfl,rfl,rfl⟩,?_,trivial⟩;rintro x s' i' fl ⟨rfl,rfl,rfl,rfl⟩;refine⟨_,fun _=>c67x,rfl,rfl,?_,?_,fun hf=>(by cases hf),fun _=>call1 (c53 3 [r]) ⟨_,rfl,rfl,teq6 _,Yef rfl hi1⟩⟩
   ·exact Bool.or_eq_true_iff.2 (.inr (tle hi1.lo.1))
   ·rfl
  ·obtain⟨r,f1,rfl⟩:=Yam e1;subst f1;have hlt:=(Ya8 n).2.2.2.2.1 _ _ ha;refine⟨_,_,_,_,rfl,rfl,teq6 r,fun x s' i' fl=>∃l t',s'=s/\x=encs l/\At s t' i'/\(if fl then res=.bad t' else l.length+t'.length<=s.length/\ ∃m,seqL m l t'=some res/\m<=n),fun _ s' i' fl=>if fl then 0 else((s'.length:Int)-i').toNat+1,⟨[r],t1,rfl,rfl,hi1,?_,n,hr,Nat.le_refl _⟩,?_,trivial⟩
   ·have:=hlt.1;have:=h.suf.length_le;simp;omega
   ·rintro x s' i' fl ⟨l,t',rfl,rfl,hat,hrun⟩;have hsm:=hat.sm;have hlo':=hat.lo;cases fl with
    |true=>
     have hrun:res=.bad t':=hrun;refine⟨_,fun _=>c67x,rfl,rfl,?_,?_,fun hf=>(by cases hf),fun _=>call1 (c53 3 l) ⟨_,rfl,rfl,teq6 _,Yef hrun hat⟩⟩
     ·exact Bool.or_eq_true_iff.2 (.inr (tle hlo'.1))
     ·rfl
    |false=>
     obtain⟨hl,m,hrun,hm⟩:=hrun
     have done:¬(t'≠[]/\hd t'≠124/\hd t'≠41)->RAft q s' Yee (res.map encA) (.ret (encA (Yd2 3 l))) (RB q s' i' false):=fun hn=>by
      cases m with
      |zero=>simp[seqL]at hrun
      |succ m=>
       unfold seqL at hrun;rw[if_neg hn]at hrun;cases hrun;exact Yaj rfl hat
     by_cases hn:t'=[]
     ·refine⟨_,c67r hat,?_,?_,?_,?_,fun hf=>?_,fun _=>call1 (c53 3 l) ⟨_,rfl,rfl,teq6 _,done fun h=>h.1 hn⟩⟩
      ·rw[decide_eq_false (by simpa using hn)];rfl
      ·rw[decide_eq_false (by simpa using hn)];rfl
      ·rw[decide_eq_false (by simpa using hn)];rfl
      ·rw[decide_eq_false (by simpa using hn)];rfl
      ·rw[decide_eq_false (by simpa using hn)]at hf;cases hf
     ·have hlt:=hat.lt.2 hn;rw[hat.byte hn];have e1:tB (decide (0<=i'))=true:=tle hlo'.1;have e2:tB (decide (i'<(s'.length:Int)))=true:=tlt hlt;refine⟨_,c67r hat,?_,?_,?_,?_,fun hf=>?_,fun hf=>call1 (c53 3 l) ⟨_,rfl,rfl,teq6 _,done ?_⟩⟩
      ·rw[e1];exact Bool.or_true _
      ·rw[e2];exact Bool.or_true _
      ·rw[e1];exact Bool.or_true _
      ·rw[e2];exact Bool.or_true _
      ·have hn3:t'≠[]/\hd t'≠124/\hd t'≠41:=by
        simp only[Zwb,Bool.and_eq_true,Bool.not_eq_true',beq_eq_false_iff_ne]at hf;exact⟨hn,by omega,by omega⟩
       cases m with
       |zero=>simp[seqL]at hrun
       |succ m=>
        unfold seqL at hrun;rw[if_pos hn3]at hrun;cases hb:Ybd m t' with
        |none=>rw[hb]at hrun;cases hrun
        |some rb=>
         rw[hb]at hrun;refine Ycd (K m (by omega) (.up q) s' t' i' rb hb hat) (fun v t2 i2 e2 hi2=>?_) (fun v t2 i2 e2 hg hi2=>?_)
         ·obtain⟨r',f2,rfl⟩:=Yam e2;subst f2;have hlt2:=((Ya8 m).2.2.2.2.1 _ _ hb).1;refine⟨_,_,_,_,rfl,rfl,teq6 r',Yfq r',tle (by simp;omega),tle (by simp;omega),⟨l++[r'],t2,rfl,?_,hi2,by simp;omega,m,hrun,by omega⟩,Nat.succ_lt_succ (SetI.lt hat hi2 hlt2)⟩;show encs l++encs [r']=_;rw[Yaz]
         ·have f2:=Yal e2;subst f2;cases hrun;obtain⟨r',rfl⟩:=hg;have htl:1<=t'.length:=List.length_pos_iff.2 hn;refine⟨_,_,_,_,rfl,rfl,teq6 r',Yfq r',tle (by simp;omega),tle (by simp;omega),⟨l++[r'],t2,rfl,?_,hi2,rfl⟩,Nat.succ_pos _⟩;show encs l++encs [r']=_;rw[Yaz]
      ·rintro⟨_,h1,h2⟩
       have:(decide (t'≠[])&&(!tB (((hd t':Nat):Int)==124))&&!tB (((hd t':Nat):Int)==41))=true:=by
        simp only[Zwb,Bool.and_eq_true,Bool.not_eq_true',beq_eq_false_iff_ne,decide_eq_true_eq];exact⟨⟨hn,by omega⟩,by omega⟩
       rw[this]at hf;cases hf
theorem c39{n:Nat}(K:∀m,m<=n->L51 m):L39 (n+1):=by
 intro q s t i res hr h;unfold alts at hr;cases ha:seqs n t with
 |none=>rw[ha]at hr;cases hr
 |some ra=>
  rw[ha]at hr;refine w39 s i false q (Ycd (K n (Nat.le_refl _) (.up q) s t i ra ha h) (fun v t1 i1 e1 hi1=>?_) (fun v t1 i1 e1 hg hi1=>?_))
  rotate_left
  ·have f1:=Yal e1;subst f1;cases hr;obtain⟨r,rfl⟩:=hg;refine⟨_,_,_,_,rfl,rfl,teq6 r,fun x s' i' fl=>s'=s/\i'=i1/\fl=true/\x=encs [r],fun _ _ _ _=>0,⟨rfl,rfl,rfl,rfl⟩,?_,trivial⟩;rintro x s' i' fl ⟨rfl,rfl,rfl,rfl⟩;exact callB c52x ⟨_,_,_,_,rfl,rfl,fun hf=>(by cases hf),fun _=>call1 (c53 4 [r]) ⟨_,rfl,rfl,teq6 _,Yef rfl hi1⟩⟩
  ·obtain⟨r,f1,rfl⟩:=Yam e1;subst f1;have hlt:=(Ya8 n).2.2.1 _ _ ha;refine⟨_,_,_,_,rfl,rfl,teq6 r,fun x s' i' fl=>∃l t',s'=s/\x=encs l/\At s t' i'/\(if fl then res=.bad t' else l.length+t'.length<=s.length/\ ∃m,altL m l t'=some res/\m<=n),fun _ s' i' fl=>if fl then 0 else((s'.length:Int)-i').toNat+1,⟨[r],t1,rfl,rfl,hi1,?_,n,hr,Nat.le_refl _⟩,?_,trivial⟩
   ·have:=hlt.1;have:=h.suf.length_le;simp;omega
   ·rintro x s' i' fl ⟨l,t',rfl,rfl,hat,hrun⟩;have hsm:=hat.sm;have hlo':=hat.lo;cases fl with
    |true=>
     have hrun:res=.bad t':=hrun;exact callB c52x ⟨_,_,_,_,rfl,rfl,fun hf=>(by cases hf),fun _=>call1 (c53 4 l) ⟨_,rfl,rfl,teq6 _,Yef hrun hat⟩⟩
    |false=>
     obtain⟨hl,m,hrun,hm⟩:=hrun;cases m with
     |zero=>simp[altL]at hrun
     |succ m=>
      unfold altL at hrun;by_cases h1:hd t'=124
      ·have hn:t'≠[]:=Yaf (by omega)
       have hnl:t'.tail.length+1=t'.length:=by cases t' with
        |nil=>exact absurd rfl hn
        |cons c t=>simp
       rw[if_pos h1]at hrun;refine callB (c52t hat h1 (by decide)) ⟨_,_,_,_,rfl,rfl,fun _=>?_,fun hf=>by cases hf⟩;cases hb:seqs m t'.tail with
       |none=>rw[hb]at hrun;cases hrun
       |some rb=>
        rw[hb]at hrun;refine Ycd (K m (by omega) (.up q) s' t'.tail (i'+1) rb hb (hat.next hn)) (fun v t2 i2 e2 hi2=>?_) (fun v t2 i2 e2 hg hi2=>?_)
        ·obtain⟨r',f2,rfl⟩:=Yam e2;subst f2;have hlt2:=((Ya8 m).2.2.1 _ _ hb).1;refine⟨_,_,_,_,rfl,rfl,teq6 r',Yfq r',tle (by simp;omega),tle (by simp;omega),⟨l++[r'],t2,rfl,?_,hi2,by simp;omega,m,hrun,by omega⟩,Nat.succ_lt_succ (SetI.lt hat hi2 (by omega))⟩;show encs l++encs [r']=_;rw[Yaz]
        ·have f2:=Yal e2;subst f2;cases hrun;obtain⟨r',rfl⟩:=hg;refine⟨_,_,_,_,rfl,rfl,teq6 r',Yfq r',tle (by simp;omega),tle (by simp;omega),⟨l++[r'],t2,rfl,?_,hi2,rfl⟩,Nat.succ_pos _⟩;show encs l++encs [r']=_;rw[Yaz]
      ·rw[if_neg h1]at hrun;cases hrun;exact callB (c52f hat h1) ⟨_,_,_,_,rfl,rfl,fun hf=>(by cases hf),fun _=>call1 (c53 4 l) ⟨_,rfl,rfl,teq6 _,Yaj rfl hat⟩⟩
theorem Yje:∀n,(∀m,m<=n->L39 m/\L51 m/\L66 m/\L74 m):=by
 intro n
 induction n with
 |zero=>
  intro m hm;have:m=0:=by omega
  subst this;exact⟨fun q s t i res hr=>by simp[alts]at hr,fun q s t i res hr=>by simp[seqs]at hr,fun q s t i res hr=>by simp[Ybd]at hr,fun q s t i res hr=>by simp[atom]at hr⟩
 |succ n ih=>
  intro m hm;by_cases h:m<=n
  ·exact ih m h
  ·have:m=n+1:=by omega
   subst this;exact⟨c39 fun m h=>(ih m h).2.1,c51 fun m h=>(ih m h).2.2.1,c66 (ih n (Nat.le_refl _)).2.2.2,c74 (ih n (Nat.le_refl _)).1⟩
theorem l39(n:Nat):L39 n:=(Yje n n (Nat.le_refl _)).1
end Go.Rx
end
section
open Go Go.Proofs Go.Ab Go.Rf
set_option maxRecDepth 100000
namespace Go.Rx
theorem c20(s:List UInt8):Holds Tryz.prog 116 [A.d (.lit (Zco s))] [] (Ret (pairA (parseV s))):=by
 refine w20 s ⟨fun hl=>?_,fun hl ν=>?_⟩
 ·have hl:=of_tlt hl;rw[Yc9 (by omega)];exact⟨rfl,rfl⟩
 ·have hl:=of_flt hl;have hs:¬1000<s.length:=by omega
  have h0:At s s 0:=at0 (by omega);obtain⟨res,hr⟩:=Yd7 s;refine Ycd (l39 _ (Ref.own 13 (ν 13)) s s 0 res hr h0) (fun v t i e hi=>?_) (fun v t i e hg hi=>?_) ν
  ·obtain⟨r,f1,rfl⟩:=Yam e;subst f1;refine⟨_,_,_,_,rfl,rfl,teq6 r,fun hf=>?_,fun hf=>?_⟩
   ·have ht:t≠[]:=hi.more (of_tlt hf);rw[Yda hs hr hi ht];exact⟨rfl,rfl⟩
   ·have ht:t=[]:=hi.end_ (of_flt hf);subst ht;rw[Yez hs hr];have hb:lens (2^40) r:=Ycr (by omega) _ r (Nat.le_refl _) (Yea hr);refine call1 (c16 r hb) ⟨_,rfl,rfl,fun h9=>?_,fun h9=>?_⟩
    ·rw[if_pos (of_teq h9)];exact⟨rfl,rfl⟩
    ·rw[if_neg (of_feq h9)];exact⟨rfl,rfl⟩
  ·have f1:=Yal e;subst f1;obtain⟨r,rfl⟩:=hg;refine⟨_,_,_,_,rfl,rfl,teq6 r,fun _=>?_,fun hf=>by cases hf⟩;rw[Yeb hs hr hi];exact⟨rfl,rfl⟩
end Go.Rx
end
section
open Go Go.Proofs Go.Ab Go.Rf
set_option linter.unusedSimpArgs false
set_option linter.unusedVariables false
set_option maxRecDepth 100000
namespace Go.Sy
theorem c99(x:Int):Holds Tryz.prog 99 [.d (.lit (.int .u8 x))] [] (Ret (boolA (letV x))):=w99 x (by simp only[Zwb];exact⟨rfl,rfl⟩)
def digV(x:Int):Bool:=decide (48<=x)&&decide (x<=57)
theorem c100(x:Int):Holds Tryz.prog 100 [.d (.lit (.int .u8 x))] [] (Ret (boolA (digV x))):=w100 x (by simp only[Zwb];exact⟨rfl,rfl⟩)
theorem c98:Holds Tryz.prog 98 [] [] (Ret (slA (txs KW))):=Holds.ofD (w98 ⟨rfl,_,rfl,.own _ _⟩)
theorem Ygz{x:Int}(h1:(!letV x)=true)(h:(((!digV x)&&(!(tB (x==95))))=true)):chV x=false:=by
 unfold chV;rw[nb1 h1];simp only[Zwb]at h;unfold digV at h;cases h2:(decide (48<=x)&&decide (x<=57))<;>cases h3:(x==95)<;>simp_all
theorem Ydt{x:Int}(h:letV x=true\/((!digV x)&&(!(tB (x==95))))=false):chV x=true:=by
 unfold chV;rcases h with h|h
 ·rw[h];rfl
 ·simp only[Zwb]at h;unfold digV at h;cases h2:(decide (48<=x)&&decide (x<=57))<;>cases h3:(x==95)<;>simp_all
theorem Yfw{s:Tx}{f:Nat}(hl:s.length<=32)(hk:s∉KW)(hc:cutV s=s.drop f):idV s=(decide (f<s.length)&&letV (Zwc s f)&&(List.range (s.length-f)).all fun i=>chV (Zwc s ((f+i:Nat):Int))):=by
 unfold idV;rw[decide_eq_true hl,decide_eq_false hk,hc];unfold Ydo
 have e:∀i:Nat,Zwc (s.drop f) (i:Int)=Zwc s ((f+i:Nat):Int):=fun i=>by
  unfold Zwc;simp[List.getD_eq_getElem?_getD,List.getElem?_drop,show((f:Int)+(i:Int)).toNat=f+i by omega]
 have e0':Zwc (s.drop f) 0=Zwc s (f:Int):=e 0;rw[e0']
 have e1:(!(s.drop f).isEmpty)=decide (f<s.length):=by
  rw[Bool.eq_iff_iff];simp
 rw[e1];simp only[e,List.length_drop];rfl
theorem dec2{n f i:Nat}(h:f+i<n):n-(((f+i:Nat):Int)+1).toNat<n-((f+i:Nat):Int).toNat:=by omega
theorem c52(s:Tx):Holds Tryz.prog 52 [strA s] [] (Ret (boolA (idV s))):=by
 refine w52 s ⟨fun h=>?_,fun h=>?_⟩
 ·refine Yac ?_;unfold idV;by_cases h1:s.length<=32
  ·have:s.length=0:=by simp at h;omega
   have:s=[]:=List.length_eq_zero_iff.1 this;subst this;rfl
  ·rw[decide_eq_false h1];rfl
 ·have hl:s.length<=32/\1<=s.length:=by simp at h;omega
  refine call1 c98 ⟨_,rfl,rfl,?_⟩;refine⟨fun x=>∃i:Nat,x=i/\i<=KW.length/\ ∀j (h:j<KW.length),j<i->KW[j]≠s,fun x=>KW.length-x.toNat,⟨0,rfl,Nat.zero_le _,fun j _ h=>absurd h (Nat.not_lt_zero j)⟩,?_,trivial⟩;rintro x ⟨i,rfl,hi,hr⟩;refine⟨fun hc=>?_,fun hc=>?_⟩
  ·have k1:i<KW.length:=by have:=of_tlt hc;simp at this;omega
   have g:=getT k1;rw[g.2];have hkl:KW.length<=100:=by decide
   refine⟨tle (by omega),teq (by rw[gT1 k1];rfl),g.1,fun h=>?_,fun h=>⟨tle (by omega),tle (by omega),⟨i+1,rfl,k1,fun j hj h1=>?_⟩,dec k1⟩⟩
   ·have:s=KW[i]:=Ya7 h;have hk:s∈KW:=this▸List.getElem_mem k1;exact Yac (by unfold idV;simp[hk])
   ·rcases Nat.lt_succ_iff_lt_or_eq.1 h1 with h5|rfl
    ·exact hr j hj h5
    ·exact fun e=>Ybe h e.symm
  ·have k1:KW.length<=i:=by have:=of_flt hc;simp at this;omega
   have hk:s∉KW:=fun hm=>by
    obtain⟨j,hj,e⟩:=List.getElem_of_mem hm;exact hr j hj (by omega) e
   refine⟨tlt (by omega),fun h1=>?_,fun h1=>?_⟩
   ·have hc:cutV s=s.drop 1:=by
     unfold cutV;rw[if_pos (by simp only[Zwb]at h1;rw[h1];simp;omega)];simp[gSub]
    have hid:=Yfw hl.1 hk hc;refine⟨by by_cases h2:s.length<=1<;>simp[h2]<;>omega,fun h2=>?_,fun h2=>?_⟩
    ·have h2:1<s.length:=by simp at h2;omega
     refine call1 (c99 _) ⟨_,rfl,rfl,fun h3=>?_,fun h3=>?_⟩
     ·exact Yac (by have h3:=nb1 h3;rw[hid];rw[show Zwc s ((1:Nat):Int)=Zwc s 1 from rfl,h3];simp)
     ·have h3:=nb0 h3;refine⟨fun x=>∃i:Nat,x=(1+i:Nat)/\1+i<=s.length/\ ∀j<i,chV (Zwc s ((1+j:Nat):Int))=true,fun x=>s.length-x.toNat,⟨0,rfl,by omega,fun j hj=>absurd hj (Nat.not_lt_zero j)⟩,?_,trivial⟩;rintro x ⟨i,rfl,hi,hr⟩;refine⟨fun hc=>?_,fun hc=>?_⟩
      ·have k1:1+i<s.length:=by have:=of_tlt hc;omega
       have more:∀hch:chV (Zwc s ((1+i:Nat):Int))=true,∃i':Nat,((1+i:Nat):Int)+1=(1+i':Nat)/\1+i'<=s.length/\ ∀j<i',chV (Zwc s ((1+j:Nat):Int))=true:=fun hch=>⟨i+1,by push_cast;omega,by omega,fun j hj=>by
        rcases Nat.lt_succ_iff_lt_or_eq.1 hj with h5|rfl
        ·exact hr j h5
        ·exact hch⟩
       refine⟨tle (by omega),call1 (c99 _) ⟨_,rfl,rfl,fun h4=>call1 (c100 _) ⟨_,rfl,rfl,fun h5=>?_,fun h5=>⟨tle (by omega),tle (by omega),more (Ydt (.inr h5)),dec2 k1⟩⟩,fun h4=>⟨tle (by omega),tle (by omega),more (Ydt (.inl (nb0 h4))),dec2 k1⟩⟩⟩;refine Yac ?_;rw[hid]
       have:((List.range (s.length-1)).all fun i=>chV (Zwc s ((1+i:Nat):Int)))=false:=by
        rw[List.all_eq_false];exact⟨i,List.mem_range.2 (by omega),by rw[Ygz h4 h5];simp⟩
       rw[this,Bool.and_false]
      ·have k1:s.length<=1+i:=by have:=of_flt hc;omega
       refine Yac ?_;rw[hid,decide_eq_true h2,show Zwc s ((1:Nat):Int)=Zwc s 1 from rfl,h3]
       have:((List.range (s.length-1)).all fun i=>chV (Zwc s ((1+i:Nat):Int)))=true:=List.all_eq_true.2 fun j hj=>hr j (by have:=List.mem_range.1 hj;omega)
       rw[this];rfl
    ·refine Yac ?_;have h2:s.length<=1:=by simp at h2;omega
     rw[hid,decide_eq_false (by omega)];rfl
   ·have hc:cutV s=s.drop 0:=by
     unfold cutV;rw[if_neg (by simp only[Zwb]at h1;rw[h1];simp)];simp
    have hid:=Yfw hl.1 hk hc;refine⟨fun h2=>?_,fun h2=>?_⟩
    ·refine call1 (c99 _) ⟨_,rfl,rfl,fun h3=>?_,fun h3=>?_⟩
     ·exact Yac (by have h3:=nb1 h3;rw[hid];rw[show Zwc s ((0:Nat):Int)=Zwc s 0 from rfl,h3];simp)
     ·have h3:=nb0 h3;refine⟨fun x=>∃i:Nat,x=(0+i:Nat)/\0+i<=s.length/\ ∀j<i,chV (Zwc s ((0+j:Nat):Int))=true,fun x=>s.length-x.toNat,⟨0,rfl,by omega,fun j hj=>absurd hj (Nat.not_lt_zero j)⟩,?_,trivial⟩;rintro x ⟨i,rfl,hi,hr⟩;refine⟨fun hc=>?_,fun hc=>?_⟩
      ·have k1:0+i<s.length:=by have:=of_tlt hc;omega
       have more:∀hch:chV (Zwc s ((0+i:Nat):Int))=true,∃i':Nat,((0+i:Nat):Int)+1=(0+i':Nat)/\0+i'<=s.length/\ ∀j<i',chV (Zwc s ((0+j:Nat):Int))=true:=fun hch=>⟨i+1,by push_cast;omega,by omega,fun j hj=>by
        rcases Nat.lt_succ_iff_lt_or_eq.1 hj with h5|rfl
        ·exact hr j h5
        ·exact hch⟩
       refine⟨tle (by omega),call1 (c99 _) ⟨_,rfl,rfl,fun h4=>call1 (c100 _) ⟨_,rfl,rfl,fun h5=>?_,fun h5=>⟨tle (by omega),tle (by omega),more (Ydt (.inr h5)),dec2 k1⟩⟩,fun h4=>⟨tle (by omega),tle (by omega),more (Ydt (.inl (nb0 h4))),dec2 k1⟩⟩⟩;refine Yac ?_;rw[hid]
       have:((List.range (s.length-0)).all fun i=>chV (Zwc s ((0+i:Nat):Int)))=false:=by
        rw[List.all_eq_false];exact⟨i,List.mem_range.2 (by omega),by rw[Ygz h4 h5];simp⟩
       rw[this,Bool.and_false]
      ·have k1:s.length<=0+i:=by have:=of_flt hc;omega
       refine Yac ?_;rw[hid,decide_eq_true (by omega:0<s.length),show Zwc s ((0:Nat):Int)=Zwc s 0 from rfl,h3]
       have:((List.range (s.length-0)).all fun i=>chV (Zwc s ((0+i:Nat):Int)))=true:=List.all_eq_true.2 fun j hj=>hr j (by have:=List.mem_range.1 hj;omega)
       rw[this];rfl
    ·exact absurd (show s.length<=0 by simpa using h2) (by omega)
theorem c53(l:List Tx)(hl:l.length<=2^50)(hs:∀s∈l,s.length<=2^50):Holds Tryz.prog 53 [slA (txs l)] [] (Ret (boolA (!lnsV l))):=by
 refine w53 (txs l) ⟨fun x=>∃i:Nat,x=i/\i<=l.length/\ ∀j (h:j<l.length),j<i->lnV l[j]=false,fun x=>l.length-x.toNat,⟨0,rfl,Nat.zero_le _,fun j _ h=>absurd h (Nat.not_lt_zero j)⟩,?_,trivial⟩;rintro x ⟨i,rfl,hi,hr⟩;refine⟨fun hc=>?_,fun hc=>?_⟩
 ·have k1:i<l.length:=by have:=of_tlt hc;simp at this;omega
  have g:=getT k1;rw[g.2];have hsl:=hs _ (List.getElem_mem k1);refine⟨tle (by omega),teq (by rw[gT1 k1];rfl),g.1,?_⟩;refine⟨fun x=>∃k:Nat,x=k/\k<=l[i].length/\ ∀j (h:j<l[i].length),j<k->l[i][j]≠10,fun x=>l[i].length-x.toNat,⟨0,rfl,Nat.zero_le _,fun j _ h=>absurd h (Nat.not_lt_zero j)⟩,?_,trivial⟩;rintro x ⟨k,rfl,hk,hq⟩;refine⟨fun hc=>?_,fun hc=>?_⟩
  ·have k2:k<l[i].length:=by have:=of_tlt hc;omega
   have gb:Zwc l[i] (k:Int)=(l[i][k].toNat:Int):=by unfold Zwc;simp[List.getD,k2]
   refine⟨tle (by omega),fun h=>?_,fun h=>⟨tle (by omega),tle (by omega),⟨k+1,rfl,k2,fun j hj h1=>?_⟩,dec k2⟩⟩
   ·have h:=of_teq h;rw[gb]at h
    have e:l[i][k]=10:=UInt8.toNat_inj.1 (by have:l[i][k].toNat=10:=by omega
                                             rw[this];rfl)
    refine Yac ?_
    have:lnsV l=false:=by
     unfold lnsV;rw[List.all_eq_false];exact⟨l[i],List.getElem_mem k1,by unfold lnV;rw[decide_eq_true (e▸List.getElem_mem k2)];simp⟩
    rw[this];rfl
   ·rcases Nat.lt_succ_iff_lt_or_eq.1 h1 with h5|rfl
    ·exact hq j hj h5
    ·intro e;have h:=of_feq h;rw[gb,e]at h;exact h rfl
  ·have k2:l[i].length<=k:=by have:=of_flt hc;omega
   refine⟨tle (by omega),tle (by omega),⟨i+1,rfl,k1,fun j hj h1=>?_⟩,dec k1⟩;rcases Nat.lt_succ_iff_lt_or_eq.1 h1 with h5|rfl
   ·exact hr j hj h5
   ·unfold lnV;rw[decide_eq_false];intro hm;obtain⟨q,hq1,hq2⟩:=List.getElem_of_mem hm;exact hq q hq1 (by omega) hq2
 ·have k1:l.length<=i:=by have:=of_flt hc;simp at this;omega
  refine Yac ?_
  have:lnsV l=true:=by
   unfold lnsV;rw[List.all_eq_true];intro s hm;obtain⟨j,hj,e⟩:=List.getElem_of_mem hm;rw[<-e,hr j hj (by omega)];rfl
  rw[this];rfl
theorem c115(a b:Tx):Holds Tryz.prog 115 [.agg [dS a,dS b]] [] (Ret (boolA (difV a b))):=by
 refine w115 _ ?_;simp only[List.getD_cons_zero,List.getD_cons_succ,Ya1,Yaq,Bool.or_true,true_and];refine⟨teq rfl,call1 (c52 a) ⟨idV a,rfl,rfl,fun h=>call1 (c52 b) ⟨idV b,rfl,rfl,Yac ?_⟩,fun h=>Yac ?_⟩⟩
 ·unfold difV;rw[h];simp
 ·unfold difV;rw[h];rfl
theorem c55(v:Bool)(n:Int):Holds Tryz.prog 55 [boolA v,intA n] [] (Ret (intA (if(!v)=true then 11 else if 16<n then 9 else 0))):=
 w55 v n ⟨fun h=>by rw[if_pos h];exact⟨rfl,rfl⟩,fun h=>by
  rw[if_neg (by rw[h];simp)];exact⟨fun h=>by rw[if_pos (of_tlt h)];exact⟨rfl,rfl⟩,fun h=>by have:=of_flt h;rw[if_neg (by omega)];exact⟨rfl,rfl⟩⟩⟩
def cntV(k:Int):Int×Int:=
 if k=9\/k=11\/k=18\/k=19 then(1,1)else if k=12\/k=16\/k=20 then(2,2)else if k=15 then(2,3)else if k=5 then(1,1000000)else if k=17 then(2,1000000)else if k=14\/k=21 then(0,1000000)else(0,0)
theorem c123(k:Int):Holds Tryz.prog 123 [intA k] [] (Ret (.tup [(false,[dI (cntV k).1]),(false,[dI (cntV k).2])])):=by
 have go:∀{p:Int×Int},cntV k=p->Ret (.tup [(false,[dI (cntV k).1]),(false,[dI (cntV k).2])]) (.ret (.tup [(false,[dI p.1]),(false,[dI p.2])])) []:=fun e=>by subst e;exact⟨rfl,rfl⟩
 refine w123 k ⟨fun h=>go (p:=(1,1)) (by simp[cntV,of_teq h]),fun h1=>⟨fun h=>go (p:=(1,1)) (by simp[cntV,of_teq h]),fun h2=>⟨fun h=>go (p:=(1,1)) (by simp[cntV,of_teq h]),fun h3=>⟨fun h=>go (p:=(1,1)) (by simp[cntV,of_teq h]),fun h4=>⟨fun h=>go (p:=(2,2)) (by simp[cntV,of_teq h]),fun h5=>⟨fun h=>go (p:=(2,2)) (by simp[cntV,of_teq h]),fun h6=>⟨fun h=>go (p:=(2,2)) (by simp[cntV,of_teq h]),fun h7=>⟨fun h=>go (p:=(2,3)) (by simp[cntV,of_teq h]),fun h8=>⟨fun h=>go (p:=(1,1000000)) (by simp[cntV,of_teq h]),fun h9=>⟨fun h=>go (p:=(2,1000000)) (by simp[cntV,of_teq h]),fun h10=>⟨fun h=>go (p:=(0,1000000)) (by simp[cntV,of_teq h]),fun h11=>⟨fun h=>go (p:=(0,1000000)) (by simp[cntV,of_teq h]),fun h12=>go (p:=(0,0)) ?_⟩⟩⟩⟩⟩⟩⟩⟩⟩⟩⟩⟩;simp[cntV,of_feq h1,of_feq h2,of_feq h3,of_feq h4,of_feq h5,of_feq h6,of_feq h7,of_feq h8,of_feq h9,of_feq h10,of_feq h11,of_feq h12]
def rNum(k num n:Int):Bool:=if k=2 then num==0||num==1 else if k=14 then num==0||(num==1&&decide (0<n))else if k=3 then decide (0<=num)&&decide (num<=1000000000000000)else num==0
theorem c124(r:Nd):Holds Tryz.prog 124 [.agg (encE r)] [] (Ret (boolA (rNum r.kind r.num r.subs.length))):=by
 refine w124 (encE r) ?_;simp only[Yah,e0,e1,e2,e3,e4,e5,e6,e7,e8,isK_int,Yaq,isK_slc,dint_int,Ya1,dlst_slc,true_and,Yab,Yaa,Yae,Bool.or_true];refine⟨teq rfl,fun h=>Yac (by simp[rNum,of_teq h]),fun h1=>⟨fun h=>Yac (by simp[rNum,of_teq h]),fun h2=>⟨fun h=>Yac (by simp[rNum,of_teq h]),fun h3=>Yac (by simp[rNum,of_feq h1,of_feq h2,of_feq h3])⟩⟩⟩
def Yb2(k:Int)(t:Tx):Bool:=
 if k=4\/k=11 then true else if k=8 then decide (t∈tyW)else if k=9 then decide (t∈bdW)else if k=19 then decide (t∈unW)else if k=20 then decide (t∈biW)
 else if k=10\/k=21 then idV t else t.isEmpty
theorem c121(r:Nd):Holds Tryz.prog 121 [.agg (encE r)] [] (Ret (boolA (Yb2 r.kind r.text))):=by
 refine w121 (encE r) ?_;simp only[Yah,e0,e1,e2,e3,e4,e5,e6,e7,e8,isK_int,Yaq,isK_slc,dint_int,Ya1,dlst_slc,true_and,Yab,Yaa,Yae,Bool.or_true];refine⟨teq rfl,fun h=>Yac (by simp[Yb2,of_teq h]),fun h1=>⟨fun h=>Yac (by simp[Yb2,of_teq h]),fun h2=>⟨fun h=>call1 (c34 _ tyW (by decide)) ⟨_,rfl,rfl,Yac (by simp[Yb2,of_teq h])⟩,fun h3=>⟨fun h=>call1 (c34 _ bdW (by decide)) ⟨_,rfl,rfl,Yac (by simp[Yb2,of_teq h])⟩,fun h4=>⟨fun h=>call1 (c34 _ unW (by decide)) ⟨_,rfl,rfl,Yac (by simp[Yb2,of_teq h])⟩,fun h5=>⟨fun h=>call1 (c34 _ biW (by decide)) ⟨_,rfl,rfl,Yac (by simp[Yb2,of_teq h])⟩,fun h6=>⟨fun h=>call1 (c52 _) ⟨_,rfl,rfl,Yac (by simp[Yb2,of_teq h])⟩,fun h7=>⟨fun h=>call1 (c52 _) ⟨_,rfl,rfl,Yac (by simp[Yb2,of_teq h])⟩,fun h8=>Yac ?_⟩⟩⟩⟩⟩⟩⟩⟩;simp[Yb2,of_feq h1,of_feq h2,of_feq h3,of_feq h4,of_feq h5,of_feq h6,of_feq h7,of_feq h8]
def Ye4:List Tx:=[[102,105,101,108,100],LET,[108,111,111,112],[112,97,99,107,97,103,101],[117,110,107,110,111,119,110]]
def rRef(a b:Tx)(num n:Int):Bool:=
 if a=[]then(b.isEmpty&&num==0)&&n==0 else((decide (a∈Ye4)&&b.isEmpty)&&decide (0<=num))&&n==(if a=LET then 1 else 0)
theorem c122(r:Nd):Holds Tryz.prog 122 [.agg (encE r)] [] (Ret (boolA (rRef r.n0 r.n1 r.num r.subs.length))):=by
 refine w122 (encE r) ?_;simp only[Yah,e0,e1,e2,e3,e4,e5,e6,e7,e8,isK_int,Yaq,isK_slc,dint_int,Ya1,dlst_slc,true_and,Yab,Yaa,Yae,Bool.or_true];refine⟨teq rfl,fun h=>Yac (by simp[rRef,Ya7 h]),fun h1=>⟨fun h=>call1 (c34 _ Ye4 (by decide)) ⟨_,rfl,rfl,Yac ?_⟩,fun h2=>call1 (c34 _ Ye4 (by decide)) ⟨_,rfl,rfl,Yac ?_⟩⟩⟩
 ·have e:r.n0=LET:=Ya7 h;have:¬LET=[]:=by decide
  simp[rRef,e,this]
 ·have e:¬r.n0=LET:=Ybe h2;simp[rRef,Ybe h1,e]
def fldV(r:Nd):Bool:=
 ((decide (1<=r.kind)&&decide (r.kind<=22))&&(Yb2 r.kind r.text&&(lnsV r.tail&&((r.kind==13||r.kind==22)||((r.decls.length:Int)+(r.tail.length:Int)==0)))))&&
   (if r.kind=10 then rRef r.n0 r.n1 r.num r.subs.length else(decide ((cntV r.kind).1<=r.subs.length)&&decide ((r.subs.length:Int)<=(cntV r.kind).2))&&(rNum r.kind r.num r.subs.length&&(if r.kind=15 then difV r.n0 r.n1 else nonV r.n0 r.n1)))
theorem rngE{k m:Int}{b:Bool}(h:(!((tB (decide (k<1)))||(tB (decide (m<k)))))=b):(decide (1<=k)&&decide (k<=m))=b:=by
 subst h;rw[Bool.eq_iff_iff];simp
theorem z2(a b:Nat):((a:Int)+(b:Int)==0)=!(decide ((0:Int)<a)||decide ((0:Int)<b)):=by
 rw[Bool.eq_iff_iff];simp;omega
theorem blkE{r:Nd}{b:Bool}(h:((!((tB (r.kind==13))||(tB (r.kind==22))))&&((tB (decide ((0:Int)<(r.decls.length:Int))))||(tB (decide ((0:Int)<(r.tail.length:Int))))))=b):((r.kind==13||r.kind==22)||((r.decls.length:Int)+(r.tail.length:Int)==0))=!b:=by
 subst h;simp only[Zwb];rw[z2];cases hA:(r.kind==13)<;>cases hB:(r.kind==22)<;>simp
theorem c103(r:Nd)(hb:Big r):Holds Tryz.prog 103 [.agg (encE r)] [] (Ret (boolA (fldV r))):=by
 refine w103 (encE r) ?_;simp only[Yah,e0,e1,e2,e3,e4,e5,e6,e7,e8,isK_int,Yaq,isK_slc,dint_int,Ya1,dlst_slc,true_and,Yab,Yaa,Yae,Bool.or_true];refine⟨teq rfl,fun h1=>?_,fun h1=>Yac ?_⟩
 ·have hk:(decide (1<=r.kind)&&decide (r.kind<=22))=true:=rngE h1;refine call1 (c121 r) ⟨_,rfl,rfl,fun h2=>?_,fun h2=>Yac ?_⟩
  ·refine call1 (c53 _ hb.1.2.2.1 hb.2.2.1) ⟨_,rfl,rfl,fun h3=>Yac ?_,fun h3=>⟨fun h4=>Yac ?_,fun h4=>?_⟩⟩
   ·unfold fldV;rw[nb1 h3];simp
   ·unfold fldV;have:((r.kind==13||r.kind==22)||((r.decls.length:Int)+(r.tail.length:Int)==0))=false:=blkE h4;rw[this];simp
   ·have h3:=nb0 h3;have hbl:((r.kind==13||r.kind==22)||((r.decls.length:Int)+(r.tail.length:Int)==0))=true:=blkE h4;refine⟨fun h5=>call1 (c122 r) ⟨_,rfl,rfl,Yac ?_⟩,fun h5=>?_⟩
    ·unfold fldV;rw[hk,h2,h3,hbl,if_pos (of_teq h5)];simp
    ·have hf:fldV r=((decide ((cntV r.kind).1<=r.subs.length)&&decide ((r.subs.length:Int)<=(cntV r.kind).2))&&(rNum r.kind r.num r.subs.length&&(if r.kind=15 then difV r.n0 r.n1 else nonV r.n0 r.n1))):=by
      unfold fldV;rw[hk,h2,h3,hbl,if_neg (of_feq h5)];simp
     rw[hf];refine call1 (c123 _) ⟨_,_,rfl,rfl,fun h6=>?_,fun h6=>Yac ?_⟩
     ·have e6:(decide ((cntV r.kind).1<=r.subs.length)&&decide ((r.subs.length:Int)<=(cntV r.kind).2))=true:=by simp at h6⊢;omega
      rw[e6];refine call1 (c124 r) ⟨_,rfl,rfl,fun h7=>Yac ?_,fun h7=>⟨fun h8=>call1 (c115 _ _) ⟨_,rfl,rfl,Yac ?_⟩,fun h8=>Yac ?_⟩⟩
      ·rw[nb1 h7];simp
      ·rw[nb0 h7,if_pos (of_teq h8)];simp
      ·rw[nb0 h7,if_neg (of_feq h8)];simp[nonV]
     ·have e6:(decide ((cntV r.kind).1<=r.subs.length)&&decide ((r.subs.length:Int)<=(cntV r.kind).2))=false:=by simp at h6⊢;omega
      rw[e6];rfl
  ·unfold fldV;rw[h2];simp
 ·have hk:(decide (1<=r.kind)&&decide (r.kind<=22))=false:=rngE h1;unfold fldV;rw[hk];simp
end Go.Sy
end
section
open Go Go.Proofs Go.Ab Go.Rf
set_option linter.unusedSimpArgs false
set_option linter.unusedVariables false
set_option maxRecDepth 100000
namespace Go.Sy
def Ybh(k:Int)(t:Tx)(sc:Bool):Bool:=if k=1 then true else if k=2 then(Go.Rx.parseV t).2.1==0 else if k=4 then sc&&idV t else t.isEmpty&&(sc||!(k==8))
def nSub(k:Int):Int:=if k=7 then 2 else if k=8 then 0 else 1
def Ya3(r:Nd)(sc:Bool):Bool:=
 (((decide (1<=r.kind)&&decide (r.kind<=8))&&(lnsV r.lead&&(lnsV r.tail&&(lnsV [r.trail]&&((r.kind==5||r.kind==6)||((r.decls.length:Int)+(r.tail.length:Int)==0))))))&&
   (if r.kind=1 then decide (1<=r.num)&&decide (r.num<=3)else r.num==0))&&(Ybh r.kind r.text sc&&((if r.kind=6 then difV r.n0 r.n1 else nonV r.n0 r.n1)&&((r.subs.length:Int)==nSub r.kind)))
def ownK(k:Int):Bool:=((k==1||k==2)||k==3)||k==4
mutual
def okE:Nd->Bool->Bool->Bool->Bool
 |.mk k n t a b tr le ta p s d,cj,io,il=>(Yed (.mk k n t a b tr le ta p s d) cj io il&&okEs s ((k==16&&cj)||k==10) (k==17) (k==14) (k==14&&n==0))&&okDs d (k==13)
def okEs:List Nd->Bool->Bool->Bool->Bool->Bool
 |[],_,_,_,_=>true
 |x::l,cj,io,il,il2=>okE x cj io (if l.isEmpty then il2 else il)&&okEs l cj io il il2
def okD:Nd->Bool->Bool
 |.mk k n t a b tr le ta p s d,sc=>(Ya3 (.mk k n t a b tr le ta p s d) sc&&okFs s (sc&&ownK k))&&okDs d false
def okFs:List Nd->Bool->Bool
 |[],_=>true
 |x::l,cj=>okE x cj false false&&okFs l false
def okDs:List Nd->Bool->Bool
 |[],_=>true
 |x::l,sc=>okD x sc&&okDs l sc
end
mutual
def dpE:Nd->Int->Bool
 |.mk _ _ _ _ _ _ _ _ _ s d,lv=>(decide (16<lv)||dpEs s (lv+1))||dpDs d (lv+1)
def dpEs:List Nd->Int->Bool
 |[],_=>false
 |x::l,lv=>dpE x lv||dpEs l lv
def dpDs:List Nd->Int->Bool
 |[],_=>false
 |x::l,lv=>dpE x lv||dpDs l lv
end
theorem Yg0(r:Nd)(cj io il:Bool):okE r cj io il=((Yed r cj io il&&okEs r.subs ((r.kind==16&&cj)||r.kind==10) (r.kind==17) (r.kind==14) (r.kind==14&&r.num==0))&&okDs r.decls (r.kind==13)):=by cases r;rw[okE];rfl
theorem Yg1(r:Nd)(sc:Bool):okD r sc=((Ya3 r sc&&okFs r.subs (sc&&ownK r.kind))&&okDs r.decls false):=by cases r;rw[okD];rfl
theorem Yfx(r:Nd)(lv:Int):dpE r lv=((decide (16<lv)||dpEs r.subs (lv+1))||dpDs r.decls (lv+1)):=by cases r;rw[dpE];rfl
theorem Yeg{l:List Nd}{i:Nat}(cj io il il2:Bool)(h:i<l.length):okEs (l.drop i) cj io il il2=(okE l[i] cj io (if i+1<l.length then il else il2)&&okEs (l.drop (i+1)) cj io il il2):=by
 rw[List.drop_eq_getElem_cons h,okEs]
 congr 2
 by_cases h1:i+1<l.length
 ·rw[if_pos h1,if_neg (by simp;omega)]
 ·rw[if_neg h1,if_pos (by simp;omega)]
theorem Yeh{l:List Nd}{i:Nat}(sc:Bool)(h:i<l.length):okDs (l.drop i) sc=(okD l[i] sc&&okDs (l.drop (i+1)) sc):=by rw[List.drop_eq_getElem_cons h,okDs]
theorem Yfy{l:List Nd}{i:Nat}(cj:Bool)(h:i<l.length):okFs (l.drop i) (cj&&(i==0))=(okE l[i] (cj&&(i==0)) false false&&okFs (l.drop (i+1)) (cj&&(i+1==0))):=by
 rw[List.drop_eq_getElem_cons h,okFs];simp
theorem Yei{l:List Nd}{i:Nat}(lv:Int)(h:i<l.length):dpEs (l.drop i) lv=(dpE l[i] lv||dpEs (l.drop (i+1)) lv):=by rw[List.drop_eq_getElem_cons h,dpEs]
theorem Yfz{l:List Nd}{i:Nat}(lv:Int)(h:i<l.length):dpDs (l.drop i) lv=(dpE l[i] lv||dpDs (l.drop (i+1)) lv):=by rw[List.drop_eq_getElem_cons h,dpDs]
abbrev H58(r:Nd):Prop:=∀(q:Ref)(w d cj io il:Bool)(lv:Int),0<=lv->lv+size r<=2^50->
 Holds Tryz.prog 58 [.ptr (.up q) 0,.agg (encE r),.agg (posV cj io il lv)] (BC q w d) (RB (BC q (w||!okE r cj io il) (d||dpE r lv)))
abbrev H97(r:Nd):Prop:=∀(q:Ref)(w d sc:Bool)(lv:Int),0<=lv->lv+size r<=2^50->
 Holds Tryz.prog 97 [.ptr (.up q) 0,.agg (encD r),boolA sc,intA lv] (BC q w d) (RB (BC q (w||!okD r sc) (d||dpE r lv)))
abbrev H50(l:List Nd):Prop:=∀(q:Ref)(w d sc:Bool)(lv:Int),0<=lv->lv+sizes l<=2^50->
 Holds Tryz.prog 50 [.ptr (.up q) 0,slA (Ybc l),boolA sc,intA lv] (BC q w d) (RB (BC q (w||!okDs l sc) (d||dpDs l lv)))
theorem Yf0{q:Ref}{a b c d:Bool}(h:a=b)(h2:c=d):RB (BC q b d) (.ret (.tup [])) (BC q a c):=by subst h;subst h2;exact⟨rfl,rfl⟩
theorem c50(l:List Nd)(ih:∀x∈l,H97 x):H50 l:=by
 intro q w d sc lv h0 hb;have hll:=Ybm l;refine w50 w d (Ybc l) sc lv q ⟨fun x y z=>∃i:Nat,x=i/\i<=l.length/\(y||!okDs (l.drop i) sc)=(w||!okDs l sc)/\(z||dpDs (l.drop i) lv)=(d||dpDs l lv),fun x _ _=>l.length-x.toNat,⟨0,rfl,Nat.zero_le _,rfl,rfl⟩,?_,trivial⟩;rintro x y z ⟨i,rfl,hi,hy,hz⟩;rw[Yaa];refine⟨fun hc=>?_,fun hc=>?_⟩
 ·have k1:i<l.length:=by have:=of_tlt hc;omega
  have hm:=List.getElem_mem k1;have hsz:=Ya2 hm;rw[Yf2 rfl k1];refine⟨tle (by omega),teq (by simp),Yag (ih _ hm _ y z sc lv h0 (by omega)) ⟨tle (by omega),tle (by omega),⟨i+1,rfl,k1,?_,?_⟩,dec k1⟩⟩
  ·rw[<-hy,Yeh sc k1,Bool.not_and,Bool.or_assoc]
  ·rw[<-hz,Yfz lv k1,Bool.or_assoc]
 ·have k1:l.length<=i:=by have:=of_flt hc;omega
  rw[List.drop_eq_nil_of_le k1]at hy hz;exact Yf0 (by rw[<-hy];simp[okDs]) (by rw[<-hz];simp[dpDs])
theorem c58(r:Nd)(h1:r.decls.length<=2^50)(h2:r.tail.length<=2^50)(ihs:∀x∈r.subs,H58 x)(ihd:H50 r.decls):H58 r:=by
 intro q w d cj io il lv h0 hb;have hz:=size_eq r;have hsl:=Ybm r.subs;have hE:=Yg0 r cj io il;have hP:=Yfx r lv;refine w58 w d (encE r) (posV cj io il lv) q ?_;simp only[Yah,e0,e1,e2,e3,e4,e5,e6,e7,e8,isK_int,Yaq,isK_slc,dint_int,Ya1,dlst_slc,true_and,Yab,Yaa,Yae,Bool.or_true];refine⟨teq rfl,teq rfl,fun _ y=>y=(d||decide (16<lv)),⟨rfl,fun h=>?_,fun h=>?_⟩,?_,trivial⟩
 ·have h:16<lv:=of_tlt h;simp[h]
 ·have h:¬16<lv:=by have:lv<=16:=of_flt h;omega
  simp[h]
 ·rintro _ y rfl;refine Yag (c102 r _ _ _ cj io il lv h1 h2) ?_;refine⟨fun x y z=>∃i:Nat,x=i/\i<=r.subs.length/\(y||!okEs (r.subs.drop i) ((r.kind==16&&cj)||r.kind==10) (r.kind==17) (r.kind==14) (r.kind==14&&r.num==0))=(w||!(Yed r cj io il&&okEs r.subs ((r.kind==16&&cj)||r.kind==10) (r.kind==17) (r.kind==14) (r.kind==14&&r.num==0)))/\(z||dpEs (r.subs.drop i) (lv+1))=(d||(decide (16<lv)||dpEs r.subs (lv+1))),fun x _ _=>r.subs.length-x.toNat,⟨0,rfl,Nat.zero_le _,by rw[Bool.not_and,<-Bool.or_assoc];rfl,by rw[<-Bool.or_assoc];rfl⟩,?_,trivial⟩;rintro x y z ⟨i,rfl,hi,hy,hz2⟩;refine⟨fun hc=>?_,fun hc=>?_⟩
  ·have k1:i<r.subs.length:=by have:=of_tlt hc;omega
   have hm:=List.getElem_mem k1;have hsz:=Ya2 hm;rw[Ydw rfl k1];refine⟨tle (by omega),teq (by simp),by simp,by rw[tle (by omega),Bool.or_true],by rw[tle (by omega),Bool.or_true],rfl,tle (by simp;omega),tle (by simp;omega),?_⟩;refine Yag (ihs _ hm _ y z _ _ _ (lv+1) (by omega) (by omega)) ⟨tle (by omega),tle (by omega),⟨i+1,rfl,k1,?_,?_⟩,dec k1⟩
   ·rw[<-hy,Yeg _ _ _ _ k1,Bool.not_and,Bool.or_assoc]
    have e:(tB (r.kind==14)&&(tB (r.num==0)||tB (decide ((i:Int)+1<(r.subs.length:Int)))))=(if i+1<r.subs.length then r.kind==14 else(r.kind==14&&r.num==0)):=by
     by_cases hlt:i+1<r.subs.length
     ·have:(i:Int)+1<r.subs.length:=by omega
      simp[hlt,this]
     ·have:¬(i:Int)+1<r.subs.length:=by omega
      simp[hlt,this]
    rw[e];simp only[Zwb];rfl
   ·rw[<-hz2,Yei _ k1,Bool.or_assoc]
  ·have k1:r.subs.length<=i:=by have:=of_flt hc;omega
   rw[List.drop_eq_nil_of_le k1]at hy hz2;rw[okEs,Bool.not_true,Bool.or_false]at hy;rw[dpEs,Bool.or_false]at hz2;refine⟨rfl,tle (by simp;omega),tle (by simp;omega),Yag (ihd _ y z _ (lv+1) (by omega) (by omega)) (Yf0 ?_ ?_)⟩
   ·rw[hE,hy];simp only[Zwb,Bool.not_and,Bool.or_assoc]
   ·rw[hP,hz2];simp only[Bool.or_assoc]
end Go.Sy
end
section
open Go Go.Proofs Go.Ab Go.Rf
set_option linter.unusedSimpArgs false
set_option linter.unusedVariables false
set_option maxRecDepth 100000
namespace Go.Sy
theorem c97(r:Nd)(hlm:Lim r)(ihs:∀x∈r.subs,H58 x)(ihd:H50 r.decls):H97 r:=by
 intro q w d sc lv h0 hb;obtain⟨l1,l2,l3,l4⟩:=hlm;have hz:=size_eq r;have hsl:=Ybm r.subs;have hE:=Yg1 r sc;have hP:=Yfx r lv;have cat:∀A B P L N S:Bool,(w||!A||!B||!P||!L||!N||!S)=(w||!(((A&&B)&&P)&&(L&&(N&&S)))):=by intros A B P L N S;cases w<;>cases A<;>cases B<;>cases P<;>cases L<;>cases N<;>cases S<;>rfl
 refine w97 w d (encD r) sc lv q ?_;simp only[Ya6,d0,d1,d2,d3,d4,d5,d6,d7,d8,d9,d10,isK_int,Yaq,isK_slc,dint_int,Ya1,dlst_slc,true_and,Yab,Yaa,Yae,Bool.or_true];refine⟨teq rfl,fun _ y=>y=(d||decide (16<lv)),⟨fun h=>?_,fun h=>?_⟩,?_,trivial⟩
 ·have h:16<lv:=of_tlt h;simp[h]
 ·have h:¬16<lv:=by have:lv<=16:=of_flt h;omega
  simp[h]
 rintro _ y rfl;refine Yag (c47 _ _ _ [_] (by simp)) ⟨_,fun _=>c49 _ l4,_,fun _=>c49 _ l3,_,fun _=>c49 [r.trail] (by simp),by rw[tle (by omega),Bool.or_true],by rw[tle (by omega),Bool.or_true],Yag (c47 _ _ _ [_,_,_,_] (by simp)) ?_⟩;obtain⟨W1,hW1⟩:∃W1,(w||!(decide (1<=r.kind)&&decide (r.kind<=8))||!(lnsV r.lead&&(lnsV r.tail&&(lnsV [r.trail]&&((r.kind==5||r.kind==6)||((r.decls.length:Int)+(r.tail.length:Int)==0))))))=W1:=⟨_,rfl⟩
 have eW:((w||!([tB (decide (1<=r.kind))&&tB (decide (r.kind<=8))].all id))||!([lnsV r.lead,lnsV r.tail,lnsV [r.trail],(tB (r.kind==5)||tB (r.kind==6))||tB ((r.decls.length:Int)+(r.tail.length:Int)==0)].all id))=W1:=by
  rw[<-hW1];simp only[List.all_cons,List.all_nil,Bool.and_true,id,Zwb]
 rw[eW];refine⟨fun _ x z=>z=(d||decide (16<lv))/\x=(W1||!(if r.kind=1 then decide (1<=r.num)&&decide (r.num<=3)else r.num==0)),⟨fun hk=>?_,fun hk=>?_⟩,?_,trivial⟩
 ·refine Yag (c47 _ _ _ [_] (by simp)) ⟨rfl,?_⟩;rw[if_pos (by simpa using hk)];simp
 ·refine Yag (c47 _ _ _ [_] (by simp)) ⟨rfl,?_⟩;rw[if_neg (by simpa using hk)];simp
 rintro _ x2 z ⟨rfl,hx2⟩;refine⟨fun _ x z=>z=(d||decide (16<lv))/\x=(x2||!Ybh r.kind r.text sc),⟨fun hk=>?_,fun hk=>⟨fun hk2=>?_,fun hk2=>⟨fun hk4=>?_,fun hk4=>?_⟩⟩⟩,?_,trivial⟩
 ·have hk:r.kind=1:=by simpa using hk
  exact⟨rfl,by simp[Ybh,hk]⟩
 ·have hk:¬r.kind=1:=by simpa using hk
  have hk2:r.kind=2:=by simpa using hk2
  refine call1 (v:=Go.Rx.pairA (Go.Rx.parseV r.text)) (Go.Rx.c19 r.text) ⟨_,_,rfl,rfl,teq (by simp),teq rfl,rfl,Yag (c47 _ _ _ [_] (by simp)) ⟨rfl,?_⟩⟩;simp[Ybh,hk2]
 ·have hk:¬r.kind=1:=by simpa using hk
  have hk2:¬r.kind=2:=by simpa using hk2
  have hk4:r.kind=4:=by simpa using hk4
  refine call1 (c48 r.text) ⟨_,rfl,rfl,Yag (c47 _ _ _ [_,_] (by simp)) ⟨rfl,?_⟩⟩;simp[Ybh,hk4]
 ·have hk:¬r.kind=1:=by simpa using hk
  have hk2:¬r.kind=2:=by simpa using hk2
  have hk4:¬r.kind=4:=by simpa using hk4
  refine Yag (c47 _ _ _ [_,_] (by simp)) ⟨rfl,?_⟩;simp[Ybh,hk,hk2,hk4]
 rintro _ x3 z ⟨rfl,hx3⟩;refine⟨fun _ _ x z=>z=(d||decide (16<lv))/\x=(x3||!(if r.kind=6 then difV r.n0 r.n1 else nonV r.n0 r.n1)),⟨fun hk=>?_,fun hk=>?_⟩,?_,trivial⟩
 ·refine call1 (c113 _ _) ⟨_,rfl,rfl,Yag (c47 _ _ _ [_] (by simp)) ⟨rfl,?_⟩⟩;rw[if_pos (by simpa using hk)];simp
 ·refine call1 (c114 _ _) ⟨_,rfl,rfl,Yag (c47 _ _ _ [_] (by simp)) ⟨rfl,?_⟩⟩;rw[if_neg (by simpa using hk)];simp
 rintro _ _ x4 z ⟨rfl,hx4⟩;refine⟨fun n _=>n=nSub r.kind,⟨fun hk=>?_,fun hk=>⟨fun hk2=>?_,fun hk2=>?_⟩⟩,?_,trivial⟩
 ·have hk:r.kind=7:=by simpa using hk
  simp[nSub,hk]
 ·have hk:¬r.kind=7:=by simpa using hk
  have hk2:r.kind=8:=by simpa using hk2
  simp[nSub,hk2]
 ·have hk:¬r.kind=7:=by simpa using hk
  have hk2:¬r.kind=8:=by simpa using hk2
  simp[nSub,hk,hk2]
 rintro n _ rfl
 have e5:(x4||!([tB ((r.subs.length:Int)==nSub r.kind)].all id))=(w||!Ya3 r sc):=by
  simp only[List.all_cons,List.all_nil,Bool.and_true,id,Zwb];rw[hx4,hx3,hx2,<-hW1,cat,show(((((decide (1<=r.kind)&&decide (r.kind<=8))&&(lnsV r.lead&&(lnsV r.tail&&(lnsV [r.trail]&&((r.kind==5||r.kind==6)||((r.decls.length:Int)+(r.tail.length:Int)==0))))))&&(if r.kind=1 then decide (1<=r.num)&&decide (r.num<=3)else r.num==0))&&(Ybh r.kind r.text sc&&((if r.kind=6 then difV r.n0 r.n1 else nonV r.n0 r.n1)&&((r.subs.length:Int)==nSub r.kind)))))=Ya3 r sc from rfl]
 refine Yag (c47 _ _ _ [_] (by simp)) ?_;rw[e5];refine⟨fun x y z=>∃i:Nat,x=i/\i<=r.subs.length/\(y||!okFs (r.subs.drop i) ((sc&&ownK r.kind)&&(i==0)))=(w||!(Ya3 r sc&&okFs r.subs (sc&&ownK r.kind)))/\(z||dpEs (r.subs.drop i) (lv+1))=(d||(decide (16<lv)||dpEs r.subs (lv+1))),fun x _ _=>r.subs.length-x.toNat,⟨0,rfl,Nat.zero_le _,by rw[Bool.not_and,<-Bool.or_assoc];simp,by rw[<-Bool.or_assoc];rfl⟩,?_,trivial⟩;rintro x y z ⟨i,rfl,hi,hy,hz2⟩;refine⟨fun hc=>?_,fun hc=>?_⟩
 ·have k1:i<r.subs.length:=by have:=of_tlt hc;omega
  have hm:=List.getElem_mem k1;have hsz:=Ya2 hm;rw[Ydw rfl k1];refine⟨tle (by omega),teq (by simp),tle (by omega),tle (by omega),Yag (ihs _ hm _ y z _ _ _ (lv+1) (by omega) (by omega)) ⟨tle (by omega),tle (by omega),⟨i+1,rfl,k1,?_,?_⟩,dec k1⟩⟩
  ·rw[<-hy,Yfy _ k1,Bool.not_and,Bool.or_assoc];have e:(((i:Int)==0):Bool)=(i==0):=by rw[Bool.eq_iff_iff];simp
   rw[show(tB ((i:Int)==0))=(i==0) by rw[Zwb];exact e];simp only[Zwb];rfl
  ·rw[<-hz2,Yei _ k1,Bool.or_assoc]
 ·have k1:r.subs.length<=i:=by have:=of_flt hc;omega
  rw[List.drop_eq_nil_of_le k1]at hy hz2;rw[okFs,Bool.not_true,Bool.or_false]at hy;rw[dpEs,Bool.or_false]at hz2;refine⟨tle (by omega),tle (by omega),Yag (ihd _ y z _ (lv+1) (by omega) (by omega)) (Yf0 ?_ ?_)⟩
  ·rw[hE,hy];simp only[Bool.not_and,Bool.or_assoc]
  ·rw[hP,hz2];simp only[Bool.or_assoc]
end Go.Sy
end
section
open Go Go.Proofs Go.Ab Go.Rf
set_option linter.unusedSimpArgs false
set_option linter.unusedVariables false
set_option maxRecDepth 100000
namespace Go.Sy
def verV(ok dp:Bool):Int:=if(!ok)=true then 11 else if dp=true then 9 else 0
theorem Yie{a b:Int}(h:a=b):Ret (intA b) (.ret (intA a)) []:=by subst h;exact⟨rfl,rfl⟩
theorem Yjf:∀r:Nd,Lm r->H58 r/\H97 r:=by
 refine Ybr fun r hs hd hl=>?_
 have ihs:∀x∈r.subs,H58 x:=fun x hx=>(hs x hx (hl.sub hx)).1
 have ihd:H50 r.decls:=c50 r.decls fun x hx=>(hd x hx (hl.dec hx)).2
 exact⟨c58 r hl.here.2.1 hl.here.2.2.1 ihs ihd,c97 r hl.here ihs ihd⟩
theorem c17(r:Nd)(hl:Lm r)(hz:size r<=2^40):Holds Tryz.prog 17 [.agg (encE r)] [] (Ret (intA (verV (okE r true false false) (dpE r 1)))):=
 w17 _ ⟨teq (by simp),fun ν=>Yag ((Yjf r hl).1 (.own 5 (ν 5)) false false true false false 1 (by omega) (by omega))
  (fun ν=>callB (c51 (.own 5 (ν 5)) _ _) ⟨_,_,_,rfl,rfl,Yie (by simp[verV])⟩ ν) ν⟩
theorem Yif:∀r:Nd,(size r:Int)<=wE r/\(size r:Int)<=wD r:=by
 refine Ybr fun r hs hd=>?_
 have kE:∀l:List Nd,(∀x∈l,x∈r.subs)->(sizes l:Int)<=wEs l:=by
  intro l
  induction l with
  |nil=>intro _;simp[sizes,wEs]
  |cons x l ih=>
   intro h;have:=ih fun y hy=>h y (List.mem_cons_of_mem _ hy)
   have:=(hs x (h x (List.mem_cons_self ..))).1;rw[sizes,wEs];push_cast;omega
 have kD:∀l:List Nd,(∀x∈l,x∈r.decls)->(sizes l:Int)<=wDs l:=by
  intro l
  induction l with
  |nil=>intro _;simp[sizes,wDs]
  |cons x l ih=>
   intro h;have:=ih fun y hy=>h y (List.mem_cons_of_mem _ hy)
   have:=(hd x (h x (List.mem_cons_self ..))).2;rw[sizes,wDs];push_cast;omega
 have a:=kE r.subs fun _ h=>h
 have b:=kD r.decls fun _ h=>h
 have o:=Yek r;rw[Yf7,Yf8,size_eq];omega
end Go.Sy
end
section
open Go Go.Proofs Go.Ab Go.Rf
set_option linter.unusedSimpArgs false
set_option linter.unusedVariables false
set_option maxRecDepth 100000
namespace Go.Sy
theorem nmA{d b p q:Bool}(h:b=true):((!d)||((!b)&&((!p)||(!q))))=!d:=by subst h;cases d<;>rfl
theorem tmt(a:Tx):tB (a==[])=a.isEmpty:=by rw[Zwb];cases a<;>rfl
theorem nmB{b:Bool}{x y:Tx}(h:b=false):((!b)&&((!(tB (x==[])))||(!(tB (y==[])))))=!(nonV x y):=by
 subst h;rw[tmt,tmt];unfold nonV;cases x.isEmpty<;>cases y.isEmpty<;>rfl
theorem c101(r:Nd)(hb:Big r):Holds Tryz.prog 101 [.agg (encD r)] [] (Ret (boolA (Ya3 r true))):=by
 obtain⟨⟨b1,b2,b3,b4⟩,bt,bta,ble⟩:=hb;refine w101 (encD r) ?_;simp only[Ya6,d0,d1,d2,d3,d4,d5,d6,d7,d8,d9,d10,isK_int,Yaq,isK_slc,dint_int,Ya1,dlst_slc,true_and,Yab,Yaa,Yae,Bool.or_true];refine⟨teq rfl,fun h1=>?_,fun h1=>Yac ?_⟩
 rotate_left
 ·have hk:(decide (1<=r.kind)&&decide (r.kind<=8))=false:=rngE h1;unfold Ya3;rw[hk];simp
 have hk:(decide (1<=r.kind)&&decide (r.kind<=8))=true:=rngE h1;refine call1 (c53 _ b4 ble) ⟨_,rfl,rfl,fun h2=>?_,fun h2=>Yac ?_⟩
 rotate_left
 ·unfold Ya3;rw[nb1 (b:=lnsV r.lead) (by simpa using h2)];simp
 have h2:lnsV r.lead=true:=by simpa using h2
 refine call1 (c53 [r.trail] (by simp) (fun s hs=>bt s (by simp at hs;subst hs;simp))) ⟨_,rfl,rfl,fun h3=>?_,fun h3=>Yac ?_⟩
 rotate_left
 ·unfold Ya3;rw[nb1 (b:=lnsV [r.trail]) (by simpa using h3)];simp
 have h3:lnsV [r.trail]=true:=by simpa using h3
 refine call1 (c53 _ b3 bta) ⟨_,rfl,rfl,fun h4=>Yac ?_,fun h4=>?_⟩
 ·unfold Ya3;rw[nb1 h4];simp
 have h4:lnsV r.tail=true:=by simpa using h4
 have blk:∀{b:Bool},(((!(tB (r.kind==5)))&&(!(tB (r.kind==6))))&&((tB (decide ((0:Int)<(r.decls.length:Int))))||(tB (decide ((0:Int)<(r.tail.length:Int))))))=b->((r.kind==5||r.kind==6)||((r.decls.length:Int)+(r.tail.length:Int)==0))=!b:=fun h=>by
  subst h;simp only[Zwb];rw[z2];cases hA:(r.kind==5)<;>cases hB:(r.kind==6)<;>simp
 have hf:Ya3 r true=((((r.kind==5||r.kind==6)||((r.decls.length:Int)+(r.tail.length:Int)==0))&&(if r.kind=1 then decide (1<=r.num)&&decide (r.num<=3)else r.num==0))&&(Ybh r.kind r.text true&&((if r.kind=6 then difV r.n0 r.n1 else nonV r.n0 r.n1)&&((r.subs.length:Int)==nSub r.kind)))):=by
  unfold Ya3;rw[hk,h2,h3,h4];simp
 have pre:∀{b:Bool}{n:Int},nSub r.kind=n->(((!(tB ((r.subs.length:Int)==n)))||((tB (r.kind==1))&&((tB (decide (r.num<(1:Int))))||(tB (decide ((3:Int)<r.num))))))||((!(tB (r.kind==1)))&&(!(tB (r.num==(0:Int))))))=b->
  ((if r.kind=1 then decide (1<=r.num)&&decide (r.num<=3)else r.num==0)&&((r.subs.length:Int)==nSub r.kind))=!b:=fun h0 h=>by
  subst h;subst h0;simp only[Zwb];by_cases hA:r.kind=1
  ·simp only[hA,if_pos,beq_self_eq_true];rw[Bool.eq_iff_iff];simp;omega
  ·simp only[hA,if_false];have:(r.kind==1)=false:=by simpa using hA
   rw[this];rw[Bool.eq_iff_iff];simp;omega
 have no1:∀{n:Int},nSub r.kind=n->(((!(tB ((r.subs.length:Int)==n)))||((tB (r.kind==1))&&((tB (decide (r.num<(1:Int))))||(tB (decide ((3:Int)<r.num))))))||((!(tB (r.kind==1)))&&(!(tB (r.num==(0:Int))))))=true->false=Ya3 r true:=fun h0 h=>by
  have:=pre h0 h;rw[hf];rcases Bool.and_eq_false_iff.1 this with e|e<;>rw[e]<;>simp
 have no2:(((!(tB (r.kind==5)))&&(!(tB (r.kind==6))))&&((tB (decide ((0:Int)<(r.decls.length:Int))))||(tB (decide ((0:Int)<(r.tail.length:Int))))))=true->false=Ya3 r true:=fun h=>by
  rw[hf,blk h];simp
 have yes:∀{n:Int},nSub r.kind=n->(((!(tB ((r.subs.length:Int)==n)))||((tB (r.kind==1))&&((tB (decide (r.num<(1:Int))))||(tB (decide ((3:Int)<r.num))))))||((!(tB (r.kind==1)))&&(!(tB (r.num==(0:Int))))))=false->
  (((!(tB (r.kind==5)))&&(!(tB (r.kind==6))))&&((tB (decide ((0:Int)<(r.decls.length:Int))))||(tB (decide ((0:Int)<(r.tail.length:Int))))))=false->Ya3 r true=(Ybh r.kind r.text true&&(if r.kind=6 then difV r.n0 r.n1 else nonV r.n0 r.n1)):=fun h0 h h'=>by
  have h1:=pre h0 h;rw[Bool.not_false,Bool.and_eq_true]at h1;rw[hf,blk h',h1.1,h1.2];simp
 refine⟨fun k7=>⟨fun k8=>absurd (of_teq k8) (by have:=of_teq k7;omega),fun k8=>⟨fun h5=>Yac (no1 (by simp[nSub,of_teq k7]) h5),fun h5=>⟨fun h6=>Yac (no2 h6),fun h6=>(fun(hY:Ya3 r true=(Ybh r.kind r.text true&&(if r.kind=6 then difV r.n0 r.n1 else nonV r.n0 r.n1)))=>?_) (yes (by simp[nSub,of_teq k7]) h5 h6)⟩⟩⟩,fun k7=>⟨fun k8=>⟨fun h5=>Yac (no1 (by simp[nSub,of_teq k8]) h5),fun h5=>⟨fun h6=>Yac (no2 h6),fun h6=>(fun(hY:Ya3 r true=(Ybh r.kind r.text true&&(if r.kind=6 then difV r.n0 r.n1 else nonV r.n0 r.n1)))=>?_) (yes (by simp[nSub,of_teq k8]) h5 h6)⟩⟩,fun k8=>⟨fun h5=>Yac (no1 (by simp[nSub,of_feq k7,of_feq k8]) h5),fun h5=>⟨fun h6=>Yac (no2 h6),fun h6=>(fun(hY:Ya3 r true=(Ybh r.kind r.text true&&(if r.kind=6 then difV r.n0 r.n1 else nonV r.n0 r.n1)))=>?_) (yes (by simp[nSub,of_feq k7,of_feq k8]) h5 h6)⟩⟩⟩⟩
 all_goals
  refine⟨fun g=>call1 (c115 _ _) ⟨_,rfl,rfl,fun q=>Yac ?_,fun q=>?_⟩,fun g=>⟨fun q=>Yac ?_,fun q=>?_⟩⟩
  ·rw[nmA g]at q;rw[hY,if_pos (of_teq g),nb1 q,Bool.and_false]
  ·rw[nmA g]at q;have hY:Ya3 r true=Ybh r.kind r.text true:=by rw[hY,if_pos (of_teq g),nb0 q,Bool.and_true]
   rw[hY];have g:=of_teq g;exact⟨fun h=>absurd (of_teq h) (by omega),fun _=>⟨fun h=>absurd (of_teq h) (by omega),fun _=>⟨fun h=>absurd (of_teq h) (by omega),fun _=>Yac (by unfold Ybh;rw[g];simp)⟩⟩⟩
  ·rw[nmB g]at q;rw[hY,if_neg (of_feq g),nb1 q,Bool.and_false]
  ·rw[nmB g]at q;have hY:Ya3 r true=Ybh r.kind r.text true:=by rw[hY,if_neg (of_feq g),nb0 q,Bool.and_true]
   rw[hY];refine⟨fun h=>Yac (by unfold Ybh;rw[if_pos (of_teq h)]),fun z1=>⟨fun h=>call1 (v:=Go.Rx.pairA (Go.Rx.parseV r.text)) (Go.Rx.c20 r.text) ⟨_,_,rfl,rfl,teq (by simp),teq rfl,rfl,Yac ?_⟩,fun z2=>⟨fun h=>call1 (c52 _) ⟨_,rfl,rfl,Yac ?_⟩,fun z3=>Yac ?_⟩⟩⟩
   ·unfold Ybh;rw[if_neg (of_feq z1),if_pos (of_teq h)];simp
   ·unfold Ybh;rw[if_neg (of_feq z1),if_neg (of_feq z2),if_pos (of_teq h)];rfl
   ·unfold Ybh;rw[if_neg (of_feq z1),if_neg (of_feq z2),if_neg (of_feq z3),tmt];simp
mutual
def lv:Nd->Nat
 |.mk _ _ _ _ _ _ _ _ _ s d=>max (lvs d) (lvs s)+1
def lvs:List Nd->Nat
 |[]=>0
 |x::l=>max (lv x) (lvs l)
end
theorem Ygl(r:Nd):lv r=max (lvs r.decls) (lvs r.subs)+1:=by cases r;rw[lv];rfl
theorem Yhn:∀r:Nd,lv r<=size r:=by
 refine Ybr fun r hs hd=>?_
 have k:∀l:List Nd,(∀x∈l,lv x<=size x)->lvs l<=sizes l:=by
  intro l
  induction l with
  |nil=>intro _;simp[lvs,sizes]
  |cons x l ih=>
   intro h;have:=ih fun y hy=>h y (List.mem_cons_of_mem _ hy)
   have:=h x (List.mem_cons_self ..);rw[lvs,sizes];omega
 have a:=k r.subs hs;have b:=k r.decls hd;rw[Ygl,size_eq];omega
theorem Ycj(l:List Nd):lvs l<=sizes l:=by
 induction l with
 |nil=>simp[lvs,sizes]
 |cons x l ih=>have:=Yhn x;rw[lvs,sizes];omega
theorem Yjg:∀r:Nd,∀n:Int,dpE r n=decide (16<n-1+(lv r:Int)):=by
 refine Ybr fun r hs hd n=>?_
 have kE:∀l:List Nd,(∀x∈l,x∈r.subs)-> ∀m:Int,(decide (16<m-1)||dpEs l m)=decide (16<m-1+(lvs l:Int)):=by
  intro l
  induction l with
  |nil=>intro _ m;simp[dpEs,lvs]
  |cons x l ih=>
   intro h m;have e1:=ih (fun y hy=>h y (List.mem_cons_of_mem _ hy)) m;have e2:=hs x (h x (List.mem_cons_self ..)) m;have:(decide (16<m-1)||dpEs (x::l) m)=(dpE x m||(decide (16<m-1)||dpEs l m)):=by rw[dpEs];cases decide (16<m-1)<;>simp
   rw[this,e1,e2,lvs,Bool.eq_iff_iff];simp;omega
 have kD:∀l:List Nd,(∀x∈l,x∈r.decls)-> ∀m:Int,(decide (16<m-1)||dpDs l m)=decide (16<m-1+(lvs l:Int)):=by
  intro l
  induction l with
  |nil=>intro _ m;simp[dpDs,lvs]
  |cons x l ih=>
   intro h m;have e1:=ih (fun y hy=>h y (List.mem_cons_of_mem _ hy)) m;have e2:=hd x (h x (List.mem_cons_self ..)) m;have:(decide (16<m-1)||dpDs (x::l) m)=(dpE x m||(decide (16<m-1)||dpDs l m)):=by rw[dpDs];cases decide (16<m-1)<;>simp
   rw[this,e1,e2,lvs,Bool.eq_iff_iff];simp;omega
 have a:=kE r.subs (fun _ h=>h) (n+1);have b:=kD r.decls (fun _ h=>h) (n+1);rw[show n+1-1=n by omega]at a b;have:dpE r n=((decide (16<n)||dpEs r.subs (n+1))||(decide (16<n)||dpDs r.decls (n+1))):=by rw[Yfx];cases decide (16<n)<;>simp
 rw[this,a,b,Ygl,Bool.eq_iff_iff];simp;omega
abbrev H60(r:Nd):Prop:=size r<=2^50->Holds Tryz.prog 60 [.agg (encE r)] [] (Ret (intA (lv r)))
abbrev H56(l:List Nd):Prop:=sizes l<=2^50->Holds Tryz.prog 56 [slA (Ybc l)] [] (Ret (intA (lvs l)))
theorem Ydu(a b:Nat):gMax (a:Int) (b:Int)=(max a b:Nat):=by unfold gMax;split<;>omega
theorem Ydv{l:List Nd}{i:Nat}(h:i<l.length):max (lvs (l.take i)) (lv l[i])=lvs (l.take (i+1)):=by
 induction l generalizing i with
 |nil=>cases h
 |cons x l ih=>
  cases i with
  |zero=>simp[lvs]
  |succ i=>
   have:=ih (by simpa using h);simp only[List.take_succ_cons,lvs,List.getElem_cons_succ];rw[<-this];omega
theorem Yg2(l:List Nd)(i:Nat):lvs (l.take i)<=lvs l:=by
 induction l generalizing i with
 |nil=>simp[lvs]
 |cons x l ih=>
  cases i with
  |zero=>simp[lvs]
  |succ i=>have:=ih i;simp only[List.take_succ_cons,lvs];omega
theorem c56(l:List Nd)(ih:∀x∈l,H56 x.decls/\ ∀e∈x.subs,H60 e):H56 l:=by
 intro hz;have hll:=Ybm l;refine w56 (Ybc l) ⟨fun m x=>∃i:Nat,x=i/\i<=l.length/\m=(lvs (l.take i):Nat),fun _ x=>l.length-x.toNat,⟨0,rfl,Nat.zero_le _,by simp[lvs]⟩,?_,trivial⟩;rintro m x ⟨i,rfl,hi,rfl⟩;rw[Yaa];refine⟨fun hc=>?_,fun hc=>?_⟩
 ·have k1:i<l.length:=by have:=of_tlt hc;omega
  have hm:=List.getElem_mem k1;have hsz:=Ya2 hm;have hse:=size_eq l[i];have hsl:=Ybm l[i].subs;rw[Yf2 rfl k1];simp only[Ya6,d0,d1,d2,d3,d4,d5,d6,d7,d8,d9,d10,isK_int,Yaq,isK_slc,dint_int,Ya1,dlst_slc,true_and,Yab,Yaa,Yae,Bool.or_true];refine⟨tle (by omega),teq rfl,call1 ((ih _ hm).1 (by omega)) ⟨_,rfl,rfl,?_⟩⟩;refine⟨fun m x=>∃j:Nat,x=j/\j<=l[i].subs.length/\m=(max (lvs l[i].decls) (lvs (l[i].subs.take j)):Nat),fun _ x=>l[i].subs.length-x.toNat,⟨0,rfl,Nat.zero_le _,by simp[lvs]⟩,?_,trivial⟩;rintro m x ⟨j,rfl,hj,rfl⟩;have q1:=Ycj l[i].decls;have q2:=Ycj l[i].subs;have q3:=Yg2 l[i].subs j;refine⟨fun hc=>?_,fun hc=>?_⟩
  ·have k2:j<l[i].subs.length:=by have:=of_tlt hc;omega
   have hm2:=List.getElem_mem k2;have hsz2:=Ya2 hm2;rw[Ydw rfl k2];refine⟨tle (by omega),teq (by simp),call1 ((ih _ hm).2 _ hm2 (by omega)) ⟨_,rfl,rfl,tle (by omega),tle (by omega),⟨j+1,rfl,k2,?_⟩,dec k2⟩⟩;rw[Ydu,<-Ydv k2];omega
  ·have k2:l[i].subs.length<=j:=by have:=of_flt hc;omega
   rw[List.take_of_length_le k2];refine⟨tle (by omega),tle (by omega),tle (by omega),tle (by omega),⟨i+1,rfl,k1,?_⟩,dec k1⟩;rw[<-Ydv k1,Ygl];exact Ydu _ _
 ·have k1:l.length<=i:=by have:=of_flt hc;omega
  rw[List.take_of_length_le k1];exact⟨rfl,rfl⟩
theorem Yjh:∀r:Nd,H60 r/\H56 r.decls/\ ∀e∈r.subs,H60 e:=by
 refine Ybr fun r hs hd=>?_
 have ihs:∀e∈r.subs,H60 e:=fun x hx=>(hs x hx).1
 have ihd:H56 r.decls:=c56 r.decls fun x hx=>(hd x hx).2
 refine⟨fun hz=>?_,ihd,ihs⟩;have hse:=size_eq r;have hsl:=Ybm r.subs;refine w60 (encE r) ?_;simp only[Yah,e0,e1,e2,e3,e4,e5,e6,e7,e8,isK_int,Yaq,isK_slc,dint_int,Ya1,dlst_slc,true_and,Yab,Yaa,Yae,Bool.or_true];refine⟨teq rfl,call1 (ihd (by omega)) ⟨_,rfl,rfl,?_⟩⟩;refine⟨fun m x=>∃j:Nat,x=j/\j<=r.subs.length/\m=(max (lvs r.decls) (lvs (r.subs.take j)):Nat),fun _ x=>r.subs.length-x.toNat,⟨0,rfl,Nat.zero_le _,by simp[lvs]⟩,?_,trivial⟩;rintro m x ⟨j,rfl,hj,rfl⟩;have q1:=Ycj r.decls;have q2:=Ycj r.subs;have q3:=Yg2 r.subs j;refine⟨fun hc=>?_,fun hc=>?_⟩
 ·have k2:j<r.subs.length:=by have:=of_tlt hc;omega
  have hm2:=List.getElem_mem k2;have hsz2:=Ya2 hm2;rw[Ydw rfl k2];refine⟨tle (by omega),teq (by simp),call1 (ihs _ hm2 (by omega)) ⟨_,rfl,rfl,tle (by omega),tle (by omega),⟨j+1,rfl,k2,?_⟩,dec k2⟩⟩;rw[Ydu,<-Ydv k2];omega
 ·have k2:r.subs.length<=j:=by have:=of_flt hc;omega
  rw[List.take_of_length_le k2];exact⟨tle (by omega),tle (by omega),by rw[Ygl];exact⟨rfl,rfl⟩⟩
end Go.Sy
end
section
open Go Go.Proofs Go.Ab Go.Rf
set_option linter.unusedSimpArgs false
set_option linter.unusedVariables false
set_option maxRecDepth 100000
namespace Go.Sy
theorem Yho(k:Int)(t:Tx)(h:¬k=10):Yb2 k t=Ybb k t:=by
 unfold Yb2 Ybb;simp only[h,false_or]
theorem Yig(k num:Int)(m:Nat)(n:Int)(hn:n=m)(h:¬k=10)(hm:n<=1000000):((decide ((cntV k).1<=n)&&decide (n<=(cntV k).2))&&rNum k num n)=(Yav k num n&&Yc1 k num):=by
 have hn0:0<=n:=by omega
 unfold cntV rNum Yav Yc1;by_cases h1:k=9\/k=11\/k=18\/k=19
 ·have a:¬k=2/\ ¬k=14/\ ¬k=3/\ ¬k=21/\ ¬k=5:=by omega
  simp only[h1,a,h,or_self,if_true,if_false]
  congr 1;rw[Bool.eq_iff_iff];simp;omega
 ·simp only[if_neg h1];by_cases h2:k=12\/k=16\/k=20
  ·have a:¬k=2/\ ¬k=14/\ ¬k=3/\ ¬k=21/\ ¬k=5:=by omega
   simp only[h2,a,h,or_self,if_true,if_false]
   congr 1;rw[Bool.eq_iff_iff];simp;omega
  ·simp only[if_neg h2];by_cases h3:k=15
   ·subst h3;simp
    congr 1;rw[Bool.eq_iff_iff];simp;omega
   ·simp only[if_neg h3];by_cases h5:k=5
    ·subst h5;simp[hm]
    ·simp only[if_neg h5];by_cases h6:k=17
     ·subst h6;simp[hm]
     ·simp only[if_neg h6];by_cases h7:k=14
      ·subst h7;by_cases z0:num=0
       ·subst z0;rw[show gAnd .i64 0 1=0 by decide,Bool.eq_iff_iff];simp;omega
       ·by_cases z1:num=1
        ·subst z1;rw[show gAnd .i64 1 1=1 by decide,Bool.eq_iff_iff];simp;omega
        ·have e0:(num==0)=false:=by simpa using z0
         have e1:(num==1)=false:=by simpa using z1
         simp[e0,e1]
      ·by_cases h8:k=21
       ·subst h8;simp;omega
       ·simp only[h,h7,h8,or_self,if_false]
        congr 1
        ·rw[Bool.eq_iff_iff];simp;omega
        ·by_cases h9:k=2
         ·simp[h9]
         ·simp only[h9,or_self,if_false];by_cases h10:k=3
          ·simp only[h10,if_true];unfold fixV;rw[Bool.eq_iff_iff];simp;omega
          ·simp only[h10,if_false]
theorem Yih(t a b:Tx)(num n:Int):(idV t&&rRef a b num n)=Ycz t a b num n:=by
 unfold rRef Ycz;by_cases h1:a=[]
 ·rw[if_pos h1,if_pos h1,h1];simp[nonV,Bool.and_assoc]
 ·rw[if_neg h1,if_neg h1];by_cases h2:a=LET
  ·rw[if_pos h2,if_pos h2];have:decide (a∈Ye4)=true:=by rw[h2];decide
   rw[this];cases idV t<;>cases b.isEmpty<;>cases decide (0<=num)<;>cases (n==1)<;>rfl
  ·rw[if_neg h2,if_neg h2]
   have:decide (a∈Ye4)=decide (a∈refW):=by
    rw[Bool.eq_iff_iff];simp[Ye4,refW,h2]
   rw[this];by_cases h3:a∈refW
   ·rw[if_pos h3,decide_eq_true h3];cases idV t<;>cases b.isEmpty<;>cases decide (0<=num)<;>cases (n==0)<;>rfl
   ·rw[if_neg h3,decide_eq_false h3];simp
theorem Yii(r:Nd)(cj io il:Bool)(hs:r.subs.length<=1000000):Yed r cj io il=(fldV r&&Ydp r.kind cj io il):=by
 unfold Yed fldV;by_cases h:r.kind=10
 ·rw[if_pos h,if_pos h,<-Yih,h];have e1:Yav 10 r.num r.subs.length=true:=rfl;have e2:Ybb 10 r.text=true:=rfl;have e3:Yb2 10 r.text=idV r.text:=rfl;have e4:Ydp 10 cj io il=true:=by unfold Ydp;simp
  rw[e1,e2,e3,e4];generalize((((10:Int)==13||(10:Int)==22)||((r.decls.length:Int)+(r.tail.length:Int)==0)))=B;generalize rRef r.n0 r.n1 r.num r.subs.length=C;cases idV r.text<;>cases lnsV r.tail<;>cases B<;>cases C<;>rfl
 ·rw[if_neg h,if_neg h,<-Yho _ _ h];have e:=Yig r.kind r.num r.subs.length r.subs.length rfl h (by omega);generalize(if r.kind=15 then difV r.n0 r.n1 else nonV r.n0 r.n1)=N at*
  generalize((r.kind==13||r.kind==22)||((r.decls.length:Int)+(r.tail.length:Int)==0))=B at*;generalize Ydp r.kind cj io il=P at*;generalize(decide ((cntV r.kind).1<=(r.subs.length:Int))&&decide ((r.subs.length:Int)<=(cntV r.kind).2))=C at*;generalize(decide (1<=r.kind)&&decide (r.kind<=22))=K at*;generalize Yb2 r.kind r.text=W at*;generalize lnsV r.tail=L at*;generalize rNum r.kind r.num r.subs.length=M at*;generalize Yav r.kind r.num r.subs.length=S at*;generalize Yc1 r.kind r.num=U at*;cases N<;>cases B<;>cases P<;>cases K<;>cases W<;>cases L<;>simp_all
theorem Yij(r:Nd)(sc:Bool):Ya3 r sc=(Ya3 r true&&(sc||!(r.kind==4||r.kind==8))):=by
 cases sc
 ·have e:Ybh r.kind r.text false=(Ybh r.kind r.text true&&!(r.kind==4||r.kind==8)):=by
   unfold Ybh;by_cases h1:r.kind=1
   ·simp[h1]
   ·by_cases h2:r.kind=2
    ·simp[h1,h2]
    ·by_cases h4:r.kind=4
     ·simp[h1,h2,h4]
     ·have e4:(r.kind==4)=false:=by simpa using h4
      simp only[if_neg h1,if_neg h2,if_neg h4,e4,Bool.false_or,Bool.true_or,Bool.and_true]
  unfold Ya3;rw[e,Bool.false_or];generalize(!(r.kind==4||r.kind==8))=Q;cases Q<;>simp
 ·simp
theorem Ygm{r:Nd}{sc:Bool}(h:Ya3 r true=true):okFs r.subs (sc&&ownK r.kind)=r.subs.all fun e=>okE e (sc&&ownK r.kind) false false:=by
 by_cases hk:ownK r.kind=true
 ·have h1:(r.subs.length:Int)=1:=by
   unfold Ya3 at h;simp only[Bool.and_eq_true,beq_iff_eq]at h;have:=h.2.2.2;rw[this];unfold ownK at hk;simp at hk;unfold nSub;rw[if_neg (by omega),if_neg (by omega)]
  match hs:r.subs,h1 with
  |[x],_=>simp[okFs]
  |[],h1=>simp at h1
  |_::_::_,h1=>simp at h1;omega
 ·have hk:ownK r.kind=false:=by simpa using hk
  rw[hk,Bool.and_false]
  induction r.subs with
  |nil=>rfl
  |cons x l ih=>rw[okFs,ih];rfl
def Tam(r:Nd):Prop:=Big r/\r.subs.length<=1000000
abbrev H59(r:Nd):Prop:=∀cj io il:Bool,Holds Tryz.prog 59 [.agg (encE r),boolA cj,boolA io,boolA il] [] (Ret (boolA (okE r cj io il)))
abbrev H54(l:List Nd):Prop:=∀sc:Bool,Holds Tryz.prog 54 [slA (Ybc l),boolA sc] [] (Ret (boolA (okDs l sc)))
theorem shp(o s a b:Bool):(!((!o)||((!s)&&(a||b))))=(o&&(s||!(a||b))):=by cases o<;>cases s<;>rfl
theorem c54(l:List Nd)(hl:l.length<=2^50)(hb:∀x∈l,Tam x)(ih:∀x∈l,H54 x.decls/\ ∀e∈x.subs,H59 e):H54 l:=by
 intro sc;refine w54 (Ybc l) sc ⟨fun x=>∃i:Nat,x=i/\i<=l.length/\okDs (l.drop i) sc=okDs l sc,fun x=>l.length-x.toNat,⟨0,rfl,Nat.zero_le _,rfl⟩,?_,trivial⟩;rintro x ⟨i,rfl,hi,hr⟩;rw[Yaa];refine⟨fun hc=>?_,fun hc=>?_⟩
 ·have k1:i<l.length:=by have:=of_tlt hc;omega
  have hm:=List.getElem_mem k1;have hB:=hb _ hm;have IH:=ih _ hm;rw[Yeh sc k1]at hr;rw[Yf2 rfl k1];generalize l[i]=r at*;have hsl:=hB.2;have hE:=Yg1 r sc;have hdc:=Yij r sc;have hds:=Ygm (r:=r) (sc:=sc);simp only[Ya6,d0,d1,d2,d3,d4,d5,d6,d7,d8,d9,d10,isK_int,Yaq,isK_slc,dint_int,Ya1,dlst_slc,true_and,Yab,Yaa,Yae,Bool.or_true];refine⟨tle (by omega),teq rfl,call1 (c101 r hB.1) ⟨_,rfl,rfl,fun h1=>?_,fun h1=>Yac ?_⟩⟩
  ·have h2:Ya3 r sc=true:=by rw[hdc,<-shp];simpa only[Zwb]using h1
   have h1:Ya3 r true=true/\Ya3 r sc=true:=⟨by rw[h2]at hdc;exact(Bool.and_eq_true_iff.1 hdc.symm).1,h2⟩;rw[h1.2,hds h1.1]at hE;refine call1 (IH.1 false) ⟨_,rfl,rfl,fun h2=>Yac ?_,fun h2=>?_⟩
   ·rw[<-hr,hE,nb1 h2];simp
   ·rw[nb0 h2]at hE;refine⟨fun x=>∃j:Nat,x=j/\j<=r.subs.length/\((r.subs.drop j).all fun e=>okE e (sc&&ownK r.kind) false false)=(r.subs.all fun e=>okE e (sc&&ownK r.kind) false false),fun x=>r.subs.length-x.toNat,⟨0,rfl,Nat.zero_le _,rfl⟩,?_,trivial⟩;rintro x ⟨j,rfl,hj,hq⟩;refine⟨fun hc=>?_,fun hc=>?_⟩
    ·have k2:j<r.subs.length:=by have:=of_tlt hc;omega
     have hm2:=List.getElem_mem k2;rw[List.drop_eq_getElem_cons k2,List.all_cons]at hq;rw[Ydw rfl k2];refine⟨tle (by omega),teq (by simp),call1 (IH.2 _ hm2 _ false false) ⟨_,rfl,rfl,fun h3=>Yac ?_,fun h3=>⟨tle (by omega),tle (by omega),⟨j+1,rfl,k2,?_⟩,dec k2⟩⟩⟩
     ·have h3:okE r.subs[j] (sc&&ownK r.kind) false false=false:=nb1 (by simpa only[Zwb,ownK]using h3);rw[<-hr,hE,<-hq,h3];simp
     ·have h3:okE r.subs[j] (sc&&ownK r.kind) false false=true:=nb0 (by simpa only[Zwb,ownK]using h3);rw[<-hq,h3,Bool.true_and]
    ·have k2:r.subs.length<=j:=by have:=of_flt hc;omega
     rw[List.drop_eq_nil_of_le k2,List.all_nil]at hq;rw[<-hq]at hE;rw[hE]at hr;exact⟨tle (by omega),tle (by omega),⟨i+1,rfl,k1,by rw[<-hr];simp⟩,dec k1⟩
  ·have:Ya3 r sc=false:=by rw[hdc,<-shp];simpa only[Zwb]using h1
   rw[<-hr,hE,this];simp
 ·have k1:l.length<=i:=by have:=of_flt hc;omega
  rw[List.drop_eq_nil_of_le k1]at hr;exact Yac (by rw[<-hr];rfl)
theorem c59(r:Nd)(hB:Tam r)(ihs:∀x∈r.subs,H59 x)(ihd:H54 r.decls):H59 r:=by
 intro cj io il;have hE:=Yg0 r cj io il;rw[Yii r cj io il hB.2]at hE;refine w59 (encE r) cj io il ?_;simp only[Yah,e0,e1,e2,e3,e4,e5,e6,e7,e8,isK_int,Yaq,isK_slc,dint_int,Ya1,dlst_slc,true_and,Yab,Yaa,Yae,Bool.or_true]
 have key:∀{F b:Bool},(((((!F)||((tB (r.kind==18))&&(!io)))||((tB (r.kind==15))&&(!il)))||((tB (r.kind==13))&&(!cj)))||((tB (r.kind==22))&&cj))=b->(F&&Ydp r.kind cj io il)=!b:=fun h=>by
  subst h;simp only[Zwb];unfold Ydp;rename_i F;cases F<;>cases (r.kind==18)<;>cases (r.kind==15)<;>cases (r.kind==13)<;>cases (r.kind==22)<;>cases cj<;>cases io<;>cases il<;>rfl
 refine⟨teq rfl,call1 (c103 r hB.1) ⟨_,rfl,rfl,fun h1=>Yac ?_,fun h1=>?_⟩⟩
 ·rw[hE,key h1];simp
 ·rw[key h1,Bool.not_false,Bool.true_and]at hE;refine⟨fun x=>∃i:Nat,x=i/\i<=r.subs.length/\okEs (r.subs.drop i) ((r.kind==16&&cj)||r.kind==10) (r.kind==17) (r.kind==14) (r.kind==14&&r.num==0)=okEs r.subs ((r.kind==16&&cj)||r.kind==10) (r.kind==17) (r.kind==14) (r.kind==14&&r.num==0),fun x=>r.subs.length-x.toNat,⟨0,rfl,Nat.zero_le _,rfl⟩,?_,trivial⟩;rintro x ⟨i,rfl,hi,hr⟩;refine⟨fun hc=>?_,fun hc=>?_⟩
  ·have k1:i<r.subs.length:=by have:=of_tlt hc;omega
   have hm:=List.getElem_mem k1;have hsl:=hB.2;rw[Yeg _ _ _ _ k1]at hr;rw[Ydw rfl k1]
   have e:(tB (r.kind==14)&&(tB (r.num==0)||tB (decide ((i:Int)+1<(r.subs.length:Int)))))=(if i+1<r.subs.length then r.kind==14 else(r.kind==14&&r.num==0)):=by
    by_cases hlt:i+1<r.subs.length
    ·have:(i:Int)+1<r.subs.length:=by omega
     simp[hlt,this]
    ·have:¬(i:Int)+1<r.subs.length:=by omega
     simp[hlt,this]
   refine⟨tle (by omega),teq (by simp),by rw[tle (by omega),Bool.or_true],by rw[tle (by omega),Bool.or_true],call1 (ihs _ hm _ _ _) ⟨_,rfl,rfl,fun h3=>Yac ?_,fun h3=>⟨tle (by omega),tle (by omega),⟨i+1,rfl,k1,?_⟩,dec k1⟩⟩⟩
   ·have h3:=nb1 h3;rw[e]at h3;simp only[Zwb]at h3;rw[hE,<-hr,h3];simp
   ·have h3:=nb0 h3;rw[e]at h3;simp only[Zwb]at h3;rw[<-hr,h3];simp
  ·have k1:r.subs.length<=i:=by have:=of_flt hc;omega
   rw[List.drop_eq_nil_of_le k1,okEs]at hr;rw[<-hr,Bool.true_and]at hE;refine call1 (ihd _) ⟨_,rfl,rfl,Yac ?_⟩;rw[hE];simp only[Zwb]
theorem Yji:∀r:Nd,All Tam r->H59 r/\H54 r.decls/\ ∀e∈r.subs,H59 e:=by
 refine Ybr fun r hs hd hb=>?_
 have ihs:∀e∈r.subs,H59 e:=fun x hx=>(hs x hx (hb.sub hx)).1
 have ihd:H54 r.decls:=c54 r.decls hb.here.1.1.2.1 (fun x hx=>(hb.dec hx).here) fun x hx=>(hd x hx (hb.dec hx)).2
 exact⟨c59 r hb.here ihs ihd,ihd,ihs⟩
theorem Yik{r:Nd}(h:All Sml r):All Tam r:=h.mono fun x hx=>⟨BigB.mono (by decide) x hx,Nat.le_trans hx.1.1 (by decide)⟩
theorem Yil(ok dp:Bool)(n:Int)(h:dp=decide (16<n)):(if(!ok)=true then 11 else if 16<n then 9 else 0)=verV ok dp:=by
 subst h;unfold verV;cases ok<;>simp
theorem c18(r:Nd)(hb:All Sml r)(hz:size r<=2^40):Holds Tryz.prog 18 [.agg (encE r)] [] (Ret (intA (verV (okE r true false false) (dpE r 1)))):=by
 refine w18 _ ⟨teq (by simp),_,fun _=>(Yji r (Yik hb)).1 true false false,call1 ((Yjh r).1 (by omega)) ⟨_,rfl,rfl,call1 (c55 _ _) ⟨_,rfl,rfl,Yie ?_⟩⟩⟩;exact Yil _ _ _ (by rw[Yjg];simp)
end Go.Sy
end
section
open Go Go.Proofs Go.Ab Go.Rf
set_option linter.unusedSimpArgs false
set_option linter.unusedVariables false
set_option maxRecDepth 100000
namespace Go.Sy
theorem c4(r:Nd)(hr:All Big r)(wr:wfE r):Holds Tryz.prog 4 [.agg (encE r)] [] (Ret (boolA true)):=by
 refine w4 _ ⟨teq (by simp),call1 (c16 r hr) ⟨_,rfl,rfl,fun _=>call1 c13 ⟨_,rfl,rfl,rfl,rfl⟩,fun h=>?_⟩⟩;obtain⟨h1,h2⟩:=Yh6 wr (nb0 h);have hz:=(Yif r).1;exact⟨_,fun _=>c17 r (Yi3 hr) (by omega),call1 (c18 r h1 (by omega)) ⟨_,rfl,rfl,fun _=>call1 c13 ⟨_,rfl,rfl,rfl,rfl⟩,fun h=>by simp at h⟩⟩
end Go.Sy
end
section
open Go Go.Proofs Go.Ab Go.Rf Go.ChangeShapes Go.WideShapes Go.ChangeAt Go.Proofs.YtpcnadmaeebhbaaGreatDoor
set_option maxRecDepth 100000
namespace Go.Sy
theorem Yf1(os:Os):laidMet Tryz.prog Rows.syntaxCheckExprRow.laid ((Ycq os).forCall (fun _ _=>0) ⟨#[],#[zE],[]⟩).memory:=
 laidMet_of_run' 8 (by kernel_rfl) (by kernel_rfl)
theorem Yim(os:Os){H:Type}(en:TypeId×Value->H):∃places,DataW.whole en Tryz.prog ((Ycq os).forCall (fun _ _=>0) ⟨#[],#[zE],[]⟩).memory Tryz.f4.params.toList Rows.syntaxCheckExprSpec.vars false #[zE].toList 8=some ([dE],[],places):=
 ⟨[],by kernel_rfl⟩
theorem Yhp(os:Os)(started:os.Started)(H:Type)(en:TypeId×Value->H)(F:Stop.Interp):
 ReturnsInHanded {} Tryz.checked os 4 .any ((OpenSpec.ofChange Rows.syntaxCheckExprSpec).preRow en Tryz.prog Tryz.f4 Rows.syntaxCheckExprRow.domain false Rows.syntaxCheckExprRow.laid) (((OpenSpec.ofChange Rows.syntaxCheckExprSpec).at F).post en Tryz.prog Tryz.f4 false true false false):=by
 obtain⟨places,hx⟩:=Yim os en
 refine returnsInHanded_of_row (C:=Tryz.checked) (s:=OpenSpec.ofChange Rows.syntaxCheckExprSpec) own started (by kernel_rfl) Tryz.func4
  (witness_row_at (enc:=en) (C:=Tryz.checked) false (Ycq os) #[zE] rfl (by kernel_rfl) (by kernel_rfl) (by kernel_rfl)
   (OpenSpec.preRow_of_cond 8 hx (by kernel_rfl) (fun k hk=>by cases hk) (by kernel_rfl) (Yf1 os))) ?_
 intro W base args ds gs before hval0 hW _ _ hsz0 hL _ _;have hval:∀(j:Nat) t v,Tryz.f4.params[j]? =some t->args[j]? =some v->Value.okWide Tryz.prog W .any base t v:=hval0;have hW':DataW.Whole en Tryz.prog Tryz.f4.params.toList Rows.syntaxCheckExprSpec.vars false W args.toList ds gs before:=hW;obtain⟨p,q,hA0,hV,rfl,hfz,hnd⟩:=hW;have hA:DataW.TrodAll en Tryz.prog W 0 (fun _=>true) true Tryz.f4.params.toList args.toList ds p:=hA0;have hsz:(DataW.weightsEach Tryz.prog (Tryz.f4.params.toList++[]) (ds++gs)).all (· <=reachBytes)=true:=hsz0;rw[Tryz.params4]at hA hval hsz;obtain⟨v0,vs0,d0,ds0,p0,q0,hargs,rfl,rfl,h0,r0⟩:=trodAll_cons hA;obtain⟨rfl,rfl,rfl⟩:=trodAll_nil r0;obtain rfl:args= #[v0]:=by cases args;simp_all
 obtain⟨a0,k0,g0,e0⟩:=Yi5 (hval 0 34 v0 rfl rfl) h0 (Yh8 hsz (i:=0) rfl rfl);refine(Yel Tryz.func4 rfl rfl (Holds.out (c4 a0 g0 e0) (w:=W) (cargs:= #[v0]) ⟨k0,trivial⟩)).mono fun e W' ⟨cv,g',he,hc,hb⟩=>?_
 have hc:cv=.bool true:=by cases hc;rfl
 subst hc;exact⟨_,he,Yga (s:=Rows.syntaxCheckExprSpec) rfl hW' rfl rfl lay (by kernel_rfl) hb⟩
theorem syntaxCheckExpr_holds:Rows.SyntaxCheckExprSaid:=
 OpenClaim.holds_of_cond 4 Tryz.f4 rfl rfl rfl rfl rfl rfl rfl ⟨rfl,rfl,rfl,rfl,rfl⟩ rfl rfl rfl rfl rfl (by kernel_rfl) Tryz.func4 (by kernel_rfl)
  (of_decide_eq_true (by kernel_rfl)) (by unfold Func.isWrapper;first|(rw[if_pos (by decide+kernel)];kernel_rfl)|(rw[if_neg (by decide+kernel)];exact⟨rfl,rfl⟩))
  (fun os started H en _ F=>by rw[OpenClaim.pre_eq_preRow];exact Yhp os started H en F)
theorem plain4(f:FuncId)(fn:Func)(hf:Tryz.pinned.checked.prog.funcNamed "configlang/configlanglaw25.SyntaxCheckExpr" =some f)(hfn:Tryz.pinned.checked.prog.funcs[f]? =some fn):
 true=Tryz.pinned.checked.prog.looks []/\ ∀(j:Nat) t,fn.params[j]? =some t->Tryz.pinned.checked.prog.wantsStandIn t=false:=by
 obtain rfl:f=4:=Option.some.inj ((show Tryz.prog.funcNamed "configlang/configlanglaw25.SyntaxCheckExpr" =some 4 by kernel_rfl).symm.trans hf)|>.symm;obtain rfl:fn=Tryz.f4:=(Option.some.inj (Tryz.func4.symm.trans hfn)).symm;refine⟨by kernel_rfl,fun j t ht=>?_⟩;rw[Tryz.params4]at ht;have hm:t∈[34]:=by simpa using Array.mem_of_getElem? ht
 have hall:([34].all fun u=>!Tryz.prog.wantsStandIn u)=true:=by kernel_rfl
 exact(show Tryz.prog.wantsStandIn t=false by simpa using List.all_eq_true.1 hall t hm)
end Go.Sy
namespace Go.Proofs.YtpcnadmaeebhbaaGreatDoor
theorem syntaxCheckExpr_proved:Rows.SyntaxCheckExprCardSaid:=
 Claim7.holds_tied_plain_at .later [] _ _ _ _ Go.Sy.syntaxCheckExpr_holds (fun _ h=>by cases h) (by kernel_rfl) (fun _ h=>by cases h) syntaxCheckExpr_row_tie rfl ⟨rfl,rfl⟩ (by kernel_rfl) rfl Go.Sy.plain4 (by kernel_rfl)
end Go.Proofs.YtpcnadmaeebhbaaGreatDoor
end
