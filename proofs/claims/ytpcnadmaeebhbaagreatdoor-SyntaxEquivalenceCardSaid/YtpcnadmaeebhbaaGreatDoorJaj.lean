/- Part 10 of the proof: SyMk, SyEq, SySm, SyOpen, SyTop, SyMap, SyRc, SySiz, SyJn, SyRf, SyCom, SyRp, SxB, SxSet, SxByte, SxCls, SxIdx, SxChk, SxSize, SxNull, SxSpec, SxPp, SxPq, SxPr. -/
import Derived.Test.YtpcnadmaeebhbaaGreatDoorRows
import Derived.WalkKit
import Derived.ProofKit
import Derived.OpenShut
import Derived.JoinedOf
import Derived.Deep.Slices
import Derived.Test.YtpcnadmaeebhbaaGreatDoorCards
import Derived.Test.YtpcnadmaeebhbaaGreatDoorTie
import Derived.Carry
import Derived.Deep.DeepHandedRow
import Derived.Lib.LaidTab
import Derived.Laws.Externs
import Derived.Test.YtpcnadmaeebhbaaGreatDoorJai
set_option linter.unusedVariables false
set_option linter.unusedSimpArgs false
section
open Go Go.Proofs Go.Ab Go.Rf
set_option linter.unusedSimpArgs false
set_option maxRecDepth 100000
namespace Go.Sy
theorem getT{l:List Tx}{i:Nat}(h:i<l.length):Rf.isK .str ((gAt (txs l) (i:Int)).getD 0 D0)=true/\Rf.dstr ((gAt (txs l) (i:Int)).getD 0 D0)=l[i]:=by rw[gT0 h];simp[dS]
theorem c23(a b:List Tx)(ha:a.length<=2^50):Holds Tryz.prog 23 [slA (txs a),slA (txs b)] [] (Ret (Yae (decide (a=b)))):=by
 refine w23 (txs a) (txs b) ⟨fun h=>?_,fun h=>?_⟩
 ·have hne:a≠b:=fun e=>by subst e;simp at h
  exact⟨by simp[hne],rfl⟩
 ·have hl:a.length=b.length:=by simp at h;omega
  refine⟨fun x=>∃i:Nat,x=i/\i<=a.length/\(a.drop i=b.drop i↔a=b),fun x=>a.length-x.toNat,⟨0,rfl,Nat.zero_le _,by simp⟩,?_,trivial⟩;rintro x ⟨i,rfl,hi,hr⟩;refine⟨fun hc=>?_,fun hc=>?_⟩
  ·have h1:i<a.length:=by have:=of_tlt hc;simp at this;omega
   have h2:i<b.length:=by omega
   refine⟨tle (by omega),teq (by rw[gT1 h1];rfl),(getT h1).1,tlt (by simp;omega),teq (by rw[gT1 h2];rfl),(getT h2).1,fun hn=>?_,fun hn=>⟨tle (by omega),tle (by omega),⟨i+1,rfl,h1,?_⟩,dec h1⟩⟩
   ·rw[(getT h1).2,(getT h2).2]at hn;have hne:a≠b:=fun e=>by subst e;simp at hn
    exact⟨by simp[hne],rfl⟩
   ·rw[(getT h1).2,(getT h2).2]at hn;have he:a[i]=b[i]:=by simpa using hn
    rw[<-hr]
    conv=>rhs;rw[Yaa h1,Yaa h2]
    simp only[List.cons.injEq,he,true_and]
  ·have h1:a.length<=i:=by have:=of_flt hc;simp at this;omega
   have:a=b:=hr.1 (by rw[Yac h1,Yac (by omega)]);exact⟨by simp[this],rfl⟩
def encF(p:Tx)(im:List (List D))(d:List Nd)(t:List Tx):List D:=[dS p,.slc im,.slc (Yai d),.slc (txs t)]
end Go.Sy
end
section
open Go Go.Proofs Go.Ab Go.Rf
set_option linter.unusedSimpArgs false
set_option maxRecDepth 100000
namespace Go.Sy
mutual
def eqE:Nd->Nd->Bool
 |.mk k n t a b _ _ ta _ s d,y=>(k==y.kind&&t==y.text&&n==y.num&&a==y.n0&&b==y.n1)&&decide (ta=y.tail)&&eqEs s y.subs&&eqDs d y.decls
def eqEs:List Nd->List Nd->Bool
 |[],[]=>true
 |a::l,b::m=>eqE a b&&eqEs l m
 |[],_::_=>false
 |_::_,[]=>false
def eqD:Nd->Nd->Bool
 |.mk k n t a b tr le ta _ s d,y=>(k==y.kind&&n==y.num&&t==y.text&&a==y.n0&&b==y.n1)&&tr==y.trail&&decide (le=y.lead)&&decide (ta=y.tail)&&eqEs s y.subs&&eqDs d y.decls
def eqDs:List Nd->List Nd->Bool
 |[],[]=>true
 |a::l,b::m=>eqD a b&&eqDs l m
 |[],_::_=>false
 |_::_,[]=>false
end
theorem Yec(x y:Nd):eqE x y=((x.kind==y.kind&&x.text==y.text&&x.num==y.num&&x.n0==y.n0&&x.n1==y.n1)&&decide (x.tail=y.tail)&&eqEs x.subs y.subs&&eqDs x.decls y.decls):=by cases x;rw[eqE];rfl
theorem Yed(x y:Nd):eqD x y=((x.kind==y.kind&&x.num==y.num&&x.text==y.text&&x.n0==y.n0&&x.n1==y.n1)&&x.trail==y.trail&&decide (x.lead=y.lead)&&decide (x.tail=y.tail)&&eqEs x.subs y.subs&&eqDs x.decls y.decls):=by cases x;rw[eqD];rfl
theorem Ydv:∀{l m:List Nd},l.length≠m.length->eqEs l m=false
 |[],[],h=>absurd rfl h
 |[],_::_,_=>by simp[eqEs]
 |_::_,[],_=>by simp[eqEs]
 |a::l,b::m,h=>by unfold eqEs;rw[Ydv (l:=l) (m:=m) (by simpa using h)];simp
theorem Yc0:∀{l m:List Nd},l.length≠m.length->eqDs l m=false
 |[],[],h=>absurd rfl h
 |[],_::_,_=>by simp[eqDs]
 |_::_,[],_=>by simp[eqDs]
 |a::l,b::m,h=>by unfold eqDs;rw[Yc0 (l:=l) (m:=m) (by simpa using h)];simp
theorem c65(a b:List Tx)(ha:a.length<=2^50):Holds Tryz.prog 65 [slA (txs a),slA (txs b)] [] (Ret (Yae (decide (a=b)))):=by
 refine w65 (txs a) (txs b) ⟨fun h=>?_,fun h=>?_⟩
 ·have hne:a≠b:=fun e=>by subst e;simp at h
  exact⟨by simp[hne],rfl⟩
 ·have hl:a.length=b.length:=by simp at h;omega
  refine⟨fun x=>∃i:Nat,x=i/\i<=a.length/\(a.drop i=b.drop i↔a=b),fun x=>a.length-x.toNat,⟨0,rfl,Nat.zero_le _,by simp⟩,?_,trivial⟩;rintro x ⟨i,rfl,hi,hr⟩;refine⟨fun hc=>?_,fun hc=>?_⟩
  ·have h1:i<a.length:=by have:=of_tlt hc;simp at this;omega
   have h2:i<b.length:=by omega
   refine⟨tle (by omega),teq (by rw[gT1 h1];rfl),(getT h1).1,tlt (by simp;omega),teq (by rw[gT1 h2];rfl),(getT h2).1,fun hn=>?_,fun hn=>⟨tle (by omega),tle (by omega),⟨i+1,rfl,h1,?_⟩,dec h1⟩⟩
   ·rw[(getT h1).2,(getT h2).2]at hn;have hne:a≠b:=fun e=>by subst e;simp at hn
    exact⟨by simp[hne],rfl⟩
   ·rw[(getT h1).2,(getT h2).2]at hn;have he:a[i]=b[i]:=by simpa using hn
    rw[<-hr]
    conv=>rhs;rw[Yaa h1,Yaa h2]
    simp only[List.cons.injEq,he,true_and]
  ·have h1:a.length<=i:=by have:=of_flt hc;simp at this;omega
   have:a=b:=hr.1 (by rw[Yac h1,Yac (by omega)]);exact⟨by simp[this],rfl⟩
theorem c67(l m:List Nd)(hl:l.length<=2^50)(ih:∀x∈l,∀y,Holds Tryz.prog 21 [.agg (encE x),.agg (encE y)] [] (Ret (Yae (eqE x y)))):
 Holds Tryz.prog 67 [slA (Yaz l),slA (Yaz m),.fn 21 []] [] (Ret (Yae (eqEs l m))):=by
 refine w67 _ _ ⟨fun h=>?_,fun h=>?_⟩
 ·exact⟨by rw[Ydv (by simp at h;omega)],rfl⟩
 ·have hlen:l.length=m.length:=by simp at h;omega
  refine⟨fun x=>∃i:Nat,x=i/\i<=l.length/\eqEs (l.drop i) (m.drop i)=eqEs l m,fun x=>l.length-x.toNat,⟨0,rfl,Nat.zero_le _,rfl⟩,?_,trivial⟩;rintro x ⟨i,rfl,hi,hr⟩;refine⟨fun hc=>?_,fun hc=>?_⟩
  ·have h1:i<l.length:=by have:=of_tlt hc;simp at this;omega
   have h2:i<m.length:=by omega
   rw[Yaa h1,Yaa h2,eqEs]at hr;rw[Ybd rfl h1,Ybd rfl h2];refine⟨tle (by omega),teq (by simp),tlt (by simp;omega),teq (by simp),call1 (ih _ (List.getElem_mem h1) _) ⟨_,rfl,rfl,fun hn=>?_,fun hn=>⟨tle (by omega),tle (by omega),⟨i+1,rfl,h1,?_⟩,dec h1⟩⟩⟩
   ·have hn:eqE l[i] m[i]=false:=by simpa using hn
    exact⟨by rw[<-hr,hn];rfl,rfl⟩
   ·have hn:eqE l[i] m[i]=true:=by simpa using hn
    rw[<-hr,hn];rfl
  ·have h1:l.length<=i:=by have:=of_flt hc;simp at this;omega
   rw[Yac h1,Yac (by omega)]at hr;exact⟨by rw[<-hr];simp[eqEs],rfl⟩
theorem c63(l m:List Nd)(hl:l.length<=2^50)(ih:∀x∈l,∀y,Holds Tryz.prog 64 [.agg (encD x),.agg (encD y)] [] (Ret (Yae (eqD x y)))):
 Holds Tryz.prog 63 [slA (Yai l),slA (Yai m),.fn 64 []] [] (Ret (Yae (eqDs l m))):=by
 refine w63 _ _ ⟨fun h=>?_,fun h=>?_⟩
 ·exact⟨by rw[Yc0 (by simp at h;omega)],rfl⟩
 ·have hlen:l.length=m.length:=by simp at h;omega
  refine⟨fun x=>∃i:Nat,x=i/\i<=l.length/\eqDs (l.drop i) (m.drop i)=eqDs l m,fun x=>l.length-x.toNat,⟨0,rfl,Nat.zero_le _,rfl⟩,?_,trivial⟩;rintro x ⟨i,rfl,hi,hr⟩;refine⟨fun hc=>?_,fun hc=>?_⟩
  ·have h1:i<l.length:=by have:=of_tlt hc;simp at this;omega
   have h2:i<m.length:=by omega
   rw[Yaa h1,Yaa h2,eqDs]at hr;rw[Ycf rfl h1,Ycf rfl h2];refine⟨tle (by omega),teq (by simp),tlt (by simp;omega),teq (by simp),call1 (ih _ (List.getElem_mem h1) _) ⟨_,rfl,rfl,fun hn=>?_,fun hn=>⟨tle (by omega),tle (by omega),⟨i+1,rfl,h1,?_⟩,dec h1⟩⟩⟩
   ·have hn:eqD l[i] m[i]=false:=by simpa using hn
    exact⟨by rw[<-hr,hn];rfl,rfl⟩
   ·have hn:eqD l[i] m[i]=true:=by simpa using hn
    rw[<-hr,hn];rfl
  ·have h1:l.length<=i:=by have:=of_flt hc;simp at this;omega
   rw[Yac h1,Yac (by omega)]at hr;exact⟨by rw[<-hr];simp[eqDs],rfl⟩
theorem Yla:∀(r:Nd),Lm r->(∀y,Holds Tryz.prog 21 [.agg (encE r),.agg (encE y)] [] (Ret (Yae (eqE r y))))/\ ∀y,Holds Tryz.prog 64 [.agg (encD r),.agg (encD y)] [] (Ret (Yae (eqD r y))):=by
 refine Ya0 fun r hs hd hl=>?_
 have l1:=hl.here;have ihs:=c67 r.subs (hl:=Nat.le_trans l1.1 (by omega)) (ih:=fun x hx=>(hs x hx (hl.sub hx)).1);have ihd:=c63 r.decls (hl:=Nat.le_trans l1.2.1 (by omega)) (ih:=fun x hx=>(hd x hx (hl.dec hx)).2);refine⟨fun y=>?_,fun y=>?_⟩
 ·have no:∀b,eqE r y=b->Ret (Yae (eqE r y)) (.ret (Yae b)) []:=fun b h=>⟨by rw[h],rfl⟩
  rw[Yec]at no⊢;refine w21 (encE r) (encE y) ?_;simp only[Yal,e0,e1,e2,e3,e4,e5,e6,e7,e8,isK_int,Yad,isK_slc,dint_int,Yak,dlst_slc,Bool.or_true,true_and];refine⟨teq rfl,teq rfl,fun h=>⟨fun h1=>⟨fun h2=>?_,fun h2=>no _ ?_⟩,fun h1=>no _ ?_⟩,fun h=>no _ ?_⟩
  ·refine call1 (c65 _ _ (Nat.le_trans l1.2.2.1 (by omega))) ⟨_,rfl,rfl,fun h3=>?_,fun h3=>no _ (by simp[h3])⟩;refine call1 (ihs y.subs) ⟨_,rfl,rfl,fun h4=>?_,fun h4=>no _ (by simp[h4])⟩;refine call1 (ihd y.decls) ⟨_,rfl,rfl,no _ ?_⟩;simp only[Zwb,Bool.and_eq_true,beq_iff_eq,decide_eq_true_eq]at h h1 h2 h3;simp[h,h1,h2,h3,h4]
  ·simp only[Zwb,beq_eq_false_iff_ne]at h2;simp[h2]
  ·simp only[Zwb,beq_eq_false_iff_ne]at h1;simp[h1]
  ·simp only[Zwb]at h;have:(r.kind==y.kind&&r.text==y.text&&r.num==y.num)=false:=h;simp[this]
 ·have no:∀b,eqD r y=b->Ret (Yae (eqD r y)) (.ret (Yae b)) []:=fun b h=>⟨by rw[h],rfl⟩
  rw[Yed]at no⊢;refine w64 (encD r) (encD y) ?_;simp only[Yao,d0,d1,d2,d3,d4,d5,d6,d7,d8,d9,d10,isK_int,Yad,isK_slc,dint_int,Yak,dlst_slc,Bool.or_true,true_and];refine⟨teq rfl,teq rfl,fun h=>⟨fun h2=>?_,fun h2=>no _ ?_⟩,fun h=>no _ ?_⟩
  ·refine call1 (c65 _ _ (Nat.le_trans l1.2.2.2 (by omega))) ⟨_,rfl,rfl,fun h3=>?_,fun h3=>no _ (by simp[h3])⟩;refine call1 (c65 _ _ (Nat.le_trans l1.2.2.1 (by omega))) ⟨_,rfl,rfl,fun h3'=>?_,fun h3'=>no _ (by simp[h3'])⟩;refine call1 (ihs y.subs) ⟨_,rfl,rfl,fun h4=>?_,fun h4=>no _ (by simp[h4])⟩;refine call1 (ihd y.decls) ⟨_,rfl,rfl,no _ ?_⟩;simp only[Zwb,Bool.and_eq_true,beq_iff_eq,decide_eq_true_eq]at h h2 h3 h3';simp[h,h2,h3,h3',h4]
  ·simp only[Zwb,beq_eq_false_iff_ne]at h2;simp[h2]
  ·simp only[Zwb]at h;have h':(r.kind==y.kind&&r.num==y.num&&r.text==y.text&&r.n0==y.n0&&r.n1==y.n1)=false:=by rw[<-h];simp only[Bool.and_assoc]
   simp only[h',Bool.false_and]
theorem c63'(l m:List Nd)(hl:l.length<=2^50)(h:∀x∈l,Lm x):Holds Tryz.prog 63 [slA (Yai l),slA (Yai m),.fn 64 []] [] (Ret (Yae (eqDs l m))):=c63 l m hl fun x hx=>(Yla x (h x hx)).2
structure Im where
 name:Tx
 path:Tx
 pos:Int
def encI(i:Im):List D:=[dS i.name,dS i.path,dI i.pos]
def Yck(l:List Im):List (List D):=l.map encI
structure Fl where
 pkg:Tx
 imps:List Im
 decls:List Nd
 tail:List Tx
def Ybi(f:Fl):List D:=encF f.pkg (Yck f.imps) f.decls f.tail
@[simp] theorem Yaw (f:Fl):(Ybi f).length=4:=rfl
@[simp] theorem f0 (f:Fl):(Ybi f).getD 0 D0=dS f.pkg:=rfl
@[simp] theorem f1 (f:Fl):(Ybi f).getD 1 D0=.slc (Yck f.imps):=rfl
@[simp] theorem f2 (f:Fl):(Ybi f).getD 2 D0=.slc (Yai f.decls):=rfl
@[simp] theorem f3 (f:Fl):(Ybi f).getD 3 D0=.slc (txs f.tail):=rfl
@[simp] theorem Ybe (l:List Im):(Yck l).length=l.length:=by simp[Yck]
theorem Ydi{l:List Im}{i:Nat}{x:Int}(hx:x=i)(h:i<l.length):gAt (Yck l) x=encI l[i]:=by
 subst hx;simp[gAt,Yck,List.getD,h]
@[simp] theorem Ybb (i:Im):(encI i).length=3:=rfl
@[simp] theorem i0 (i:Im):(encI i).getD 0 D0=dS i.name:=rfl
@[simp] theorem i1 (i:Im):(encI i).getD 1 D0=dS i.path:=rfl
@[simp] theorem i2 (i:Im):(encI i).getD 2 D0=dI i.pos:=rfl
def LmF(f:Fl):Prop:=(f.imps.length<=2^50/\f.decls.length<=2^50/\f.tail.length<=2^50)/\ ∀x∈f.decls,Lm x
def eqI(a b:Im):Bool:=a.name==b.name&&a.path==b.path
def eqIs:List Im->List Im->Bool
 |[],[]=>true
 |a::l,b::m=>eqI a b&&eqIs l m
 |[],_::_=>false
 |_::_,[]=>false
theorem Yc1:∀{l m:List Im},l.length≠m.length->eqIs l m=false
 |[],[],h=>absurd rfl h
 |[],_::_,_=>by simp[eqIs]
 |_::_,[],_=>by simp[eqIs]
 |a::l,b::m,h=>by unfold eqIs;rw[Yc1 (l:=l) (m:=m) (by simpa using h)];simp
def eqF(f g:Fl):Bool:=f.pkg==g.pkg&&eqIs f.imps g.imps&&eqDs f.decls g.decls&&decide (f.tail=g.tail)
theorem c61(a b:Im):Holds Tryz.prog 61 [.agg (encI a),.agg (encI b)] [] (Ret (Yae (eqI a b))):=by
 refine w61 _ _ ?_;simp only[Ybb,i0,i1,Yad,Yak,Bool.or_true,true_and];exact⟨teq rfl,teq rfl,by simp[eqI],rfl⟩
theorem c62(l m:List Im)(hl:l.length<=2^50):Holds Tryz.prog 62 [slA (Yck l),slA (Yck m),.fn 61 []] [] (Ret (Yae (eqIs l m))):=by
 refine w62 _ _ ⟨fun h=>?_,fun h=>?_⟩
 ·exact⟨by rw[Yc1 (by simp at h;omega)],rfl⟩
 ·have hlen:l.length=m.length:=by simp at h;omega
  refine⟨fun x=>∃i:Nat,x=i/\i<=l.length/\eqIs (l.drop i) (m.drop i)=eqIs l m,fun x=>l.length-x.toNat,⟨0,rfl,Nat.zero_le _,rfl⟩,?_,trivial⟩;rintro x ⟨i,rfl,hi,hr⟩;refine⟨fun hc=>?_,fun hc=>?_⟩
  ·have h1:i<l.length:=by have:=of_tlt hc;simp at this;omega
   have h2:i<m.length:=by omega
   rw[Yaa h1,Yaa h2,eqIs]at hr;rw[Ydi rfl h1,Ydi rfl h2];refine⟨tle (by omega),teq (by simp),tlt (by simp;omega),teq (by simp),call1 (c61 _ _) ⟨_,rfl,rfl,fun hn=>?_,fun hn=>⟨tle (by omega),tle (by omega),⟨i+1,rfl,h1,?_⟩,dec h1⟩⟩⟩
   ·have hn:eqI l[i] m[i]=false:=by simpa using hn
    exact⟨by rw[<-hr,hn];rfl,rfl⟩
   ·have hn:eqI l[i] m[i]=true:=by simpa using hn
    rw[<-hr,hn];rfl
  ·have h1:l.length<=i:=by have:=of_flt hc;simp at this;omega
   rw[Yac h1,Yac (by omega)]at hr;exact⟨by rw[<-hr];simp[eqIs],rfl⟩
theorem c19(f g:Fl)(h:LmF f):Holds Tryz.prog 19 [.agg (Ybi f),.agg (Ybi g)] [] (Ret (Yae (eqF f g))):=by
 have no:∀b,eqF f g=b->Ret (Yae (eqF f g)) (.ret (Yae b)) []:=fun b h=>⟨by rw[h],rfl⟩
 unfold eqF at no⊢;refine w19 _ _ ?_;simp only[Yaw,f0,f1,f2,f3,Yad,isK_slc,Yak,dlst_slc,Bool.or_true,true_and];refine⟨teq rfl,teq rfl,fun h1=>?_,fun h1=>no _ ?_⟩
 ·refine call1 (c62 _ _ (Nat.le_trans h.1.1 (by omega))) ⟨_,rfl,rfl,fun h2=>?_,fun h2=>no _ (by simp[h2])⟩;refine call1 (c63' _ _ (Nat.le_trans h.1.2.1 (by omega)) h.2) ⟨_,rfl,rfl,fun h3=>?_,fun h3=>no _ (by simp[h3])⟩;refine call1 (c65 _ _ (Nat.le_trans h.1.2.2 (by omega))) ⟨_,rfl,rfl,no _ ?_⟩;simp only[Zwb,beq_iff_eq]at h1;simp[h1,h2,h3]
 ·simp only[Zwb,beq_eq_false_iff_ne]at h1;simp[h1]
end Go.Sy
end
section
open Go Go.Proofs Go.Ab Go.Rf
set_option linter.unusedSimpArgs false
set_option maxRecDepth 100000
namespace Go.Sy
def Yj1(n:Int)(s:Tx):Int:=min (n+s.length) 10000
def Ycl(n:Int)(l:List Tx):Int:=l.foldl Yj1 n
abbrev Yay(l:List Tx):Int:=Ycl 0 l
theorem Ycg(n:Int)(s:Tx)(l:List Tx):Ycl n (s::l)=Ycl (min (n+s.length) 10000) l:=rfl
theorem Yc4:∀(l:List Tx)(n:Int),0<=n->n<=10000->0<=Ycl n l/\Ycl n l<=10000/\(n<=Ycl n l)
 |[],n,h1,h2=>⟨h1,h2,Int.le_refl _⟩
 |s::l,n,h1,h2=>by
  rw[Ycg];obtain⟨a,b,c⟩:=Yc4 l (min (n+s.length) 10000) (by omega) (by omega);exact⟨a,b,by omega⟩
theorem Ydl:∀(l:List Tx)(n:Int)(s:Tx),0<=n->n<=10000->s∈l->Ycl n l<10000->(s.length:Int)<=Ycl n l
 |[],n,s,_,_,h,_=>by cases h
 |x::l,n,s,h1,h2,h,hs=>by
  rw[Ycg]at hs⊢;have hb:=Yc4 l (min (n+x.length) 10000) (by omega) (by omega);rcases List.mem_cons.1 h with rfl|h
  ·omega
  ·exact Ydl l _ s (by omega) (by omega) h hs
theorem Yar(l:List Tx):0<=Yay l/\Yay l<=10000:=by
 have:=Yc4 l 0 (by omega) (by omega);exact⟨this.1,this.2.1⟩
theorem c41(l:List Tx)(hl:l.length<=2^50)(ht:∀s∈l,s.length<=2^50):Holds Tryz.prog 41 [slA (txs l)] [] (Ret (intA (Yay l))):=by
 refine w41 (txs l) ⟨fun n x=>∃i:Nat,x=i/\i<=l.length/\0<=n/\n<=10000/\Ycl n (l.drop i)=Yay l,fun _ x=>l.length-x.toNat,⟨0,rfl,Nat.zero_le _,by omega,by omega,rfl⟩,?_,trivial⟩;rintro n x ⟨i,rfl,hi,h1,h2,hr⟩;refine⟨fun hc=>?_,fun hc=>?_⟩
 ·have k1:i<l.length:=by have:=of_tlt hc;simp at this;omega
  have k2:=ht _ (List.getElem_mem k1);rw[Yaa k1,Ycg]at hr;rw[(getT k1).2]
  have e:(n+((l[i]).length:Int)+10000)-gMax (n+((l[i]).length:Int)) 10000=min (n+l[i].length) 10000:=by
   unfold gMax;split<;>omega
  rw[e];exact⟨tle (by omega),teq (by rw[gT1 k1];rfl),(getT k1).1,tle (by omega),tle (by omega),tle (by omega),tle (by omega),⟨i+1,rfl,k1,by omega,by omega,hr⟩,dec k1⟩
 ·have k1:l.length<=i:=by have:=of_flt hc;simp at this;omega
  rw[Yac k1]at hr;exact⟨by rw[<-hr];rfl,rfl⟩
def BigB(B:Nat)(r:Nd):Prop:=(r.subs.length<=B/\r.decls.length<=B/\r.tail.length<=B/\r.lead.length<=B)/\(∀s∈[r.text,r.n0,r.n1,r.trail],s.length<=B)/\(∀s∈r.tail,s.length<=B)/\ ∀s∈r.lead,s.length<=B
abbrev Big(r:Nd):Prop:=BigB (2^50) r
theorem Ylb{r:Nd}(h:All Big r):Lm r:=h.mono fun _ h=>h.1
def ownE(r:Nd):Int:=1+r.tail.length+Yay [r.text,r.n0,r.n1]/20+Yay r.tail/20
def ownD(r:Nd):Int:=1+r.lead.length+r.tail.length+Yay [r.text,r.n0,r.n1,r.trail]/20+Yay r.lead/20+Yay r.tail/20
mutual
def Ydj:Nd->Int->Int
 |.mk k n t a b tr le ta p s d,m=>Ya3 d (Ya2 s (m-ownE (.mk k n t a b tr le ta p s d)))
def Ya2:List Nd->Int->Int
 |[],m=>m
 |x::l,m=>Ya2 l (if 0<=m then Ydj x m else m)
def Yc5:Nd->Int->Int
 |.mk k n t a b tr le ta p s d,m=>Ya3 d (Ya2 s (m-ownD (.mk k n t a b tr le ta p s d)))
def Ya3:List Nd->Int->Int
 |[],m=>m
 |x::l,m=>if m<0 then m else Ya3 l (Yc5 x m)
end
theorem Ydw(r:Nd)(m:Int):Ydj r m=Ya3 r.decls (Ya2 r.subs (m-ownE r)):=by cases r;rw[Ydj];rfl
theorem Ydx(r:Nd)(m:Int):Yc5 r m=Ya3 r.decls (Ya2 r.subs (m-ownD r)):=by cases r;rw[Yc5];rfl
theorem Ygd{r:Nd}(h:Big r):1<=ownE r/\ownE r<=2^51:=by
 have h1:=Yar [r.text,r.n0,r.n1];have h2:=Yar r.tail;have h3:=h.1.2.2.1;unfold ownE;omega
theorem Yge{r:Nd}(h:Big r):1<=ownD r/\ownD r<=2^52:=by
 have h1:=Yar [r.text,r.n0,r.n1,r.trail];have h2:=Yar r.tail;have h2':=Yar r.lead;have h3:=h.1.2.2;unfold ownD;omega
def Bd(f:Int->Int):Prop:=∀m,0<=m->m<=1000-> -2^52<=f m/\f m<=m
theorem Ycv:∀(l:List Nd)(m:Int),m<0->Ya2 l m=m
 |[],_,_=>rfl
 |x::l,m,h=>by rw[Ya2,if_neg (by omega)];exact Ycv l m h
theorem Ydm:∀(l:List Nd)(m:Int),m<0->Ya3 l m=m
 |[],_,_=>rfl
 |x::l,m,h=>by rw[Ya3,if_pos h]
theorem Yc6:∀(l:List Nd),(∀x∈l,Bd (Ydj x))-> ∀m,-2^52<=m->m<=1000-> -2^52<=Ya2 l m/\Ya2 l m<=m
 |[],_,m,h1,h2=>⟨h1,Int.le_refl _⟩
 |x::l,h,m,h1,h2=>by
  rw[Ya2];split
  ·rename_i h0;have hx:=h x (List.mem_cons_self ..) m h0 h2;have:=Yc6 l (fun y hy=>h y (List.mem_cons_of_mem _ hy)) _ hx.1 (by omega);omega
  ·exact Yc6 l (fun y hy=>h y (List.mem_cons_of_mem _ hy)) m h1 h2
theorem Yc7:∀(l:List Nd),(∀x∈l,Bd (Yc5 x))-> ∀m,-2^52<=m->m<=1000-> -2^52<=Ya3 l m/\Ya3 l m<=m
 |[],_,m,h1,h2=>⟨h1,Int.le_refl _⟩
 |x::l,h,m,h1,h2=>by
  rw[Ya3];split
  ·exact⟨h1,Int.le_refl _⟩
  ·rename_i h0;have hx:=h x (List.mem_cons_self ..) m (by omega) h2;have:=Yc7 l (fun y hy=>h y (List.mem_cons_of_mem _ hy)) _ hx.1 (by omega);omega
theorem Ye8:∀r:Nd,All Big r->Bd (Ydj r)/\Bd (Yc5 r):=by
 refine Ya0 fun r hs hd hb=>?_
 have hE:=Yc6 r.subs fun x hx=>(hs x hx (hb.sub hx)).1
 have hD:=Yc7 r.decls fun x hx=>(hd x hx (hb.dec hx)).2
 have h1:=Ygd hb.here;have h2:=Yge hb.here;refine⟨fun m m0 m1=>?_,fun m m0 m1=>?_⟩
 ·rw[Ydw];have a:=hE (m-ownE r) (by omega) (by omega);have b:=hD _ a.1 (by omega);omega
 ·rw[Ydx];have a:=hE (m-ownD r) (by omega) (by omega);have b:=hD _ a.1 (by omega);omega
theorem tdv{x:Int}(h:0<=x/\x<=10000):x.tdiv 20=x/20/\0<=x/20/\x/20<=500:=⟨Int.tdiv_eq_ediv_of_nonneg h.1,by omega,by omega⟩
abbrev H57(e:Nd):Prop:=∀m,0<=m->m<=1000->Holds Tryz.prog 57 [.agg (encE e),intA m] [] (Ret (intA (Ydj e m)))
abbrev H42(l:List Nd):Prop:=∀m,-2^52<=m->m<=1000->Holds Tryz.prog 42 [slA (Yai l),intA m] [] (Ret (intA (Ya3 l m)))
theorem c42(l:List Nd)(hl:l.length<=2^50)(hb:∀x∈l,All Big x)(ih:∀x∈l,H42 x.decls/\ ∀e∈x.subs,H57 e):H42 l:=by
 intro m m0 m1;refine w42 (Yai l) m ⟨fun n x=>∃i:Nat,x=i/\i<=l.length/\(-2^52<=n/\n<=1000)/\Ya3 (l.drop i) n=Ya3 l m,fun _ x=>l.length-x.toNat,⟨0,rfl,Nat.zero_le _,⟨m0,m1⟩,rfl⟩,?_,trivial⟩;rintro n x ⟨i,rfl,hi,hn,hr⟩;refine⟨fun hc=>?_,fun hc=>?_⟩
 ·have k1:i<l.length:=by have:=of_tlt hc;simp at this;omega
  rw[Yaa k1,Ya3]at hr;have hx:=List.getElem_mem k1;have l1:=hb _ hx;have ihx:=ih _ hx;rw[Ycf rfl k1];generalize l[i]=a at hr l1 ihx;have b1:=l1.here;have q1:=Yar [a.text,a.n0,a.n1,a.trail];have q2:=Yar a.lead;have q3:=Yar a.tail;have o1:=Yge b1;simp only[Yao,d0,d1,d2,d3,d4,d5,d6,d7,d8,d9,d10,isK_int,Yad,isK_slc,dint_int,Yak,dlst_slc,Bool.or_true,true_and,Yaf,Yag,Yan];refine⟨tle (by omega),teq rfl,fun h=>?_,fun h=>?_⟩
  ·rw[if_pos (of_tlt h)]at hr;exact⟨by rw[<-hr],rfl⟩
  ·have h:=of_flt h;rw[if_neg (by omega)]at hr;have L:=b1.1;refine⟨tle (by omega),tle (by omega),tle (by omega),tle (by omega),tle (by omega),tle (by omega),Yay [a.text,a.n0,a.n1,a.trail],fun _=>c41 [a.text,a.n0,a.n1,a.trail] (by simp) b1.2.1,?_⟩;rw[(tdv q1).1];refine⟨tle (by omega),tle (by omega),tle (by omega),tle (by omega),Yay a.lead,fun _=>c41 a.lead L.2.2.2 b1.2.2.2,?_⟩;rw[(tdv q2).1];refine⟨tle (by omega),tle (by omega),tle (by omega),tle (by omega),Yay a.tail,fun _=>c41 a.tail L.2.2.1 b1.2.2.1,?_⟩;rw[(tdv q3).1];have eo:n-1-(a.lead.length:Int)-(a.tail.length:Int)-Yay [a.text,a.n0,a.n1,a.trail]/20-Yay a.lead/20-Yay a.tail/20=n-ownD a:=by unfold ownD;omega
   rw[eo];refine⟨tle (by omega),tle (by omega),tle (by omega),tle (by omega),fun n' x=>∃j:Nat,x=j/\j<=a.subs.length/\(-2^52<=n'/\n'<=1000)/\Ya2 (a.subs.drop j) n'=Ya2 a.subs (n-ownD a),fun _ x=>a.subs.length-x.toNat,⟨0,rfl,Nat.zero_le _,⟨by omega,by omega⟩,rfl⟩,?_,trivial⟩;rintro n' x ⟨j,rfl,hj,hn',hrj⟩;refine⟨fun hcj=>?_,fun hcj=>?_⟩
   ·have j1:j<a.subs.length:=by have:=of_tlt hcj;omega
    rw[Yaa j1,Ya2]at hrj;rw[Ybd rfl j1];refine⟨tle (by omega),teq (by simp),fun h0=>?_,fun h0=>?_⟩
    ·have h0:=of_tle h0;rw[if_pos h0]at hrj;have hm:=List.getElem_mem j1;have hbd:=(Ye8 _ (l1.sub hm)).1 n' h0 (by omega);exact call1 (ihx.2 _ hm n' h0 (by omega)) ⟨_,rfl,rfl,tle (by omega),tle (by omega),⟨j+1,rfl,j1,⟨hbd.1,by omega⟩,hrj⟩,dec j1⟩
    ·rw[if_neg (by have:=of_fle h0;omega)]at hrj;exact⟨tle (by omega),tle (by omega),⟨j+1,rfl,j1,hn',hrj⟩,dec j1⟩
   ·have j1:a.subs.length<=j:=by have:=of_flt hcj;omega
    rw[Yac j1,Ya2]at hrj;refine call1 (ihx.1 n' hn'.1 hn'.2) ⟨_,rfl,rfl,tle (by omega),tle (by omega),⟨i+1,rfl,k1,?_,?_⟩,dec k1⟩
    ·have:=Yc7 a.decls (fun y hy=>(Ye8 y (l1.dec hy)).2) n' hn'.1 hn'.2;omega
    ·rw[<-hr,Ydx,<-hrj]
 ·have k1:l.length<=i:=by have:=of_flt hc;simp at this;omega
  rw[Yac k1]at hr;exact⟨by rw[<-hr];rfl,rfl⟩
theorem Ylc:∀(r:Nd),All Big r->H57 r/\H42 r.decls/\ ∀e∈r.subs,H57 e:=by
 refine Ya0 fun r hs hd hb=>?_
 have ihs:∀e∈r.subs,H57 e:=fun x hx=>(hs x hx (hb.sub hx)).1
 have ihd:H42 r.decls:=c42 r.decls hb.here.1.2.1 (fun x hx=>hb.dec hx) fun x hx=>(hd x hx (hb.dec hx)).2
 refine⟨fun m m0 m1=>?_,ihd,ihs⟩;have b1:=hb.here;have q1:=Yar [r.text,r.n0,r.n1];have q3:=Yar r.tail;have o1:=Ygd b1;have L:=b1.1;refine w57 (encE r) m ?_;simp only[Yal,e0,e1,e2,e3,e4,e5,e6,e7,e8,isK_int,Yad,isK_slc,dint_int,Yak,dlst_slc,Bool.or_true,true_and,Yaf,Yag,Yan];refine⟨teq rfl,tle (by omega),tle (by omega),tle (by omega),tle (by omega),Yay [r.text,r.n0,r.n1],fun _=>c41 [r.text,r.n0,r.n1] (by simp) (fun s hs=>b1.2.1 s (by simp only[List.mem_cons,List.not_mem_nil,or_false]at hs⊢;rcases hs with h|h|h<;>simp[h])),?_⟩;rw[(tdv q1).1];refine⟨tle (by omega),tle (by omega),tle (by omega),tle (by omega),Yay r.tail,fun _=>c41 r.tail L.2.2.1 b1.2.2.1,?_⟩;rw[(tdv q3).1];have eo:m-1-(r.tail.length:Int)-Yay [r.text,r.n0,r.n1]/20-Yay r.tail/20=m-ownE r:=by unfold ownE;omega
 rw[eo];refine⟨tle (by omega),tle (by omega),tle (by omega),tle (by omega),fun n' x=>∃j:Nat,x=j/\j<=r.subs.length/\(-2^52<=n'/\n'<=1000)/\Ya2 (r.subs.drop j) n'=Ya2 r.subs (m-ownE r),fun _ x=>r.subs.length-x.toNat,⟨0,rfl,Nat.zero_le _,⟨by omega,by omega⟩,rfl⟩,?_,trivial⟩;rintro n' x ⟨j,rfl,hj,hn',hrj⟩;refine⟨fun hcj=>?_,fun hcj=>?_⟩
 ·have j1:j<r.subs.length:=by have:=of_tlt hcj;omega
  rw[Yaa j1,Ya2]at hrj;rw[Ybd rfl j1];refine⟨tle (by omega),teq (by simp),fun h0=>?_,fun h0=>?_⟩
  ·have h0:=of_tle h0;rw[if_pos h0]at hrj;have hm:=List.getElem_mem j1;have hbd:=(Ye8 _ (hb.sub hm)).1 n' h0 (by omega);exact call1 (ihs _ hm n' h0 (by omega)) ⟨_,rfl,rfl,tle (by omega),tle (by omega),⟨j+1,rfl,j1,⟨hbd.1,by omega⟩,hrj⟩,dec j1⟩
  ·rw[if_neg (by have:=of_fle h0;omega)]at hrj;exact⟨tle (by omega),tle (by omega),⟨j+1,rfl,j1,hn',hrj⟩,dec j1⟩
 ·have j1:r.subs.length<=j:=by have:=of_flt hcj;omega
  rw[Yac j1,Ya2]at hrj;exact call1 (ihd n' hn'.1 hn'.2) ⟨_,rfl,rfl,by rw[Ydw,<-hrj],rfl⟩
def BigI(i:Im):Prop:=i.name.length<=2^50/\i.path.length<=2^50
def BigF(f:Fl):Prop:=(f.imps.length<=2^50/\f.decls.length<=2^50/\f.tail.length<=2^50)/\f.pkg.length<=2^50/\(∀s∈f.tail,s.length<=2^50)/\(∀i∈f.imps,BigI i)/\ ∀x∈f.decls,All Big x
def smI(i:Im):Bool:=decide ((i.name.length:Int)+i.path.length<=200)
def smF(f:Fl):Bool:=decide (f.imps.length<=5/\f.tail.length<=20/\Yay [f.pkg]+Yay f.tail<=1000)&&(f.imps.all smI&&decide (0<=Ya3 f.decls 150))
theorem c12(f:Fl)(h:BigF f):Holds Tryz.prog 12 [.agg (Ybi f)] [] (Ret (Yae (smF f))):=by
 have no:∀b,smF f=b->Ret (Yae (smF f)) (.ret (Yae b)) []:=fun b h=>⟨by rw[h],rfl⟩
 have q1:=Yar [f.pkg];have q2:=Yar f.tail;obtain⟨⟨L1,L2,L3⟩,P,T,I,D⟩:=h;unfold smF at no⊢;refine w12 _ ?_;simp only[Yaw,f0,f1,f2,f3,Yad,isK_slc,Yak,dlst_slc,Bool.or_true,true_and,Ybe,Yag,Yan];refine⟨teq rfl,fun h=>?_,fun h=>no _ ?_⟩
 ·have h:=nb1 h;simp only[Bool.or_eq_false_iff]at h;have g1:=of_flt h.1;have g2:=of_flt h.2;refine⟨Yay [f.pkg],fun _=>c41 [f.pkg] (by simp) (by simpa using P),call1 (c41 f.tail L3 T) ⟨_,rfl,rfl,tle (by omega),tle (by omega),fun h3=>no _ ?_,fun h3=>?_⟩⟩
  ·have:=of_tlt h3;rw[show decide (f.imps.length<=5/\f.tail.length<=20/\Yay [f.pkg]+Yay f.tail<=1000)=false from decide_eq_false (by omega)];rfl
  ·have g3:=of_flt h3;rw[show decide (f.imps.length<=5/\f.tail.length<=20/\Yay [f.pkg]+Yay f.tail<=1000)=true from decide_eq_true (by omega),Bool.true_and]at no⊢
   refine⟨fun x=>∃j:Nat,x=j/\j<=f.imps.length/\(f.imps.drop j).all smI=f.imps.all smI,fun x=>f.imps.length-x.toNat,⟨0,rfl,Nat.zero_le _,rfl⟩,?_,trivial⟩;rintro x ⟨j,rfl,hj,hr⟩;refine⟨fun hc=>?_,fun hc=>?_⟩
   ·have k1:j<f.imps.length:=by have:=of_tlt hc;omega
    have hI:=I _ (List.getElem_mem k1);have g:=Ydi (x:=(j:Int)) rfl k1;rw[Yaa k1,List.all_cons]at hr;obtain⟨I1,I2⟩:=hI;simp only[g,Ybb,i0,i1,i2,isK_int,Yad,Yak,dint_int,true_and];refine⟨tle (by omega),teq rfl,tle (by omega),tle (by omega),fun hn=>no _ ?_,fun hn=>⟨tle (by omega),tle (by omega),⟨j+1,rfl,k1,?_⟩,dec k1⟩⟩
    ·have:=of_tlt hn;rw[<-hr,show smI f.imps[j]=false from decide_eq_false (by omega)];rfl
    ·have:=of_flt hn;rw[<-hr,show smI f.imps[j]=true from decide_eq_true (by omega)];rfl
   ·have k1:f.imps.length<=j:=by have:=of_flt hc;omega
    rw[Yac k1]at hr;have:=c42 f.decls L2 D (fun x hx=>(Ylc x (D x hx)).2) 150 (by omega) (by omega);exact call1 this ⟨_,rfl,rfl,by rw[<-hr];simp,rfl⟩
 ·have h:=nb0 h;simp only[Bool.or_eq_true]at h
  rw[show decide (f.imps.length<=5/\f.tail.length<=20/\Yay [f.pkg]+Yay f.tail<=1000)=false from decide_eq_false (by
   rcases h with h|h
   ·have:=of_tlt h;omega
   ·have:=of_tlt h;omega)];rfl
mutual
def wE:Nd->Int
 |.mk k n t a b tr le ta p s d=>ownE (.mk k n t a b tr le ta p s d)+wEs s+wDs d
def wEs:List Nd->Int
 |[]=>0
 |x::l=>wE x+wEs l
def wD:Nd->Int
 |.mk k n t a b tr le ta p s d=>ownD (.mk k n t a b tr le ta p s d)+wEs s+wDs d
def wDs:List Nd->Int
 |[]=>0
 |x::l=>wD x+wDs l
end
theorem Ygf(r:Nd):wE r=ownE r+wEs r.subs+wDs r.decls:=by cases r;rw[wE];rfl
theorem Ygg(r:Nd):wD r=ownD r+wEs r.subs+wDs r.decls:=by cases r;rw[wD];rfl
theorem Ydy(r:Nd):(1<=ownE r/\(r.tail.length:Int)<=ownE r/\Yay [r.text,r.n0,r.n1]/20<=ownE r/\Yay r.tail/20<=ownE r)/\
 (1<=ownD r/\(r.tail.length:Int)+r.lead.length+1<=ownD r/\Yay [r.text,r.n0,r.n1,r.trail]/20<=ownD r/\Yay r.tail/20<=ownD r/\Yay r.lead/20<=ownD r):=by
 have h1:=Yar [r.text,r.n0,r.n1];have h2:=Yar [r.text,r.n0,r.n1,r.trail];have h3:=Yar r.tail;have h4:=Yar r.lead;unfold ownE ownD;omega
theorem Ydz:∀{l:List Nd},(∀x∈l,1<=wE x)->(l.length:Int)<=wEs l/\ ∀x∈l,wE x<=wEs l
 |[],_=>⟨by simp[wEs],fun _ h=>by cases h⟩
 |x::l,h=>by
  have ih:=Ydz fun y hy=>h y (List.mem_cons_of_mem _ hy)
  have hx:=h x (List.mem_cons_self ..);rw[wEs];refine⟨by simp only[List.length_cons];omega,fun y hy=>?_⟩;rcases List.mem_cons.1 hy with rfl|hy
  ·have:=ih.1;omega
  ·have:=ih.2 y hy;omega
theorem Ycw:∀{l:List Nd},(∀x∈l,1<=wD x)->(l.length:Int)<=wDs l/\ ∀x∈l,wD x<=wDs l
 |[],_=>⟨by simp[wDs],fun _ h=>by cases h⟩
 |x::l,h=>by
  have ih:=Ycw fun y hy=>h y (List.mem_cons_of_mem _ hy)
  have hx:=h x (List.mem_cons_self ..);rw[wDs];refine⟨by simp only[List.length_cons];omega,fun y hy=>?_⟩;rcases List.mem_cons.1 hy with rfl|hy
  ·have:=ih.1;omega
  ·have:=ih.2 y hy;omega
theorem Yf3:∀r:Nd,1<=wE r/\1<=wD r:=by
 refine Ya0 fun r hs hd=>?_
 have h1:=(Ydz fun x hx=>(hs x hx).1).1;have h2:=(Ycw fun x hx=>(hd x hx).2).1;have h3:=Ydy r;rw[Ygf,Ygg];omega
theorem Yj2:∀r:Nd,(∀m,0<=Ydj r m->wE r<=m/\Ydj r m=m-wE r)/\ ∀m,0<=Yc5 r m->wD r<=m/\Yc5 r m=m-wD r:=by
 refine Ya0 fun r hs hd=>?_
 have kE:∀(l:List Nd),(∀x∈l,x∈r.subs)-> ∀m,0<=Ya2 l m->wEs l<=m/\Ya2 l m=m-wEs l:=by
  intro l
  induction l with
  |nil=>intro _ m h;simp only[Ya2,wEs]at*;omega
  |cons x l ih=>
   intro hl m h;rw[Ya2]at h⊢;by_cases hm:0<=m
   ·rw[if_pos hm]at h⊢;have:=ih (fun y hy=>hl y (List.mem_cons_of_mem _ hy)) _ h
    have h0:0<=Ydj x m:=by
     by_cases hc:0<=Ydj x m
     ·exact hc
     ·rw[Ycv _ _ (by omega)]at h;exact h
    have hx:=(hs x (hl x (List.mem_cons_self ..))).1 m h0;rw[wEs];omega
   ·rw[if_neg hm,Ycv _ _ (by omega)]at h;omega
 have kD:∀(l:List Nd),(∀x∈l,x∈r.decls)-> ∀m,0<=Ya3 l m->wDs l<=m/\Ya3 l m=m-wDs l:=by
  intro l
  induction l with
  |nil=>intro _ m h;simp only[Ya3,wDs]at*;omega
  |cons x l ih=>
   intro hl m h;rw[Ya3]at h⊢;by_cases hm:m<0
   ·rw[if_pos hm]at h;omega
   ·rw[if_neg hm]at h⊢;have:=ih (fun y hy=>hl y (List.mem_cons_of_mem _ hy)) _ h
    have h0:0<=Yc5 x m:=by
     by_cases hc:0<=Yc5 x m
     ·exact hc
     ·rw[Ydm _ _ (by omega)]at h;exact h
    have hx:=(hd x (hl x (List.mem_cons_self ..))).2 m h0;rw[wDs];omega
 have h1:=(Ydz (l:=r.subs) fun x _=>(Yf3 x).1).1;have h2:=(Ycw (l:=r.decls) fun x _=>(Yf3 x).2).1;refine⟨fun m h=>?_,fun m h=>?_⟩
 ·rw[Ydw]at h⊢;have a:=kD _ (fun _ h=>h) _ h;have b:=kE r.subs (fun _ h=>h) (m-ownE r) (by omega);rw[Ygf];omega
 ·rw[Ydx]at h⊢;have a:=kD _ (fun _ h=>h) _ h;have b:=kE r.subs (fun _ h=>h) (m-ownD r) (by omega);rw[Ygg];omega
theorem Yfo:∀(l:List Nd)(m:Int),0<=Ya3 l m->wDs l<=m
 |[],m,h=>by simpa[Ya3,wDs]using h
 |x::l,m,h=>by
  rw[Ya3]at h;by_cases hm:m<0
  ·rw[if_pos hm]at h;omega
  ·rw[if_neg hm]at h;have:=Yfo l _ h
   have h0:0<=Yc5 x m:=by
    by_cases hc:0<=Yc5 x m
    ·exact hc
    ·rw[Ydm _ _ (by omega)]at h;exact h
   have hx:=(Yj2 x).2 m h0;rw[wDs];omega
mutual
def wfE:Nd->Prop
 |.mk _ _ _ _ _ tr le _ _ s d=>(tr=[]/\le=[])/\wfEs s/\wfDs d
def wfEs:List Nd->Prop
 |[]=>True
 |x::l=>wfE x/\wfEs l
def wfD:Nd->Prop
 |.mk _ _ _ _ _ _ _ _ _ s d=>wfEs s/\wfDs d
def wfDs:List Nd->Prop
 |[]=>True
 |x::l=>wfD x/\wfDs l
end
theorem Ygh(r:Nd):wfE r↔(r.trail=[]/\r.lead=[])/\wfEs r.subs/\wfDs r.decls:=by cases r;rw[wfE];rfl
theorem Ygi(r:Nd):wfD r↔wfEs r.subs/\wfDs r.decls:=by cases r;rw[wfD];rfl
theorem Ycm:∀(l:List Nd),wfEs l↔∀x∈l,wfE x
 |[]=>by simp[wfEs]
 |x::l=>by rw[wfEs,Ycm l];simp
theorem Yb0:∀(l:List Nd),wfDs l↔∀x∈l,wfD x
 |[]=>by simp[wfDs]
 |x::l=>by rw[wfDs,Yb0 l];simp
theorem Ych{l:List Tx}(h:Yay l/20<=400):∀s∈l,s.length<=10000:=fun s hs=>by
 have:=Ydl l 0 s (by omega) (by omega) hs (show Yay l<10000 by omega);have h2:Yay l<=8019:=by omega
 have:(s.length:Int)<=Yay l:=this;omega
abbrev Sml(r:Nd):Prop:=BigB 10000 r
theorem Yj3:∀r:Nd,(wfE r->wE r<=400->All Sml r)/\(wfD r->wD r<=400->All Sml r):=by
 refine Ya0 fun r hs hd=>?_
 have h1:=Ydz (l:=r.subs) fun x _=>(Yf3 x).1
 have h2:=Ycw (l:=r.decls) fun x _=>(Yf3 x).2
 have h3:=Ydy r;have q1:=Yar [r.text,r.n0,r.n1];refine⟨fun hw h=>?_,fun hw h=>?_⟩
 ·rw[Ygf]at h;rw[Ygh,Ycm,Yb0]at hw;obtain⟨⟨w1,w2⟩,w3,w4⟩:=hw;refine .mk ⟨⟨by omega,by omega,by omega,by rw[w2];simp⟩,?_,Ych (by omega),by rw[w2];simp⟩ (fun x hx=>(hs x hx).1 (w3 x hx) (by have:=h1.2 x hx;omega)) (fun x hx=>(hd x hx).2 (w4 x hx) (by have:=h2.2 x hx;omega));have:=Ych (l:=[r.text,r.n0,r.n1]) (by omega);rw[w1];intro s hs;simp only[List.mem_cons,List.not_mem_nil,or_false]at hs this;rcases hs with h|h|h|h
  ·exact this s (.inl h)
  ·exact this s (.inr (.inl h))
  ·exact this s (.inr (.inr h))
  ·subst h;simp
 ·rw[Ygg]at h;rw[Ygi,Ycm,Yb0]at hw;exact .mk ⟨⟨by omega,by omega,by omega,by omega⟩,Ych (by omega),Ych (by omega),Ych (by omega)⟩ (fun x hx=>(hs x hx).1 (hw.1 x hx) (by have:=h1.2 x hx;omega)) (fun x hx=>(hd x hx).2 (hw.2 x hx) (by have:=h2.2 x hx;omega))
def wfF(f:Fl):Prop:=wfDs f.decls
theorem Yiu{f:Fl}(hw:wfF f)(h:smF f=true):(f.imps.length<=5/\f.tail.length<=20/\f.pkg.length<=10000/\ ∀s∈f.tail,s.length<=10000)/\(∀i∈f.imps,i.name.length<=200/\i.path.length<=200)/\(∀x∈f.decls,All Sml x)/\wDs f.decls<=150:=by
 simp only[smF,Bool.and_eq_true,decide_eq_true_eq,List.all_eq_true,smI]at h;obtain⟨⟨a1,a2,a3⟩,a4,a5⟩:=h;have q1:=Yar [f.pkg];have q2:=Yar f.tail;have hw':=Yfo _ _ a5;have h2:=Ycw (l:=f.decls) fun x _=>(Yf3 x).2
 refine⟨⟨a1,a2,?_,Ych (by omega)⟩,fun i hi=>by have:=a4 i hi;omega,fun x hx=>(Yj3 x).2 ((Yb0 _).1 hw x hx) (by have:=h2.2 x hx;omega),hw'⟩;exact Ych (l:=[f.pkg]) (by omega) _ (by simp)
end Go.Sy
end
section
open Go Go.Proofs Go.Ab Go.Rf Go.ChangeShapes Go.WideShapes
set_option maxRecDepth 100000
set_option linter.unusedSimpArgs false
namespace Go.Sy
def prW(w:World):Nat->Nat->Prop:=fun b _=>b<w.heap.size
def ghW(w:World):Gh:=⟨prW w,fun _=>0,fun _=>0,fun _=>False⟩
theorem Yi4{w:World}{a:Addr}{v:Value}(h:w.cell? a=some v):a.block<w.heap.size:=by
 unfold World.cell? at h;by_cases hb:a.block<w.heap.size
 ·exact hb
 ·simp[Array.getElem?_eq_none (by omega:w.heap.size<=a.block)]at h
theorem Ygj{w:World}{a:Addr}{n:Nat}{cs:List Value}(h:w.cells? 0 a n=some cs):cs.length=n/\ ∀i,i<n->w.cell? (a.add i)=cs[i]? :=by
 unfold World.cells? at h;rw[if_pos (Nat.zero_le _)]at h;have hl:=mapM_some_length h;simp only[List.length_range]at hl;refine⟨hl,fun i hi=>mapM_some_get h i i (by simp[hi])⟩
theorem Ygk{α β:Type}{R:α->β->Prop}:∀{l:List α}{m:List β},All2 R l m-> ∀(i:Nat)(h:i<l.length),∃b,m[i]? =some b/\R l[i] b
 |a::l,b::m,⟨h1,_⟩,0,_=>⟨b,rfl,h1⟩
 |a::l,b::m,⟨_,h2⟩,i+1,h=>by
  obtain⟨c,h3,h4⟩:=Ygk h2 i (by simpa using h);exact⟨c,by simpa using h3,by simpa using h4⟩
 |[],_,_,i,h=>by simp at h
theorem Yd0{α β:Type}{R:α->β->Prop}:∀{l:List α}{m:List β},All2 R l m->l.length=m.length
 |[],[],_=>rfl
 |_::_,_::_,⟨_,h⟩=>by simp[Yd0 h]
 |[],_::_,h=>h.elim
 |_::_,[],h=>h.elim
section
variable {H:Type} {en:TypeId×Value->H} {w:World}
theorem Yj4{α:Type}{E:α->List D}{n:Nat}(hn:0<n)(hE:∀a,(E a).length=n){b off cap:Nat}(l:List α)(hc:l.length<=cap)(V:Nat->List Value)
 (h:∀i (hi:i<l.length),All2 (RepD w (prW w)) (E l[i]) (V i)/\ ∀j,j<n->w.cell? ⟨b,off+(i*n+j),none⟩=(V i)[j]?):
 RepD w (prW w) (.slc (l.map E)) (.slice (some ⟨b,off,none⟩) l.length cap):=by
 have hk:∀k,k<l.length*n->w.cell? ⟨b,off+k,none⟩=some ((V (k/n)).getD (k % n) .nilIface):=by
  intro k hk;have hi:k/n<l.length:=Nat.div_lt_of_lt_mul (by rw[Nat.mul_comm];exact hk);obtain⟨h1,h3⟩:=h _ hi;have hl:=Yd0 h1;rw[hE]at hl;have:=h3 (k % n) (Nat.mod_lt _ hn);rw[show k/n*n+k % n=k by rw[Nat.mul_comm];exact Nat.div_add_mod k n]at this;rw[this,List.getElem?_eq_getElem (by rw[<-hl];exact Nat.mod_lt _ hn)];simp[List.getD,List.getElem?_eq_getElem (show k % n<(V (k/n)).length by rw[<-hl];exact Nat.mod_lt _ hn)]
 have hlen:(l.map E).length=l.length:=by simp
 rw[<-hlen];refine .slc (l.map E) n b off cap _ hn ?_ (by rw[hlen];exact hc) (fun k hk'=>hk k (by rw[hlen]at hk';exact hk')) (fun k hk'=>Yi4 (hk k (by rw[hlen]at hk';exact hk'))) ?_
 ·intro e he;obtain⟨a,_,rfl⟩:=List.mem_map.1 he;exact hE a
 ·intro i j hi hj;have hi':i<l.length:=by rw[hlen]at hi;exact hi
  have e:(l.map E)[i]=E l[i]:=by simp
  have hj':j<n:=by rw[e,hE]at hj;exact hj
  obtain⟨h1,_⟩:=h i hi';obtain⟨v,hv,hr⟩:=Ygk h1 j (by rw[hE];exact hj');have e1:(i*n+j)/n=i:=by rw[Nat.mul_comm,Nat.mul_add_div hn,Nat.div_eq_of_lt hj',Nat.add_zero]
  have e2:(i*n+j) % n=j:=by rw[Nat.mul_comm,Nat.mul_add_mod,Nat.mod_eq_of_lt hj']
  rw[e1,e2];simp only[e];simpa[List.getD,hv]using hr
def Fit(t:TypeId)(x:DataW H×List MemPlace):Prop:=∀k∈x.1.weights Tryz.prog t,k<=reachBytes
theorem Ybv{P:Program}{e:TypeId}{k:Nat}:∀{l:List (DataW H)}{d:DataW H},d∈l->k∈d.weights P e->k∈DataW.weightsAll P e l
 |a::l,d,h,hk=>by
  unfold DataW.weightsAll;rcases List.mem_cons.1 h with rfl|h
  ·exact List.mem_append_left _ hk
  ·exact List.mem_append_right _ (Ybv h hk)
theorem Ycb{α:Type}{E:α->List D}{Good:α->Prop}{n:Nat}{t e:TypeId}(ht:Tryz.prog.underlying t=some (.slice e))(hc:Tryz.prog.cellsOf e=n)(hn:0<n)(hby:1<=Tryz.prog.bytesOf e)(hE:∀a,(E a).length=n){fuel:Nat}
 (ih:∀q<fuel,∀(cs:List Value)(x:DataW H×List MemPlace),DataW.trod en Tryz.prog w 0 (fun _=>true) true q e cs=some x->Fit e x-> ∃a:α,All2 (RepD w (prW w)) (E a) cs/\Good a)
 {v:Value} {x:DataW H×List MemPlace} (h:DataW.trod en Tryz.prog w 0 (fun _=>true) true fuel t [v]=some x) (hz:Fit t x):
 ∃l:List α,RepD w (prW w) (.slc (l.map E)) v/\l.length<=2^50/\ ∀a∈l,Good a:=by
 rcases DataW.trod_slice ht h with⟨e1,_⟩|⟨ad,len,cap,elems,rest,q,hq,e1,hx,_,hlc,_,hel,hes,_⟩
 ·have e1:v=.slice none 0 0:=by simpa using e1
  exact⟨[],by rw[e1];exact .emp _ _,by simp,fun _ h=>by cases h⟩
 ·have e1:v=.slice (some ad) len cap:=by simpa using e1
  rw[hc]at hes;subst hx
  have hW:(elems.map (·.1)).length*Tryz.prog.bytesOf e<=reachBytes/\ ∀y∈elems,Fit e y:=by
   unfold Fit at hz;simp only[DataW.weights,ht,List.mem_cons,List.mem_append]at hz;refine⟨Nat.le_trans (Nat.mul_le_mul_right _ (Nat.le_add_right _ _)) (hz _ (.inl rfl)),fun y hy k hk=>hz k (.inr (.inl (Ybv (List.mem_map.2 ⟨y,hy,rfl⟩) hk)))⟩
  have hlen:len<=2^50:=by
   have h1:=hW.1;rw[List.length_map,hel]at h1;have h2:len*1<=len*Tryz.prog.bytesOf e:=Nat.mul_le_mul_left _ hby;have h3:reachBytes<=2^50:=by decide
   omega
  have hall:∀i,i<len-> ∃(r:α)(V:List Value),All2 (RepD w (prW w)) (E r) V/\Good r/\ ∀j,j<n->w.cell? ((ad.add (i*n)).add j)=V[j]? :=by
   intro i hi;have h3:=hes i hi;have hi':i<elems.length:=by omega
   rw[List.getElem?_eq_getElem hi']at h3;obtain⟨cs',h4,h5⟩:=Option.bind_eq_some_iff.1 h3;obtain⟨r,h7,h8⟩:=ih q (by omega) _ _ h5 (hW.2 _ (List.getElem_mem hi'));exact⟨r,cs',h7,h8,(Ygj h4).2⟩
  by_cases h0:len=0
  ·subst h0;exact⟨[],by rw[e1];exact .emp _ _,by simp,fun _ h=>by cases h⟩
  ·have hall':∃(f:Nat->α)(V:Nat->List Value),∀i,i<len->All2 (RepD w (prW w)) (E (f i)) (V i)/\Good (f i)/\ ∀j,j<n->w.cell? ((ad.add (i*n)).add j)=(V i)[j]? :=by
    classical
    obtain⟨a0,_⟩:=hall 0 (by omega);refine⟨fun i=>if h:i<len then(hall i h).choose else a0,fun i=>if h:i<len then(hall i h).choose_spec.choose else[],fun i hi=>?_⟩
    simp only[hi,dif_pos];exact(hall i hi).choose_spec.choose_spec
   obtain⟨f,V,hfV⟩:=hall';subst e1;refine⟨(List.range len).map f,?_,by simpa using hlen,fun r hr=>?_⟩
   ·have sp:ad.spot=none:=by
     have h1:=(hfV 0 (by omega)).2.2 0 hn;have hl:=Yd0 (hfV 0 (by omega)).1;rw[hE]at hl;rw[List.getElem?_eq_getElem (by omega)]at h1;simpa[Addr.add]using World.cell?_spot h1
    obtain⟨bb,off,spot⟩:=ad;subst sp
    have:=Yj4 (w:=w) hn hE (b:=bb) (off:=off) (cap:=cap) ((List.range len).map f) (by simpa using hlc) V (fun i hi=>by
     have hi':i<len:=by simpa using hi
     obtain⟨k2,_,k4⟩:=hfV i hi';refine⟨by simpa using k2,fun j hj=>?_⟩;rw[<-k4 j hj,<-Go.WideShapes.add_plain,Go.Deep.add_add])
    simpa using this
   ·obtain⟨i,hi,rfl⟩:=List.mem_map.1 hr;exact(hfV i (List.mem_range.1 hi)).2.1
theorem Ybm{t:TypeId}(ht:Tryz.prog.underlying t=some .string){fuel:Nat}{cs:List Value}{x:DataW H×List MemPlace}(h:DataW.trod en Tryz.prog w 0 (fun _=>true) true fuel t cs=some x)(hz:Fit t x):
 ∃s:Tx,cs=[Zco s]/\s.length<=2^50:=by
 obtain⟨s,h1,h2,_⟩:=DataW.trod_string ht h;refine⟨s.data.toList,by rw[h1];simp[Zco],?_⟩;subst h2;have:=hz s.data.toList.length (by simp[DataW.weights]);have h3:reachBytes<=2^50:=by decide
 omega
theorem Ybp{P:Program}{k:Nat}:∀{ts:List TypeId}{l:List (DataW H)}{i:Nat}{t:TypeId}{d:DataW H},ts[i]? =some t->l[i]? =some d->k∈d.weights P t->k∈DataW.weightsEach P ts l
 |t::ts,a::l,0,_,_,h1,h2,hk=>by
  unfold DataW.weightsEach;cases h1;cases h2;exact List.mem_append_left _ hk
 |t::ts,a::l,i+1,_,_,h1,h2,hk=>by
  unfold DataW.weightsEach;exact List.mem_append_right _ (Ybp (by simpa using h1) (by simpa using h2) hk)
 |[],_,_,_,_,h1,_,_=>by simp at h1
 |_::_,[],_,_,_,_,h2,_=>by simp at h2
theorem Yb1{t:TypeId}{fs:Array Field}(ht:Tryz.prog.underlying t=some (.struct fs)){fuel:Nat}{cs:List Value}{x:DataW H×List MemPlace}(h:DataW.trod en Tryz.prog w 0 (fun _=>true) true fuel t cs=some x)(hz:Fit t x):
 cs.length=Tryz.prog.cellsOf t/\ ∃n<fuel,∀(i:Nat)(ty:TypeId)(off:Nat),(fs[i]?).map (fun f=>(f.type,f.offset))=some (ty,off)-> ∃y,DataW.trod en Tryz.prog w 0 (fun _=>true) true n ty ((cs.drop off).take (Tryz.prog.cellsOf ty))=some y/\Fit ty y:=by
 obtain⟨xs,n,rfl,rfl,hl,hxs,hf⟩:=DataW.trod_struct ht h;refine⟨hl,n,Nat.lt_succ_self n,fun i ty off hm=>?_⟩;obtain⟨f,hi,he⟩:=Option.map_eq_some_iff.1 hm;cases he
 have hi':i<xs.length:=by
  rw[hxs];exact(Array.getElem?_eq_some_iff.1 hi).1
 refine⟨xs[i],by rw[hf i f hi,List.getElem?_eq_getElem hi'],fun k hk=>hz k ?_⟩;unfold DataW.weights;rw[ht];refine Ybp (i:=i) (t:=f.type) (d:=xs[i].1) ?_ ?_ hk
 ·rw[List.getElem?_map,Array.getElem?_toList,hi];rfl
 ·rw[List.getElem?_map,List.getElem?_eq_getElem hi'];rfl
theorem Yf4{t e:TypeId}{n:Nat}(ht:Tryz.prog.underlying t=some (.array n e)){fuel:Nat}{cs:List Value}{x:DataW H×List MemPlace}(h:DataW.trod en Tryz.prog w 0 (fun _=>true) true fuel t cs=some x)(hz:Fit t x):
 cs.length=Tryz.prog.cellsOf t/\ ∃m<fuel,∀i<n,∃y,DataW.trod en Tryz.prog w 0 (fun _=>true) true m e ((cs.drop (i*Tryz.prog.cellsOf e)).take (Tryz.prog.cellsOf e))=some y/\Fit e y:=by
 obtain⟨xs,m,rfl,rfl,hl,hxs,hf⟩:=DataW.trod_array ht h;refine⟨hl,m,Nat.lt_succ_self m,fun i hi=>?_⟩;have hi':i<xs.length:=by omega
 refine⟨xs[i],by rw[hf i hi,List.getElem?_eq_getElem hi'],fun k hk=>hz k ?_⟩;unfold DataW.weights;rw[ht];exact Ybv (List.mem_map.2 ⟨xs[i],List.getElem_mem hi',rfl⟩) hk
theorem Ygl:Tryz.prog.cellsOf 3=1:=by kernel_rfl
theorem Ydn:Tryz.prog.cellsOf 9=1:=by kernel_rfl
theorem Yiv:Tryz.prog.cellsOf 2=1:=by kernel_rfl
theorem Ygm:Tryz.prog.cellsOf 31=2:=by kernel_rfl
theorem Ygn:Tryz.prog.cellsOf 32=1:=by kernel_rfl
theorem Yi5:Tryz.prog.cellsOf 22=1:=by kernel_rfl
theorem Ye9:Tryz.prog.cellsOf 23=1:=by kernel_rfl
theorem Yfa:Tryz.prog.cellsOf 24=1:=by kernel_rfl
theorem Ygo:Tryz.prog.cellsOf 34=9:=by kernel_rfl
theorem Ygp:Tryz.prog.cellsOf 52=11:=by kernel_rfl
theorem Ygq:Tryz.prog.cellsOf 57=3:=by kernel_rfl
theorem Yi6:Tryz.prog.cellsOf 26=4:=by kernel_rfl
theorem by9:1<=Tryz.prog.bytesOf 9:=of_decide_eq_true (by kernel_rfl)
theorem by34:1<=Tryz.prog.bytesOf 34:=of_decide_eq_true (by kernel_rfl)
theorem by52:1<=Tryz.prog.bytesOf 52:=of_decide_eq_true (by kernel_rfl)
theorem by57:1<=Tryz.prog.bytesOf 57:=of_decide_eq_true (by kernel_rfl)
theorem Yc2{fuel:Nat}{v:Value}{x:DataW H×List MemPlace}(h:DataW.trod en Tryz.prog w 0 (fun _=>true) true fuel 24 [v]=some x)(hz:Fit 24 x):
 ∃l:List Tx,RepD w (prW w) (.slc (txs l)) v/\l.length<=2^50/\ ∀s∈l,s.length<=2^50:=
 Ycb (E:=fun s=>[dS s]) Tryz.underlying24 Ydn (by decide) by9 (fun _=>rfl) (fun q _ cs y hy hf=>by
  obtain⟨s,rfl,hs⟩:=Ybm Tryz.underlying9 hy hf;exact⟨s,⟨.lit _ rfl,trivial⟩,hs⟩) h hz
theorem Ydo{fuel:Nat}{a b:Value}{x:DataW H×List MemPlace}(h:DataW.trod en Tryz.prog w 0 (fun _=>true) true fuel 31 [a,b]=some x)(hz:Fit 31 x):
 ∃s t:Tx,a=Zco s/\b=Zco t/\s.length<=2^50/\t.length<=2^50:=by
 obtain⟨_,m,_,hf⟩:=Yf4 Tryz.underlying31 h hz;rw[Ydn]at hf;obtain⟨y,h1,h2⟩:=hf 0 (by decide);obtain⟨z,h3,h4⟩:=hf 1 (by decide);obtain⟨s,e1,hs⟩:=Ybm Tryz.underlying9 h1 h2;obtain⟨t,e2,ht⟩:=Ybm Tryz.underlying9 h3 h4;exact⟨s,t,by simpa using e1,by simpa using e2,hs,ht⟩
abbrev Yi7(H:Type)(en:TypeId×Value->H)(w:World)(fuel:Nat):Prop:=∀(cs:List Value)(x:DataW H×List MemPlace),DataW.trod en Tryz.prog w 0 (fun _=>true) true fuel 34 cs=some x->Fit 34 x-> ∃r:Nd,All2 (RepD w (prW w)) (encE r) cs/\wfE r/\All Big r
abbrev Yi8(H:Type)(en:TypeId×Value->H)(w:World)(fuel:Nat):Prop:=∀(cs:List Value)(x:DataW H×List MemPlace),DataW.trod en Tryz.prog w 0 (fun _=>true) true fuel 52 cs=some x->Fit 52 x-> ∃r:Nd,All2 (RepD w (prW w)) (encD r) cs/\wfD r/\All Big r
theorem Ygr{fuel:Nat}(ih:∀q<fuel,Yi7 H en w q){v:Value}{x:DataW H×List MemPlace}(h:DataW.trod en Tryz.prog w 0 (fun _=>true) true fuel 32 [v]=some x)(hz:Fit 32 x):
 ∃l:List Nd,RepD w (prW w) (.slc (Yaz l)) v/\l.length<=2^50/\wfEs l/\ ∀r∈l,All Big r:=by
 obtain⟨l,h1,h2,h3⟩:=Ycb (E:=encE) (Good:=fun r=>wfE r/\All Big r) Tryz.underlying32 Ygo (by decide) by34 Yal ih h hz;exact⟨l,by rw[Yb7];exact h1,h2,(Ycm l).2 fun r hr=>(h3 r hr).1,fun r hr=>(h3 r hr).2⟩
theorem Yfb{fuel:Nat}(ih:∀q<fuel,Yi8 H en w q){v:Value}{x:DataW H×List MemPlace}(h:DataW.trod en Tryz.prog w 0 (fun _=>true) true fuel 23 [v]=some x)(hz:Fit 23 x):
 ∃l:List Nd,RepD w (prW w) (.slc (Yai l)) v/\l.length<=2^50/\wfDs l/\ ∀r∈l,All Big r:=by
 obtain⟨l,h1,h2,h3⟩:=Ycb (E:=encD) (Good:=fun r=>wfD r/\All Big r) Tryz.underlying23 Ygp (by decide) by52 Yao ih h hz;exact⟨l,by rw[Yb8];exact h1,h2,(Yb0 l).2 fun r hr=>(h3 r hr).1,fun r hr=>(h3 r hr).2⟩
theorem Yi9(fuel:Nat):Yi7 H en w fuel/\Yi8 H en w fuel:=by
 induction fuel using Nat.strongRecOn with
 |ind fuel ih=>
  have ihE:∀q<fuel,Yi7 H en w q:=fun q hq=>(ih q hq).1
  have ihD:∀q<fuel,Yi8 H en w q:=fun q hq=>(ih q hq).2
  refine⟨fun cs x h hz=>?_,fun cs x h hz=>?_⟩
  ·obtain⟨hl,n,hn,hf⟩:=Yb1 Tryz.underlying34 h hz;rw[Ygo]at hl
   match cs,hl with
   |[v0,v1,v2,v3,v4,v5,v6,v7,v8],_=>
    obtain⟨y0,a0,b0⟩:=hf 0 3 0 rfl;obtain⟨y1,a1,b1⟩:=hf 1 9 1 rfl;obtain⟨y2,a2,b2⟩:=hf 2 2 2 rfl;obtain⟨y3,a3,b3⟩:=hf 3 31 3 rfl;obtain⟨y4,a4,b4⟩:=hf 4 32 5 rfl;obtain⟨y5,a5,b5⟩:=hf 5 23 6 rfl;obtain⟨y6,a6,b6⟩:=hf 6 24 7 rfl;obtain⟨y7,a7,b7⟩:=hf 7 3 8 rfl;simp only[Ygl,Ydn,Yiv,Ygm,Ygn,Ye9,Yfa]at a0 a1 a2 a3 a4 a5 a6 a7;obtain⟨k,e0,_⟩:=DataW.trod_int Tryz.underlying3 a0;obtain⟨t,e1,g1⟩:=Ybm Tryz.underlying9 a1 b1;obtain⟨m,e2,_⟩:=DataW.trod_int Tryz.underlying2 a2;obtain⟨p,q,e3,e4,g3,g4⟩:=Ydo a3 b3;obtain⟨s,e5,l5,f5,g5⟩:=Ygr (fun q hq=>ihE q (by omega)) a4 b4;obtain⟨d,e6,l6,f6,g6⟩:=Yfb (fun q hq=>ihD q (by omega)) a5 b5;obtain⟨c,e7,l7,g7⟩:=Yc2 a6 b6;obtain⟨o,e8,_⟩:=DataW.trod_int Tryz.underlying3 a7;have u0:v0=_:=(List.cons.inj (show[v0]=_ from e0)).1
    have u1:v1=_:=(List.cons.inj (show[v1]=_ from e1)).1
    have u2:v2=_:=(List.cons.inj (show[v2]=_ from e2)).1
    have u8:v8=_:=(List.cons.inj (show[v8]=_ from e8)).1
    subst u0 u1 u2 e3 e4 u8;refine⟨.mk k m t p q [] [] c o s d,?_,?_,.mk ⟨⟨l5,l6,l7,by simp[Nd.lead]⟩,?_,g7,by simp[Nd.lead]⟩ g5 g6⟩
    ·rw[encE];exact⟨.lit _ rfl,.lit _ rfl,.lit _ rfl,.lit _ rfl,.lit _ rfl,e5,e6,e7,.lit _ rfl,trivial⟩
    ·rw[wfE];exact⟨⟨rfl,rfl⟩,f5,f6⟩
    ·intro z hz;simp only[Nd.text,Nd.n0,Nd.n1,Nd.trail,List.mem_cons,List.not_mem_nil,or_false]at hz;rcases hz with rfl|rfl|rfl|rfl
     ·exact g1
     ·exact g3
     ·exact g4
     ·simp
  ·obtain⟨hl,n,hn,hf⟩:=Yb1 Tryz.underlying52 h hz;rw[Ygp]at hl
   match cs,hl with
   |[v0,v1,v2,v3,v4,v5,v6,v7,v8,v9,v10],_=>
    obtain⟨y0,a0,b0⟩:=hf 0 3 0 rfl;obtain⟨y1,a1,b1⟩:=hf 1 3 1 rfl;obtain⟨y2,a2,b2⟩:=hf 2 9 2 rfl;obtain⟨y3,a3,b3⟩:=hf 3 31 3 rfl;obtain⟨y4,a4,b4⟩:=hf 4 32 5 rfl;obtain⟨y5,a5,b5⟩:=hf 5 23 6 rfl;obtain⟨y6,a6,b6⟩:=hf 6 24 7 rfl;obtain⟨y7,a7,b7⟩:=hf 7 24 8 rfl;obtain⟨y8,a8,b8⟩:=hf 8 9 9 rfl;obtain⟨y9,a9,b9⟩:=hf 9 3 10 rfl;simp only[Ygl,Ydn,Yiv,Ygm,Ygn,Ye9,Yfa]at a0 a1 a2 a3 a4 a5 a6 a7 a8 a9;obtain⟨k,e0,_⟩:=DataW.trod_int Tryz.underlying3 a0;obtain⟨m,e1,_⟩:=DataW.trod_int Tryz.underlying3 a1;obtain⟨t,e2,g1⟩:=Ybm Tryz.underlying9 a2 b2;obtain⟨p,q,e3,e4,g3,g4⟩:=Ydo a3 b3;obtain⟨s,e5,l5,f5,g5⟩:=Ygr (fun q hq=>ihE q (by omega)) a4 b4;obtain⟨d,e6,l6,f6,g6⟩:=Yfb (fun q hq=>ihD q (by omega)) a5 b5;obtain⟨c,e7,l7,g7⟩:=Yc2 a6 b6;obtain⟨le,e8,l8,g8⟩:=Yc2 a7 b7;obtain⟨tr,e9,g9⟩:=Ybm Tryz.underlying9 a8 b8;obtain⟨o,e10,_⟩:=DataW.trod_int Tryz.underlying3 a9;have u0:v0=_:=(List.cons.inj (show[v0]=_ from e0)).1
    have u1:v1=_:=(List.cons.inj (show[v1]=_ from e1)).1
    have u2:v2=_:=(List.cons.inj (show[v2]=_ from e2)).1
    have u9:v9=_:=(List.cons.inj (show[v9]=_ from e9)).1
    have u10:v10=_:=(List.cons.inj (show[v10]=_ from e10)).1
    subst u0 u1 u2 e3 e4 u9 u10;refine⟨.mk k m t p q tr le c o s d,?_,?_,.mk ⟨⟨l5,l6,l7,l8⟩,?_,g7,g8⟩ g5 g6⟩
    ·rw[encD];exact⟨.lit _ rfl,.lit _ rfl,.lit _ rfl,.lit _ rfl,.lit _ rfl,e5,e6,e7,e8,.lit _ rfl,.lit _ rfl,trivial⟩
    ·rw[wfD];exact⟨f5,f6⟩
    ·intro z hz;simp only[Nd.text,Nd.n0,Nd.n1,Nd.trail,List.mem_cons,List.not_mem_nil,or_false]at hz;rcases hz with rfl|rfl|rfl|rfl
     ·exact g1
     ·exact g3
     ·exact g4
     ·exact g9
theorem Yj5{fuel:Nat}{cs:List Value}{x:DataW H×List MemPlace}(h:DataW.trod en Tryz.prog w 0 (fun _=>true) true fuel 57 cs=some x)(hz:Fit 57 x):
 ∃i:Im,All2 (RepD w (prW w)) (encI i) cs/\BigI i:=by
 obtain⟨hl,n,hn,hf⟩:=Yb1 Tryz.underlying57 h hz;rw[Ygq]at hl
 match cs,hl with
 |[v0,v1,v2],_=>
  obtain⟨y0,a0,b0⟩:=hf 0 9 0 rfl;obtain⟨y1,a1,b1⟩:=hf 1 9 1 rfl;obtain⟨y2,a2,b2⟩:=hf 2 3 2 rfl;simp only[Ygl,Ydn]at a0 a1 a2;obtain⟨t,e0,g0⟩:=Ybm Tryz.underlying9 a0 b0;obtain⟨p,e1,g1⟩:=Ybm Tryz.underlying9 a1 b1;obtain⟨k,e2,_⟩:=DataW.trod_int Tryz.underlying3 a2;have u0:v0=_:=(List.cons.inj (show[v0]=_ from e0)).1
  have u1:v1=_:=(List.cons.inj (show[v1]=_ from e1)).1
  have u2:v2=_:=(List.cons.inj (show[v2]=_ from e2)).1
  subst u0 u1 u2;exact⟨⟨t,p,k⟩,⟨.lit _ rfl,.lit _ rfl,.lit _ rfl,trivial⟩,g0,g1⟩
theorem Yj6{fuel:Nat}{cs:List Value}{x:DataW H×List MemPlace}(h:DataW.trod en Tryz.prog w 0 (fun _=>true) true fuel 26 cs=some x)(hz:Fit 26 x):
 ∃f:Fl,All2 (RepD w (prW w)) (Ybi f) cs/\BigF f/\wfF f:=by
 obtain⟨hl,n,hn,hf⟩:=Yb1 Tryz.underlying26 h hz;rw[Yi6]at hl
 match cs,hl with
 |[v0,v1,v2,v3],_=>
  obtain⟨y0,a0,b0⟩:=hf 0 9 0 rfl;obtain⟨y1,a1,b1⟩:=hf 1 22 1 rfl;obtain⟨y2,a2,b2⟩:=hf 2 23 2 rfl;obtain⟨y3,a3,b3⟩:=hf 3 24 3 rfl;simp only[Ydn,Yi5,Ye9,Yfa]at a0 a1 a2 a3;obtain⟨t,e0,g0⟩:=Ybm Tryz.underlying9 a0 b0;obtain⟨im,e1,l1,g1⟩:=Ycb (E:=encI) (Good:=BigI) Tryz.underlying22 Ygq (by decide) by57 (fun _=>rfl) (fun q _ cs y hy hf=>Yj5 hy hf) a1 b1;obtain⟨d,e2,l2,f2,g2⟩:=Yfb (fun q _=>(Yi9 q).2) a2 b2;obtain⟨c,e3,l3,g3⟩:=Yc2 a3 b3;have u0:v0=_:=(List.cons.inj (show[v0]=_ from e0)).1
  subst u0;exact⟨⟨t,im,d,c⟩,⟨.lit _ rfl,e1,e2,e3,trivial⟩,⟨⟨l1,l2,l3⟩,g0,g3,g1,g2⟩,f2⟩
end
end Go.Sy
end
section
open Go Go.Proofs Go.Ab Go.Rf Go.ChangeShapes Go.WideShapes Go.ChangeAt
set_option maxRecDepth 100000
namespace Go.Sy
theorem lay:laidOutB Tryz.prog=true:=by kernel_rfl
theorem own:ownKnob Tryz.prog.godebug=none:=by kernel_rfl
theorem Holds.out{P:Program}{f:FuncId}{args:List A}{v:A}(h:Holds P f args [] (Ret v)){w:World}{cargs:Array Value}
 (ha:All2 (fun x v=>∀p,RepA w (ghW w) (fun _=>0) p x v) args cargs.toList):
 CallsX P f cargs w fun e w'=>∃cv g',e=.returned cv/\RepA w' g' (fun _=>0) .res v cv/\RowKit.Below w.heap.size w w':=by
 have hh:HeapRel (Zag P w (ghW w) [] 0) (Zax []) (ghW w) w:=by
  have no:∀{o b},¬Owns (Zax []) (ghW w) o b:=fun ho=>by
   cases ho with
   |box h=>cases h
   |slot h=>cases h
   |cell h _ _=>cases h
  exact⟨fun r c h=>(by cases h),fun o o' b h _=>(no h).elim,fun o b h=>(no h).elim,fun b o h=>h,fun _ _ h=>h,fun _ _ h=>.inl h,fun _=>rfl,fun _ h=>h,Fr.refl _ _ _⟩
 refine(h w cargs (ghW w) ha hh).mono fun e w' ⟨out,H',g',hR,hH,hr,he⟩=>?_
 obtain⟨rfl,rfl⟩:=hR;obtain⟨cv,rfl,h1,_⟩:=he;refine⟨cv,g',rfl,h1,hr.fr.os,hr.fr.tape,hr.fr.output,hr.fr.size,fun b hb=>hr.fr.same b hb ?_⟩;rintro⟨o,ho⟩;cases ho with
 |box h=>cases h
 |slot h=>cases h
 |cell h _ _=>cases h
theorem Yfc{P:Program}{f:FuncId}{fn:Func}{c:Code}(hf:P.funcs[f]? =some fn)(hb:fn.body=some c)(hn:(fn.name== "runtime.NumGoroutine")=false){args:Array Value}{w:World}{R:Ending->World->Prop}
 (h:CallsX P f args w R):Calls P f args w R:=by
 unfold CallsX at h;rw[Zea hf hb hn]at h;exact h
section
variable {H:Type} {en:TypeId×Value->H} {w:World} {base:Nat} {sp:Nat->Bool}
theorem Yja{v:Value}{d:DataW H}{p:List MemPlace}(hv:Value.okWide Tryz.prog w .any base 26 v)(h:DataW.Trod en Tryz.prog w 0 (fun _=>true) true 26 v d p)(hz:∀k∈d.weights Tryz.prog 26,k<=reachBytes):
 ∃f:Fl,(∀q,RepA w (ghW w) (fun _=>0) q (.agg (Ybi f)) v)/\BigF f/\wfF f:=by
 obtain⟨fuel,h⟩:=h;simp only[Value.okWide,Tryz.underlying26]at hv;obtain⟨cs,rfl,_⟩:=hv;obtain⟨f,h2,h3⟩:=Yj6 h hz;exact⟨f,fun q=>⟨cs.toList,by simp,h2⟩,h3⟩
theorem Yee(hl:laidOutB Tryz.prog=true){W W':World}:∀{ts:List TypeId}{vs:List Value}{ds:List (DataW H)}{ps:List MemPlace},(∀t∈ts,Tryz.prog.readableRec t=true/\t<Tryz.prog.types.size)->
 DataW.TrodAll en Tryz.prog W 0 (fun _=>true) true ts vs ds ps->RowKit.Below W.heap.size W W'->(∀p∈ps,p.block<W.heap.size)->(∀p∈ps,sp p.block=true)->DataW.TrodAll en Tryz.prog W' 0 sp true ts vs ds ps
 |[],_,_,_,_,h,_,_,_=>by
  obtain⟨rfl,rfl,rfl⟩:=trodAll_nil h;rfl
 |t::ts,_,_,_,ht,h,hb,hlt,hs=>by
  obtain⟨v,vs1,d,ds1,a,b,rfl,rfl,rfl,h1,h2⟩:=trodAll_cons h;refine⟨a,b,?_,Yee hl (fun t h=>ht t (List.mem_cons_of_mem _ h)) h2 hb (fun p hp=>hlt p (List.mem_append_right _ hp)) (fun p hp=>hs p (List.mem_append_right _ hp)),rfl⟩;exact WideElems.Trod_stays hl (ht t (List.mem_cons_self ..)).1 (ht t (List.mem_cons_self ..)).2 h1 (fun p hp=>hb.same (hlt p (List.mem_append_left _ hp))) (fun p hp=>hs p (List.mem_append_left _ hp))
theorem Yh8{fn:Func}{s:ChangeSpec}{W W':World}{args:Array Value}{ds gs:List (DataW H)}{before:List MemPlace}(hvs:s.vars=[])
 (hW:DataW.Whole en Tryz.prog fn.params.toList s.vars false W args.toList ds gs before) (hres:fn.resultTypes= #[4])
 (hspec:s.fn H ds=⟨[.lit (.bool true)],ds,[]⟩) (hl:laidOutB Tryz.prog=true) (hrd0:(fn.params.toList.all fun t=>Tryz.prog.readableRec t&&decide (t<Tryz.prog.types.size))=true)
 (hb:RowKit.Below W.heap.size W W'):s.post en Tryz.prog fn false true false false W args (.bool true) W':=by
 have hlt:=hW.lt
 have hrd:∀t∈fn.params.toList,Tryz.prog.readableRec t=true/\t<Tryz.prog.types.size:=fun t ht=>by
  have:=List.all_eq_true.1 hrd0 t ht;simpa using this
 obtain⟨p,q,hA,hV,rfl,hfz,hnd⟩:=id hW;rw[hvs]at hV;obtain⟨rfl,rfl⟩:=trodVars_none hV;have hold:∀x∈p++[],(fun b=>decide (b<W.heap.size)) x.block=true:=fun x hx=>by simpa using hlt x hx
 have hr:∀(b:Nat)(sp:Nat->Bool)(hd:Bool),DataW.TrodAll en Tryz.prog W' b sp hd fn.resultTypes.toList ((Value.bool true).resultList fn.resultTypes.size) (s.fn H (ds++[])).results []:=fun b sp hd=>by
  rw[List.append_nil,hspec,hres];exact trodAll_cons_mk (RowKit.shut_bool Tryz.underlying4 _) trodAll_mk0
 have ha:∀sp:Nat->Bool,(∀x∈p++[],sp x.block=true)->DataW.TrodAll en Tryz.prog W' 0 sp true fn.params.toList args.toList (s.fn H (ds++[])).args p:=fun sp hs=>by
  rw[List.append_nil,hspec];exact Yee hl hrd hA hb (fun x hx=>hlt x (by simpa using hx)) (fun x hx=>hs x (by simpa using hx))
 have hv:∀sp:Nat->Bool,DataW.TrodVars en Tryz.prog W' sp s.vars (s.fn H (ds++[])).vars []:=fun sp=>by
  rw[List.append_nil,hspec,hvs];rfl
 refine⟨ds,[],p++[],[],p,[],hW,hr _ _ _,ha _ hold,hv _,hb.frame _,fun _=>⟨RowKit.ok_one hres rfl (RowKit.okWide_bool_mk Tryz.underlying4 _),_,_,([]++p)++[],⟨[]++p,[],trodAll_append (ha _ (fun _ _=>rfl)) (hr _ _ _),hv _,rfl,?_,?_⟩,?_⟩⟩
 ·intro b off hx;have hx':MemPlace.cell b off∈p++[]:=by simpa using hx
  rw[hb.frozen (hlt _ hx')];exact hfz b off hx'
 ·intro h;cases h
 ·intro x hx _;simpa using hx
theorem Ygs{ts:List TypeId}{ds:List (DataW H)}(hz:(DataW.weightsEach Tryz.prog ts ds).all (· <=reachBytes)=true){i:Nat}{t:TypeId}{d:DataW H}(h1:ts[i]? =some t)(h2:ds[i]? =some d):∀k∈d.weights Tryz.prog t,k<=reachBytes:=fun k hk=>by
 have:=List.all_eq_true.1 hz k (Ybp h1 h2 hk);simpa using this
end
def Yj7:Array Value:=(Pinned.utf8FirstZ.map fun(n:Nat)=>Value.int .u8 n).toArray
def Yjb:Array Value:=((([128,191,160,191,128,159,144,191,128,143]:List Nat)++List.replicate 22 0).map fun(n:Nat)=>Value.int .u8 n).toArray
def setC(v:Array Value):Obj->Obj
 |.cells _ t fr=>.cells v t fr
 |o=>o
noncomputable def Yc8(os:Os):World:=
 {World.holding Tryz.prog os ⟨#[],#[],[]⟩with heap:=((World.holding Tryz.prog os ⟨#[],#[],[]⟩).heap.modify 1 (setC Yj7)).modify 2 (setC Yjb)}
def zF:Value:=.agg #[.string ⟨#[]⟩,.slice none 0 0,.slice none 0 0,.slice none 0 0]
def dF{H:Type}:DataW H:=.agg [.lit (.string []),.nil,.nil,.nil]
end Go.Sy
end
section
open Go Go.Proofs Go.Ab Go.Rf
set_option linter.unusedSimpArgs false
set_option maxRecDepth 100000
namespace Go.Sy
def RetD(es:List (List D)):Out->List (Ref×List A)->Prop:=fun o H=>H=[]/\ ∃v,o=.ret v/\AsD v (.d (.slc es))
theorem Holds.ofD{P:Program}{f:FuncId}{args:List A}{es:List (List D)}(h:Holds P f args [] (RetD es)):Holds P f args [] (Ret (slA es)):=
 h.asData fun o H' ⟨e,v,e1,e2⟩=>⟨.ret (slA es),by subst e1;exact e2,rfl,e⟩
theorem c69(l:List Tx)(hl:l.length<=2^30):Holds Tryz.prog 69 [slA (txs l)] [] (Ret (slA (txs l))):=by
 refine Holds.ofD (w69 (txs l) fun b hb=>⟨fun e=>?_,fun e=>⟨Ybt l,tle (by simp;omega),tle (by simp;omega),fun h=>?_,fun h=>⟨rfl,_,rfl,.own _ _⟩⟩⟩)
 ·have h:=of_teq (hb e);have:l=[]:=List.length_eq_zero_iff.1 (by simpa using h);subst this;exact⟨rfl,_,rfl,.zs _⟩
 ·have:l=[]:=List.length_eq_zero_iff.1 (by simpa using of_teq h);subst this;exact⟨rfl,_,rfl,.zs _⟩
theorem Yj8(l:List Im):Zwd 3 (Yck l)=true:=by simp[Zwd,Yck]
theorem c81(l:List Im)(hl:l.length<=2^30):Holds Tryz.prog 81 [slA (Yck l)] [] (Ret (slA (Yck l))):=by
 refine Holds.ofD (w81 (Yck l) fun b hb=>⟨fun e=>?_,fun e=>⟨Yj8 l,tle (by simp;omega),tle (by simp;omega),fun h=>?_,fun h=>⟨rfl,_,rfl,.own _ _⟩⟩⟩)
 ·have h:=of_teq (hb e);have:l=[]:=List.length_eq_zero_iff.1 (by simpa using h);subst this;exact⟨rfl,_,rfl,.zs _⟩
 ·have:l=[]:=List.length_eq_zero_iff.1 (by simpa using of_teq h);subst this;exact⟨rfl,_,rfl,.zs _⟩
def tl{α:Type}(c:Bool)(l:List α):List α:=if c then[]else l
def ps(p:Bool)(n:Int):Int:=if p then 0 else n
def shE(p c:Bool)(r:Nd):Nd:=.mk r.kind r.num r.text r.n0 r.n1 r.trail r.lead (tl c r.tail) (ps p r.pos) r.subs r.decls
def shD(p c:Bool)(r:Nd):Nd:=.mk r.kind r.num r.text r.n0 r.n1 (tl c r.trail) (tl c r.lead) (tl c r.tail) (ps p r.pos) r.subs r.decls
mutual
def mpE(p c:Bool):Nd->Nd
 |.mk k n t a b tr le ta po s d=>.mk k n t a b tr le (tl c ta) (ps p po) (mpEs p c s) (mpDs p c d)
def mpEs(p c:Bool):List Nd->List Nd
 |[]=>[]
 |x::l=>mpE p c x::mpEs p c l
def mpD(p c:Bool):Nd->Nd
 |.mk k n t a b tr le ta po s d=>.mk k n t a b (tl c tr) (tl c le) (tl c ta) (ps p po) (mpEs p c s) (mpDs p c d)
def mpDs(p c:Bool):List Nd->List Nd
 |[]=>[]
 |x::l=>mpD p c x::mpDs p c l
end
theorem Ycn(p c:Bool)(r:Nd):mpE p c r=.mk r.kind r.num r.text r.n0 r.n1 r.trail r.lead (tl c r.tail) (ps p r.pos) (mpEs p c r.subs) (mpDs p c r.decls):=by cases r;rw[mpE];rfl
theorem Yco(p c:Bool)(r:Nd):mpD p c r=.mk r.kind r.num r.text r.n0 r.n1 (tl c r.trail) (tl c r.lead) (tl c r.tail) (ps p r.pos) (mpEs p c r.subs) (mpDs p c r.decls):=by cases r;rw[mpD];rfl
theorem Yap(p c:Bool):∀l,mpEs p c l=l.map (mpE p c)
 |[]=>rfl
 |x::l=>by rw[mpEs,Yap p c l];rfl
theorem Yah(p c:Bool):∀l,mpDs p c l=l.map (mpD p c)
 |[]=>rfl
 |x::l=>by rw[mpDs,Yah p c l];rfl
theorem Ygt(p c:Bool)(r:Nd):encE (mpE p c r)=[dI r.kind,dS r.text,dI r.num,dS r.n0,dS r.n1,.slc (Yaz (mpEs p c r.subs)),.slc (Yai (mpDs p c r.decls)),.slc (txs (tl c r.tail)),dI (ps p r.pos)]:=by rw[Ycn,encE]
theorem Yd1(p c:Bool)(r:Nd):encD (mpD p c r)=[dI r.kind,dI r.num,dS r.text,dS r.n0,dS r.n1,.slc (Yaz (mpEs p c r.subs)),.slc (Yai (mpDs p c r.decls)),.slc (txs (tl c r.tail)),.slc (txs (tl c r.lead)),dS (tl c r.trail),dI (ps p r.pos)]:=by rw[Yco,encD]
theorem Ybc{α β:Type}(F:α->β){l:List α}{i:Nat}(h:i<l.length):(l.map F).take i++[F l[i]]=(l.map F).take (i+1):=by
 rw[List.take_succ_eq_append_getElem (by simpa using h)];simp
theorem Ycp{α β:Type}(F:α->β){l:List α}{i:Nat}(h:l.length<=i):(l.map F).take i=l.map F:=List.take_of_length_le (by simpa using h)
theorem Ycq{α β:Type}(F:α->β){l:List α}{i:Nat}(h:i<=l.length):((l.map F).take i).length=i:=by simp;omega
theorem Yfp(p c:Bool)(l:List Nd):Yaz (mpEs p c l)=l.map fun a=>encE (mpE p c a):=by rw[Yb7,Yap,List.map_map];rfl
theorem Yfq(p c:Bool)(l:List Nd):Yai (mpDs p c l)=l.map fun a=>encD (mpD p c a):=by rw[Yb8,Yah,List.map_map];rfl
theorem Yh9(r:Nd):Zwd 9 [encE r]=true:=by simp[Zwd]
theorem Yb9{α:Type}(c:Bool)(l:List α):(tl c l).length<=l.length:=by unfold tl;split<;>simp
theorem c79(r:Nd):Holds Tryz.prog 79 [.agg (encE r)] [] (Ret (.agg (encE (shE true false r)))):=w79 _ ⟨teq (by simp),by cases r;simp[encE,shE,tl,ps,txs,Nd.kind,Nd.num,Nd.text,Nd.n0,Nd.n1,Nd.tail,Nd.pos,Nd.subs,Nd.decls],rfl⟩
theorem c80(r:Nd):Holds Tryz.prog 80 [.agg (encD r)] [] (Ret (.agg (encD (shD true false r)))):=w80 _ ⟨teq (by simp),by cases r;simp[encD,shD,tl,ps,txs,Nd.kind,Nd.num,Nd.text,Nd.n0,Nd.n1,Nd.tail,Nd.lead,Nd.trail,Nd.pos,Nd.subs,Nd.decls],rfl⟩
theorem c82(r:Nd):Holds Tryz.prog 82 [.agg (encE r)] [] (Ret (.agg (encE (shE false true r)))):=w82 _ ⟨teq (by simp),by cases r;simp[encE,shE,tl,ps,txs,Nd.kind,Nd.num,Nd.text,Nd.n0,Nd.n1,Nd.tail,Nd.pos,Nd.subs,Nd.decls],rfl⟩
theorem c83(r:Nd):Holds Tryz.prog 83 [.agg (encD r)] [] (Ret (.agg (encD (shD false true r)))):=w83 _ ⟨teq (by simp),by cases r;simp[encD,shD,tl,ps,txs,Nd.kind,Nd.num,Nd.text,Nd.n0,Nd.n1,Nd.tail,Nd.lead,Nd.trail,Nd.pos,Nd.subs,Nd.decls],rfl⟩
theorem Ydp(p c:Bool)(r:Nd):((shE p c r).kind=r.kind/\(shE p c r).num=r.num/\(shE p c r).text=r.text/\(shE p c r).n0=r.n0/\(shE p c r).n1=r.n1/\(shE p c r).tail=tl c r.tail/\(shE p c r).pos=ps p r.pos)/\
 ((shD p c r).kind=r.kind/\(shD p c r).num=r.num/\(shD p c r).text=r.text/\(shD p c r).n0=r.n0/\(shD p c r).n1=r.n1/\(shD p c r).trail=tl c r.trail/\(shD p c r).lead=tl c r.lead/\(shD p c r).tail=tl c r.tail/\(shD p c r).pos=ps p r.pos):=⟨⟨rfl,rfl,rfl,rfl,rfl,rfl,rfl⟩,rfl,rfl,rfl,rfl,rfl,rfl,rfl,rfl,rfl⟩
def Shr(r:Nd):Prop:=r.subs.length<=2^30/\r.decls.length<=2^30/\r.tail.length<=2^30/\r.lead.length<=2^30
theorem Yj9{r:Nd}(h:All Sml r):All Shr r:=h.mono fun _ h=>⟨Nat.le_trans h.1.1 (by decide),Nat.le_trans h.1.2.1 (by decide),Nat.le_trans h.1.2.2.1 (by decide),Nat.le_trans h.1.2.2.2 (by decide)⟩
theorem Yld(l:List Nd)(hl:l.length<=2^30)(ih:∀x∈l,Holds Tryz.prog 74 [.agg (encE x),.fn 79 [],.fn 80 []] [] (Ret (.agg (encE (mpE true false x))))):
 Holds Tryz.prog 107 [slA (Yaz l),.fn 79 [],.fn 80 []] [] (Ret (slA (Yaz (mpEs true false l)))):=by
 rw[Yfp];refine Holds.ofD (Ykt (Yaz l) ⟨True,l.length+1,fun es x=>∃i:Nat,x=i/\i<=l.length/\es=(l.map fun a=>encE (mpE true false a)).take i,fun _ x=>l.length-x.toNat,trivial,fun _=>⟨fun hc=>?_,fun hc=>?_⟩,?_,trivial⟩)
 ·have k1:0<l.length:=by have:=of_tlt hc;simp at this;omega
  have g:=Ybd (x:=(0:Int)) rfl k1;rw[g];refine⟨teq (by simp),call1 (ih _ (List.getElem_mem k1)) ⟨_,rfl,rfl,teq (by simp),Yh9 _,tle (by simp),tle (by simp),⟨1,rfl,k1,?_⟩,?_⟩⟩
  ·have:=Ybc (fun a=>encE (mpE true false a)) k1;simpa using this
  ·simp;omega
 ·have k1:l=[]:=List.length_eq_zero_iff.1 (by have:=of_flt hc;simp at this;simpa using this);subst k1;exact⟨rfl,_,rfl,.zs _⟩
 ·rintro es x ⟨i,rfl,hi,rfl⟩;refine⟨fun hc=>?_,fun hc=>?_⟩
  ·have k1:i<l.length:=by have:=of_tlt hc;simp at this;omega
   rw[Ybd rfl k1,Ycq _ hi];exact⟨tle (by omega),teq (by simp),call1 (ih _ (List.getElem_mem k1)) ⟨_,rfl,rfl,teq (by simp),Yh9 _,tle (by simp only[List.length_singleton];omega),tle (by simp only[List.length_singleton];omega),tle (by omega),tle (by omega),⟨i+1,rfl,k1,Ybc (fun a=>encE (mpE true false a)) k1⟩,dec k1⟩⟩
  ·have k1:l.length<=i:=by have:=of_flt hc;simp at this;omega
   rw[Ycp _ k1];exact⟨rfl,_,rfl,.same _⟩
theorem c78s(l:List Nd)(hl:l.length<=2^30)(hlm:∀x∈l,Shr x)(ih:∀x∈l,Holds Tryz.prog 107 [slA (Yaz x.subs),.fn 79 [],.fn 80 []] [] (Ret (slA (Yaz (mpEs true false x.subs))))/\Holds Tryz.prog 78 [slA (Yai x.decls),.fn 79 [],.fn 80 []] [] (Ret (slA (Yai (mpDs true false x.decls))))):
 Holds Tryz.prog 78 [slA (Yai l),.fn 79 [],.fn 80 []] [] (Ret (slA (Yai (mpDs true false l)))):=by
 rw[Yfq];refine Holds.ofD (w78s (Yai l) ⟨True,l.length+1,fun es x=>∃i:Nat,x=i/\i<=l.length/\es=(l.map fun a=>encD (mpD true false a)).take i,fun _ x=>l.length-x.toNat,trivial,fun _=>⟨fun hc=>?_,fun hc=>?_⟩,?_,trivial⟩)
 ·have k1:0<l.length:=by have:=of_tlt hc;simp at this;omega
  have g:=Ycf (x:=(0:Int)) rfl k1;rw[g];have hx:=List.getElem_mem k1;have L:=hlm _ hx;have ihx:=ih _ hx;have T:=Ybc (fun a=>encD (mpD true false a)) k1;generalize l[0]=a at L ihx T;refine⟨teq (by simp),call1 (c80 a) ⟨_,rfl,rfl,teq (by simp),?_⟩⟩;simp only[Yao,d0,d1,d2,d3,d4,d5,d6,d7,d8,d9,d10,isK_int,Yad,isK_slc,dint_int,Yak,dlst_slc,true_and,Ydp];refine call1 ihx.1 ⟨_,rfl,rfl,call1 ihx.2 ⟨_,rfl,rfl,_,fun _=>c69 _ (Nat.le_trans (Yb9 _ _) L.2.2.2),_,fun _=>c69 _ (Nat.le_trans (Yb9 _ _) L.2.2.1),tle (by simp),tle (by simp),⟨1,rfl,k1,?_⟩,?_⟩⟩
  ·rw[<-Yd1];simpa using T
  ·simp;omega
 ·have k1:l=[]:=List.length_eq_zero_iff.1 (by have:=of_flt hc;simp at this;simpa using this);subst k1;exact⟨rfl,_,rfl,.zs _⟩
 ·rintro es x ⟨i,rfl,hi,rfl⟩;refine⟨fun hc=>?_,fun hc=>?_⟩
  ·have k1:i<l.length:=by have:=of_tlt hc;simp at this;omega
   rw[Ycf rfl k1,Ycq _ hi];have hx:=List.getElem_mem k1;have L:=hlm _ hx;have ihx:=ih _ hx;have T:=Ybc (fun a=>encD (mpD true false a)) k1;generalize l[i]=a at L ihx T;refine⟨tle (by omega),teq (by simp),call1 (c80 a) ⟨_,rfl,rfl,teq (by simp),?_⟩⟩;simp only[Yao,d0,d1,d2,d3,d4,d5,d6,d7,d8,d9,d10,isK_int,Yad,isK_slc,dint_int,Yak,dlst_slc,true_and,Ydp];refine call1 ihx.1 ⟨_,rfl,rfl,call1 ihx.2 ⟨_,rfl,rfl,_,fun _=>c69 _ (Nat.le_trans (Yb9 _ _) L.2.2.2),_,fun _=>c69 _ (Nat.le_trans (Yb9 _ _) L.2.2.1),tle (by simp only[List.length_singleton];omega),tle (by simp only[List.length_singleton];omega),tle (by omega),tle (by omega),⟨i+1,rfl,k1,?_⟩,dec k1⟩⟩;rw[<-Yd1];exact T
  ·have k1:l.length<=i:=by have:=of_flt hc;simp at this;omega
   rw[Ycp _ k1];exact⟨rfl,_,rfl,.same _⟩
theorem c74s:∀r:Nd,All Shr r->Holds Tryz.prog 74 [.agg (encE r),.fn 79 [],.fn 80 []] [] (Ret (.agg (encE (mpE true false r))))/\Holds Tryz.prog 107 [slA (Yaz r.subs),.fn 79 [],.fn 80 []] [] (Ret (slA (Yaz (mpEs true false r.subs))))/\Holds Tryz.prog 78 [slA (Yai r.decls),.fn 79 [],.fn 80 []] [] (Ret (slA (Yai (mpDs true false r.decls)))):=by
 refine Ya0 fun r hs hd hb=>?_
 have L:=hb.here;have ihs:=Yld r.subs L.1 fun x hx=>(hs x hx (hb.sub hx)).1
 have ihd:=c78s r.decls L.2.1 (fun x hx=>(hb.dec hx).here) fun x hx=>(hd x hx (hb.dec hx)).2
 refine⟨?_,ihs,ihd⟩;refine w74s (encE r) ⟨teq (by simp),call1 (c79 r) ⟨_,rfl,rfl,teq (by simp),?_⟩⟩;simp only[Yal,e0,e1,e2,e3,e4,e5,e6,e7,e8,isK_int,Yad,isK_slc,dint_int,Yak,dlst_slc,true_and,Ydp];exact call1 ihs ⟨_,rfl,rfl,call1 ihd ⟨_,rfl,rfl,call1 (c69 _ (Nat.le_trans (Yb9 _ _) L.2.2.1)) ⟨_,rfl,rfl,by rw[Ygt],rfl⟩⟩⟩
theorem Yle(l:List Nd)(hl:l.length<=2^30)(h:∀x∈l,All Shr x):Holds Tryz.prog 78 [slA (Yai l),.fn 79 [],.fn 80 []] [] (Ret (slA (Yai (mpDs true false l)))):=
 c78s l hl (fun x hx=>(h x hx).here) fun x hx=>(c74s x (h x hx)).2
theorem Ylf(l:List Nd)(hl:l.length<=2^30)(ih:∀x∈l,Holds Tryz.prog 74 [.agg (encE x),.fn 82 [],.fn 83 []] [] (Ret (.agg (encE (mpE false true x))))):
 Holds Tryz.prog 107 [slA (Yaz l),.fn 82 [],.fn 83 []] [] (Ret (slA (Yaz (mpEs false true l)))):=by
 rw[Yfp];refine Holds.ofD (Yku (Yaz l) ⟨True,l.length+1,fun es x=>∃i:Nat,x=i/\i<=l.length/\es=(l.map fun a=>encE (mpE false true a)).take i,fun _ x=>l.length-x.toNat,trivial,fun _=>⟨fun hc=>?_,fun hc=>?_⟩,?_,trivial⟩)
 ·have k1:0<l.length:=by have:=of_tlt hc;simp at this;omega
  have g:=Ybd (x:=(0:Int)) rfl k1;rw[g];refine⟨teq (by simp),call1 (ih _ (List.getElem_mem k1)) ⟨_,rfl,rfl,teq (by simp),Yh9 _,tle (by simp),tle (by simp),⟨1,rfl,k1,?_⟩,?_⟩⟩
  ·have:=Ybc (fun a=>encE (mpE false true a)) k1;simpa using this
  ·simp;omega
 ·have k1:l=[]:=List.length_eq_zero_iff.1 (by have:=of_flt hc;simp at this;simpa using this);subst k1;exact⟨rfl,_,rfl,.zs _⟩
 ·rintro es x ⟨i,rfl,hi,rfl⟩;refine⟨fun hc=>?_,fun hc=>?_⟩
  ·have k1:i<l.length:=by have:=of_tlt hc;simp at this;omega
   rw[Ybd rfl k1,Ycq _ hi];exact⟨tle (by omega),teq (by simp),call1 (ih _ (List.getElem_mem k1)) ⟨_,rfl,rfl,teq (by simp),Yh9 _,tle (by simp only[List.length_singleton];omega),tle (by simp only[List.length_singleton];omega),tle (by omega),tle (by omega),⟨i+1,rfl,k1,Ybc (fun a=>encE (mpE false true a)) k1⟩,dec k1⟩⟩
  ·have k1:l.length<=i:=by have:=of_flt hc;simp at this;omega
   rw[Ycp _ k1];exact⟨rfl,_,rfl,.same _⟩
theorem c78p(l:List Nd)(hl:l.length<=2^30)(hlm:∀x∈l,Shr x)(ih:∀x∈l,Holds Tryz.prog 107 [slA (Yaz x.subs),.fn 82 [],.fn 83 []] [] (Ret (slA (Yaz (mpEs false true x.subs))))/\Holds Tryz.prog 78 [slA (Yai x.decls),.fn 82 [],.fn 83 []] [] (Ret (slA (Yai (mpDs false true x.decls))))):
 Holds Tryz.prog 78 [slA (Yai l),.fn 82 [],.fn 83 []] [] (Ret (slA (Yai (mpDs false true l)))):=by
 rw[Yfq];refine Holds.ofD (w78p (Yai l) ⟨True,l.length+1,fun es x=>∃i:Nat,x=i/\i<=l.length/\es=(l.map fun a=>encD (mpD false true a)).take i,fun _ x=>l.length-x.toNat,trivial,fun _=>⟨fun hc=>?_,fun hc=>?_⟩,?_,trivial⟩)
 ·have k1:0<l.length:=by have:=of_tlt hc;simp at this;omega
  have g:=Ycf (x:=(0:Int)) rfl k1;rw[g];have hx:=List.getElem_mem k1;have L:=hlm _ hx;have ihx:=ih _ hx;have T:=Ybc (fun a=>encD (mpD false true a)) k1;generalize l[0]=a at L ihx T;refine⟨teq (by simp),call1 (c83 a) ⟨_,rfl,rfl,teq (by simp),?_⟩⟩;simp only[Yao,d0,d1,d2,d3,d4,d5,d6,d7,d8,d9,d10,isK_int,Yad,isK_slc,dint_int,Yak,dlst_slc,true_and,Ydp];refine call1 ihx.1 ⟨_,rfl,rfl,call1 ihx.2 ⟨_,rfl,rfl,_,fun _=>c69 _ (Nat.le_trans (Yb9 _ _) L.2.2.2),_,fun _=>c69 _ (Nat.le_trans (Yb9 _ _) L.2.2.1),tle (by simp),tle (by simp),⟨1,rfl,k1,?_⟩,?_⟩⟩
  ·rw[<-Yd1];simpa using T
  ·simp;omega
 ·have k1:l=[]:=List.length_eq_zero_iff.1 (by have:=of_flt hc;simp at this;simpa using this);subst k1;exact⟨rfl,_,rfl,.zs _⟩
 ·rintro es x ⟨i,rfl,hi,rfl⟩;refine⟨fun hc=>?_,fun hc=>?_⟩
  ·have k1:i<l.length:=by have:=of_tlt hc;simp at this;omega
   rw[Ycf rfl k1,Ycq _ hi];have hx:=List.getElem_mem k1;have L:=hlm _ hx;have ihx:=ih _ hx;have T:=Ybc (fun a=>encD (mpD false true a)) k1;generalize l[i]=a at L ihx T;refine⟨tle (by omega),teq (by simp),call1 (c83 a) ⟨_,rfl,rfl,teq (by simp),?_⟩⟩;simp only[Yao,d0,d1,d2,d3,d4,d5,d6,d7,d8,d9,d10,isK_int,Yad,isK_slc,dint_int,Yak,dlst_slc,true_and,Ydp];refine call1 ihx.1 ⟨_,rfl,rfl,call1 ihx.2 ⟨_,rfl,rfl,_,fun _=>c69 _ (Nat.le_trans (Yb9 _ _) L.2.2.2),_,fun _=>c69 _ (Nat.le_trans (Yb9 _ _) L.2.2.1),tle (by simp only[List.length_singleton];omega),tle (by simp only[List.length_singleton];omega),tle (by omega),tle (by omega),⟨i+1,rfl,k1,?_⟩,dec k1⟩⟩;rw[<-Yd1];exact T
  ·have k1:l.length<=i:=by have:=of_flt hc;simp at this;omega
   rw[Ycp _ k1];exact⟨rfl,_,rfl,.same _⟩
theorem c74p:∀r:Nd,All Shr r->Holds Tryz.prog 74 [.agg (encE r),.fn 82 [],.fn 83 []] [] (Ret (.agg (encE (mpE false true r))))/\Holds Tryz.prog 107 [slA (Yaz r.subs),.fn 82 [],.fn 83 []] [] (Ret (slA (Yaz (mpEs false true r.subs))))/\Holds Tryz.prog 78 [slA (Yai r.decls),.fn 82 [],.fn 83 []] [] (Ret (slA (Yai (mpDs false true r.decls)))):=by
 refine Ya0 fun r hs hd hb=>?_
 have L:=hb.here;have ihs:=Ylf r.subs L.1 fun x hx=>(hs x hx (hb.sub hx)).1
 have ihd:=c78p r.decls L.2.1 (fun x hx=>(hb.dec hx).here) fun x hx=>(hd x hx (hb.dec hx)).2
 refine⟨?_,ihs,ihd⟩;refine w74p (encE r) ⟨teq (by simp),call1 (c82 r) ⟨_,rfl,rfl,teq (by simp),?_⟩⟩;simp only[Yal,e0,e1,e2,e3,e4,e5,e6,e7,e8,isK_int,Yad,isK_slc,dint_int,Yak,dlst_slc,true_and,Ydp];exact call1 ihs ⟨_,rfl,rfl,call1 ihd ⟨_,rfl,rfl,call1 (c69 _ (Nat.le_trans (Yb9 _ _) L.2.2.1)) ⟨_,rfl,rfl,by rw[Ygt],rfl⟩⟩⟩
theorem Ylg(l:List Nd)(hl:l.length<=2^30)(h:∀x∈l,All Shr x):Holds Tryz.prog 78 [slA (Yai l),.fn 82 [],.fn 83 []] [] (Ret (slA (Yai (mpDs false true l)))):=
 c78p l hl (fun x hx=>(h x hx).here) fun x hx=>(c74p x (h x hx)).2
def ShrF(f:Fl):Prop:=f.imps.length<=2^30/\f.decls.length<=2^30/\f.tail.length<=2^30/\ ∀x∈f.decls,All Shr x
def stI(i:Im):Im:=⟨i.name,i.path,0⟩
def Yau(f:Fl):Fl:=⟨f.pkg,f.imps.map stI,mpDs true false f.decls,f.tail⟩
def Ycr(f:Fl):Fl:=⟨f.pkg,f.imps,mpDs false true f.decls,[]⟩
theorem c29(f:Fl)(h:ShrF f):Holds Tryz.prog 29 [.agg (Ybi f)] [] (Ret (.agg (Ybi (Ycr f)))):=by
 refine w29 _ ?_;simp only[Yaw,f0,f1,f2,f3,Yad,isK_slc,Yak,dlst_slc,true_and];exact⟨teq rfl,_,fun _=>c81 f.imps h.1,call1 (Ylg f.decls h.2.1 h.2.2.2) ⟨_,rfl,rfl,rfl,rfl⟩⟩
theorem c28(f:Fl)(h:ShrF f):Holds Tryz.prog 28 [.agg (Ybi f)] [] (Ret (.agg (Ybi (Yau f)))):=by
 refine w28 _ ?_;simp only[Yaw,f0,f1,f2,f3,Yad,isK_slc,Yak,dlst_slc,true_and,Ybe]
 have E:Ybi (Yau f)=[dS f.pkg,.slc (f.imps.map fun a=>encI (stI a)),.slc (Yai (mpDs true false f.decls)),.slc (txs f.tail)]:=by
  show encF _ _ _ _=_;unfold encF Yau Yck;simp only[List.map_map];rfl
 refine⟨teq rfl,_,fun _=>Yle f.decls h.2.1 h.2.2.2,_,fun _=>c69 f.tail h.2.2.1,True,f.imps.length+1,fun x es=>∃i:Nat,x=i/\i<=f.imps.length/\es=(f.imps.map fun a=>encI (stI a)).take i,fun x _=>f.imps.length-x.toNat,trivial,fun _=>⟨fun hc=>?_,fun hc=>?_⟩,?_,trivial⟩
 ·have k1:0<f.imps.length:=by have:=of_tlt hc;omega
  have g:=Ydi (x:=(0:Int)) rfl k1;have T:=Ybc (fun a=>encI (stI a)) k1;simp only[g,Ybb,i0,i1,i2];refine⟨teq rfl,tle (by simp),tle (by simp),⟨1,rfl,k1,T⟩,?_⟩
  ·simp;omega
 ·have k1:f.imps=[]:=List.length_eq_zero_iff.1 (by have:=of_flt hc;omega);refine⟨?_,rfl⟩;rw[E,k1];rfl
 ·rintro x es ⟨i,rfl,hi,rfl⟩;refine⟨fun hc=>?_,fun hc=>?_⟩
  ·have k1:i<f.imps.length:=by have:=of_tlt hc;omega
   have g:=Ydi (x:=(i:Int)) rfl k1;have T:=Ybc (fun a=>encI (stI a)) k1;have L:=h.1;simp only[g,Ybb,i0,i1,i2,Ycq (fun a=>encI (stI a)) hi];exact⟨tle (by omega),teq rfl,tle (by simp only[List.length_singleton];omega),tle (by simp only[List.length_singleton];omega),tle (by omega),tle (by omega),⟨i+1,rfl,k1,T⟩,dec k1⟩
  ·have k1:f.imps.length<=i:=by have:=of_flt hc;omega
   rw[Ycp _ k1];exact⟨by rw[E],rfl⟩
end Go.Sy
end
section
open Go Go.Proofs Go.Ab Go.Rf
set_option linter.unusedSimpArgs false
set_option maxRecDepth 100000
namespace Go.Sy
mutual
def comE:Nd->List Tx
 |.mk _ _ _ _ _ _ _ ta _ s d=>Yaj s++Yab d++ta
def Yaj:List Nd->List Tx
 |[]=>[]
 |x::l=>comE x++Yaj l
def comD:Nd->List Tx
 |.mk _ _ _ _ _ tr le ta _ s d=>le++Yaj s++Yab d++ta++(if tr=[]then[]else[tr])
def Yab:List Nd->List Tx
 |[]=>[]
 |x::l=>comD x++Yab l
end
theorem Yc9(r:Nd):comE r=Yaj r.subs++Yab r.decls++r.tail:=by cases r;rw[comE];rfl
theorem Yda(r:Nd):comD r=r.lead++Yaj r.subs++Yab r.decls++r.tail++(if r.trail=[]then[]else[r.trail]):=by cases r;rw[comD];rfl
theorem Ybf:∀l,Yaj l=l.flatMap comE
 |[]=>rfl
 |x::l=>by rw[Yaj,Ybf l];rfl
theorem Ya5:∀l,Yab l=l.flatMap comD
 |[]=>rfl
 |x::l=>by rw[Yab,Ya5 l];rfl
theorem Yax{l:List Nd}{i:Nat}(h:i<l.length):Yaj (l.take i)++comE l[i]=Yaj (l.take (i+1)):=by
 rw[List.take_succ_eq_append_getElem h,Ybf,Ybf,List.flatMap_append];simp
theorem Ycx{l:List Nd}{i:Nat}(h:i<l.length):Yab (l.take i)++comD l[i]=Yab (l.take (i+1)):=by
 rw[List.take_succ_eq_append_getElem h,Ya5,Ya5,List.flatMap_append];simp
theorem Yfr(l:List Nd)(i:Nat):(Yaj (l.take i)).length<=(Yaj l).length:=by
 conv=>rhs;rw[<-List.take_append_drop i l]
 rw[Ybf,Ybf,List.flatMap_append];simp
theorem Yd2(l:List Nd)(i:Nat):(Yab (l.take i)).length<=(Yab l).length:=by
 conv=>rhs;rw[<-List.take_append_drop i l]
 rw[Ya5,Ya5,List.flatMap_append];simp
def ownA(es:List (List D)):A:=if es.isEmpty then .zs []else .own 1 es []
theorem Ygu{es:List (List D)}(h:es≠[]):A.own 1 es []=ownA es:=by cases es with|nil=>exact absurd rfl h|cons=>rfl
theorem Yka{l:List Tx}(h:(tB (((txs l).length:Int)==0))=true):l=[]:=List.length_eq_zero_iff.1 (by have:=of_teq h;simpa using this)
theorem Ylh{l:List Tx}(h:(tB (((txs l).length:Int)==0))=false):l≠[]:=fun e=>by subst e;simp[txs]at h
theorem Ykb{l:List Tx}(h:l≠[]):txs l≠[]:=fun e=>h (List.map_eq_nil_iff.1 e)
theorem Yli{a b:List Tx}(h:a.length+b.length<=2^30):(tB (decide ((((txs a).length:Int)+((txs b).length:Int))*16<=140737488355328)))=true/\(tB (decide ((((txs a).length:Int)+((txs b).length:Int))<=1099511627776)))=true:=
 ⟨tle (by simp only[Yan];omega),tle (by simp only[Yan];omega)⟩
theorem fit0{b:List Tx}(h:b.length<=2^30):(tB (decide (((0:Int)+((txs b).length:Int))*16<=140737488355328)))=true/\(tB (decide (((0:Int)+((txs b).length:Int))<=1099511627776)))=true:=
 ⟨tle (by simp only[Yan];omega),tle (by simp only[Yan];omega)⟩
def trl(s:Tx):List Tx:=if s=[]then[]else[s]
theorem Yd3(r:Nd):comD r=r.lead++Yaj r.subs++Yab r.decls++r.tail++trl r.trail:=Yda r
def comF(f:Fl):List Tx:=Yab f.decls++f.tail
end Go.Sy
end
section
open Go Go.Proofs Go.Ab Go.Rf
set_option linter.unusedSimpArgs false
set_option maxRecDepth 100000
namespace Go.Sy
theorem Ydb(l:List Nd):l.length<=sizes l:=by
 induction l with
 |nil=>simp
 |cons x l ih=>have:=size_pos x;simp only[List.length_cons,sizes];omega
end Go.Sy
end
section
open Go Go.Proofs Go.Ab Go.Rf
set_option linter.unusedSimpArgs false
set_option maxRecDepth 100000
namespace Go.Sy
def LET:Tx:=[108,101,116]
end Go.Sy
end
section
open Go Go.Proofs Go.Ab Go.Rf
set_option linter.unusedSimpArgs false
set_option maxRecDepth 100000
namespace Go.Sy
end Go.Sy
end
section
open Go Go.Proofs Go.Ab Go.Rf
set_option linter.unusedSimpArgs false
set_option maxRecDepth 100000
namespace Go.Sy
def RB(K:List (Ref×List A)):Out->List (Ref×List A)->Prop:=fun o H=>o=.ret (.tup [])/\H=K
abbrev ow(P:List Tx):A:=ownA (txs P)
theorem Ya4{P:List Tx}(h:P≠[]):ow P=.own 1 (txs P) []:=(Ygu (Ykb h)).symm
theorem Ybx{f:FuncId}{args:List A}{K0:List (Ref×List A)}{B:A->List (Ref×List A)}{Q:List Tx}(hQ:Q≠[])(hc:Holds Tryz.prog f args K0 (RB (B (ow Q)))){K:List (List D)->Prop}{QP:Value->List (Ref×List A)->Prop}(h:K (txs Q)):
 ∀_:Nat->Nat,∃R':Out->List (Ref×List A)->Prop,Holds Tryz.prog f args K0 R'/\(∀v H',R' (.ret v) H'-> ∃x,v=.tup []/\H'=B (.own 1 x [])/\K x)/\(∀u H',R' (.pan u) H'->QP u H'):=
 fun _=>⟨_,hc,fun v H' e=>by obtain⟨e1,e2⟩:=e;cases e1;exact⟨txs Q,rfl,by rw[e2,Ya4 hQ],h⟩,fun u H' e=>by cases e.1⟩
theorem Ydk{f:FuncId}{args:List A}{K0:List (Ref×List A)}{B:A->List (Ref×List A)}{Q:List Tx}(hc:Holds Tryz.prog f args K0 (RB (B (ow Q)))){G:Prop}{K:List (List D)->Prop}{QP:Value->List (Ref×List A)->Prop}(h0:Q=[]->G)(h:Q≠[]->K (txs Q)):
 ∀_:Nat->Nat,∃R':Out->List (Ref×List A)->Prop,Holds Tryz.prog f args K0 R'/\(∀v H',R' (.ret v) H'->(v=.tup []/\H'=B (.zs [])/\G)\/(∃x,v=.tup []/\H'=B (.own 1 x [])/\K x))/\(∀u H',R' (.pan u) H'->QP u H'):=
 fun _=>⟨_,hc,fun v H' e=>by
  obtain⟨e1,e2⟩:=e;cases e1;by_cases hQ:Q=[]
  ·left;exact⟨rfl,by rw[e2,hQ];rfl,h0 hQ⟩
  ·right;exact⟨txs Q,rfl,by rw[e2,Ya4 hQ],h hQ⟩,fun u H' e=>by cases e.1⟩
def Dst(e d a o:Ref):Prop:=e≠d/\e≠a/\d≠a/\e≠o/\d≠o/\a≠o
theorem Dst.up{e d a o:Ref}(h:Dst e d a o):Dst (.up e) (.up d) (.up a) (.up o):=by unfold Dst at*;simpa using h
abbrev B85(o:Ref)(c:A):List (Ref×List A):=[(.up o,[c])]
abbrev B86(e d a o:Ref)(c:A):List (Ref×List A):=[(.up e,[.fn 86 [.up e,.up d,.up a]]),(.up d,[.fn 87 [.up a,.up e,.up d]]),(.up a,[.fn 85 [.up o]]),(.up o,[c])]
abbrev B87(e d a o:Ref)(c:A):List (Ref×List A):=[(.up a,[.fn 85 [.up o]]),(.up o,[c]),(.up e,[.fn 86 [.up e,.up d,.up a]]),(.up d,[.fn 87 [.up a,.up e,.up d]])]
theorem c85(P x:List Tx)(o:Ref)(h:(P++x).length<=2^30):Holds Tryz.prog 85 [slA (txs x),.ptr (.up o) 0] (B85 o (ow P)) (RB (B85 o (ow (P++x)))):=by
 simp only[List.length_append]at h;by_cases hP:P=[]
 ·subst hP;have F:=fit0 (b:=x) (by omega);refine w85a (txs x) o ⟨Ybt _,F.1,F.2,fun h0=>?_,fun h0=>?_⟩
  ·rw[Yka h0];exact⟨rfl,rfl⟩
  ·rw[List.nil_append,Ya4 (Ylh h0)];exact⟨rfl,rfl⟩
 ·have F:=Yli (a:=P) (b:=x) h;rw[Ya4 hP,Ya4 (P:=P++x) (by simp[hP])];exact w85b (txs x) (txs P) o ⟨Ybt _,F.1,F.2,rfl,by rw[Yf2]⟩
abbrev H86(r:Nd):Prop:=∀(P:List Tx)(e d a o:Ref),Dst e d a o->(P++comE r).length<=2^30->
 Holds Tryz.prog 86 [.agg (encE r),.ptr (.up e) 0,.ptr (.up d) 0,.ptr (.up a) 0] (B86 e d a o (ow P)) (RB (B86 e d a o (ow (P++comE r))))
abbrev H87(l:List Nd):Prop:=∀(P:List Tx)(e d a o:Ref),Dst e d a o->(P++Yab l).length<=2^30->
 Holds Tryz.prog 87 [slA (Yai l),.ptr (.up a) 0,.ptr (.up e) 0,.ptr (.up d) 0] (B87 e d a o (ow P)) (RB (B87 e d a o (ow (P++Yab l))))
theorem c86(r:Nd)(hl:r.subs.length<=2^50)(ihs:∀x∈r.subs,H86 x)(ihd:H87 r.decls):H86 r:=by
 intro P e d a o hd hb;have hc:=Yc9 r;have hlen:=congrArg List.length hc;simp only[List.length_append]at hlen hb
 have sub:∀{i:Nat}(k1:i<r.subs.length),(Yaj (r.subs.take i)).length+(comE r.subs[i]).length<=(Yaj r.subs).length:=fun{i} k1=>by
  have:=congrArg List.length (Yax k1);have:=Yfr r.subs (i+1);simp only[List.length_append]at*;omega
 by_cases hP:P=[]
 ·subst hP;rw[List.nil_append];refine w86a (encE r) e d a o hd.1 hd.2.1 hd.2.2.1 hd.2.2.2.1 hd.2.2.2.2.1 hd.2.2.2.2.2 ?_;simp only[Yal,e0,e1,e2,e3,e4,e5,e6,e7,e8,isK_int,Yad,isK_slc,dint_int,Yak,dlst_slc,true_and,Yaf,Yag,Yan,Ybt];refine⟨teq rfl,fun x=>∃i:Nat,x=i/\i<=r.subs.length/\Yaj (r.subs.take i)=[],fun x=>r.subs.length-x.toNat,fun x es=>∃i:Nat,x=i/\i<=r.subs.length/\es=txs (Yaj (r.subs.take i))/\Yaj (r.subs.take i)≠[],fun x _=>r.subs.length-x.toNat,⟨0,rfl,Nat.zero_le _,rfl⟩,?_,?_,trivial⟩
  ·rintro x ⟨i,rfl,hi,hr⟩;refine⟨fun hc1=>?_,fun hc1=>?_⟩
   ·have k1:i<r.subs.length:=by have:=of_tlt hc1;omega
    rw[Ybd rfl k1];have hm:=List.getElem_mem k1;have T:=Yax k1;have hs:=sub k1;rw[hr,List.nil_append]at T;refine⟨tle (by omega),teq (by simp),Ydk (B:=B86 (.up e) (.up d) (.up a) (.up o)) (ihs _ hm [] _ _ _ _ hd.up (by simp only[List.nil_append];omega)) (fun h=>⟨tle (by omega),tle (by omega),⟨i+1,rfl,k1,?_⟩,dec k1⟩) fun h=>⟨tle (by omega),tle (by omega),⟨i+1,rfl,k1,?_,?_⟩,dec k1⟩⟩
    ·rw[<-T];exact h
    ·rw[<-T];rfl
    ·rw[<-T];exact h
   ·have k1:r.subs.length<=i:=by have:=of_flt hc1;omega
    rw[List.take_of_length_le k1]at hr;rw[hr,List.nil_append]at hc;refine Ydk (B:=B87 (.up e) (.up d) (.up a) (.up o)) (ihd [] _ _ _ _ hd.up (by simp only[List.nil_append];omega)) (fun h=>?_) fun h=>?_
    ·rw[List.nil_append]at h;rw[h,List.nil_append]at hc;refine Ydk (B:=B85 (.up o)) (c85 [] r.tail (.up o) (by simp only[List.nil_append];omega)) (fun h=>?_) fun h=>?_
     ·rw[List.nil_append]at h;rw[hc,h];exact⟨rfl,rfl⟩
     ·rw[List.nil_append]at h⊢;rw[hc,Ya4 h];exact⟨rfl,rfl⟩
    ·rw[List.nil_append]at h⊢;have hn:Yab r.decls++r.tail≠[]:=by simp[h]
     refine Ybx (B:=B85 (.up o)) hn (Ya4 h▸c85 (Yab r.decls) r.tail (.up o) (by simp only[List.length_append];omega)) ?_;rw[hc,Ya4 hn];exact⟨rfl,rfl⟩
  ·rintro x es ⟨i,rfl,hi,rfl,hr⟩;refine⟨fun hc1=>?_,fun hc1=>?_⟩
   ·have k1:i<r.subs.length:=by have:=of_tlt hc1;omega
    rw[Ybd rfl k1];have hm:=List.getElem_mem k1;have T:=Yax k1;have hs:=sub k1;have hn:Yaj (r.subs.take i)++comE r.subs[i]≠[]:=by simp[hr]
    refine⟨tle (by omega),teq (by simp),Ybx (B:=B86 (.up e) (.up d) (.up a) (.up o)) hn (Ya4 hr▸ihs _ hm (Yaj (r.subs.take i)) _ _ _ _ hd.up (by simp only[List.length_append];omega)) ⟨tle (by omega),tle (by omega),⟨i+1,rfl,k1,by rw[T],by rw[<-T];exact hn⟩,dec k1⟩⟩
   ·have k1:r.subs.length<=i:=by have:=of_flt hc1;omega
    rw[List.take_of_length_le k1]at hr⊢;have hn:Yaj r.subs++Yab r.decls≠[]:=by simp[hr]
    have hn2:Yaj r.subs++Yab r.decls++r.tail≠[]:=by simp[hr]
    refine Ybx (B:=B87 (.up e) (.up d) (.up a) (.up o)) hn (Ya4 hr▸ihd (Yaj r.subs) _ _ _ _ hd.up (by simp only[List.length_append];omega)) ?_;refine Ybx (B:=B85 (.up o)) hn2 (Ya4 hn▸c85 (Yaj r.subs++Yab r.decls) r.tail (.up o) (by simp only[List.length_append];omega)) ?_;rw[hc,Ya4 hn2];exact⟨rfl,rfl⟩
 ·rw[Ya4 hP];have hPn:∀Q,P++Q≠[]:=fun Q=>by simp[hP]
  refine w86b (encE r) (txs P) e d a o hd.1 hd.2.1 hd.2.2.1 hd.2.2.2.1 hd.2.2.2.2.1 hd.2.2.2.2.2 ?_;simp only[Yal,e0,e1,e2,e3,e4,e5,e6,e7,e8,isK_int,Yad,isK_slc,dint_int,Yak,dlst_slc,true_and,Yaf,Yag,Ybt];refine⟨teq rfl,fun x es=>∃i:Nat,x=i/\i<=r.subs.length/\es=txs (P++Yaj (r.subs.take i)),fun x _=>r.subs.length-x.toNat,⟨0,rfl,Nat.zero_le _,by simp[Yaj]⟩,?_,trivial⟩;rintro x es ⟨i,rfl,hi,rfl⟩;refine⟨fun hc1=>?_,fun hc1=>?_⟩
  ·have k1:i<r.subs.length:=by have:=of_tlt hc1;omega
   rw[Ybd rfl k1];have hm:=List.getElem_mem k1;have T:=Yax k1;have hs:=sub k1;have hn:P++Yaj (r.subs.take i)++comE r.subs[i]≠[]:=by simp[hP]
   refine⟨tle (by omega),teq (by simp),Ybx (B:=B86 (.up e) (.up d) (.up a) (.up o)) hn (Ya4 (hPn _)▸ihs _ hm (P++Yaj (r.subs.take i)) _ _ _ _ hd.up (by simp only[List.length_append];omega)) ⟨tle (by omega),tle (by omega),⟨i+1,rfl,k1,by rw[List.append_assoc,T]⟩,dec k1⟩⟩
  ·have k1:r.subs.length<=i:=by have:=of_flt hc1;omega
   rw[List.take_of_length_le k1];have hn:P++Yaj r.subs++Yab r.decls≠[]:=by simp[hP]
   have hn2:P++Yaj r.subs++Yab r.decls++r.tail≠[]:=by simp[hP]
   refine Ybx (B:=B87 (.up e) (.up d) (.up a) (.up o)) hn (Ya4 (hPn _)▸ihd (P++Yaj r.subs) _ _ _ _ hd.up (by simp only[List.length_append];omega)) ?_;refine Ybx (B:=B85 (.up o)) hn2 (Ya4 hn▸c85 (P++Yaj r.subs++Yab r.decls) r.tail (.up o) (by simp only[List.length_append];omega)) ?_;have e1:P++comE r=P++Yaj r.subs++Yab r.decls++r.tail:=by rw[hc];simp
   rw[e1,Ya4 hn2];exact⟨rfl,rfl⟩
theorem Yfs{r:Nd}{e d a o:Ref}{Q W:List Tx}(hd:Dst e d a o)(ihd:H87 r.decls)(hQ:Q≠[])(hW:Q++Yab r.decls++r.tail++trl r.trail=W)(hb:W.length<=2^30){J:Bool->List (List D)->Prop}(hJ:∀b,J b (txs W))
 {Q1:Value->List (Ref×List A)->Prop} {Q2:List (List D)->Value->List (Ref×List A)->Prop} {Q4:List (List D)->List (List D)->Value->List (Ref×List A)->Prop}:
 ∀_:Nat->Nat,∃R':Out->List (Ref×List A)->Prop,Holds Tryz.prog 87 [slA (Yai r.decls),.ptr (.up (.up a)) 0,.ptr (.up (.up e)) 0,.ptr (.up (.up d)) 0] (B87 (.up e) (.up d) (.up a) (.up o) (.own 1 (txs Q) [])) R'/\
  (∀v H',R' (.ret v) H'-> ∃x4:List (List D),v=.tup []/\H'=B87 (.up e) (.up d) (.up a) (.up o) (.own 1 x4 [])/\
   ∀_:Nat->Nat,∃R':Out->List (Ref×List A)->Prop,Holds Tryz.prog 85 [slA (txs r.tail),.ptr (.up (.up o)) 0] (B85 (.up o) (.own 1 x4 [])) R'/\
    (∀v H',R' (.ret v) H'-> ∃x5:List (List D),v=.tup []/\H'=B85 (.up o) (.own 1 x5 [])/\
     ((!(tB (r.trail==([]:List UInt8))))=true-> ∀_:Nat->Nat,∃R':Out->List (Ref×List A)->Prop,Holds Tryz.prog 85 [slA [[dS r.trail]],.ptr (.up (.up o)) 0] (B85 (.up o) (.own 1 x5 [])) R'/\
       (∀v H',R' (.ret v) H'-> ∃x6:List (List D),v=.tup []/\H'=B85 (.up o) (.own 1 x6 [])/\J true x6)/\(∀u H',R' (.pan u) H'->Q4 x4 x5 u H'))/\
     ((!(tB (r.trail==([]:List UInt8))))=false->J false x5))/\
    (∀u H',R' (.pan u) H'->Q2 x4 u H'))/\
  (∀u H',R' (.pan u) H'->Q1 u H'):=by
 have hl:=congrArg List.length hW;simp only[List.length_append]at hl;have hn:Q++Yab r.decls≠[]:=by simp[hQ]
 have hn2:Q++Yab r.decls++r.tail≠[]:=by simp[hQ]
 refine Ybx (B:=B87 (.up e) (.up d) (.up a) (.up o)) hn (Ya4 hQ▸ihd Q _ _ _ _ hd.up (by simp only[List.length_append];omega)) ?_;refine Ybx (B:=B85 (.up o)) hn2 (Ya4 hn▸c85 (Q++Yab r.decls) r.tail (.up o) (by simp only[List.length_append];omega)) ⟨fun h=>?_,fun h=>?_⟩
 ·have hne:r.trail≠[]:=Ybo (nb1 h);rw[show trl r.trail=[r.trail]from if_neg hne]at hl hW
  refine Ybx (B:=B85 (.up o)) (Q:=W) (by rw[<-hW];simp) ?_ (hJ true);rw[<-hW];exact Ya4 hn2▸c85 (Q++Yab r.decls++r.tail) [r.trail] (.up o) (by simp only[List.length_append,List.length_singleton]at*;omega)
 ·have hne:r.trail=[]:=Yba (nb0 h);rw[show trl r.trail=[]from if_pos hne,List.append_nil]at hW
  rw[hW];exact hJ false
theorem c87(l:List Nd)(hl:l.length<=2^50)(hlm:∀x∈l,Lim x)(ih:∀x∈l,H87 x.decls/\ ∀e∈x.subs,H86 e):H87 l:=by
 intro P e d a o hd hb;simp only[List.length_append]at hb
 have sub:∀{r:Nd}{i:Nat}(k1:i<r.subs.length),(Yaj (r.subs.take i)).length+(comE r.subs[i]).length<=(Yaj r.subs).length:=fun{r i} k1=>by
  have:=congrArg List.length (Yax k1);have:=Yfr r.subs (i+1);simp only[List.length_append]at*;omega
 by_cases hP:P=[]
 ·subst hP;rw[List.nil_append];refine w87a (Yai l) a o e d hd.2.2.2.2.2 hd.2.1.symm hd.2.2.2.1.symm hd.2.2.1.symm hd.2.2.2.2.1.symm hd.1 ?_;refine⟨fun x=>∃i:Nat,x=i/\i<=l.length/\Yab (l.take i)=[],fun x=>l.length-x.toNat,fun x es=>∃i:Nat,x=i/\i<=l.length/\es=txs (Yab (l.take i))/\Yab (l.take i)≠[],fun x _=>l.length-x.toNat,⟨0,rfl,Nat.zero_le _,rfl⟩,?_,?_,trivial⟩
  ·rintro x ⟨i,rfl,hi,hr⟩;refine⟨fun hc=>?_,fun hc=>?_⟩
   ·have k1:i<l.length:=by have:=of_tlt hc;simp at this;omega
    have hx:=List.getElem_mem k1;have L:=hlm _ hx;have ihx:=ih _ hx;have T:=Ycx k1;rw[hr,List.nil_append]at T;have hT:(Yab (l.take (i+1))).length<=2^30:=Nat.le_trans (Yd2 l (i+1)) (by omega);rw[Ycf rfl k1];generalize l[i]=r at L ihx T;have hD:=Yd3 r;rw[T]at hD;have hlen:=congrArg List.length hD;simp only[List.length_append]at hlen;have L1:=L.1;simp only[Yao,d0,d1,d2,d3,d4,d5,d6,d7,d8,d9,d10,isK_int,Yad,isK_slc,dint_int,Yak,dlst_slc,true_and,Yaf,Yag,Yan,Ybt];refine⟨fun _ _=>Yab (l.take (i+1))=[],fun _ _ es=>es=txs (Yab (l.take (i+1)))/\Yab (l.take (i+1))≠[],⟨tle (by omega),teq rfl,Ydk (B:=B85 (.up o)) (c85 [] r.lead (.up o) (by simp only[List.nil_append];omega)) (fun h0=>?_) fun h0=>?_⟩,fun _ _ h=>⟨tle (by omega),tle (by omega),⟨i+1,rfl,k1,h⟩,dec k1⟩,fun _ _ _ h=>⟨tle (by omega),tle (by omega),⟨i+1,rfl,k1,h.1,h.2⟩,dec k1⟩,trivial⟩
    ·rw[List.nil_append]at h0;rw[h0,List.nil_append]at hD;refine⟨fun _=>Yaj r.subs=[],fun _ es=>es=txs (Yaj r.subs)/\Yaj r.subs≠[],⟨fun x=>∃j:Nat,x=j/\j<=r.subs.length/\Yaj (r.subs.take j)=[],fun x=>r.subs.length-x.toNat,fun x es=>∃j:Nat,x=j/\j<=r.subs.length/\es=txs (Yaj (r.subs.take j))/\Yaj (r.subs.take j)≠[],fun x _=>r.subs.length-x.toNat,⟨0,rfl,Nat.zero_le _,rfl⟩,?_,?_,trivial⟩,?_,?_,trivial⟩
     ·rintro x ⟨j,rfl,hj,hs⟩;refine⟨fun hcj=>?_,fun hcj=>?_⟩
      ·have j1:j<r.subs.length:=by have:=of_tlt hcj;omega
       rw[Ybd rfl j1];have hm:=List.getElem_mem j1;have S:=Yax j1;have hs2:=sub j1;rw[hs,List.nil_append]at S;refine⟨tle (by omega),teq (by simp),Ydk (B:=B86 (.up e) (.up d) (.up a) (.up o)) (ihx.2 _ hm [] _ _ _ _ hd.up (by simp only[List.nil_append];omega)) (fun h=>⟨tle (by omega),tle (by omega),⟨j+1,rfl,j1,?_⟩,dec j1⟩) fun h=>⟨tle (by omega),tle (by omega),⟨j+1,rfl,j1,?_,?_⟩,dec j1⟩⟩
       ·rw[<-S];exact h
       ·rw[<-S];rfl
       ·rw[<-S];exact h
      ·have j1:r.subs.length<=j:=by have:=of_flt hcj;omega
       rw[List.take_of_length_le j1]at hs;exact hs
     ·rintro x es ⟨j,rfl,hj,rfl,hs⟩;refine⟨fun hcj=>?_,fun hcj=>?_⟩
      ·have j1:j<r.subs.length:=by have:=of_tlt hcj;omega
       rw[Ybd rfl j1];have hm:=List.getElem_mem j1;have S:=Yax j1;have hs2:=sub j1;have hn:Yaj (r.subs.take j)++comE r.subs[j]≠[]:=by simp[hs]
       exact⟨tle (by omega),teq (by simp),Ybx (B:=B86 (.up e) (.up d) (.up a) (.up o)) hn (Ya4 hs▸ihx.2 _ hm (Yaj (r.subs.take j)) _ _ _ _ hd.up (by simp only[List.length_append];omega)) ⟨tle (by omega),tle (by omega),⟨j+1,rfl,j1,by rw[S],by rw[<-S];exact hn⟩,dec j1⟩⟩
      ·have j1:r.subs.length<=j:=by have:=of_flt hcj;omega
       rw[List.take_of_length_le j1]at hs⊢;exact⟨rfl,hs⟩
     ·intro x hs;rw[hs,List.nil_append]at hD;refine Ydk (B:=B87 (.up e) (.up d) (.up a) (.up o)) (ihx.1 [] _ _ _ _ hd.up (by simp only[List.nil_append];omega)) (fun h1=>?_) fun h1=>?_
      ·rw[List.nil_append]at h1;rw[h1,List.nil_append]at hD;refine Ydk (B:=B85 (.up o)) (c85 [] r.tail (.up o) (by simp only[List.nil_append];omega)) (fun h2=>⟨fun h3=>?_,fun h3=>?_⟩) fun h2=>⟨fun h3=>?_,fun h3=>?_⟩
       ·have hne:r.trail≠[]:=Ybo (nb1 h3);rw[List.nil_append]at h2;rw[h2,show trl r.trail=[r.trail]from if_neg hne]at hD
        refine Ydk (B:=B85 (.up o)) (c85 [] [r.trail] (.up o) (by simp)) (fun h=>by simp at h) fun h=>?_
        rw[hD];exact⟨rfl,h⟩
       ·have hne:r.trail=[]:=Yba (nb0 h3);rw[List.nil_append]at h2;rw[h2,show trl r.trail=[]from if_pos hne]at hD
        exact hD
       ·have hne:r.trail≠[]:=Ybo (nb1 h3);rw[List.nil_append]at h2;rw[show trl r.trail=[r.trail]from if_neg hne]at hD hlen
        refine Ybx (B:=B85 (.up o)) (Q:=r.tail++[r.trail]) (by simp) (Ya4 h2▸c85 r.tail [r.trail] (.up o) (by simp only[List.length_append];omega)) ?_;rw[hD];exact⟨rfl,by simp⟩
       ·have hne:r.trail=[]:=Yba (nb0 h3);rw[List.nil_append]at h2;rw[show trl r.trail=[]from if_pos hne,List.append_nil]at hD
        rw[hD];exact⟨rfl,h2⟩
      ·rw[List.nil_append]at h1⊢;have hn:Yab r.decls++r.tail≠[]:=by simp[h1]
       refine Ybx (B:=B85 (.up o)) hn (Ya4 h1▸c85 (Yab r.decls) r.tail (.up o) (by simp only[List.length_append];omega)) ⟨fun h3=>?_,fun h3=>?_⟩
       ·have hne:r.trail≠[]:=Ybo (nb1 h3);rw[show trl r.trail=[r.trail]from if_neg hne]at hD hlen
        refine Ybx (B:=B85 (.up o)) (Q:=Yab r.decls++r.tail++[r.trail]) (by simp) (Ya4 hn▸c85 (Yab r.decls++r.tail) [r.trail] (.up o) (by simp only[List.length_append];omega)) ?_;rw[hD];exact⟨rfl,by simp⟩
       ·have hne:r.trail=[]:=Yba (nb0 h3);rw[show trl r.trail=[]from if_pos hne,List.append_nil]at hD
        rw[hD];exact⟨rfl,hn⟩
     ·rintro x es ⟨rfl,hs⟩;exact Yfs (J:=fun _ es=>es=txs (Yab (l.take (i+1)))/\Yab (l.take (i+1))≠[]) hd ihx.1 hs hD.symm hT fun _=>⟨rfl,by rw[hD];simp[hs]⟩
    ·rw[List.nil_append]at h0⊢;have hPn:∀Q,r.lead++Q≠[]:=fun Q=>by simp[h0]
     refine⟨fun _ es=>es=txs (r.lead++Yaj r.subs),⟨fun x es=>∃j:Nat,x=j/\j<=r.subs.length/\es=txs (r.lead++Yaj (r.subs.take j)),fun x _=>r.subs.length-x.toNat,⟨0,rfl,Nat.zero_le _,by simp[Yaj]⟩,?_,trivial⟩,?_,trivial⟩
     ·rintro x es ⟨j,rfl,hj,rfl⟩;refine⟨fun hcj=>?_,fun hcj=>?_⟩
      ·have j1:j<r.subs.length:=by have:=of_tlt hcj;omega
       rw[Ybd rfl j1];have hm:=List.getElem_mem j1;have S:=Yax j1;have hs2:=sub j1;have hn:r.lead++Yaj (r.subs.take j)++comE r.subs[j]≠[]:=by simp[h0]
       exact⟨tle (by omega),teq (by simp),Ybx (B:=B86 (.up e) (.up d) (.up a) (.up o)) hn (Ya4 (hPn _)▸ihx.2 _ hm (r.lead++Yaj (r.subs.take j)) _ _ _ _ hd.up (by simp only[List.length_append];omega)) ⟨tle (by omega),tle (by omega),⟨j+1,rfl,j1,by rw[List.append_assoc,S]⟩,dec j1⟩⟩
      ·have j1:r.subs.length<=j:=by have:=of_flt hcj;omega
       rw[List.take_of_length_le j1]
     ·rintro x es rfl;exact Yfs (J:=fun _ es=>es=txs (Yab (l.take (i+1)))/\Yab (l.take (i+1))≠[]) hd ihx.1 (hPn _) hD.symm hT fun _=>⟨rfl,by rw[hD];simp[h0]⟩
   ·have k1:l.length<=i:=by have:=of_flt hc;simp at this;omega
    rw[List.take_of_length_le k1]at hr;rw[hr];exact⟨rfl,rfl⟩
  ·rintro x es ⟨i,rfl,hi,rfl,hr⟩;refine⟨fun hc=>?_,fun hc=>?_⟩
   ·have k1:i<l.length:=by have:=of_tlt hc;simp at this;omega
    have hx:=List.getElem_mem k1;have L:=hlm _ hx;have ihx:=ih _ hx;have T:=Ycx k1;have hT:(Yab (l.take (i+1))).length<=2^30:=Nat.le_trans (Yd2 l (i+1)) (by omega);rw[Ycf rfl k1];generalize l[i]=r at L ihx T;have hD:Yab (l.take (i+1))=(Yab (l.take i)++r.lead++Yaj r.subs)++Yab r.decls++r.tail++trl r.trail:=by rw[<-T,Yd3];simp
    have hne:Yab (l.take (i+1))≠[]:=by rw[hD];simp[hr]
    have hlen:=congrArg List.length hD;simp only[List.length_append]at hlen hT;have L1:=L.1;have hPn:∀Q,Yab (l.take i)++r.lead++Q≠[]:=fun Q=>by simp[hr]
    simp only[Yao,d0,d1,d2,d3,d4,d5,d6,d7,d8,d9,d10,isK_int,Yad,isK_slc,dint_int,Yak,dlst_slc,true_and,Yaf,Yag,Ybt];refine⟨fun _ _ es=>es=txs (Yab (l.take (i+1))),⟨tle (by omega),teq rfl,Ybx (B:=B85 (.up o)) (Q:=Yab (l.take i)++r.lead) (by simp[hr]) (Ya4 hr▸c85 (Yab (l.take i)) r.lead (.up o) (by simp only[List.length_append];omega)) ⟨fun _ es=>es=txs (Yab (l.take i)++r.lead++Yaj r.subs),⟨fun x es=>∃j:Nat,x=j/\j<=r.subs.length/\es=txs (Yab (l.take i)++r.lead++Yaj (r.subs.take j)),fun x _=>r.subs.length-x.toNat,⟨0,rfl,Nat.zero_le _,by simp[Yaj]⟩,?_,trivial⟩,?_,trivial⟩⟩,fun _ _ es h=>⟨tle (by omega),tle (by omega),⟨i+1,rfl,k1,h,hne⟩,dec k1⟩,trivial⟩
    ·rintro x es ⟨j,rfl,hj,rfl⟩;refine⟨fun hcj=>?_,fun hcj=>?_⟩
     ·have j1:j<r.subs.length:=by have:=of_tlt hcj;omega
      rw[Ybd rfl j1];have hm:=List.getElem_mem j1;have S:=Yax j1;have hs2:=sub j1;exact⟨tle (by omega),teq (by simp),Ybx (B:=B86 (.up e) (.up d) (.up a) (.up o)) (Q:=Yab (l.take i)++r.lead++Yaj (r.subs.take j)++comE r.subs[j]) (by simp[hr]) (Ya4 (hPn _)▸ihx.2 _ hm (Yab (l.take i)++r.lead++Yaj (r.subs.take j)) _ _ _ _ hd.up (by simp only[List.length_append];omega)) ⟨tle (by omega),tle (by omega),⟨j+1,rfl,j1,by rw[List.append_assoc,S]⟩,dec j1⟩⟩
     ·have j1:r.subs.length<=j:=by have:=of_flt hcj;omega
      rw[List.take_of_length_le j1]
    ·rintro x es rfl;exact Yfs (J:=fun _ es=>es=txs (Yab (l.take (i+1)))) hd ihx.1 (hPn _) hD.symm hT fun _=>rfl
   ·have k1:l.length<=i:=by have:=of_flt hc;simp at this;omega
    rw[List.take_of_length_le k1]at hr⊢;rw[Ya4 hr];exact⟨rfl,rfl⟩
 ·rw[Ya4 hP];have hPd:∀Q,P++Q≠[]:=fun Q=>by simp[hP]
  refine w87b (Yai l) (txs P) a o e d hd.2.2.2.2.2 hd.2.1.symm hd.2.2.2.1.symm hd.2.2.1.symm hd.2.2.2.2.1.symm hd.1 ?_;refine⟨fun x es=>∃i:Nat,x=i/\i<=l.length/\es=txs (P++Yab (l.take i)),fun x _=>l.length-x.toNat,⟨0,rfl,Nat.zero_le _,by simp[Yab]⟩,?_,trivial⟩;rintro x es ⟨i,rfl,hi,rfl⟩;refine⟨fun hc=>?_,fun hc=>?_⟩
  ·have k1:i<l.length:=by have:=of_tlt hc;simp at this;omega
   have hx:=List.getElem_mem k1;have L:=hlm _ hx;have ihx:=ih _ hx;have T:=Ycx k1;have hr:=hPd (Yab (l.take i));have hT:(P++Yab (l.take (i+1))).length<=2^30:=by have:=Yd2 l (i+1);simp only[List.length_append];omega
   rw[Ycf rfl k1];generalize l[i]=r at L ihx T;have hD:P++Yab (l.take (i+1))=(P++Yab (l.take i)++r.lead++Yaj r.subs)++Yab r.decls++r.tail++trl r.trail:=by rw[<-T,Yd3];simp
   have hlen:=congrArg List.length hD;simp only[List.length_append]at hlen hT;have L1:=L.1;have hPn:∀Q,P++Yab (l.take i)++r.lead++Q≠[]:=fun Q=>by simp[hP]
   simp only[Yao,d0,d1,d2,d3,d4,d5,d6,d7,d8,d9,d10,isK_int,Yad,isK_slc,dint_int,Yak,dlst_slc,true_and,Yaf,Yag,Ybt];refine⟨fun _ _ es=>es=txs (P++Yab (l.take (i+1))),⟨tle (by omega),teq rfl,Ybx (B:=B85 (.up o)) (Q:=P++Yab (l.take i)++r.lead) (by simp[hP]) (Ya4 hr▸c85 (P++Yab (l.take i)) r.lead (.up o) (by simp only[List.length_append];omega)) ⟨fun x es=>∃j:Nat,x=j/\j<=r.subs.length/\es=txs (P++Yab (l.take i)++r.lead++Yaj (r.subs.take j)),fun x _=>r.subs.length-x.toNat,⟨0,rfl,Nat.zero_le _,by simp[Yaj]⟩,?_,trivial⟩⟩,fun _ _ es h=>⟨tle (by omega),tle (by omega),⟨i+1,rfl,k1,h⟩,dec k1⟩,trivial⟩
   ·rintro x es ⟨j,rfl,hj,rfl⟩;refine⟨fun hcj=>?_,fun hcj=>?_⟩
    ·have j1:j<r.subs.length:=by have:=of_tlt hcj;omega
     rw[Ybd rfl j1];have hm:=List.getElem_mem j1;have S:=Yax j1;have hs2:=sub j1;exact⟨tle (by omega),teq (by simp),Ybx (B:=B86 (.up e) (.up d) (.up a) (.up o)) (Q:=P++Yab (l.take i)++r.lead++Yaj (r.subs.take j)++comE r.subs[j]) (by simp[hP]) (Ya4 (hPn _)▸ihx.2 _ hm (P++Yab (l.take i)++r.lead++Yaj (r.subs.take j)) _ _ _ _ hd.up (by simp only[List.length_append];omega)) ⟨tle (by omega),tle (by omega),⟨j+1,rfl,j1,by rw[List.append_assoc,S]⟩,dec j1⟩⟩
    ·have j1:r.subs.length<=j:=by have:=of_flt hcj;omega
     rw[List.take_of_length_le j1];exact Yfs (J:=fun _ es=>es=txs (P++Yab (l.take (i+1)))) hd ihx.1 (hPn _) hD.symm (by simp only[List.length_append];exact hT) fun _=>rfl
  ·have k1:l.length<=i:=by have:=of_flt hc;simp at this;omega
   rw[List.take_of_length_le k1,Ya4 (hPd _)];exact⟨rfl,rfl⟩
theorem Ylj:∀r:Nd,Lm r->H86 r/\H87 r.decls/\ ∀e∈r.subs,H86 e:=by
 refine Ya0 fun r hs hd hl=>?_
 have L:=hl.here;have ihs:∀e∈r.subs,H86 e:=fun x hx=>(hs x hx (hl.sub hx)).1
 have ihd:H87 r.decls:=c87 r.decls L.2.1 (fun x hx=>(hl.dec hx).here) fun x hx=>(hd x hx (hl.dec hx)).2
 exact⟨c86 r L.1 ihs ihd,ihd,ihs⟩
theorem c31(f:Fl)(hb:(comF f).length<=2^30)(h:LmF f):Holds Tryz.prog 31 [.agg (Ybi f)] [] (Ret (slA (txs (comF f)))):=by
 have hl:(Yab f.decls).length+f.tail.length<=2^30:=by unfold comF at hb;simpa using hb
 have c:H87 f.decls:=c87 f.decls h.1.2.1 (fun x hx=>(h.2 x hx).here) fun x hx=>(Ylj x (h.2 x hx)).2
 have dst:∀ν:Nat->Nat,Dst (.own 5 (ν 5)) (.own 6 (ν 6)) (.own 4 (ν 4)) (.own 3 (ν 3)):=fun ν=>by unfold Dst;simp
 refine Holds.ofD (w31 _ ?_);simp only[Yaw,f0,f1,f2,f3,Yad,isK_slc,Yak,dlst_slc,true_and];refine⟨teq rfl,fun ν=>Ydk (B:=B87 (.own 5 (ν 5)) (.own 6 (ν 6)) (.own 4 (ν 4)) (.own 3 (ν 3))) (c [] _ _ _ _ (dst ν) (by simp only[List.nil_append];omega)) (fun h0 ν=>?_) (fun h0 ν=>?_) ν⟩
 ·rw[List.nil_append]at h0;refine Ydk (B:=B85 (.own 3 (ν 3))) (c85 [] f.tail _ (by simp only[List.nil_append];omega)) (fun h1=>?_) (fun h1=>?_) ν
  ·rw[List.nil_append]at h1;exact⟨rfl,_,rfl,by unfold comF;rw[h0,h1];exact .zs _⟩
  ·exact⟨rfl,_,rfl,by unfold comF;rw[h0];exact .same _⟩
 ·rw[List.nil_append]at h0⊢;refine Ybx (B:=B85 (.own 3 (ν 3))) (Q:=Yab f.decls++f.tail) (by simp[h0]) (Ya4 h0▸c85 (Yab f.decls) f.tail _ (by simp only[List.length_append];omega)) ?_ ν;exact⟨rfl,_,rfl,.same _⟩
end Go.Sy
end
section
open Go Go.Proofs Go.Ab Go.Rf
set_option linter.unusedSimpArgs false
set_option linter.unusedVariables false
set_option maxRecDepth 100000
namespace Go.Sy
theorem c104(s:Tx)(l:List Tx)(hl:l.length<=2^50):Holds Tryz.prog 104 [slA (txs l),strA s] [] (fun o H=>∃n:Int,o=.ret (intA n)/\H=[]/\(0<=n↔s∈l)):=by
 refine w104 (txs l) s ?_;refine⟨fun x=>∃i:Nat,x=i/\i<=l.length/\(s∈l.drop i↔s∈l),fun x=>l.length-x.toNat,⟨0,rfl,Nat.zero_le _,by simp⟩,?_,trivial⟩;rintro x ⟨i,rfl,hi,hr⟩;refine⟨fun hc=>?_,fun hc=>?_⟩
 ·have h1:i<l.length:=by have:=of_tlt hc;simp at this;omega
  refine⟨tle (by omega),teq (by rw[gT1 h1];rfl),(getT h1).1,fun hn=>?_,fun hn=>⟨tle (by omega),tle (by omega),⟨i+1,rfl,h1,?_⟩,dec h1⟩⟩
  ·rw[(getT h1).2]at hn;have:s∈l:=Yba hn▸List.getElem_mem h1;exact⟨i,rfl,rfl,by simp[this]⟩
  ·rw[(getT h1).2]at hn;have hne:=Ybo hn;rw[<-hr]
   conv=>rhs;rw[Yaa h1]
   simp only[List.mem_cons,hne,false_or]
 ·have h1:l.length<=i:=by have:=of_flt hc;simp at this;omega
  have:¬s∈l:=fun h=>by rw[<-hr,Yac h1]at h;cases h
  exact⟨-1,rfl,rfl,by simp[this]⟩
theorem c71(s:Tx)(l:List Tx)(hl:l.length<=2^50):Holds Tryz.prog 71 [slA (txs l),strA s] [] (Ret (Yae (decide (s∈l)))):=
 w71 (txs l) s fun _=>⟨_,c104 s l hl,fun v H' ⟨n,e1,e2,e3⟩=>⟨n,Out.ret.inj e1,e2,by
  have:(tB (decide (0<=n)))=decide (s∈l):=by simp[e3]
  rw[this];exact⟨rfl,rfl⟩⟩,fun u H' ⟨n,e1,_⟩=>by cases e1⟩
end Go.Sy
end
section
open Go Go.Ab Go.Rf
set_option linter.unusedSimpArgs false
namespace Go.Rx
inductive Rx where
 |mk (kind s0 s1 s2 s3:Int) (subs:List Rx)
mutual
def enc:Rx->List D
 |.mk k a b c d l=>[.lit (.int .i64 k),.lit (.int .u64 a),.lit (.int .u64 b),.lit (.int .u64 c),.lit (.int .u64 d),.slc (encs l)]
def encs:List Rx->List (List D)
 |[]=>[]
 |r::l=>enc r::encs l
end
mutual
def size:Rx->Nat
 |.mk _ _ _ _ _ l=>1+sizes l
def sizes:List Rx->Nat
 |[]=>0
 |r::l=>size r+sizes l
end
def Rx.kind:Rx->Int|.mk k _ _ _ _ _=>k
def Rx.subs:Rx->List Rx|.mk _ _ _ _ _ l=>l
def Rx.w(r:Rx)(i:Nat):Int:=match r,i with|.mk _ a _ _ _ _,0=>a|.mk _ _ b _ _ _,1=>b|.mk _ _ _ c _ _,2=>c|.mk _ _ _ _ d _,_=>d
@[simp] theorem Ybq:∀l,(encs l).length=l.length
  |[]=>rfl
  |r::l=>by simp[encs,Ybq l]
@[simp] theorem Yft:∀(l:List Rx)(i:Nat),(encs l)[i]? =(l[i]?).map enc
  |[],i=>by simp[encs]
  |r::l,0=>by simp[encs]
  |r::l,i+1=>by simp[encs,Yft l i]
@[simp] theorem Yci:∀(l m:List Rx),encs l++encs m=encs (l++m)
  |[],m=>rfl
  |r::l,m=>by simp[encs,Yci l m]
@[simp] theorem Yks:([]:List (List D))=encs []:=rfl
@[simp] theorem Yf5 (r:Rx):(enc r).length=6:=by cases r;simp[enc]
@[simp] theorem enc0 (r:Rx):(enc r).getD 0 D0=.lit (.int .i64 r.kind):=by cases r;simp[enc,Rx.kind]
@[simp] theorem enc1 (r:Rx):(enc r).getD 1 D0=.lit (.int .u64 (r.w 0)):=by cases r;simp[enc,Rx.w]
@[simp] theorem enc2 (r:Rx):(enc r).getD 2 D0=.lit (.int .u64 (r.w 1)):=by cases r;simp[enc,Rx.w]
@[simp] theorem enc3 (r:Rx):(enc r).getD 3 D0=.lit (.int .u64 (r.w 2)):=by cases r;simp[enc,Rx.w]
@[simp] theorem enc4 (r:Rx):(enc r).getD 4 D0=.lit (.int .u64 (r.w 3)):=by cases r;simp[enc,Rx.w]
@[simp] theorem enc5 (r:Rx):(enc r).getD 5 D0=.slc (encs r.subs):=by cases r;simp[enc,Rx.subs]
@[simp] theorem Yl6 (r:Rx) (h:0<(enc r).length):(enc r)[0]=.lit (.int .i64 r.kind):=by cases r;simp[enc,Rx.kind,Rx.w,Rx.subs]
@[simp] theorem Yl7 (r:Rx) (h:1<(enc r).length):(enc r)[1]=.lit (.int .u64 (r.w 0)):=by cases r;simp[enc,Rx.kind,Rx.w,Rx.subs]
@[simp] theorem Yl8 (r:Rx) (h:2<(enc r).length):(enc r)[2]=.lit (.int .u64 (r.w 1)):=by cases r;simp[enc,Rx.kind,Rx.w,Rx.subs]
@[simp] theorem Yl9 (r:Rx) (h:3<(enc r).length):(enc r)[3]=.lit (.int .u64 (r.w 2)):=by cases r;simp[enc,Rx.kind,Rx.w,Rx.subs]
@[simp] theorem Yma (r:Rx) (h:4<(enc r).length):(enc r)[4]=.lit (.int .u64 (r.w 3)):=by cases r;simp[enc,Rx.kind,Rx.w,Rx.subs]
@[simp] theorem Ymb (r:Rx) (h:5<(enc r).length):(enc r)[5]=.slc (encs r.subs):=by cases r;simp[enc,Rx.kind,Rx.w,Rx.subs]
theorem Yia{l:List Rx}{i:Nat}{x:Int}(hx:x=i)(h:i<l.length):gAt (encs l) x=enc l[i]:=by
 subst hx;have h2:=Yft l i;rw[List.getElem?_eq_getElem h]at h2;simp only[gAt,List.getD,Int.toNat_natCast,h2];rfl
@[simp] theorem isK_int (k:IntKind) (n:Int):Rf.isK (.int k) (.lit (.int k n))=true:=by simp[Rf.isK]
@[simp] theorem isK_bool (b:Bool):Rf.isK .bool (.lit (.bool b))=true:=rfl
@[simp] theorem isK_slc (l:List (List D)):Rf.isK .slc (.slc l)=true:=rfl
@[simp] theorem dint_int (k:IntKind) (n:Int):Rf.dint (.lit (.int k n))=n:=rfl
@[simp] theorem dbool_bool (b:Bool):Rf.dbool (.lit (.bool b))=b:=rfl
@[simp] theorem dlst_slc (l:List (List D)):Rf.dlst (.slc l)=l:=rfl
def Ret(v:A):Out->List (Ref×List A)->Prop:=fun o H=>o=.ret v/\H=[]
@[simp] theorem ret_iff {v u:A} {H:List (Ref×List A)}:Ret v (.ret u) H↔u=v/\H=[]:=by simp[Ret]
@[simp] theorem pan_iff {v:A} {u:Value} {H:List (Ref×List A)}:Ret v (.pan u) H↔False:=by simp[Ret]
theorem call1{P:Program}{f:Nat}{args:List A}{v:A}(hc:Holds P f args [] (Ret v)){Q1:A->List (Ref×List A)->Prop}{Q2:Value->List (Ref×List A)->Prop}(h:Q1 v []):
 ∀_:Nat->Nat,∃R':Out->List (Ref×List A)->Prop,Holds P f args [] R'/\(∀v H',R' (.ret v) H'->Q1 v H')/\(∀u H',R' (.pan u) H'->Q2 u H'):=
 fun _=>⟨_,hc,fun v' H' e=>by obtain⟨e1,rfl⟩:=e;cases e1;exact h,fun u H' e=>by cases e.1⟩
theorem Ydq:∀(l:List Rx)(k:Nat)(h:k<l.length),sizes (l.take (k+1))=sizes (l.take k)+size l[k]
 |r::l,0,_=>by simp[sizes]
 |r::l,k+1,h=>by
  have:=Ydq l k (by simpa using h);simp[sizes,this];omega
theorem Yfu:∀(l:List Rx)(k:Nat),sizes (l.take k)<=sizes l
 |[],k=>by simp[sizes]
 |r::l,0=>by simp[sizes]
 |r::l,k+1=>by have:=Yfu l k;simp[sizes];omega
theorem size_pos(r:Rx):1<=size r:=by cases r;simp[size]
theorem size_eq(r:Rx):size r=1+sizes r.subs:=by cases r;rfl
theorem size_sub{r:Rx}{i:Nat}(h:i<r.subs.length):size r.subs[i]<size r:=by
 have h1:=Ydq r.subs i h;have h2:=Yfu r.subs (i+1);have h3:=size_eq r;omega
mutual
def lens(B:Nat):Rx->Prop
 |.mk _ _ _ _ _ l=>l.length<=B/\Ygv B l
def Ygv(B:Nat):List Rx->Prop
 |[]=>True
 |r::l=>lens B r/\Ygv B l
end
theorem Yef{B:Nat}:∀{l:List Rx},Ygv B l↔∀r∈l,lens B r
 |[]=>by simp[Ygv]
 |r::l=>by simp[Ygv,Yef (l:=l)]
theorem Ycs{B:Nat}{r:Rx}:lens B r↔r.subs.length<=B/\ ∀x∈r.subs,lens B x:=by
 cases r with|mk k a b c d l=>simp[lens,Rx.subs,Yef]
theorem Yib{B:Nat}{r:Rx}(h:lens B r){i:Nat}(hi:i<r.subs.length):lens B r.subs[i]:=(Ycs.1 h).2 _ (List.getElem_mem hi)
theorem Yeg{B C:Nat}(h:B<=C):∀(n:Nat)(r:Rx),size r<=n->lens B r->lens C r
 |0,r,hs,_=>by have:=size_pos r;omega
 |n+1,r,hs,hr=>by
  rw[Ycs]at hr⊢;refine⟨Nat.le_trans hr.1 h,fun x hx=>?_⟩;obtain⟨i,hi,rfl⟩:=List.mem_iff_getElem.1 hx;exact Yeg h n _ (by have:=size_sub hi;omega) (hr.2 _ hx)
end Go.Rx
end
section
open Go Go.Proofs Go.Ab Go.Rf
set_option maxRecDepth 100000
namespace Go.Rx
def wdA(p:Nat->Bool)(k:Nat):Nat->Nat
 |0=>0
 |n+1=>wdA p k n+if p (64*k+n)then 2^n else 0
def wd(p:Nat->Bool)(k:Nat):Nat:=wdA p k 64
theorem Ygw(p:Nat->Bool)(k:Nat):∀n,wdA p k n<2^n
 |0=>by simp[wdA]
 |n+1=>by
  have:=Ygw p k n;simp only[wdA,Nat.pow_succ];split<;>omega
theorem Ygx(p:Nat->Bool)(k:Nat):∀n j,(wdA p k n).testBit j=(decide (j<n)&&p (64*k+j))
 |0,j=>by simp[wdA]
 |n+1,j=>by
  have hlt:=Ygw p k n;have ih:=Ygx p k n;simp only[wdA];by_cases hp:p (64*k+n)=true
  ·rw[if_pos hp,Nat.add_comm];by_cases hj:j=n
   ·subst hj;rw[Nat.testBit_two_pow_add_eq,ih];simp[hp]
   ·rcases Nat.lt_or_gt_of_ne hj with h|h
    ·rw[Nat.testBit_two_pow_add_gt h,ih];simp[h,Nat.lt_succ_of_lt h]
    ·rw[Nat.testBit_lt_two_pow (Nat.lt_of_lt_of_le (show 2^n+wdA p k n<2^(n+1) by rw[Nat.pow_succ];omega) (Nat.pow_le_pow_right (by decide) h))];have:¬j<n+1:=by omega
     simp[this]
  ·rw[if_neg hp,Nat.add_zero,ih];by_cases hj:j=n
   ·subst hj;simp[hp]
   ·have:(j<n+1)=(j<n):=by simp;omega
    simp[this]
theorem Yeh(p:Nat->Bool)(k j:Nat):(wd p k).testBit j=(decide (j<64)&&p (64*k+j)):=Ygx p k 64 j
theorem Yd4(p:Nat->Bool)(k:Nat):wd p k<2^64:=Ygw p k 64
theorem Yfd{p:Nat->Bool}{k w:Nat}(h:w<2^64)(hb:∀j<64,w.testBit j=p (64*k+j)):wd p k=w:=by
 refine Nat.eq_of_testBit_eq fun j=>?_
 rw[Yeh];by_cases hj:j<64
 ·simp[hj,hb j hj]
 ·rw[Nat.testBit_lt_two_pow (Nat.lt_of_lt_of_le h (Nat.pow_le_pow_right (by decide) (by omega)))];simp[hj]
def row4(p:Nat->Bool):List D:=[.lit (.int .u64 (wd p 0)),.lit (.int .u64 (wd p 1)),.lit (.int .u64 (wd p 2)),.lit (.int .u64 (wd p 3))]
theorem Yd5(n:Nat)(h:n<2^64):IntKind.wrap .u64 (n:Int)=n:=by
 have e1:IntKind.signed .u64=false:=rfl;have e2:IntKind.bits .u64=64:=rfl;simp[IntKind.wrap,e1,e2];omega
theorem Ygy(a b:Nat)(ha:a<2^64)(hb:b<2^64):gOr .u64 (a:Int) (b:Int)=((a|||b:Nat):Int):=by
 have e2:IntKind.bits .u64=64:=rfl;unfold gOr;rw[e2]
 have:(BitVec.ofInt 64 (a:Int)|||BitVec.ofInt 64 (b:Int)).toNat=a|||b:=by
  rw[BitVec.toNat_or,BitVec.ofInt_natCast,BitVec.ofInt_natCast,BitVec.toNat_ofNat,BitVec.toNat_ofNat,Nat.mod_eq_of_lt ha,Nat.mod_eq_of_lt hb]
 rw[this];exact Yd5 _ (Nat.or_lt_two_pow ha hb)
theorem Yic(j:Nat)(h:j<64):gShl .u64 1 (j:Int)=((2^j:Nat):Int):=by
 have e2:IntKind.bits .u64=64:=rfl;unfold gShl;rw[e2];have e:(min ((j:Int).toNat) 64)=j:=by omega
 rw[e,Int.one_mul];have:=Yd5 (2^j) (Nat.pow_lt_pow_right (by decide) h);rw[<-this]
 congr 1
theorem Yid(a:Nat)(h:a<2^64):gNot .u64 (a:Int)=((2^64-1-a:Nat):Int):=by
 have e2:IntKind.bits .u64=64:=rfl;have e1:(if IntKind.signed .u64=true then(-1:Int)else IntKind.max .u64)=((2^64-1:Nat):Int):=rfl
 unfold gNot;rw[e2,e1]
 have:(BitVec.ofInt 64 ((2^64-1:Nat):Int)^^^BitVec.ofInt 64 (a:Int)).toNat=2^64-1-a:=by
  rw[BitVec.ofInt_natCast,BitVec.ofInt_natCast];have:BitVec.ofNat 64 (2^64-1)=BitVec.allOnes 64:=rfl;rw[this,BitVec.allOnes_xor,BitVec.toNat_not,BitVec.toNat_ofNat,Nat.mod_eq_of_lt h]
 rw[this];exact Yd5 _ (by omega)
theorem Ykc(p q:Nat->Bool)(k:Nat):wd p k|||wd q k=wd (fun i=>p i||q i) k:=by
 refine(Yfd (Nat.or_lt_two_pow (Yd4 _ _) (Yd4 _ _)) fun j hj=>?_).symm;rw[Nat.testBit_or,Yeh,Yeh];simp[hj]
theorem Ykd(p:Nat->Bool)(k:Nat):2^64-1-wd p k=wd (fun i=>!p i) k:=by
 refine(Yfd (by have:=Yd4 p k;omega) fun j hj=>?_).symm;rw[show 2^64-1-wd p k=2^64-(wd p k+1) by omega,Nat.testBit_two_pow_sub_succ (Yd4 _ _),Yeh];simp[hj]
theorem Yke(k j:Nat)(h:j<64):wd (fun i=>decide (i=64*k+j)) k=2^j:=by
 refine Yfd (Nat.pow_lt_pow_right (by decide) h) fun i hi=>?_
 rw[Nat.testBit_two_pow];by_cases e:j=i
 ·subst e;simp
 ·have:¬i=j:=fun h=>e h.symm
  simp[e,this]
theorem Ycc{p q:Nat->Bool}{k:Nat}(h:∀i,64*k<=i->i<64*k+64->p i=q i):wd p k=wd q k:=
 Yfd (Yd4 _ _) fun j hj=>by rw[Yeh,h _ (by omega) (by omega)];simp[hj]
theorem Yf6{p q:Nat->Bool}(h:∀i<256,p i=q i):row4 p=row4 q:=by
 unfold row4;rw[Ycc (p:=p) (q:=q) (k:=0) fun i _ h2=>h i (by omega),Ycc (p:=p) (q:=q) (k:=1) fun i _ h2=>h i (by omega),Ycc (p:=p) (q:=q) (k:=2) fun i _ h2=>h i (by omega),Ycc (p:=p) (q:=q) (k:=3) fun i _ h2=>h i (by omega)]
@[simp] theorem Yjc (p:Nat->Bool):(row4 p).length=4:=rfl
@[simp] theorem Yl2 (p:Nat->Bool):(row4 p).getD 0 D0=.lit (.int .u64 (wd p 0)):=rfl
@[simp] theorem Yl3 (p:Nat->Bool):(row4 p).getD 1 D0=.lit (.int .u64 (wd p 1)):=rfl
@[simp] theorem Yl4 (p:Nat->Bool):(row4 p).getD 2 D0=.lit (.int .u64 (wd p 2)):=rfl
@[simp] theorem Yl5 (p:Nat->Bool):(row4 p).getD 3 D0=.lit (.int .u64 (wd p 3)):=rfl
theorem Ykf(x:Nat):Int.tdiv (x:Int) 64=((x/64:Nat):Int):=rfl
theorem Ykg(x:Nat):Int.tmod (x:Int) 64=((x % 64:Nat):Int):=rfl
theorem Ygz(n:Nat)(h:n<256):IntKind.wrap .u8 (n:Int)=n:=by
 have e1:IntKind.signed .u8=false:=rfl;have e2:IntKind.bits .u8=8:=rfl;simp[IntKind.wrap,e1,e2];omega
def part(lo hi n:Nat):Nat->Bool:=fun i=>decide (lo<=i/\i<=hi/\i<n)
theorem Yd6{lo hi n:Nat}(h:lo<=n)(h':n<=hi){k:Nat}(hk:n/64=k):gOr .u64 (wd (part lo hi n) k:Int) (gShl .u64 1 ((n % 64:Nat):Int))=wd (part lo hi (n+1)) k:=by
 have hj:n % 64<64:=Nat.mod_lt _ (by decide);rw[Yic _ hj,Ygy _ _ (Yd4 _ _) (Nat.pow_lt_pow_right (by decide) hj),<-Yke k _ hj,Ykc]
 congr 1
 refine Ycc fun i h1 h2=>?_
 simp only[part];rw[Bool.eq_iff_iff];simp only[Bool.or_eq_true,decide_eq_true_eq];omega
theorem Yav(lo hi:Nat){n k:Nat}(hk:n/64≠k\/ ¬(lo<=n/\n<=hi)):wd (part lo hi (n+1)) k=wd (part lo hi n) k:=by
 refine Ycc fun i h1 h2=>?_
 simp only[part];rw[Bool.eq_iff_iff];simp only[decide_eq_true_eq];omega
theorem Yie(lo hi k:Nat):wd (part lo hi 0) k=0:=by
 refine Yfd (by decide) fun i hi=>?_
 rw[Nat.zero_testBit]
 symm
 simp only[part,decide_eq_false_iff_not];omega
theorem c79(lo hi:Nat)(h:hi<256)(hl:lo<256):Holds Tryz.prog 160 [A.d (.lit (.int .u8 lo)),A.d (.lit (.int .u8 hi))] [] (Ret (.agg (row4 (fun i=>decide (lo<=i/\i<=hi))))):=by
 refine w79 lo hi ⟨fun x a b c d=>∃n:Nat,x=n/\n<=256/\a=wd (part lo hi n) 0/\b=wd (part lo hi n) 1/\c=wd (part lo hi n) 2/\d=wd (part lo hi n) 3,fun x _ _ _ _=>(256-x.toNat),⟨0,rfl,by omega,by simp[Yie]⟩,?_,trivial⟩;rintro x a b c d ⟨n,rfl,hn,rfl,rfl,rfl,rfl⟩;simp only[Ykf,Ykg,Zwb,decide_eq_true_eq,decide_eq_false_iff_not,beq_iff_eq,beq_eq_false_iff_ne,Int.toNat_natCast,Bool.or_eq_true,Bool.not_eq_true',Bool.and_eq_true,Bool.and_eq_false_iff];refine⟨fun hc=>⟨by omega,by omega,by omega,by omega,fun hin=>⟨by omega,by omega,by omega,by omega,fun h0=>⟨by omega,by omega,by omega,⟨n+1,rfl,by omega,?_⟩,by omega⟩,fun h0=>⟨fun h1=>⟨by omega,by omega,by omega,⟨n+1,rfl,by omega,?_⟩,by omega⟩,fun h1=>⟨fun h2=>⟨by omega,by omega,by omega,⟨n+1,rfl,by omega,?_⟩,by omega⟩,fun h2=>⟨by omega,by omega,by omega,by omega,⟨n+1,rfl,by omega,?_⟩,by omega⟩⟩⟩⟩,fun hin=>⟨by omega,by omega,⟨n+1,rfl,by omega,?_⟩,by omega⟩⟩,fun hc=>?_⟩
 ·have hk:n/64=0:=by omega
  rw[Yd6 (by omega) (by omega) hk,Yav lo hi (k:=1) (by omega),Yav lo hi (k:=2) (by omega),Yav lo hi (k:=3) (by omega)];simp
 ·have hk:n/64=1:=by omega
  rw[Yd6 (by omega) (by omega) hk,Yav lo hi (k:=0) (by omega),Yav lo hi (k:=2) (by omega),Yav lo hi (k:=3) (by omega)];simp
 ·have hk:n/64=2:=by omega
  rw[Yd6 (by omega) (by omega) hk,Yav lo hi (k:=0) (by omega),Yav lo hi (k:=1) (by omega),Yav lo hi (k:=3) (by omega)];simp
 ·have hk:n/64=3:=by omega
  rw[Yd6 (by omega) (by omega) hk,Yav lo hi (k:=0) (by omega),Yav lo hi (k:=1) (by omega),Yav lo hi (k:=2) (by omega)];simp
 ·rw[Yav lo hi (k:=0) (by omega),Yav lo hi (k:=1) (by omega),Yav lo hi (k:=2) (by omega),Yav lo hi (k:=3) (by omega)];simp
 ·have e:row4 (fun i=>decide (lo<=i/\i<=hi))=row4 (part lo hi n):=Yf6 fun i hi=>by
   simp only[part];rw[Bool.eq_iff_iff];simp only[decide_eq_true_eq];omega
  rw[e];simp[row4]
@[simp] theorem Ylk (p:Nat->Bool):(row4 p)[0]? =some (.lit (.int .u64 (wd p 0))):=rfl
@[simp] theorem Yll (p:Nat->Bool):(row4 p)[1]? =some (.lit (.int .u64 (wd p 1))):=rfl
@[simp] theorem Ylm (p:Nat->Bool):(row4 p)[2]? =some (.lit (.int .u64 (wd p 2))):=rfl
@[simp] theorem Yln (p:Nat->Bool):(row4 p)[3]? =some (.lit (.int .u64 (wd p 3))):=rfl
def wq(p p':Nat->Bool)(n k:Nat):D:=.lit (.int .u64 (wd (if k<n then p' else p) k))
theorem c91(p q:Nat->Bool):Holds Tryz.prog 173 [A.agg (row4 p),A.agg (row4 q)] [] (Ret (.agg (row4 fun i=>p i||q i))):=by
 refine w91 (row4 p) (row4 q) ⟨rfl,rfl,fun x a b c d=>∃n:Nat,x=n/\n<=4/\a=wq p (fun i=>p i||q i) n 0/\b=wq p (fun i=>p i||q i) n 1/\c=wq p (fun i=>p i||q i) n 2/\d=wq p (fun i=>p i||q i) n 3,fun x _ _ _ _=>(4-x.toNat),⟨0,rfl,by omega,rfl,rfl,rfl,rfl⟩,?_,trivial⟩;rintro x a b c d ⟨n,rfl,hn,rfl,rfl,rfl,rfl⟩;have hor:∀k,gOr .u64 (wd p k:Int) (wd q k:Int)=wd (fun i=>p i||q i) k:=fun k=>by rw[Ygy _ _ (Yd4 _ _) (Yd4 _ _),Ykc]
 rcases(show n=0\/n=1\/n=2\/n=3\/n=4 by omega)with rfl|rfl|rfl|rfl|rfl
 ·simp[wq,hor];exact⟨1,rfl,by omega,by simp⟩
 ·simp[wq,hor];exact⟨2,rfl,by omega,by simp⟩
 ·simp[wq,hor];exact⟨3,rfl,by omega,by simp⟩
 ·simp[wq,hor];exact⟨4,rfl,by omega,by simp⟩
 ·simp[wq,row4]
theorem c92(p:Nat->Bool):Holds Tryz.prog 174 [A.agg (row4 p)] [] (Ret (.agg (row4 fun i=>!p i))):=by
 refine w92 (row4 p) ⟨rfl,fun x a b c d=>∃n:Nat,x=n/\n<=4/\a=wq p (fun i=>!p i) n 0/\b=wq p (fun i=>!p i) n 1/\c=wq p (fun i=>!p i) n 2/\d=wq p (fun i=>!p i) n 3,fun x _ _ _ _=>(4-x.toNat),⟨0,rfl,by omega,rfl,rfl,rfl,rfl⟩,?_,trivial⟩;rintro x a b c d ⟨n,rfl,hn,rfl,rfl,rfl,rfl⟩;have hor:∀k,gNot .u64 (wd p k:Int)=wd (fun i=>!p i) k:=fun k=>by rw[Yid _ (Yd4 _ _),Ykd]
 rcases(show n=0\/n=1\/n=2\/n=3\/n=4 by omega)with rfl|rfl|rfl|rfl|rfl
 ·simp[wq,hor];exact⟨1,rfl,by omega,by simp⟩
 ·simp[wq,hor];exact⟨2,rfl,by omega,by simp⟩
 ·simp[wq,hor];exact⟨3,rfl,by omega,by simp⟩
 ·simp[wq,hor];exact⟨4,rfl,by omega,by simp⟩
 ·simp[wq,row4]
end Go.Rx
end
section
open Go Go.Proofs Go.Ab Go.Rf
set_option maxRecDepth 100000
namespace Go.Rx
def hexV(x:Nat):Option Nat:=if 48<=x/\x<=57 then some (x-48)else if 97<=x/\x<=102 then some (x-97+10)else if 65<=x/\x<=70 then some (x-65+10)else none
theorem Yd7(x c:Nat)(h:x<256)(hc:c<=x):IntKind.wrap .u8 ((x:Int)-(c:Int))=((x-c:Nat):Int):=by
 rw[<-Ygz (x-c) (by omega)]
 congr 1
 omega
def ctlV(x:Nat):Option Nat:=if x=110 then some 10 else if x=116 then some 9 else if x=114 then some 13 else none
def spcL:List UInt8:=[40,41,91,93,123,125,124,42,43,63,46,92]
def spcV(x:Nat):Bool:=spcL.any fun b=>b.toNat==x
theorem c101(x:Nat)(h:x<256):Holds Tryz.prog 183 [A.d (.lit (.int .u8 x))] [] (Ret (.tup [(false,[.lit (.int .u8 ((hexV x).getD 0:Nat))]),(false,[.lit (.bool (hexV x).isSome)])])):=by
 refine w101 x ?_;have e48:48<=x->IntKind.wrap .u8 ((x:Int)-48)=((x-48:Nat):Int):=Yd7 x 48 h;have e97:97<=x->IntKind.wrap .u8 ((x:Int)-97)=((x-97:Nat):Int):=Yd7 x 97 h;have e65:65<=x->IntKind.wrap .u8 ((x:Int)-65)=((x-65:Nat):Int):=Yd7 x 65 h;have ten:∀n:Nat,n<200->IntKind.wrap .u8 ((n:Int)+10)=((n+10:Nat):Int):=fun n hn=>Ygz (n+10) (by omega)
 simp only[Zwb,decide_eq_true_eq,Bool.and_eq_true,Bool.and_eq_false_iff,decide_eq_false_iff_not,ret_iff,and_true];refine⟨fun h0=>?_,fun h0=>⟨fun h1=>?_,fun h1=>⟨fun h2=>?_,fun h2=>?_⟩⟩⟩
 ·rw[e48 (by omega)];have e:hexV x=some (x-48):=by unfold hexV;rw[if_pos (by omega)]
  rw[e];rfl
 ·rw[e97 (by omega),ten _ (by omega)];have e:hexV x=some (x-97+10):=by unfold hexV;rw[if_neg (by omega),if_pos (by omega)]
  rw[e];rfl
 ·rw[e65 (by omega),ten _ (by omega)];have e:hexV x=some (x-65+10):=by unfold hexV;rw[if_neg (by omega),if_neg (by omega),if_pos (by omega)]
  rw[e];rfl
 ·have e:hexV x=none:=by unfold hexV;rw[if_neg (by omega),if_neg (by omega),if_neg (by omega)]
  rw[e];rfl
end Go.Rx
end
section
open Go Go.Proofs Go.Ab Go.Rf
set_option maxRecDepth 100000
namespace Go.Rx
def rng(lo hi:Nat):Nat->Bool:=fun i=>decide (lo<=i/\i<=hi)
def orP(p q:Nat->Bool):Nat->Bool:=fun i=>p i||q i
def clsV(x:Nat):Option (Nat->Bool):=
 if x=100 then some (rng 48 57)else if x=119 then some (orP (orP (rng 48 57) (orP (rng 97 122) (rng 65 90))) (rng 95 95))else if x=115 then some (orP (orP (rng 9 10) (rng 13 13)) (rng 32 32))else none
def clsA(x:Nat):A:=.tup [(true,row4 ((clsV x).getD fun _=>false)),(false,[.lit (.bool (clsV x).isSome)])]
theorem c79'(lo hi:Nat)(h:hi<256)(hl:lo<256):Holds Tryz.prog 160 [A.d (.lit (.int .u8 lo)),A.d (.lit (.int .u8 hi))] [] (Ret (.agg (row4 (rng lo hi)))):=c79 lo hi h hl
theorem c91'(p q:Nat->Bool):Holds Tryz.prog 173 [A.agg (row4 p),A.agg (row4 q)] [] (Ret (.agg (row4 (orP p q)))):=c91 p q
theorem Yg0:row4 (fun _=>false)=[.lit (.int .u64 0),.lit (.int .u64 0),.lit (.int .u64 0),.lit (.int .u64 0)]:=by
 have:∀k,wd (fun _=>false) k=0:=fun k=>Yfd (by decide) fun j _=>Nat.zero_testBit j
 simp[row4,this]
theorem c80(x:Nat)(h:x<256):Holds Tryz.prog 161 [A.d (.lit (.int .u8 x))] [] (Ret (clsA x)):=by
 refine w80 x (call1 (c79' 48 57 (by decide) (by decide)) ⟨_,rfl,rfl,rfl,fun h0=>?_,fun h0=>⟨fun h1=>call1 (c79' 97 122 (by decide) (by decide)) ⟨_,rfl,rfl,call1 (c79' 65 90 (by decide) (by decide)) ⟨_,rfl,rfl,call1 (c91' _ _) ⟨_,rfl,rfl,rfl,call1 (c91' _ _) ⟨_,rfl,rfl,call1 (c79' 95 95 (by decide) (by decide)) ⟨_,rfl,rfl,call1 (c91' _ _) ⟨_,rfl,rfl,rfl,?_⟩⟩⟩⟩⟩⟩,
  fun h1=>⟨fun h2=>call1 (c79' 9 10 (by decide) (by decide)) ⟨_,rfl,rfl,call1 (c79' 13 13 (by decide) (by decide)) ⟨_,rfl,rfl,call1 (c91' _ _) ⟨_,rfl,rfl,call1 (c79' 32 32 (by decide) (by decide)) ⟨_,rfl,rfl,call1 (c91' _ _) ⟨_,rfl,rfl,rfl,?_⟩⟩⟩⟩⟩,fun h2=>?_⟩⟩⟩)
 all_goals simp only[Zwb,beq_iff_eq,beq_eq_false_iff_ne]at*
 ·have e:clsV x=some (rng 48 57):=by unfold clsV;rw[if_pos (by omega)]
  simp[clsA,e]
 ·have e:clsV x=some (orP (orP (rng 48 57) (orP (rng 97 122) (rng 65 90))) (rng 95 95)):=by unfold clsV;rw[if_neg (by omega),if_pos (by omega)]
  simp[clsA,e]
 ·have e:clsV x=some (orP (orP (rng 9 10) (rng 13 13)) (rng 32 32)):=by unfold clsV;rw[if_neg (by omega),if_neg (by omega),if_pos (by omega)]
  simp[clsA,e]
 ·have e:clsV x=none:=by unfold clsV;rw[if_neg (by omega),if_neg (by omega),if_neg (by omega)]
  simp[clsA,e,Yg0]
end Go.Rx
end
section
open Go Go.Proofs Go.Ab Go.Rf
set_option maxRecDepth 100000
namespace Go.Rx
def idxV(l:List UInt8)(c:Nat):Int:=firstIdx ⟨l.toArray⟩ c.toUInt8
theorem c102(l:List UInt8)(c:Nat):Holds Tryz.prog 146 [A.d (.lit (Zco l)),A.d (.lit (.int .u8 c))] [] (Ret (.d (.lit (.int .i64 (idxV l c))))):=by
 intro w cargs g h1 h2
 have hc:cargs= #[Zco l,.int .u8 c]:=by
  rcases cargs with⟨cl⟩
  match cl,h1 with
  |[a,b],⟨ha,hb,_⟩=>
   have ha:=ha .res;have hb:=hb .res;cases ha;cases hb;rfl
 subst hc;unfold CallsX;rw[run_callFunc_extern (P:=Tryz.prog) (f:=146) (fn:=Tryz.f146) (e:=Extern.BytealgIndexByte.indexByte) rfl (by decide) rfl rfl rfl];rw[Zco,run_indexByte_string];refine⟨.ret (.d (.lit (.int .i64 (idxV l c)))),[],g,⟨rfl,rfl⟩,rfl,?_,_,rfl,?_,fun h=>by cases h⟩
 ·exact⟨h2.box,h2.inj,h2.wr,h2.prs,h2.pr0,h2.prn,h2.up,h2.uu,h2.fr⟩
 ·exact .lit _ rfl
theorem c94(l:List UInt8)(c:Nat):Holds Tryz.prog 133 [A.d (.lit (Zco l)),A.d (.lit (.int .u8 c))] [] (Ret (.d (.lit (.int .i64 (idxV l c))))):=
 w94 l c (call1 (c102 l c) ⟨_,rfl,rfl,by simp⟩)
theorem c83(l:List UInt8)(c:Nat):Holds Tryz.prog 164 [A.d (.lit (Zco l)),A.d (.lit (.int .u8 c))] [] (Ret (.d (.lit (.int .i64 (idxV l c))))):=
 w83 l c (call1 (c94 l c) ⟨_,rfl,rfl,by simp⟩)
theorem idxV_nonneg(l:List UInt8)(c:Nat)(h:c<256):0<=idxV l c↔(l.any fun b=>b.toNat==c)=true:=by
 unfold idxV firstIdx
 have key:∀b:UInt8,b=c.toUInt8↔b.toNat=c:=fun b=>by
  constructor
  ·rintro rfl;simp;omega
  ·rintro rfl;simp
 split
 ·rename_i i hi;have h1:=List.find?_some hi;have h2:=List.mem_range.1 (List.mem_of_find?_eq_some hi);simp only[beq_iff_eq,key]at h1;refine⟨fun _=>List.any_eq_true.2 ⟨_,?_,by simpa using h1⟩,fun _=>by omega⟩
  have e:(⟨l.toArray⟩:ByteArray)[i]! =l[i]'h2:=by
   rw[getElem!_pos _ i h2];rfl
  rw[e];exact List.getElem_mem _
 ·rename_i hi;refine⟨fun h=>by omega,fun h=>?_⟩;obtain⟨b,hb,hx⟩:=List.any_eq_true.1 h;obtain⟨j,hj,rfl⟩:=List.mem_iff_getElem.1 hb;have:=List.find?_eq_none.1 hi j (List.mem_range.2 hj)
  have e:(⟨l.toArray⟩:ByteArray)[j]! =l[j]'hj:=by
   rw[getElem!_pos _ j hj];rfl
  rw[e]at this;simp only[beq_iff_eq,key]at this;exact absurd (by simpa using hx) this
end Go.Rx
end
section
open Go Go.Proofs Go.Ab Go.Rf
set_option maxRecDepth 100000
namespace Go.Rx
def Ya7(r:Rx):Int:=
 if r.kind<0\/5<r.kind\/(r.kind≠2/\ ¬(r.w 0=0/\r.w 1=0/\r.w 2=0/\r.w 3=0))then 11
 else if r.kind=3\/r.kind=4 then(if r.subs.length<2 then 2 else 0)
 else if r.kind=5 then(if r.subs.length≠1 then 2 else 0)
 else if r.subs.length≠0 then 2 else 0
mutual
def chk(lvl:Int):Rx->Int
 |.mk k a b c d l=>if 16<lvl then 9 else if Ya7 (.mk k a b c d l)≠0 then Ya7 (.mk k a b c d l)else chks (lvl+1) l
def chks(lvl:Int):List Rx->Int
 |[]=>0
 |r::l=>if chk lvl r≠0 then chk lvl r else chks lvl l
end
theorem Yfv(lvl:Int)(r:Rx):chk lvl r=if 16<lvl then 9 else if Ya7 r≠0 then Ya7 r else chks (lvl+1) r.subs:=by cases r;simp only[chk,Rx.subs]
theorem Yei{lvl:Int}:∀(l:List Rx),(∀i (h:i<l.length),chk lvl l[i]=0)->chks lvl l=0
 |[],_=>rfl
 |r::l,h=>by
  simp only[chks];rw[if_neg (fun hne=>hne (h 0 (Nat.succ_pos _)))];exact Yei l fun i hi=>h (i+1) (Nat.succ_lt_succ hi)
theorem Ydr{lvl:Int}:∀(l:List Rx)(j:Nat)(hj:j<l.length),(∀i (h:i<j),chk lvl (l[i]'(by omega))=0)->chk lvl l[j]≠0->chks lvl l=chk lvl l[j]
 |r::l,0,_,_,h=>by simp only[chks];rw[if_pos (by simpa using h)];rfl
 |r::l,j+1,hj,h0,h=>by
  simp only[chks];rw[if_neg (by simpa using h0 0 (by omega))];exact Ydr l j (by simpa using hj) (fun i hi=>by simpa using h0 (i+1) (by omega)) h
end Go.Rx
end
section
open Go Go.Proofs Go.Ab Go.Rf
set_option maxRecDepth 100000
namespace Go.Rx
theorem c33:∀(n:Nat)(r:Rx)(lvl:Int),size r<=n->lens (2^40) r-> -100<=lvl->lvl<=100->Holds Tryz.prog 140 [A.agg (enc r),A.d (.lit (.int .i64 lvl))] [] (Ret (.d (.lit (.int .i64 (chk lvl r))))):=by
 intro n
 induction n with
 |zero=>intro r lvl h;have:=size_pos r;omega
 |succ n ih=>
  intro r lvl hs hn h1 h2;refine w33 (enc r) lvl ⟨by simp,fun h=>?_,fun h=>?_⟩
  ·simp at h;have e:chk lvl r=9:=by rw[Yfv,if_pos h]
   simp[e]
  ·simp at h;have hbad:Ya7 r≠0->chk lvl r=Ya7 r:=fun he=>by rw[Yfv,if_neg (by omega),if_pos he]
   refine⟨by simp,by simp,by simp,by simp,by simp,fun hk=>?_,fun hk=>?_⟩
   ·have e:Ya7 r=11:=by
     simp only[enc0,enc1,enc2,enc3,enc4,dint_int,Zwb,decide_eq_true_eq,Bool.and_eq_true,Bool.or_eq_true,Bool.not_eq_true',Bool.and_eq_false_iff,beq_iff_eq,beq_eq_false_iff_ne]at hk;unfold Ya7;rw[if_pos];rcases hk with(h|h)|⟨h,h'⟩
     ·exact .inl h
     ·exact .inr (.inl h)
     ·exact .inr (.inr ⟨h,by rintro⟨a,b,c,d⟩;rcases h' with h'|h'|h'|h'<;>contradiction⟩)
    have e2:chk lvl r=11:=by rw[hbad (by omega),e]
    simp[e2]
   ·have e:Ya7 r=if r.kind=3\/r.kind=4 then(if r.subs.length<2 then 2 else 0)else if r.kind=5 then(if r.subs.length≠1 then 2 else 0)else if r.subs.length≠0 then 2 else 0:=by
     simp only[enc0,enc1,enc2,enc3,enc4,dint_int,Zwb,decide_eq_false_iff_not,Bool.and_eq_true,Bool.or_eq_false_iff,Bool.not_eq_true',Bool.and_eq_false_iff,Bool.not_eq_false',beq_iff_eq]at hk;unfold Ya7;rw[if_neg];rintro(h'|h'|⟨h',h''⟩)
     ·exact hk.1.1 h'
     ·exact hk.1.2 h'
     ·rcases hk.2 with h3|h3
      ·exact h' h3
      ·exact h'' h3
    have hlen:r.subs.length<=2^40:=(Ycs.1 hn).1;refine⟨by simp,fun _=>Ya7 r=0,⟨fun hk=>⟨fun hl=>?_,fun hl=>?_⟩,fun hk3=>⟨fun hk=>⟨fun hl=>?_,fun hl=>?_⟩,fun hk4=>⟨fun hk=>⟨fun hl=>?_,fun hl=>?_⟩,fun hk5=>⟨fun hl=>?_,fun hl=>?_⟩⟩⟩⟩,?_,trivial⟩
    ·simp at hk hl;have e2:Ya7 r=2:=by rw[e,if_pos (.inl hk),if_pos (by omega)]
     have e3:chk lvl r=2:=by rw[hbad (by omega),e2]
     simp[e3]
    ·simp at hk hl;rw[e,if_pos (.inl hk),if_neg (by omega)]
    ·simp at hk hl;have e2:Ya7 r=2:=by rw[e,if_pos (.inr hk),if_pos (by omega)]
     have e3:chk lvl r=2:=by rw[hbad (by omega),e2]
     simp[e3]
    ·simp at hk hl;rw[e,if_pos (.inr hk),if_neg (by omega)]
    ·simp at hk3 hk4 hk hl;have e2:Ya7 r=2:=by rw[e,if_neg (by omega),if_pos hk,if_pos (by omega)]
     have e3:chk lvl r=2:=by rw[hbad (by omega),e2]
     simp[e3]
    ·simp at hk3 hk4 hk hl;rw[e,if_neg (by omega),if_pos hk,if_neg (by omega)]
    ·simp only[enc0,enc5,dint_int,dlst_slc,Zwb,Ybq,beq_eq_false_iff_ne,Bool.not_eq_true']at hk3 hk4 hk5 hl;have e2:Ya7 r=2:=by rw[e,if_neg (by omega),if_neg hk5,if_pos (by omega)]
     have e3:chk lvl r=2:=by rw[hbad (by omega),e2]
     simp[e3]
    ·simp only[enc0,enc5,dint_int,dlst_slc,Zwb,Ybq,beq_eq_false_iff_ne,Bool.not_eq_false',beq_iff_eq]at hk3 hk4 hk5 hl;rw[e,if_neg (by omega),if_neg hk5,if_neg (by omega)]
    ·intro _ he;refine⟨fun x=>∃i:Nat,x=i/\i<=r.subs.length/\ ∀j (hj:j<r.subs.length),j<i->chk (lvl+1) r.subs[j]=0,fun x=>(r.subs.length-x.toNat),⟨0,rfl,Nat.zero_le _,fun j _ hj=>absurd hj (Nat.not_lt_zero _)⟩,?_,trivial⟩;rintro x ⟨i,rfl,hi,hall⟩;refine⟨fun hc=>?_,fun hc=>?_⟩
     ·simp at hc;have hsub:=size_sub hc;simp only[enc5,dlst_slc];rw[Yia rfl hc];refine⟨by simp,by simp,by simp;omega,by simp;omega,call1 (ih r.subs[i] (lvl+1) (by omega) (Yib hn hc) (by omega) (by omega)) ⟨_,rfl,rfl,fun hne=>?_,fun heq=>?_⟩⟩
      ·simp at hne;have e:chk lvl r=chk (lvl+1) r.subs[i]:=by rw[Yfv,if_neg (by omega),if_neg (by simp[he]),Ydr r.subs i hc (fun j hj=>hall j (by omega) hj) hne]
       simp[e]
      ·simp at heq;refine⟨by simp;omega,by simp;omega,⟨i+1,rfl,hc,fun j hj hji=>?_⟩,by simp;omega⟩;by_cases e:j=i
       ·subst e;exact heq
       ·exact hall j hj (by omega)
     ·simp at hc;have e:chk lvl r=0:=by rw[Yfv,if_neg (by omega),if_neg (by simp[he]),Yei r.subs fun j hj=>hall j hj (by omega)]
      simp[e]
end Go.Rx
end
section
open Go Go.Proofs Go.Ab Go.Rf
set_option maxRecDepth 100000
namespace Go.Rx
theorem c15(r:Rx)(h:lens (2^40) r):Holds Tryz.prog 129 [A.agg (enc r)] [] (Ret (.d (.lit (.int .i64 (chk 1 r))))):=
 w15 (enc r) ⟨by simp,call1 (c33 _ r 1 (Nat.le_refl _) h (by omega) (by omega)) ⟨_,rfl,rfl,by simp⟩⟩
end Go.Rx
end
section
open Go Go.Proofs Go.Ab Go.Rf
set_option maxRecDepth 100000
namespace Go.Rx
inductive Res (α:Type) where
 |ok (a:α) (t:List UInt8)
 |bad (t:List UInt8)
def hd(t:List UInt8):Nat:=match t with|[]=>0|c::_=>c.toNat
def escV(x:Nat):Option Nat:=match ctlV x with|some n=>some n|none=>if spcV x||x==94||x==45 then some x else none
def hexR(lo:Nat)(t:List UInt8):Res Nat:=
 match hexV (hd t)with
 |none=>.bad t
 |some d=>if d*16+15<lo then .bad t else match hexV (hd t.tail)with
  |none=>.bad t.tail
  |some e=>if d*16+e<lo then .bad t.tail else .ok (d*16+e) t.tail.tail
def escR(lo:Nat)(t:List UInt8):Res Nat:=
 if hd t=120 then hexR lo t.tail else match escV (hd t)with
  |none=>.bad t
  |some n=>if n<lo then .bad t else .ok n t.tail
def Ybs(lo:Nat)(t:List UInt8):Res Nat:=
 if hd t=92 then escR lo t.tail
 else if hd t<32\/126<hd t\/hd t<lo\/(spcV (hd t)||hd t==94||hd t==45)=true then .bad t else .ok (hd t) t.tail
def mk0(k:Int)(l:List Rx):Rx:=.mk k 0 0 0 0 l
def setX(p:Nat->Bool):Rx:=.mk 2 (wd p 0) (wd p 1) (wd p 2) (wd p 3) []
def hiR(lo:Nat)(t:List UInt8):Res Nat:=if hd t=45 then Ybs lo t.tail else .ok lo t
def negP(neg:Bool)(p:Nat->Bool):Nat->Bool:=if neg then fun i=>!p i else p
def setL:Nat->Bool->(Nat->Bool)->List UInt8->Option (Res Rx)
 |0,_,_,_=>none
 |n+1,neg,p,t=>match Ybs 0 t with
  |.bad q=>some (.bad q)
  |.ok lo t1=>match hiR lo t1 with
   |.bad q=>some (.bad q)
   |.ok hi t3=>if hd t3=93 then some (.ok (setX (negP neg (orP p (rng lo hi)))) t3.tail)else setL n neg (orP p (rng lo hi)) t3
def no:Nat->Bool:=fun _=>false
def setR(n:Nat)(t:List UInt8):Option (Res Rx):=
 if hd t=94 then setL n true no t.tail else if hd t=93 then some (.ok (mk0 0 []) t.tail)else setL n false no t
def Yf7(k:Int)(l:List Rx):Rx:=match l with|[r]=>r|l=>mk0 k l
def Yg1(r:Rx):Rx:=mk0 5 [r]
def opX(c:Nat)(r:Rx):Option Rx:=if c=42 then some (Yg1 r)else if c=43 then some (mk0 3 [r,Yg1 r])else if c=63 then some (mk0 4 [r,mk0 1 []])else none
def opsL:Nat->Rx->List UInt8->Option (Res Rx)
 |0,_,_=>none
 |n+1,r,t=>match opX (hd t) r with|some r'=>opsL n r' t.tail|none=>some (.ok r t)
def oneX(c:Nat):Rx:=setX (rng c c)
def Yds(r:Rx)(t:List UInt8):Res Rx:=if hd t=41 then .ok r t.tail else .bad t
mutual
def alts:Nat->List UInt8->Option (Res Rx)
 |0,_=>none
 |n+1,t=>match seqs n t with
  |none=>none
  |some (.bad q)=>some (.bad q)
  |some (.ok r t1)=>altL n [r] t1
def altL:Nat->List Rx->List UInt8->Option (Res Rx)
 |0,_,_=>none
 |n+1,l,t=>if hd t=124 then(match seqs n t.tail with
  |none=>none
  |some (.bad q)=>some (.bad q)
  |some (.ok r t1)=>altL n (l++[r]) t1)else some (.ok (Yf7 4 l) t)
def seqs:Nat->List UInt8->Option (Res Rx)
 |0,_=>none
 |n+1,t=>match Yb2 n t with
  |none=>none
  |some (.bad q)=>some (.bad q)
  |some (.ok r t1)=>seqL n [r] t1
def seqL:Nat->List Rx->List UInt8->Option (Res Rx)
 |0,_,_=>none
 |n+1,l,t=>if t≠[]/\hd t≠124/\hd t≠41 then(match Yb2 n t with
  |none=>none
  |some (.bad q)=>some (.bad q)
  |some (.ok r t1)=>seqL n (l++[r]) t1)else some (.ok (Yf7 3 l) t)
def Yb2:Nat->List UInt8->Option (Res Rx)
 |0,_=>none
 |n+1,t=>match atom n t with
  |none=>none
  |some (.bad q)=>some (.bad q)
  |some (.ok r t1)=>opsL n r t1
def atom:Nat->List UInt8->Option (Res Rx)
 |0,_=>none
 |n+1,t=>
  if hd t=40 then(if hd t.tail=41 then some (.ok (mk0 1 []) t.tail.tail)else match alts n t.tail with
   |none=>none
   |some (.bad q)=>some (.bad q)
   |some (.ok r t1)=>some (Yds r t1))
  else if hd t=91 then setR n t.tail
  else if hd t=46 then some (.ok (setX (rng 0 255)) t.tail)
  else if hd t=92 then(match clsV (hd t.tail)with
   |some p=>some (.ok (setX p) t.tail.tail)
   |none=>match escR 0 t.tail with
    |.bad q=>some (.bad q)
    |.ok c t1=>some (.ok (oneX c) t1))
  else if hd t<32\/126<hd t\/spcV (hd t)=true then some (.bad t)
  else some (.ok (oneX (hd t)) t.tail)
end
def Res.Lt{α:Type}(t:List UInt8):Res α->Prop
 |.ok _ t'=>t'.length<t.length/\t'<:+t
 |.bad t'=>t'<:+t
def Res.Le{α:Type}(t:List UInt8):Res α->Prop
 |.ok _ t'=>t'<:+t
 |.bad t'=>t'<:+t
theorem Yct{t:List UInt8}(h:hd t≠0):t.tail.length<t.length:=by
 cases t with
 |nil=>exact absurd rfl h
 |cons c t=>simp
theorem Yaq(t:List UInt8):t.tail<:+t:=List.tail_suffix t
theorem Yd8{x d:Nat}(h:hexV x=some d):x≠0:=by
 rintro rfl;simp[hexV]at h
theorem Yjd(lo:Nat)(t:List UInt8):(hexR lo t).Lt t:=by
 unfold hexR;split
 ·exact List.suffix_refl _
 ·rename_i d hd1;split
  ·exact List.suffix_refl _
  ·split
   ·exact Yaq _
   ·rename_i e he;split
    ·exact Yaq _
    ·have h1:=Yct (Yd8 hd1);have h2:=Yct (Yd8 he);exact⟨by omega,(Yaq _).trans (Yaq _)⟩
theorem Yje{x d:Nat}(h:escV x=some d):x≠0:=by
 rintro rfl;revert h;simp[escV,ctlV,spcV,spcL]
theorem Res.Lt.tail{α:Type}{t:List UInt8}{r:Res α}(h:r.Lt t.tail):r.Lt t:=by
 cases r with
 |ok a t'=>exact⟨by have:=h.1;have:t.tail.length<=t.length:=by simp
                    omega,h.2.trans (Yaq _)⟩
 |bad t'=>exact List.IsSuffix.trans (show t'<:+t.tail from h) (Yaq _)
theorem Yg2(lo:Nat)(t:List UInt8):(escR lo t).Lt t:=by
 unfold escR;split
 ·exact(Yjd _ _).tail
 ·split
  ·exact List.suffix_refl _
  ·rename_i n hn;split
   ·exact List.suffix_refl _
   ·exact⟨Yct (Yje hn),Yaq _⟩
theorem Ycu(lo:Nat)(t:List UInt8):(Ybs lo t).Lt t:=by
 unfold Ybs;split
 ·exact(Yg2 _ _).tail
 ·split
  ·exact List.suffix_refl _
  ·rename_i h;exact⟨Yct (by omega),Yaq _⟩
theorem Res.Lt.trans{α:Type}{t t':List UInt8}{r:Res α}(h:r.Lt t')(h2:t'<:+t):r.Lt t:=by
 cases r with
 |ok a q=>exact⟨Nat.lt_of_lt_of_le h.1 h2.length_le,h.2.trans h2⟩
 |bad q=>exact List.IsSuffix.trans (show q<:+t' from h) h2
theorem Yfw(lo:Nat)(t:List UInt8):(hiR lo t).Le t:=by
 unfold hiR;split
 ·have:=(Ycu lo t.tail).tail;cases hb:Ybs lo t.tail with
  |ok a q=>rw[hb]at this;exact this.2
  |bad q=>rw[hb]at this;exact this
 ·exact List.suffix_refl _
theorem Yfe:∀(n:Nat)(neg:Bool)(p:Nat->Bool)(t:List UInt8)(r:Res Rx),setL n neg p t=some r->r.Lt t
 |0,_,_,_,_,h=>by simp[setL]at h
 |n+1,neg,p,t,r,h=>by
  unfold setL at h;have h1:=Ycu 0 t;split at h
  ·rename_i q hq;rw[hq]at h1;cases h;exact h1
  ·rename_i lo t1 hq;rw[hq]at h1;have h2:=Yfw lo t1;split at h
   ·rename_i q hq;rw[hq]at h2;cases h;exact List.IsSuffix.trans h2 h1.2
   ·rename_i hi t3 hq;rw[hq]at h2;have h3:t3<:+t1:=h2;split at h
    ·cases h
     exact⟨by have:=h1.1;have:=h3.length_le;have:t3.tail.length<=t3.length:=by simp
              omega,(Yaq _).trans (h3.trans h1.2)⟩
    ·exact(Yfe n neg _ t3 r h).trans (h3.trans h1.2)
theorem Yjf(n:Nat)(t:List UInt8)(r:Res Rx)(h:setR n t=some r):r.Lt t:=by
 unfold setR at h;split at h
 ·exact(Yfe _ _ _ _ _ h).tail
 ·split at h
  ·cases h;exact⟨Yct (by omega),Yaq _⟩
  ·exact Yfe _ _ _ _ _ h
theorem Ykh{c:Nat}{r r':Rx}(h:opX c r=some r'):c≠0:=by
 rintro rfl;simp[opX]at h
theorem Yg3:∀(n:Nat)(r:Rx)(t:List UInt8)(o:Res Rx),opsL n r t=some o->o.Le t
 |0,_,_,_,h=>by simp[opsL]at h
 |n+1,r,t,o,h=>by
  unfold opsL at h;split at h
  ·rename_i r' _;have:=Yg3 n r' t.tail o h;cases o with
   |ok a q=>exact List.IsSuffix.trans this (Yaq _)
   |bad q=>exact List.IsSuffix.trans this (Yaq _)
  ·cases h;exact List.suffix_refl _
theorem Res.Le.trans{α:Type}{t t':List UInt8}{r:Res α}(h:r.Le t')(h2:t'<:+t):r.Le t:=by
 cases r with
 |ok a q=>exact List.IsSuffix.trans h h2
 |bad q=>exact List.IsSuffix.trans h h2
theorem Res.Le.lt{α:Type}{t t':List UInt8}{r:Res α}(h:r.Le t')(h2:t'<:+t)(h3:t'.length<t.length):r.Lt t:=by
 cases r with
 |ok a q=>exact⟨Nat.lt_of_le_of_lt (List.IsSuffix.length_le h) h3,List.IsSuffix.trans h h2⟩
 |bad q=>exact List.IsSuffix.trans h h2
theorem Yby:∀(n:Nat),(∀t r,alts n t=some r->r.Lt t)/\(∀l t r,altL n l t=some r->r.Le t)/\(∀t r,seqs n t=some r->r.Lt t)/\(∀l t r,seqL n l t=some r->r.Le t)/\
 (∀t r,Yb2 n t=some r->r.Lt t)/\(∀t r,atom n t=some r->r.Lt t):=by
 intro n
 induction n with
 |zero=>exact⟨fun t r h=>by simp[alts]at h,fun l t r h=>by simp[altL]at h,fun t r h=>by simp[seqs]at h,fun l t r h=>by simp[seqL]at h,fun t r h=>by simp[Yb2]at h,fun t r h=>by simp[atom]at h⟩
 |succ n ih=>
  obtain⟨ih1,ih2,ih3,ih4,ih5,ih6⟩:=ih;refine⟨fun t r h=>?_,fun l t r h=>?_,fun t r h=>?_,fun l t r h=>?_,fun t r h=>?_,fun t r h=>?_⟩
  ·unfold alts at h;split at h
   ·cases h
   ·rename_i hq;cases h;exact ih3 _ _ hq
   ·rename_i hq;have:=ih3 _ _ hq;exact(ih2 _ _ _ h).lt this.2 this.1
  ·unfold altL at h;split at h
   ·split at h
    ·cases h
    ·rename_i hq;cases h;exact(ih3 _ _ hq).tail
    ·rename_i hq;have:=(ih3 _ _ hq).tail;exact(ih2 _ _ _ h).trans this.2
   ·cases h;exact List.suffix_refl _
  ·unfold seqs at h;split at h
   ·cases h
   ·rename_i hq;cases h;exact ih5 _ _ hq
   ·rename_i hq;have:=ih5 _ _ hq;exact(ih4 _ _ _ h).lt this.2 this.1
  ·unfold seqL at h;split at h
   ·split at h
    ·cases h
    ·rename_i hq;cases h;exact(ih5 _ _ hq)
    ·rename_i hq;have:=(ih5 _ _ hq);exact(ih4 _ _ _ h).trans this.2
   ·cases h;exact List.suffix_refl _
  ·unfold Yb2 at h;split at h
   ·cases h
   ·rename_i hq;cases h;exact ih6 _ _ hq
   ·rename_i hq;have:=ih6 _ _ hq;exact(Yg3 _ _ _ _ h).lt this.2 this.1
  ·unfold atom at h;split at h
   ·have h0:=Yct (show hd t≠0 by omega);split at h
    ·have h1:=Yct (show hd t.tail≠0 by omega);cases h;exact⟨by omega,(Yaq _).trans (Yaq _)⟩
    ·split at h
     ·cases h
     ·rename_i hq;cases h;exact(ih1 _ _ hq).tail
     ·rename_i hq;have h2:=(ih1 _ _ hq).tail;cases h;unfold Yds;split
      ·rename_i t1 _
       exact⟨by have:=h2.1;have:t1.tail.length<=t1.length:=by simp
                omega,(Yaq _).trans h2.2⟩
      ·exact h2.2
   ·split at h
    ·exact(Yjf _ _ _ h).tail
    ·split at h
     ·cases h;exact⟨Yct (by omega),Yaq _⟩
     ·split at h
      ·split at h
       ·cases h;exact⟨by have h1:=Yct (show hd t≠0 by omega);have:t.tail.tail.length<=t.tail.length:=by simp
                         omega,(Yaq _).trans (Yaq _)⟩
       ·have h1:=(Yg2 0 t.tail).tail;split at h
        ·rename_i q hq;rw[hq]at h1;cases h;exact h1
        ·rename_i q hq;rw[hq]at h1;cases h;exact h1
      ·split at h
       ·cases h;exact List.suffix_refl _
       ·cases h;exact⟨Yct (by omega),Yaq _⟩
end Go.Rx
end
section
open Go Go.Proofs Go.Ab Go.Rf
set_option maxRecDepth 100000
namespace Go.Rx
theorem tle{a b:Int}(h:a<=b):(tB (decide (a<=b)))=true:=by simp[h]
theorem tlt{a b:Int}(h:a<b):(tB (decide (a<b)))=true:=by simp[h]
theorem teq{a b:Int}(h:a=b):(tB (a==b))=true:=by simp[h]
theorem of_tle{a b:Int}(h:(tB (decide (a<=b)))=true):a<=b:=by simpa using h
theorem of_tlt{a b:Int}(h:(tB (decide (a<b)))=true):a<b:=by simpa using h
theorem of_teq{a b:Int}(h:(tB (a==b))=true):a=b:=by simpa using h
theorem of_fle{a b:Int}(h:(tB (decide (a<=b)))=false):b<a:=by simpa using h
theorem of_flt{a b:Int}(h:(tB (decide (a<b)))=false):b<=a:=by simpa using h
theorem of_feq{a b:Int}(h:(tB (a==b))=false):a≠b:=by simpa using h
structure At (s t:List UInt8) (i:Int):Prop where
 suf:t<:+s
 pos:i+t.length=s.length
 sm:s.length<=1048576
theorem At.next{s t:List UInt8}{i:Int}(h:At s t i)(hn:t≠[]):At s t.tail (i+1):=by
 refine⟨(Yaq _).trans h.suf,?_,h.sm⟩;have:=h.pos
 have:t.tail.length+1=t.length:=by cases t with
  |nil=>exact absurd rfl hn
  |cons c t=>simp
 omega
theorem At.lo{s t:List UInt8}{i:Int}(h:At s t i):0<=i/\i<=1048576:=by
 have:=h.pos;have:=h.sm;have:=h.suf.length_le;omega
theorem At.lt{s t:List UInt8}{i:Int}(h:At s t i):i<(s.length:Int)↔t≠[]:=by
 have h1:=h.pos;cases t with
 |nil=>simp at h1;simp;omega
 |cons c t=>simp at h1;simp;omega
theorem At.byte{s t:List UInt8}{i:Int}(h:At s t i)(hn:t≠[]):Zwc s i=hd t:=by
 obtain⟨u,hu⟩:=h.suf;cases t with
 |nil=>exact absurd rfl hn
 |cons c t=>
  have h1:=h.pos;rw[<-hu]at h1⊢;simp only[List.length_append,List.length_cons]at h1;have e:i.toNat=u.length:=by omega
  simp[Zwc,e,hd]
theorem Ya8{t:List UInt8}(h:hd t≠0):t≠[]:=by rintro rfl;exact h rfl
theorem Yej(t:List UInt8):hd t<256:=by
 cases t with
 |nil=>simp[hd]
 |cons c t=>exact c.toNat_lt
def PB(q:Ref)(s:List UInt8)(i:Int):List (Ref×List A):=[(.up q,[A.d (.lit (Zco s)),A.d (.lit (.int .i64 i))])]
def Ybr(i:Int):Value:=dval (D.lit (.iface 135 (.agg (([D.lit (.int .i64 i)]:List D).map dval).toArray)))
def Res.map{α β:Type}(f:α->β):Res α->Res β|.ok a t=>.ok (f a) t|.bad t=>.bad t
def RetB(v:A)(B:List (Ref×List A)):Out->List (Ref×List A)->Prop:=fun o H=>o=.ret v/\H=B
def PAft(q:Ref)(s:List UInt8)(res:Res A):Out->List (Ref×List A)->Prop:=fun o H=>match res with
 |.ok v t=>o=.ret v/\ ∃i,At s t i/\H=PB q s i
 |.bad t=>∃i j,At s t i/\o=.pan (Ybr i)/\H=PB q s j
theorem callB{P:Program}{f:Nat}{args:List A}{v:A}{B B':List (Ref×List A)}(hc:Holds P f args B (RetB v B')){Q1:A->List (Ref×List A)->Prop}{Q2:Value->List (Ref×List A)->Prop}(h:Q1 v B'):
 ∀_:Nat->Nat,∃R':Out->List (Ref×List A)->Prop,Holds P f args B R'/\(∀v H',R' (.ret v) H'->Q1 v H')/\(∀u H',R' (.pan u) H'->Q2 u H'):=
 fun _=>⟨_,hc,fun v' H' e=>by obtain⟨e1,rfl⟩:=e;cases e1;exact h,fun u H' e=>by cases e.1⟩
theorem Ycd{P:Program}{f:Nat}{args:List A}{v:Value}{B B':List (Ref×List A)}(hc:Holds P f args B fun o H=>o=.pan v/\H=B'){Q1:A->List (Ref×List A)->Prop}{Q2:Value->List (Ref×List A)->Prop}(h:Q2 v B'):
 ∀_:Nat->Nat,∃R':Out->List (Ref×List A)->Prop,Holds P f args B R'/\(∀v H',R' (.ret v) H'->Q1 v H')/\(∀u H',R' (.pan u) H'->Q2 u H'):=
 fun _=>⟨_,hc,fun v' H' e=>(by cases e.1),fun u H' e=>by obtain⟨e1,rfl⟩:=e;cases e1;exact h⟩
theorem Yce{P:Program}{f:Nat}{args:List A}{B:List (Ref×List A)}{q:Ref}{s:List UInt8}{res:Res A}(hc:Holds P f args B (PAft q s res)){Q1:A->List (Ref×List A)->Prop}{Q2:Value->List (Ref×List A)->Prop}
 (h1:∀v t i,res=.ok v t->At s t i->Q1 v (PB q s i)) (h2:∀t i j,res=.bad t->At s t i->Q2 (Ybr i) (PB q s j)):
 ∀_:Nat->Nat,∃R':Out->List (Ref×List A)->Prop,Holds P f args B R'/\(∀v H',R' (.ret v) H'->Q1 v H')/\(∀u H',R' (.pan u) H'->Q2 u H'):=by
 refine fun _=>⟨_,hc,fun v' H' e=>(by
  cases res with
  |ok v t=>obtain⟨e1,i,hi,rfl⟩:=e;cases e1;exact h1 _ t i rfl hi
  |bad t=>obtain⟨i,j,hi,e1,_⟩:=e;cases e1),fun u H' e=>by
  cases res with
  |ok v t=>cases e.1
  |bad t=>obtain⟨i,j,hi,e1,rfl⟩:=e;cases e1;exact h2 t i j rfl hi⟩
theorem Ybg{q:Ref}{s t:List UInt8}{v:A}{res:Res A}{i:Int}(h:res=.ok v t)(hi:At s t i):PAft q s res (.ret v) (PB q s i):=by subst h;exact⟨rfl,i,hi,rfl⟩
theorem Yas{q:Ref}{s t:List UInt8}{res:Res A}{i j:Int}(h:res=.bad t)(hi:At s t i):PAft q s res (.pan (Ybr i)) (PB q s j):=by subst h;exact⟨i,j,hi,rfl,rfl⟩
theorem Ybl{α β:Type}{f:α->β}{r:Res α}{b:β}{t:List UInt8}(h:r.map f=.ok b t):∃a,r=.ok a t/\f a=b:=by
 cases r with
 |ok a t'=>cases h;exact⟨a,rfl,rfl⟩
 |bad t'=>cases h
theorem Ybj{α β:Type}{f:α->β}{r:Res α}{t:List UInt8}(h:r.map f=.bad t):r=.bad t:=by
 cases r with
 |ok a t'=>cases h
 |bad t'=>cases h;rfl
theorem c49{q:Ref}{s t:List UInt8}{i:Int}(h:At s t i):Holds Tryz.prog 138 [A.ptr (.up q) 0] (PB q s i) (RetB (.d (.lit (.int .u8 (hd t)))) (PB q s i)):=by
 refine w49 s i q ⟨fun hc=>?_,fun hc=>?_⟩
 ·have hn:=h.lt.1 (of_tlt hc);exact⟨tle h.lo.1,by rw[h.byte hn];exact⟨rfl,rfl⟩⟩
 ·have hn:t=[]:=Classical.byContradiction fun hn=>by have:=h.lt.2 hn;have:=of_flt hc;omega
  subst hn;exact⟨rfl,rfl⟩
theorem c38{q:Ref}{s:List UInt8}{i j:Int}:Holds Tryz.prog 128 [A.ptr (.up q) 0,A.d (.lit (.int .i64 j))] (PB q s i) (fun o H=>o=.pan (Ybr j)/\H=PB q s i):=
 w38 s i j q ⟨rfl,rfl,rfl⟩
theorem c50(k:Int)(l:List Rx):Holds Tryz.prog 139 [A.d (.lit (.int .i64 k)),A.d (.slc (encs l))] [] (Ret (.agg (enc (Yf7 k l)))):=by
 refine w50 k (encs l) ⟨fun h=>?_,fun h=>?_⟩
 ·have h:=of_teq h;simp only[Ybq]at h
  match l,h with
  |[r],_=>
   have e:gAt (encs [r]) 0=enc r:=rfl;rw[e];exact⟨tlt (by simp),teq (by simp),rfl,rfl⟩
 ·have h:=of_feq h;simp only[Ybq]at h
  match l,h with
  |[],_=>exact⟨rfl,rfl⟩
  |[r],h=>exact absurd rfl h
  |_::_::_,_=>exact⟨rfl,rfl⟩
theorem c81(c:Nat)(h:c<256):Holds Tryz.prog 162 [A.d (.lit (.int .u8 c))] [] (Ret (.agg (enc (oneX c)))):=
 w81 c (call1 (c79' c c h h) ⟨_,rfl,rfl,rfl,rfl,rfl⟩)
theorem nib(n d:Nat)(hn:n<16)(hd:d<16):gOr .u8 (gShl .u8 (n:Int) 4) (d:Int)=((n*16+d:Nat):Int):=by
 have:∀n<16,∀d<16,gOr .u8 (gShl .u8 ((n:Nat):Int) 4) ((d:Nat):Int)=((n*16+d:Nat):Int):=by decide
 exact this n hn d hd
theorem Ycj{x d:Nat}(h:hexV x=some d):d<16:=by
 unfold hexV at h
 repeat' split at h
 all_goals first|cases h;omega|cases h
def u8A(n:Nat):A:=.d (.lit (.int .u8 n))
theorem c93{q:Ref}{s t:List UInt8}{i:Int}(lo:Nat)(h:At s t (i+1)):Holds Tryz.prog 175 [A.ptr (.up q) 0,A.d (.lit (.int .u8 lo))] (PB q s i) (PAft q s ((hexR lo t).map u8A)):=by
 refine w93 s i lo q ⟨fun x k s' i'=>s'=s/\((k=0/\x=0/\i'=i)\/(∃d,hexV (hd t)=some d/\ ¬d*16+15<lo/\k=1/\x=(d:Nat)/\i'=i+1)\/(∃d,hexR lo t=.ok d t.tail.tail/\k=2/\x=(d:Nat)/\At s t.tail.tail (i'+1))),fun _ k _ _=>2-k.toNat,⟨rfl,.inl ⟨rfl,rfl,rfl⟩⟩,?_,trivial⟩;have hlo:=h.lo;rintro x k s' i' ⟨rfl,⟨rfl,rfl,rfl⟩|⟨d,hd1,hd2,rfl,rfl,rfl⟩|⟨d,hd1,rfl,rfl,hd2⟩⟩
 ·refine⟨fun _=>⟨tle (by omega),fun _=>⟨tle (by omega),tle (by omega),callB (c49 h) ⟨_,_,_,rfl,rfl,call1 (c101 (hd t) (Yej t)) ⟨_,_,rfl,rfl,fun hc=>?_,fun hc=>?_⟩⟩⟩,fun h0=>absurd rfl (of_feq h0)⟩,fun h0=>absurd (of_flt h0) (by decide)⟩
  ·refine Ycd c38 ⟨_,_,rfl,?_⟩;refine Yas (t:=t) ?_ h;unfold hexR;cases hv:hexV (hd t)with
   |none=>rfl
   |some d=>
    have h1:=Ycj hv;rw[hv]at hc;rw[show((0:Int))=((0:Nat):Int)from rfl]at hc
    simp only[Option.getD_some,Option.isSome_some,nib 0 d (by decide) h1,show(15:Int)=((15:Nat):Int)from rfl,nib (0*16+d) 15 (by omega) (by decide),Bool.not_true,Bool.false_or]at hc
    have hc:=of_tlt hc;dsimp only;rw[if_pos (by omega)];rfl
  ·refine⟨tle (by omega),tle (by omega),⟨rfl,.inr (.inl ?_)⟩,by simp⟩;cases hv:hexV (hd t)with
   |none=>rw[hv]at hc;cases hc
   |some d=>
    have h1:=Ycj hv;rw[hv]at hc;rw[show((0:Int))=((0:Nat):Int)from rfl]at hc⊢
    simp only[Option.getD_some,Option.isSome_some,nib 0 d (by decide) h1,show(15:Int)=((15:Nat):Int)from rfl,nib (0*16+d) 15 (by omega) (by decide),Bool.not_true,Bool.false_or]at hc⊢
    have hc:=of_flt hc;exact⟨d,rfl,by omega,by omega,by omega,trivial⟩
 ·have hne:=Ya8 (Yd8 hd1);have h2:=h.next hne
  have h1:=Ycj hd1;have hlo2:=h2.lo;refine⟨fun _=>⟨tle (by omega),fun h0=>absurd (of_teq h0) (by decide),fun _=>⟨teq rfl,tle (by omega),tle (by omega),callB (c49 h2) ⟨_,_,_,rfl,rfl,call1 (c101 (hd t.tail) (Yej _)) ⟨_,_,rfl,rfl,fun hc=>?_,fun hc=>?_⟩⟩⟩⟩,fun h0=>absurd (of_flt h0) (by decide)⟩
  ·refine Ycd c38 ⟨_,_,rfl,?_⟩;refine Yas (t:=t.tail) ?_ h2;unfold hexR;rw[hd1];dsimp only;rw[if_neg hd2];cases hv:hexV (hd t.tail)with
   |none=>rfl
   |some e=>
    have h3:=Ycj hv;rw[hv]at hc;simp only[Option.getD_some,Option.isSome_some,nib d e h1 h3,Bool.not_true,Bool.false_or]at hc;have hc:=of_tlt hc;dsimp only;rw[if_pos (by omega)];rfl
  ·refine⟨tle (by omega),tle (by omega),⟨rfl,.inr (.inr ?_)⟩,by simp⟩;cases hv:hexV (hd t.tail)with
   |none=>rw[hv]at hc;cases hc
   |some e=>
    have h3:=Ycj hv;rw[hv]at hc;simp only[Option.getD_some,Option.isSome_some,nib d e h1 h3,Bool.not_true,Bool.false_or]at hc⊢;have hc:=of_flt hc;refine⟨d*16+e,?_,by omega,by omega,h2.next (Ya8 (Yd8 hv))⟩
    unfold hexR;rw[hd1];dsimp only;rw[if_neg hd2,hv];dsimp only;rw[if_neg (by omega)]
 ·refine⟨fun h0=>absurd (of_tlt h0) (by decide),fun _=>⟨?_,?_,?_⟩⟩
  ·have:=hd2.lo;exact tle (by omega)
  ·have:=hd2.lo;exact tle (by omega)
  ·exact Ybg (by rw[hd1];rfl) hd2
end Go.Rx
end
section
open Go Go.Proofs Go.Ab Go.Rf
set_option maxRecDepth 100000
namespace Go.Rx
theorem At.end_{s t:List UInt8}{i:Int}(h:At s t i)(hc:(s.length:Int)<=i):t=[]:=Classical.byContradiction fun hn=>by have:=h.lt.2 hn;omega
theorem At.more{s t:List UInt8}{i:Int}(h:At s t i)(hc:i<(s.length:Int)):t≠[]:=h.lt.1 hc
theorem Yg4{x:Nat}(h1:x≠110)(h2:x≠116)(h3:x≠114):ctlV x=none:=by
 unfold ctlV;rw[if_neg h1,if_neg h2,if_neg h3]
def escL:List UInt8:=[40,41,91,93,123,125,124,42,43,63,46,92,45,94]
theorem Yif(x:Nat):(escL.any fun b=>b.toNat==x)=(spcV x||x==94||x==45):=by
 simp only[escL,spcV,spcL,List.any_cons,List.any_nil,Bool.or_false];have e1:((45:UInt8).toNat==x)=(x==45):=Bool.eq_iff_iff.2 (by simp;exact eq_comm);have e2:((94:UInt8).toNat==x)=(x==94):=Bool.eq_iff_iff.2 (by simp;exact eq_comm);rw[e1,e2];cases x==94<;>cases x==45<;>simp
theorem c82{q:Ref}{s t:List UInt8}{i:Int}(lo:Nat)(h:At s t (i+1)):Holds Tryz.prog 163 [A.ptr (.up q) 0,A.d (.lit (.int .u8 lo))] (PB q s i) (PAft q s ((escR lo t).map u8A)):=by
 have hlo:=h.lo
 have fin:∀n:Nat,t≠[]->hd t≠120->escV (hd t)=some n->(lo:Int)<=(n:Int)->PAft q s ((escR lo t).map u8A) (.ret (u8A n)) (PB q s (i+1+1)):=fun n hn h1 h2 h3=>by
  refine Ybg (t:=t.tail) ?_ (h.next hn)
  unfold escR;rw[if_neg h1,h2];dsimp only;rw[if_neg (by omega)];rfl
 have low:∀(n:Nat)(j:Int),hd t≠120->escV (hd t)=some n->(n:Int)<(lo:Int)->PAft q s ((escR lo t).map u8A) (.pan (Ybr (i+1))) (PB q s j):=fun n j h1 h2 h3=>by
  refine Yas (t:=t) ?_ h;unfold escR;rw[if_neg h1,h2];dsimp only;rw[if_pos (by omega)];rfl
 have non:∀(j:Int),hd t≠120->escV (hd t)=none->PAft q s ((escR lo t).map u8A) (.pan (Ybr (i+1))) (PB q s j):=fun j h1 h2=>by
  refine Yas (t:=t) ?_ h;unfold escR;rw[if_neg h1,h2];rfl
 refine w82 s i lo q ⟨tle (by omega),tle (by omega),callB (c49 h) ⟨_,_,_,rfl,rfl,fun hc=>?_,fun hc=>⟨fun h0=>?_,fun h0=>⟨fun h1=>⟨fun h2=>?_,fun h2=>?_⟩,fun h1=>⟨fun h2=>⟨fun h3=>?_,fun h3=>?_⟩,fun h2=>⟨fun h3=>⟨fun h4=>?_,fun h4=>?_⟩,fun h3=>?_⟩⟩⟩⟩⟩⟩
 ·have ht:=h.end_ (of_tle hc);subst ht;have e:(s.length:Int)=i+1:=by have:=h.pos;simp at this;omega
  rw[e];exact Ycd c38 ⟨_,_,rfl,non _ (by decide) rfl⟩
 ·have h0:=of_teq h0;have e:escR lo t=hexR lo t.tail:=by unfold escR;rw[if_pos (by omega)]
  have hn:=h.more (of_fle hc);rw[e];exact Yce (c93 lo (h.next hn)) (fun v t' i' e hi=>by obtain⟨n,e1,rfl⟩:=Ybl e;exact⟨_,_,_,rfl,rfl,Ybg e hi⟩) (fun t' i' j e hi=>⟨_,_,rfl,Yas e hi⟩)
 ·exact Ycd c38 ⟨_,_,rfl,low 10 _ (by have:=of_feq h0;omega) (by rw[show hd t=110 by have:=of_teq h1;omega];rfl) (of_tlt h2)⟩
 ·exact⟨tle (by omega),tle (by omega),fin 10 (h.more (of_fle hc)) (by have:=of_feq h0;omega) (by rw[show hd t=110 by have:=of_teq h1;omega];rfl) (of_flt h2)⟩
 ·exact Ycd c38 ⟨_,_,rfl,low 9 _ (by have:=of_feq h0;omega) (by rw[show hd t=116 by have:=of_teq h2;omega];rfl) (of_tlt h3)⟩
 ·exact⟨tle (by omega),tle (by omega),fin 9 (h.more (of_fle hc)) (by have:=of_feq h0;omega) (by rw[show hd t=116 by have:=of_teq h2;omega];rfl) (of_flt h3)⟩
 ·exact Ycd c38 ⟨_,_,rfl,low 13 _ (by have:=of_feq h0;omega) (by rw[show hd t=114 by have:=of_teq h3;omega];rfl) (of_tlt h4)⟩
 ·exact⟨tle (by omega),tle (by omega),fin 13 (h.more (of_fle hc)) (by have:=of_feq h0;omega) (by rw[show hd t=114 by have:=of_teq h3;omega];rfl) (of_flt h4)⟩
 ·have hx:hd t≠120:=by have:=of_feq h0;omega
  have ec:ctlV (hd t)=none:=Yg4 (by have:=of_feq h1;omega) (by have:=of_feq h2;omega) (by have:=of_feq h3;omega);have hidx:=idxV_nonneg escL (hd t) (Yej t);rw[Yif]at hidx;refine call1 (c83 escL (hd t)) ⟨_,rfl,rfl,fun h4=>?_,fun h4=>⟨fun h5=>?_,fun h5=>?_⟩⟩
  ·have h4:=of_tlt h4;have hb:¬((spcV (hd t)||hd t==94||hd t==45)=true):=fun hb=>by have:=hidx.2 hb;omega
   refine Ycd c38 ⟨_,_,rfl,non _ hx ?_⟩;unfold escV;rw[ec];dsimp only;rw[if_neg hb]
  ·have h4:=of_flt h4;have es:escV (hd t)=some (hd t):=by unfold escV;rw[ec];dsimp only;rw[if_pos (hidx.1 h4)]
   exact Ycd c38 ⟨_,_,rfl,low _ _ hx es (of_tlt h5)⟩
  ·have h4:=of_flt h4;have es:escV (hd t)=some (hd t):=by unfold escV;rw[ec];dsimp only;rw[if_pos (hidx.1 h4)]
   exact⟨tle (by omega),tle (by omega),fin _ (h.more (of_fle hc)) hx es (of_flt h5)⟩
def itemL:List UInt8:=[40,41,91,93,123,125,124,42,43,63,46,94,45]
theorem Yg5(x:Nat)(h:x≠92):(itemL.any fun b=>b.toNat==x)=(spcV x||x==94||x==45):=by
 simp only[itemL,spcV,spcL,List.any_cons,List.any_nil,Bool.or_false];have e1:((45:UInt8).toNat==x)=(x==45):=Bool.eq_iff_iff.2 (by simp;exact eq_comm);have e2:((94:UInt8).toNat==x)=(x==94):=Bool.eq_iff_iff.2 (by simp;exact eq_comm);have e3:((92:UInt8).toNat==x)=false:=by simpa using fun e=>h e.symm
 rw[e1,e2,e3];simp[Bool.or_assoc]
theorem c90{q:Ref}{s t:List UInt8}{i:Int}(lo:Nat)(h:At s t i):Holds Tryz.prog 172 [A.ptr (.up q) 0,A.d (.lit (.int .u8 lo))] (PB q s i) (PAft q s ((Ybs lo t).map u8A)):=by
 have hlo:=h.lo
 have bad:∀(j:Int),hd t≠92->(hd t<32\/126<hd t\/hd t<lo\/(spcV (hd t)||hd t==94||hd t==45)=true)->PAft q s ((Ybs lo t).map u8A) (.pan (Ybr i)) (PB q s j):=fun j h1 h2=>by
  refine Yas (t:=t) ?_ h;unfold Ybs;rw[if_neg h1,if_pos h2];rfl
 refine w90 s i lo q (callB (c49 h) ⟨_,_,_,rfl,rfl,fun hc=>?_,fun hc=>⟨fun h0=>?_,fun h0=>⟨fun h1=>?_,fun h1=>?_⟩⟩⟩)
 ·have ht:=h.end_ (of_tle hc);subst ht;have e:(s.length:Int)=i:=by have:=h.pos;simp at this;omega
  rw[e];exact Ycd c38 ⟨_,_,rfl,bad _ (by decide) (.inl (by decide))⟩
 ·have h0:=of_teq h0;have e:Ybs lo t=escR lo t.tail:=by unfold Ybs;rw[if_pos (by omega)]
  rw[e];exact Yce (c82 lo (h.next (h.more (of_fle hc)))) (fun v t' i' e hi=>by obtain⟨n,e1,rfl⟩:=Ybl e;exact⟨_,_,_,rfl,rfl,Ybg e hi⟩) (fun t' i' j e hi=>⟨_,_,rfl,Yas e hi⟩)
 ·have hx:hd t≠92:=by have:=of_feq h0;omega
  have hidx:=idxV_nonneg itemL (hd t) (Yej t);rw[Yg5 _ hx]at hidx;simp only[Zwb,Bool.not_eq_true',Bool.or_eq_false_iff,decide_eq_false_iff_not]at h1;refine call1 (c83 itemL (hd t)) ⟨_,rfl,rfl,fun h4=>?_,fun h4=>?_⟩
  ·exact Ycd c38 ⟨_,_,rfl,bad _ hx (.inr (.inr (.inr (hidx.1 (of_tle h4)))))⟩
  ·have h4:=of_fle h4;refine⟨tle (by omega),tle (by omega),Ybg (t:=t.tail) ?_ (h.next (h.more (of_fle hc)))⟩
   unfold Ybs;rw[if_neg hx,if_neg]
   ·rfl
   ·rintro(h5|h5|h5|h5)
    ·omega
    ·omega
    ·omega
    ·have:=hidx.2 h5;omega
 ·have hx:hd t≠92:=by have:=of_feq h0;omega
  simp only[Zwb,Bool.not_eq_false',Bool.or_eq_true,decide_eq_true_eq]at h1;exact Ycd c38 ⟨_,_,rfl,bad _ hx (by omega)⟩
def setC(n:Nat)(neg:Bool)(p:Nat->Bool)(t:List UInt8):Option (Res Rx):=if hd t=93 then some (.ok (setX (negP neg p)) t.tail)else setL n neg p t
structure SetI (s:List UInt8) (neg:Bool) (res:Res Rx) (b:Bool) (a0 a1 a2 a3:D) (s':List UInt8) (i:Int) (n:Nat) (p:Nat->Bool) (t:List UInt8):Prop where
 es:s'=s
 e0:a0=.lit (.int .u64 (wd p 0))
 e1:a1=.lit (.int .u64 (wd p 1))
 e2:a2=.lit (.int .u64 (wd p 2))
 e3:a3=.lit (.int .u64 (wd p 3))
 at_:At s t i
 run:(if b then setL n neg p t else setC n neg p t)=some res
theorem Yek{n:Nat}{neg:Bool}{p:Nat->Bool}{t t1 t3:List UInt8}{lo hi:Nat}{res:Res Rx}(h:setL n neg p t=some res)(h1:Ybs 0 t=.ok lo t1)(h2:hiR lo t1=.ok hi t3):∃m,setC m neg (orP p (rng lo hi)) t3=some res:=by
 cases n with
 |zero=>simp[setL]at h
 |succ m=>
  refine⟨m,?_⟩;unfold setL at h;rw[h1]at h;dsimp only at h;rw[h2]at h;exact h
theorem Yel{n:Nat}{neg:Bool}{p:Nat->Bool}{t q:List UInt8}{res:Res Rx}(h:setL n neg p t=some res)(h1:Ybs 0 t=.bad q):res=.bad q:=by
 cases n with
 |zero=>simp[setL]at h
 |succ m=>
  unfold setL at h;rw[h1]at h;cases h;rfl
theorem Yem{n:Nat}{neg:Bool}{p:Nat->Bool}{t t1 q:List UInt8}{lo:Nat}{res:Res Rx}(h:setL n neg p t=some res)(h1:Ybs 0 t=.ok lo t1)(h2:hiR lo t1=.bad q):res=.bad q:=by
 cases n with
 |zero=>simp[setL]at h
 |succ m=>
  unfold setL at h;rw[h1]at h;dsimp only at h;rw[h2]at h;cases h;rfl
theorem SetI.lt{s t:List UInt8}{i i':Int}{t':List UInt8}(h:At s t i)(h':At s t' i')(hl:t'.length<t.length):((s.length:Int)-i').toNat<((s.length:Int)-i).toNat:=by
 have:=h.pos;have:=h'.pos;omega
theorem Ybn(lo:Nat){t t':List UInt8}{n:Nat}(h:Ybs lo t=.ok n t'):n<256:=by
 have h0:=Yej t
 have hx:∀t:List UInt8,hexR lo t=.ok n t'->n<256:=fun t h=>by
  unfold hexR at h;split at h
  ·cases h
  ·rename_i d hd1;split at h
   ·cases h
   ·split at h
    ·cases h
    ·rename_i e hd2;have:=Ycj hd1;have:=Ycj hd2;split at h
     ·cases h
     ·cases h;omega
 unfold Ybs at h;split at h
 ·unfold escR at h;split at h
  ·exact hx _ h
  ·split at h
   ·cases h
   ·rename_i m hm;split at h
    ·cases h
    ·cases h;have h1:=Yej t.tail;unfold escV at hm;split at hm
     ·rename_i k hk;cases hm;unfold ctlV at hk
      repeat' split at hk
      all_goals first|cases hk;decide|cases hk
     ·split at hm
      ·cases hm;exact h1
      ·cases hm
 ·split at h
  ·cases h
  ·cases h;exact h0
theorem c79r(lo hi:Nat)(h:hi<256)(hl:lo<256):∀_:Nat->Nat,Holds Tryz.prog 160 [A.d (.lit (.int .u8 lo)),A.d (.lit (.int .u8 hi))] [] (Zpq [] (.agg (row4 (rng lo hi)))):=fun _=>c79' lo hi h hl
theorem Yen(k:Nat):wd no k=0:=Yfd (by decide) fun j _=>Nat.zero_testBit j
theorem c78{q:Ref}{s t:List UInt8}{i:Int}(n:Nat)(res:Res Rx)(hr:setR n t=some res)(h:At s t (i+1)):Holds Tryz.prog 159 [A.ptr (.up q) 0] (PB q s i) (PAft q s (res.map fun r=>A.agg (enc r))):=by
 have hlo:=h.lo;refine w78 s i q ⟨tle (by omega),tle (by omega),callB (c49 h) ⟨_,_,_,rfl,rfl,fun h0=>⟨tle (by omega),tle (by omega),?_⟩,fun h0=>callB (c49 h) ⟨_,_,_,rfl,rfl,fun h1=>?_,fun h1=>?_⟩⟩⟩
 ·have h0:=of_teq h0;have hn:t≠[]:=Ya8 (by omega);have hr':setL n true no t.tail=some res:=by unfold setR at hr;rw[if_pos (by omega)]at hr;exact hr
  refine⟨fun b a0 a1 a2 a3 s' i'=>∃n p t,SetI s true res b a0 a1 a2 a3 s' i' n p t,fun _ _ _ _ _ s' i'=>((s'.length:Int)-i').toNat,⟨n,no,t.tail,rfl,by simp[Yen],by simp[Yen],by simp[Yen],by simp[Yen],h.next hn,hr'⟩,?_,trivial⟩
  rintro b a0 a1 a2 a3 s' i' ⟨m,p,t',rfl,rfl,rfl,rfl,rfl,hat,hrun⟩;have hlo':=hat.lo
  have key:∀n,setL n true p t'=some res-> ∀lo t1 i1,Ybs 0 t'=.ok lo t1->At s' t1 i1-> ∀hi t3 i3,hiR lo t1=.ok hi t3->At s' t3 i3->
   (∃n p' t,SetI s' true res false ((row4 (orP p (rng lo hi))).getD 0 D0) ((row4 (orP p (rng lo hi))).getD 1 D0) ((row4 (orP p (rng lo hi))).getD 2 D0) ((row4 (orP p (rng lo hi))).getD 3 D0) s' i3 n p' t)/\((s'.length:Int)-i3).toNat<((s'.length:Int)-i').toNat:=fun n hs lo t1 i1 e1 h1 hi t3 i3 e2 h2=>by
   obtain⟨m,hm⟩:=Yek hs e1 e2;refine⟨⟨m,orP p (rng lo hi),t3,rfl,rfl,rfl,rfl,rfl,h2,hm⟩,SetI.lt hat h2 ?_⟩;have hl1:=Ycu 0 t';rw[e1]at hl1;have hl2:=Yfw lo t1;rw[e2]at hl2;have:=hl1.1;have:=List.IsSuffix.length_le hl2;omega
  refine⟨fun hb=>callB (c49 hat) ⟨_,_,_,rfl,rfl,fun hc=>?_,fun hc=>?_⟩,fun hb=>?_⟩
  rotate_left
  ·have hc:hd t'=93:=by simp at hc;omega
   have hn':t'≠[]:=Ya8 (by omega);have hb:b=false:=by simpa using hb
   subst hb;simp only[Bool.false_eq_true,if_false,setC,if_pos hc]at hrun;cases hrun;refine⟨tle (by omega),tle (by omega),call1 (c92 p) ⟨_,rfl,rfl,rfl,?_⟩⟩;exact⟨rfl,_,hat.next hn',rfl⟩
  all_goals
   have hrun':setL m true p t'=some res:=by
    first
     |(have hb:b=true:=by simpa using hb
       subst hb;exact hrun)
     |(have hb:b=false:=by simpa using hb
       subst hb;have hc:hd t'≠93:=by simp at hc;omega
       simp only[Bool.false_eq_true,if_false,setC,if_neg hc]at hrun;exact hrun)
   refine Yce (c90 0 hat) (fun v t1 i1 e1 hi1=>?_) (fun t1 i1 j e1 hi1=>?_)
   ·obtain⟨lo,f1,rfl⟩:=Ybl e1;have hlo1:=hi1.lo;refine⟨_,_,_,rfl,rfl,callB (c49 hi1) ⟨_,_,_,rfl,rfl,fun h2=>?_,fun h2=>?_⟩⟩
    ·have h2:=of_teq h2;have hn1:t1≠[]:=Ya8 (by omega);have eh:hiR lo t1=Ybs lo t1.tail:=by unfold hiR;rw[if_pos (by omega)]
     refine⟨tle (by omega),tle (by omega),Yce (c90 lo (hi1.next hn1)) (fun v t3 i3 e3 hi3=>?_) (fun t3 i3 j e3 hi3=>?_)⟩
     ·obtain⟨hi,f3,rfl⟩:=Ybl e3;exact⟨_,_,_,rfl,rfl,_,c79r lo hi (Ybn _ f3) (Ybn _ f1),call1 (c91' p (rng lo hi)) ⟨_,rfl,rfl,rfl,(key m hrun' lo t1 i1 f1 hi1 hi t3 i3 (by rw[eh,f3]) hi3)⟩⟩
     ·have e3:=Ybj e3;have:=Yem hrun' f1 (by rw[eh,e3]);subst this;exact⟨_,_,rfl,Yas rfl hi3⟩
    ·have h2:=of_feq h2;have eh:hiR lo t1=.ok lo t1:=by unfold hiR;rw[if_neg (by omega)]
     exact⟨_,c79r lo lo (Ybn _ f1) (Ybn _ f1),call1 (c91' p (rng lo lo)) ⟨_,rfl,rfl,rfl,(key m hrun' lo t1 i1 f1 hi1 lo t1 i1 eh hi1)⟩⟩
   ·have e1:=Ybj e1;have:=Yel hrun' e1;subst this;exact⟨_,_,rfl,Yas rfl hi1⟩
 ·have h0:=of_feq h0;have h1:=of_teq h1;have hn:t≠[]:=Ya8 (by omega);unfold setR at hr;rw[if_neg (by omega),if_pos (by omega)]at hr;cases hr;exact⟨tle (by omega),tle (by omega),Ybg rfl (h.next hn)⟩
 ·have h0:=of_feq h0;have h1:=of_feq h1;have hr':setL n false no t=some res:=by unfold setR at hr;rw[if_neg (by omega),if_neg (by omega)]at hr;exact hr
  refine⟨fun b a0 a1 a2 a3 s' i'=>∃n p t,SetI s false res b a0 a1 a2 a3 s' i' n p t,fun _ _ _ _ _ s' i'=>((s'.length:Int)-i').toNat,⟨n,no,t,rfl,by simp[Yen],by simp[Yen],by simp[Yen],by simp[Yen],h,hr'⟩,?_,trivial⟩;rintro b a0 a1 a2 a3 s' i' ⟨m,p,t',rfl,rfl,rfl,rfl,rfl,hat,hrun⟩;have hlo':=hat.lo
  have key:∀n,setL n false p t'=some res-> ∀lo t1 i1,Ybs 0 t'=.ok lo t1->At s' t1 i1-> ∀hi t3 i3,hiR lo t1=.ok hi t3->At s' t3 i3->
   (∃n p' t,SetI s' false res false ((row4 (orP p (rng lo hi))).getD 0 D0) ((row4 (orP p (rng lo hi))).getD 1 D0) ((row4 (orP p (rng lo hi))).getD 2 D0) ((row4 (orP p (rng lo hi))).getD 3 D0) s' i3 n p' t)/\((s'.length:Int)-i3).toNat<((s'.length:Int)-i').toNat:=fun n hs lo t1 i1 e1 h1 hi t3 i3 e2 h2=>by
   obtain⟨m,hm⟩:=Yek hs e1 e2;refine⟨⟨m,orP p (rng lo hi),t3,rfl,rfl,rfl,rfl,rfl,h2,hm⟩,SetI.lt hat h2 ?_⟩;have hl1:=Ycu 0 t';rw[e1]at hl1;have hl2:=Yfw lo t1;rw[e2]at hl2;have:=hl1.1;have:=List.IsSuffix.length_le hl2;omega
  refine⟨fun hb=>callB (c49 hat) ⟨_,_,_,rfl,rfl,fun hc=>?_,fun hc=>?_⟩,fun hb=>?_⟩
  rotate_left
  ·have hc:hd t'=93:=by simp at hc;omega
   have hn':t'≠[]:=Ya8 (by omega);have hb:b=false:=by simpa using hb
   subst hb;simp only[Bool.false_eq_true,if_false,setC,if_pos hc]at hrun;cases hrun;exact⟨tle (by omega),tle (by omega),rfl,_,hat.next hn',rfl⟩
  all_goals
   have hrun':setL m false p t'=some res:=by
    first
     |(have hb:b=true:=by simpa using hb
       subst hb;exact hrun)
     |(have hb:b=false:=by simpa using hb
       subst hb;have hc:hd t'≠93:=by simp at hc;omega
       simp only[Bool.false_eq_true,if_false,setC,if_neg hc]at hrun;exact hrun)
   refine Yce (c90 0 hat) (fun v t1 i1 e1 hi1=>?_) (fun t1 i1 j e1 hi1=>?_)
   ·obtain⟨lo,f1,rfl⟩:=Ybl e1;have hlo1:=hi1.lo;refine⟨_,_,_,rfl,rfl,callB (c49 hi1) ⟨_,_,_,rfl,rfl,fun h2=>?_,fun h2=>?_⟩⟩
    ·have h2:=of_teq h2;have hn1:t1≠[]:=Ya8 (by omega);have eh:hiR lo t1=Ybs lo t1.tail:=by unfold hiR;rw[if_pos (by omega)]
     refine⟨tle (by omega),tle (by omega),Yce (c90 lo (hi1.next hn1)) (fun v t3 i3 e3 hi3=>?_) (fun t3 i3 j e3 hi3=>?_)⟩
     ·obtain⟨hi,f3,rfl⟩:=Ybl e3;exact⟨_,_,_,rfl,rfl,_,c79r lo hi (Ybn _ f3) (Ybn _ f1),call1 (c91' p (rng lo hi)) ⟨_,rfl,rfl,rfl,(key m hrun' lo t1 i1 f1 hi1 hi t3 i3 (by rw[eh,f3]) hi3)⟩⟩
     ·have e3:=Ybj e3;have:=Yem hrun' f1 (by rw[eh,e3]);subst this;exact⟨_,_,rfl,Yas rfl hi3⟩
    ·have h2:=of_feq h2;have eh:hiR lo t1=.ok lo t1:=by unfold hiR;rw[if_neg (by omega)]
     exact⟨_,c79r lo lo (Ybn _ f1) (Ybn _ f1),call1 (c91' p (rng lo lo)) ⟨_,rfl,rfl,rfl,(key m hrun' lo t1 i1 f1 hi1 lo t1 i1 eh hi1)⟩⟩
   ·have e1:=Ybj e1;have:=Yel hrun' e1;subst this;exact⟨_,_,rfl,Yas rfl hi1⟩
end Go.Rx
end
section
open Go Go.Proofs Go.Ab Go.Rf
set_option maxRecDepth 100000
namespace Go.Rx
def encA(r:Rx):A:=.agg (enc r)
def K37(n:Nat):Prop:=∀(q:Ref)(s t:List UInt8)(i:Int)(res:Res Rx),alts n t=some res->At s t i->Holds Tryz.prog 127 [A.ptr (.up q) 0] (PB q s i) (PAft q s (res.map encA))
def K48(n:Nat):Prop:=∀(q:Ref)(s t:List UInt8)(i:Int)(res:Res Rx),seqs n t=some res->At s t i->Holds Tryz.prog 137 [A.ptr (.up q) 0] (PB q s i) (PAft q s (res.map encA))
def K65(n:Nat):Prop:=∀(q:Ref)(s t:List UInt8)(i:Int)(res:Res Rx),Yb2 n t=some res->At s t i->Holds Tryz.prog 149 [A.ptr (.up q) 0] (PB q s i) (PAft q s (res.map encA))
def K73(n:Nat):Prop:=∀(q:Ref)(s t:List UInt8)(i:Int)(res:Res Rx),atom n t=some res->At s t i->Holds Tryz.prog 154 [A.ptr (.up q) 0] (PB q s i) (PAft q s (res.map encA))
theorem teq6(r:Rx):(tB (((enc r).length:Int)==6))=true:=teq (by simp)
def Yfx(n:Nat)(t:List UInt8):Option (Res Rx):=
 if hd t=41 then some (.ok (mk0 1 []) t.tail)else match alts n t with
  |none=>none
  |some (.bad q)=>some (.bad q)
  |some (.ok r t1)=>some (Yds r t1)
theorem c77{n:Nat}(K:K37 n){q:Ref}{s t:List UInt8}{i:Int}{res:Res Rx}(hr:Yfx n t=some res)(h:At s t (i+1)):Holds Tryz.prog 158 [A.ptr (.up q) 0] (PB q s i) (PAft q s (res.map encA)):=by
 have hlo:=h.lo;refine w77 s i q ⟨tle (by omega),tle (by omega),callB (c49 h) ⟨_,_,_,rfl,rfl,fun h0=>?_,fun h0=>?_⟩⟩
 ·have h0:=of_teq h0;unfold Yfx at hr;rw[if_pos (by omega)]at hr;cases hr;exact⟨tle (by omega),tle (by omega),Ybg rfl (h.next (Ya8 (by omega)))⟩
 ·have h0:=of_feq h0;unfold Yfx at hr;rw[if_neg (by omega)]at hr;cases ha:alts n t with
  |none=>rw[ha]at hr;cases hr
  |some ra=>
   rw[ha]at hr;refine Yce (K (.up q) s t (i+1) ra ha h) (fun v t1 i1 e1 hi1=>?_) (fun t1 i1 j e1 hi1=>?_)
   ·obtain⟨r,f1,rfl⟩:=Ybl e1;subst f1;cases hr;have hlo1:=hi1.lo;refine⟨_,_,_,rfl,rfl,teq6 r,callB (c49 hi1) ⟨_,_,_,rfl,rfl,fun h2=>?_,fun h2=>?_⟩⟩
    ·have h2:hd t1≠41:=by simp at h2;omega
     refine Ycd c38 ⟨_,_,rfl,Yas (t:=t1) ?_ hi1⟩;unfold Yds;rw[if_neg h2];rfl
    ·have h2:hd t1=41:=by simp at h2;omega
     refine⟨tle (by omega),tle (by omega),Ybg (t:=t1.tail) ?_ (hi1.next (Ya8 (by omega)))⟩
     unfold Yds;rw[if_pos h2];rfl
   ·have f1:=Ybj e1;subst f1;cases hr;exact⟨_,_,rfl,Yas rfl hi1⟩
theorem c73{n:Nat}(K:K37 n):K73 (n+1):=by
 intro q s t i res hr h;have hlo:=h.lo;have hx:=Yej t;unfold atom at hr
 have bad:hd t≠40->hd t≠91->hd t≠46->hd t≠92->(hd t<32\/126<hd t\/spcV (hd t)=true)-> ∀j,PAft q s (res.map encA) (.pan (Ybr i)) (PB q s j):=fun h1 h2 h3 h4 h5 j=>by
  rw[if_neg h1,if_neg h2,if_neg h3,if_neg h4,if_pos h5]at hr;cases hr;exact Yas rfl h
 refine w73 s i q (callB (c49 h) ⟨_,_,_,rfl,rfl,fun hc=>?_,fun hc=>⟨fun h0=>?_,fun h0=>⟨fun h1=>?_,fun h1=>⟨fun h2=>?_,fun h2=>⟨fun h3=>?_,fun h3=>⟨fun h4=>?_,fun h4=>?_⟩⟩⟩⟩⟩⟩)
 ·have ht:=h.end_ (of_tle hc);subst ht;have e:(s.length:Int)=i:=by have:=h.pos;simp at this;omega
  rw[e];exact Ycd c38 ⟨_,_,rfl,bad (by decide) (by decide) (by decide) (by decide) (.inl (by decide)) _⟩
 ·have h0:=of_teq h0;have hn:t≠[]:=Ya8 (by omega);rw[if_pos (by omega)]at hr;have hg:Yfx n t.tail=some res:=hr;exact Yce (c77 K hg (h.next hn)) (fun v t1 i1 e1 hi1=>by obtain⟨r,f1,rfl⟩:=Ybl e1;exact⟨_,_,_,rfl,rfl,teq6 r,Ybg e1 hi1⟩) (fun t1 i1 j e1 hi1=>⟨_,_,rfl,Yas e1 hi1⟩)
 ·have h0:=of_feq h0;have h1:=of_teq h1;have hn:t≠[]:=Ya8 (by omega);rw[if_neg (by omega),if_pos (by omega)]at hr;exact Yce (c78 n res hr (h.next hn)) (fun v t1 i1 e1 hi1=>by obtain⟨r,f1,rfl⟩:=Ybl e1;exact⟨_,_,_,rfl,rfl,teq6 r,Ybg e1 hi1⟩) (fun t1 i1 j e1 hi1=>⟨_,_,rfl,Yas e1 hi1⟩)
 ·have h0:=of_feq h0;have h1:=of_feq h1;have h2:=of_teq h2;have hn:t≠[]:=Ya8 (by omega);rw[if_neg (by omega),if_neg (by omega),if_pos (by omega)]at hr;cases hr;exact⟨tle (by omega),tle (by omega),call1 (c79' 0 255 (by decide) (by decide)) ⟨_,rfl,rfl,rfl,Ybg rfl (h.next hn)⟩⟩
 ·have h0:=of_feq h0;have h1:=of_feq h1;have h2:=of_feq h2;have h3:=of_teq h3;have hn:t≠[]:=Ya8 (by omega);have h':=h.next hn
  have hlo':=h'.lo;rw[if_neg (by omega),if_neg (by omega),if_neg (by omega),if_pos (by omega)]at hr
  have esc:clsV (hd t.tail)=none-> ∀(Q1:A->List (Ref×List A)->Prop)(Q2:Value->List (Ref×List A)->Prop),(∀c t1 i1,c<256->At s t1 i1->PAft q s (res.map encA) (.ret (encA (oneX c))) (PB q s i1)->Q1 (u8A c) (PB (.up q) s i1))->(∀i1 j,PAft q s (res.map encA) (.pan (Ybr i1)) (PB q s j)->Q2 (Ybr i1) (PB (.up q) s j))->
   ∀_:Nat->Nat,∃R':Out->List (Ref×List A)->Prop,Holds Tryz.prog 163 [(A.ptr (.up (Ref.up q)) 0),A.d (.lit (.int .u8 (0:Int)))] (PB (.up q) s i) R'/\(∀v H',R' (.ret v) H'->Q1 v H')/\(∀u H',R' (.pan u) H'->Q2 u H'):=fun hcl Q1 Q2 k1 k2=>by
   rw[hcl]at hr;refine Yce (c82 0 h') (fun v t1 i1 e1 hi1=>?_) (fun t1 i1 j e1 hi1=>?_)
   ·obtain⟨c,f1,rfl⟩:=Ybl e1;rw[f1]at hr;cases hr;have hc:c<256:=Ybn 0 (t:=t) (by unfold Ybs;rw[if_pos (by omega),f1]);exact k1 c t1 i1 hc hi1 (Ybg rfl hi1)
   ·have f1:=Ybj e1;rw[f1]at hr;cases hr;exact k2 i1 j (Yas rfl hi1)
  refine⟨tle (by omega),tle (by omega),fun hm=>?_,fun hm=>?_⟩
  ·have hn':=h'.more (of_tlt hm);rw[h'.byte hn'];refine⟨tle (by omega),call1 (c80 (hd t.tail) (Yej _)) ⟨_,_,rfl,rfl,rfl,fun hs=>?_,fun hs=>?_⟩⟩
   ·cases hcl:clsV (hd t.tail)with
    |none=>rw[hcl]at hs;cases hs
    |some p=>
     rw[hcl]at hr;cases hr;have h'':=h'.next hn'
     rw[show i+1+1=i+2 by omega]at h'';exact⟨tle (by omega),tle (by omega),Ybg rfl h''⟩
   ·cases hcl:clsV (hd t.tail)with
    |some p=>rw[hcl]at hs;cases hs
    |none=>
     exact esc hcl _ _ (fun c t1 i1 hc hi1 k=>⟨_,_,_,rfl,rfl,call1 (c81 c hc) ⟨_,rfl,rfl,teq6 _,k⟩⟩) (fun i1 j k=>⟨_,_,rfl,k⟩)
  ·have hn':=h'.end_ (of_flt hm);exact esc (by rw[hn'];rfl) _ _ (fun c t1 i1 hc hi1 k=>⟨_,_,_,rfl,rfl,call1 (c81 c hc) ⟨_,rfl,rfl,teq6 _,k⟩⟩) (fun i1 j k=>⟨_,_,rfl,k⟩)
 ·have h0:=of_feq h0;have h1:=of_feq h1;have h2:=of_feq h2;have h3:=of_feq h3;simp only[Zwb,Bool.not_eq_true',Bool.or_eq_false_iff,decide_eq_false_iff_not]at h4;have hidx:=idxV_nonneg spcL (hd t) hx;refine call1 (c83 spcL (hd t)) ⟨_,rfl,rfl,fun h5=>?_,fun h5=>?_⟩
  ·exact Ycd c38 ⟨_,_,rfl,bad (by omega) (by omega) (by omega) (by omega) (.inr (.inr (hidx.1 (of_tle h5)))) _⟩
  ·have h5:=of_fle h5;have hn:=h.more (of_fle hc);have hsp:¬spcV (hd t)=true:=fun hb=>by have:=hidx.2 hb;omega
   rw[if_neg (by omega),if_neg (by omega),if_neg (by omega),if_neg (by omega),if_neg (by rintro(h6|h6|h6)<;>first|omega|exact hsp h6)]at hr
   cases hr;exact⟨tle (by omega),tle (by omega),call1 (c81 (hd t) hx) ⟨_,rfl,rfl,teq6 _,Ybg rfl (h.next hn)⟩⟩
 ·have h0:=of_feq h0;have h1:=of_feq h1;have h2:=of_feq h2;have h3:=of_feq h3;simp only[Zwb,Bool.not_eq_false',Bool.or_eq_true,decide_eq_true_eq]at h4;exact Ycd c38 ⟨_,_,rfl,bad (by omega) (by omega) (by omega) (by omega) (by omega) _⟩
theorem Yeo(r:Rx):[(enc r).getD 0 D0,(enc r).getD 1 D0,(enc r).getD 2 D0,(enc r).getD 3 D0,(enc r).getD 4 D0,(enc r).getD 5 D0]=enc r:=by cases r;rfl
theorem Ydc{m:Nat}{r r':Rx}{t:List UInt8}{res:Res Rx}(h:opsL m r t=some res)(h1:opX (hd t) r=some r'):∃m',opsL m' r' t.tail=some res:=by
 cases m with
 |zero=>simp[opsL]at h
 |succ m=>refine⟨m,?_⟩;unfold opsL at h;rw[h1]at h;exact h
theorem Yg6{m:Nat}{r:Rx}{t:List UInt8}{res:Res Rx}(h:opsL m r t=some res)(h1:opX (hd t) r=none):res=.ok r t:=by
 cases m with
 |zero=>simp[opsL]at h
 |succ m=>unfold opsL at h;rw[h1]at h;cases h;rfl
theorem c65{n:Nat}(K:K73 n):K65 (n+1):=by
 intro q s t i res hr h;unfold Yb2 at hr;cases ha:atom n t with
 |none=>rw[ha]at hr;cases hr
 |some ra=>
  rw[ha]at hr;refine w65 s i q (Yce (K (.up q) s t i ra ha h) (fun v t1 i1 e1 hi1=>?_) (fun t1 i1 j e1 hi1=>?_))
  ·obtain⟨r,f1,rfl⟩:=Ybl e1;subst f1;refine⟨_,_,_,rfl,rfl,teq6 r,fun a b c d e f s' i'=>∃m r t,s'=s/\[a,b,c,d,e,f]=enc r/\At s t i'/\opsL m r t=some res,fun _ _ _ _ _ _ s' i'=>((s'.length:Int)-i').toNat,⟨n,r,t1,rfl,Yeo r,hi1,hr⟩,?_,trivial⟩;rintro a b c d e f s' i' ⟨m,r',t',rfl,he,hat,hrun⟩;have hlo':=hat.lo;have lt:t'≠[]->((s'.length:Int)-(i'+1)).toNat<((s'.length:Int)-i').toNat:=fun hn=>by have:=hat.lt.2 hn;omega
   refine callB (c49 hat) ⟨_,_,_,rfl,rfl,fun h0=>?_,fun h0=>⟨fun h1=>?_,fun h1=>⟨fun h2=>?_,fun h2=>?_⟩⟩⟩
   ·have h0:=of_teq h0;have hn:=Ya8 (t:=t') (by omega);obtain⟨m',hm⟩:=Ydc hrun (r':=Yg1 r') (by unfold opX;rw[if_pos (by omega)]);refine⟨tle (by omega),tle (by omega),⟨m',_,_,rfl,?_,hat.next hn,hm⟩,lt hn⟩
    rw[he];rfl
   ·have h0:=of_feq h0;have h1:=of_teq h1;have hn:=Ya8 (t:=t') (by omega);obtain⟨m',hm⟩:=Ydc hrun (r':=mk0 3 [r',Yg1 r']) (by unfold opX;rw[if_neg (by omega),if_pos (by omega)]);refine⟨tle (by omega),tle (by omega),⟨m',_,_,rfl,?_,hat.next hn,hm⟩,lt hn⟩
    rw[he];rfl
   ·have h0:=of_feq h0;have h1:=of_feq h1;have h2:=of_teq h2;have hn:=Ya8 (t:=t') (by omega);obtain⟨m',hm⟩:=Ydc hrun (r':=mk0 4 [r',mk0 1 []]) (by unfold opX;rw[if_neg (by omega),if_neg (by omega),if_pos (by omega)]);refine⟨tle (by omega),tle (by omega),⟨m',_,_,rfl,?_,hat.next hn,hm⟩,lt hn⟩
    rw[he];rfl
   ·have h0:=of_feq h0;have h1:=of_feq h1;have h2:=of_feq h2;have:=Yg6 hrun (by unfold opX;rw[if_neg (by omega),if_neg (by omega),if_neg (by omega)]);subst this;rw[he];exact Ybg rfl hat
  ·have f1:=Ybj e1;subst f1;cases hr;exact⟨_,_,rfl,Yas rfl hi1⟩
theorem Yig{C:Ctx}{r:Ref}{x:A}{H:List (Ref×List A)}{g:Gh}{w:World}(h:HeapRel C (Zax ((r,[x])::H)) g w):HeapRel C (Zax ((r,[A.any])::H)) g w:=by
 have old:∀{o b},Owns (Zax ((r,[A.any])::H)) g o b->Owns (Zax ((r,[x])::H)) g o b:=fun{o b} ho=>by
  cases ho with
  | @box q c h1=>
    by_cases e:q=r
    ·subst e;exact .box (c:=[x]) (by simp[Zax,kOf])
    ·exact .box (c:=c) (by simpa[Zax,kOf,upd,e]using h1)
  |slot h1=>cases h1
  | @cell q c j a h1 h2 h3=>
    by_cases e:q=r
    ·subst e;have hc:c=[A.any]:=by simpa[Zax,kOf]using h1.symm
     subst hc;cases j with
     |zero=>cases h2;cases h3
     |succ j=>simp at h2
    ·exact .cell (c:=c) (by simpa[Zax,kOf,upd,e]using h1) h2 h3
 refine⟨fun q c hc=>?_,fun o o' b h1 h2=>h.inj o o' b (old h1) (old h2),fun o b h1=>h.wr o b (old h1),h.prs,h.pr0,h.prn,h.up,h.uu,h.fr⟩;by_cases e:q=r
 ·subst e;have hc:c=[A.any]:=by simpa[Zax,kOf]using hc.symm
  subst hc;obtain⟨cs,k1,k2,k3,k4,k5⟩:=h.box q [x] (by simp[Zax,kOf]);refine⟨cs,k1,k2,fun j a ha=>?_,k4,k5⟩;cases j with
  |zero=>
   cases ha;obtain⟨_,v,k6,_⟩:=k3 0 x rfl;exact⟨rfl,v,k6,trivial⟩
  |succ j=>simp at ha
 ·exact h.box q c (by simpa[Zax,kOf,upd,e]using hc)
theorem Yf8{P:Program}{f:Nat}{args:List A}{r:Ref}{x:A}{H:List (Ref×List A)}{R R':Out->List (Ref×List A)->Prop}(h:Holds P f args ((r,[x])::H) R)
 (hret:∀v H',R (.ret v) H'->R' (.ret v) H') (hpan:∀u H',R (.pan u) H'-> ∃y H1,H'=(r,[y])::H1/\R' (.pan u) ((r,[A.any])::H1)):
 Holds P f args ((r,[x])::H) R':=
 fun w cargs g h1 h2=>(h w cargs g h1 h2).mono fun e w' ⟨out,H',g',a,b,c,d⟩=>by
  cases out with
  |ret v=>exact⟨.ret v,H',g',hret _ _ a,b,c,d⟩
  |pan u=>
   obtain⟨y,H1,rfl,hR⟩:=hpan _ _ a;exact⟨.pan u,_,g',hR,b,Yig c,d⟩
def Yjg(q0 q1 q2:Ref)(s:List UInt8)(l:List Rx)(res:Res Rx):Out->List (Ref×List A)->Prop:=fun o H=>match res with
 |.ok r t=>o=.ret (.tup [])/\ ∃i,At s t i/\H=[(.up q0,[A.own 6 (encs (l++[r])) []]),(.up q1,[A.ptr (.up q2) 0]),(.up q2,[A.d (.lit (Zco s)),A.d (.lit (.int .i64 i))])]
 |.bad t=>∃i j,At s t i/\o=.pan (Ybr i)/\H=[(.up q0,[A.any]),(.up q1,[A.ptr (.up q2) 0]),(.up q2,[A.d (.lit (Zco s)),A.d (.lit (.int .i64 j))])]
theorem Yfy{a b:List D}(h:a.length=b.length):Ab.setL a 0 b=b:=by
 unfold Ab.setL;simp[<-h]
theorem c64a{n:Nat}(K:K65 n){q0 q1 q2:Ref}(h01:q0≠q1)(h02:q0≠q2)(h12:q1≠q2){s t:List UInt8}{i:Int}{res:Res Rx}(hr:Yb2 n t=some res)(h:At s t i):
 Holds Tryz.prog 148 [A.ptr (.up q0) 0,A.ptr (.up q1) 0] [(.up q0,[A.zs []]),(.up q1,[A.ptr (.up q2) 0]),(.up q2,[A.d (.lit (Zco s)),A.d (.lit (.int .i64 i))])] (Yjg q0 q1 q2 s [] res):=by
 let R0:Out->List (Ref×List A)->Prop:=fun o H=>match res with
  |.ok r t=>o=.ret (.tup [])/\ ∃i,At s t i/\H=[(.up q0,[A.own 6 (encs ([]++[r])) []]),(.up q1,[A.ptr (.up q2) 0]),(.up q2,[A.d (.lit (Zco s)),A.d (.lit (.int .i64 i))])]
  |.bad t=>∃i j,At s t i/\o=.pan (Ybr i)/\H=[(.up q0,[A.zs []]),(.up q1,[A.ptr (.up q2) 0]),(.up q2,[A.d (.lit (Zco s)),A.d (.lit (.int .i64 j))])]
 refine Yf8 (R:=R0) (w64a s i q0 q1 q2 h01 h02 h12 (Yce (K (.up q2) s t i res hr h) (fun v t1 i1 e1 hi1=>?_) (fun t1 i1 j e1 hi1=>?_))) (fun v H' ho=>?_) (fun u H' ho=>?_)
 ·obtain⟨r,f1,rfl⟩:=Ybl e1;subst f1;refine⟨_,_,_,rfl,rfl,tle (by decide),tle (by decide),tlt (by decide),teq6 r,rfl,i1,hi1,?_⟩;have e:gAt (((D.lit (.int .i64 (0:Int)))::((D.lit (.int .u64 (0:Int)))::((D.lit (.int .u64 (0:Int)))::((D.lit (.int .u64 (0:Int)))::((D.lit (.int .u64 (0:Int)))::((D.slc ([]:List (List D)))::([]:List D)))))))::([]:List (List D))) (0:Int)=[D.lit (.int .i64 (0:Int)),D.lit (.int .u64 (0:Int)),D.lit (.int .u64 (0:Int)),D.lit (.int .u64 (0:Int)),D.lit (.int .u64 (0:Int)),D.slc []]:=rfl;rw[e,Yfy (by simp)];rfl
 ·have f1:=Ybj e1;subst f1;exact⟨_,_,rfl,i1,j,hi1,rfl,rfl⟩
 ·cases res with
  |ok r t1=>exact ho
  |bad t1=>obtain⟨_,_,_,e,_⟩:=ho;cases e
 ·cases res with
  |ok r t1=>cases ho.1
  |bad t1=>obtain⟨i1,j,hi1,e,rfl⟩:=ho;exact⟨_,_,rfl,i1,j,hi1,e,rfl⟩
theorem c64b{n:Nat}(K:K65 n){q0 q1 q2:Ref}(h01:q0≠q1)(h02:q0≠q2)(h12:q1≠q2){s t:List UInt8}{i:Int}{res:Res Rx}{l:List Rx}(hl:l.length<=1048576)(hr:Yb2 n t=some res)(h:At s t i):
 Holds Tryz.prog 148 [A.ptr (.up q0) 0,A.ptr (.up q1) 0] [(.up q0,[A.own 6 (encs l) []]),(.up q1,[A.ptr (.up q2) 0]),(.up q2,[A.d (.lit (Zco s)),A.d (.lit (.int .i64 i))])] (Yjg q0 q1 q2 s l res):=by
 refine w64b (encs l) s i q0 q1 q2 h01 h02 h12 (Yce (K (.up q2) s t i res hr h) (fun v t1 i1 e1 hi1=>?_) (fun t1 i1 j e1 hi1=>?_))
 ·obtain⟨r,f1,rfl⟩:=Ybl e1;subst f1;refine⟨_,_,_,rfl,rfl,tle (by simp;omega),tle (by simp;omega),teq6 r,rfl,i1,hi1,?_⟩;rw[Yfy (by simp)];show[(Ref.up q0,[A.own 6 (encs l++encs [r]) []]),_,_]=_;rw[Yci]
 ·have f1:=Ybj e1;subst f1;exact⟨_,_,rfl,i1,j,hi1,rfl,rfl⟩
theorem Ylo(r:Rx):Zwd 6 [enc r]=true:=by unfold Zwd;rw[List.all_cons,Yf5];rfl
theorem Yki{f:Nat}{args:List A}{B:List (Ref×List A)}{q0 q1 q2:Ref}{s:List UInt8}{l:List Rx}{res:Res Rx}(hc:Holds Tryz.prog f args B (Yjg q0 q1 q2 s l res)){Q1:A->List (Ref×List A)->Prop}{Q2:Value->List (Ref×List A)->Prop}
 (h1:∀r t i,res=.ok r t->At s t i->Q1 (.tup []) [(.up q0,[A.own 6 (encs (l++[r])) []]),(.up q1,[A.ptr (.up q2) 0]),(.up q2,[A.d (.lit (Zco s)),A.d (.lit (.int .i64 i))])])
 (h2:∀t i j,res=.bad t->At s t i->Q2 (Ybr i) [(.up q0,[A.any]),(.up q1,[A.ptr (.up q2) 0]),(.up q2,[A.d (.lit (Zco s)),A.d (.lit (.int .i64 j))])]):
 ∃R':Out->List (Ref×List A)->Prop,Holds Tryz.prog f args B R'/\(∀v H',R' (.ret v) H'->Q1 v H')/\(∀u H',R' (.pan u) H'->Q2 u H'):=by
 refine⟨_,hc,fun v' H' e=>?_,fun u H' e=>?_⟩
 ·cases res with
  |ok v t=>obtain⟨e1,i,hi,rfl⟩:=e;cases e1;exact h1 _ t i rfl hi
  |bad t=>obtain⟨i,j,hi,e1,_⟩:=e;cases e1
 ·cases res with
  |ok v t=>cases e.1
  |bad t=>obtain⟨i,j,hi,e1,rfl⟩:=e;cases e1;exact h2 t i j rfl hi
theorem Yd9{q:Ref}{a b:Nat}:Ref.own a b≠Ref.up q:=fun h=>by cases h
theorem Yg7{a b c d:Nat}(h:a≠c):Ref.own a b≠Ref.own c d:=fun e=>by cases e;exact h rfl
theorem c48{n:Nat}(K:∀m,m<=n->K65 m):K48 (n+1):=by
 intro q s t i res hr h;unfold seqs at hr;cases ha:Yb2 n t with
 |none=>rw[ha]at hr;cases hr
 |some ra=>
  rw[ha]at hr;refine w48 s i q fun ν=>Yki (c64a (K n (Nat.le_refl _)) (Yg7 (by decide)) Yd9 Yd9 ha h) (fun r t1 i1 e1 hi1=>?_) (fun t1 i1 j e1 hi1=>?_)
  ·subst e1;have hlt:=(Yby n).2.2.2.2.1 _ _ ha;refine⟨_,_,_,rfl,rfl,fun x s' i'=>∃m l t',s'=s/\x=encs l/\At s t' i'/\seqL m l t'=some res/\m<=n/\l.length+t'.length<=s.length,fun _ s' i'=>((s'.length:Int)-i').toNat,⟨n,[r],t1,rfl,rfl,hi1,hr,Nat.le_refl _,?_⟩,?_,trivial⟩
   ·have:=hlt.1;have:=h.suf.length_le;simp;omega
   ·rintro x s' i' ⟨m,l,t',rfl,rfl,hat,hrun,hm,hl⟩;have hsm:=hat.sm
    have done:¬(t'≠[]/\hd t'≠124/\hd t'≠41)->PAft q s' (res.map encA) (.ret (encA (Yf7 3 l))) (PB q s' i'):=fun hn=>by
     cases m with
     |zero=>simp[seqL]at hrun
     |succ m=>
      unfold seqL at hrun;rw[if_neg hn]at hrun;cases hrun;exact Ybg rfl hat
    refine⟨fun h0=>callB (c49 hat) ⟨_,_,_,rfl,rfl,fun h1=>callB (c49 hat) ⟨_,_,_,rfl,rfl,fun h2=>fun ν=>?_,fun h2=>?_⟩,fun h1=>?_⟩,fun h0=>?_⟩
    ·have hn:t'≠[]/\hd t'≠124/\hd t'≠41:=⟨hat.more (of_tlt h0),by simp at h1;omega,by simp at h2;omega⟩;cases m with
     |zero=>simp[seqL]at hrun
     |succ m=>
      unfold seqL at hrun;rw[if_pos hn]at hrun;cases hb:Yb2 m t' with
      |none=>rw[hb]at hrun;cases hrun
      |some rb=>
       rw[hb]at hrun;refine Yki (c64b (K m (by omega)) (Yg7 (by decide)) Yd9 Yd9 (by omega) hb hat) (fun r t2 i2 e2 hi2=>?_) (fun t2 i2 j e2 hi2=>?_)
       ·subst e2;have hlt2:=((Yby m).2.2.2.2.1 _ _ hb).1;refine⟨_,_,_,rfl,rfl,⟨m,l++[r],t2,rfl,rfl,hi2,hrun,by omega,by simp;omega⟩,?_⟩;exact SetI.lt hat hi2 hlt2
       ·subst e2;cases hrun;exact⟨_,_,rfl,Yas rfl hi2⟩
    ·have h2:hd t'=41:=by simp at h2;omega
     exact call1 (c50 3 l) ⟨_,rfl,rfl,teq6 _,done fun h=>h.2.2 h2⟩
    ·have h1:hd t'=124:=by simp at h1;omega
     exact call1 (c50 3 l) ⟨_,rfl,rfl,teq6 _,done fun h=>h.2.1 h1⟩
    ·exact call1 (c50 3 l) ⟨_,rfl,rfl,teq6 _,done fun h=>h.1 (hat.end_ (of_flt h0))⟩
  ·subst e1;cases hr;exact⟨_,_,rfl,Yas rfl hi1⟩
theorem c37{n:Nat}(K:∀m,m<=n->K48 m):K37 (n+1):=by
 intro q s t i res hr h;unfold alts at hr;cases ha:seqs n t with
 |none=>rw[ha]at hr;cases hr
 |some ra=>
  rw[ha]at hr;refine w37 s i q (Yce (K n (Nat.le_refl _) (.up q) s t i ra ha h) (fun v t1 i1 e1 hi1=>?_) (fun t1 i1 j e1 hi1=>?_))
  ·obtain⟨r,f1,rfl⟩:=Ybl e1;subst f1;have hlt:=(Yby n).2.2.1 _ _ ha;refine⟨_,_,_,rfl,rfl,teq6 r,fun x s' i'=>∃m l t',s'=s/\x=encs l/\At s t' i'/\altL m l t'=some res/\m<=n/\l.length+t'.length<=s.length,fun _ s' i'=>((s'.length:Int)-i').toNat,⟨n,[r],t1,rfl,rfl,hi1,hr,Nat.le_refl _,?_⟩,?_,trivial⟩
   ·have:=hlt.1;have:=h.suf.length_le;simp;omega
   ·rintro x s' i' ⟨m,l,t',rfl,rfl,hat,hrun,hm,hl⟩;have hsm:=hat.sm;have hlo:=hat.lo;cases m with
    |zero=>simp[altL]at hrun
    |succ m=>
     unfold altL at hrun;refine callB (c49 hat) ⟨_,_,_,rfl,rfl,fun h1=>⟨tle (by omega),tle (by omega),?_⟩,fun h1=>?_⟩
     ·have h1:=of_teq h1;have hn:t'≠[]:=Ya8 (by omega)
      have hnl:t'.tail.length+1=t'.length:=by cases t' with
       |nil=>exact absurd rfl hn
       |cons c t=>simp
      rw[if_pos (by omega)]at hrun;cases hb:seqs m t'.tail with
      |none=>rw[hb]at hrun;cases hrun
      |some rb=>
       rw[hb]at hrun;refine Yce (K m (by omega) (.up q) s' t'.tail (i'+1) rb hb (hat.next hn)) (fun v t2 i2 e2 hi2=>?_) (fun t2 i2 j e2 hi2=>?_)
       ·obtain⟨r',f2,rfl⟩:=Ybl e2;subst f2;have hlt2:=((Yby m).2.2.1 _ _ hb).1;refine⟨_,_,_,rfl,rfl,teq6 r',Ylo r',tle (by simp;omega),tle (by simp;omega),⟨m,l++[r'],t2,rfl,?_,hi2,hrun,by omega,by simp;omega⟩,SetI.lt hat hi2 (by omega)⟩;show encs l++encs [r']=_;rw[Yci]
       ·have f2:=Ybj e2;subst f2;cases hrun;exact⟨_,_,rfl,Yas rfl hi2⟩
     ·have h1:=of_feq h1;rw[if_neg (by omega)]at hrun;cases hrun;exact call1 (c50 4 l) ⟨_,rfl,rfl,teq6 _,Ybg rfl hat⟩
  ·have f1:=Ybj e1;subst f1;cases hr;exact⟨_,_,rfl,Yas rfl hi1⟩
theorem Ylp:∀n,(∀m,m<=n->K37 m/\K48 m/\K65 m/\K73 m):=by
 intro n
 induction n with
 |zero=>
  intro m hm;have:m=0:=by omega
  subst this;exact⟨fun q s t i res hr=>by simp[alts]at hr,fun q s t i res hr=>by simp[seqs]at hr,fun q s t i res hr=>by simp[Yb2]at hr,fun q s t i res hr=>by simp[atom]at hr⟩
 |succ n ih=>
  intro m hm;by_cases h:m<=n
  ·exact ih m h
  ·have:m=n+1:=by omega
   subst this;exact⟨c37 fun m h=>(ih m h).2.1,c48 fun m h=>(ih m h).2.2.1,c65 (ih n (Nat.le_refl _)).2.2.2,c73 (ih n (Nat.le_refl _)).1⟩
theorem k37(n:Nat):K37 n:=(Ylp n n (Nat.le_refl _)).1
end Go.Rx
end
