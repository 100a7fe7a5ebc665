/- Part 10 of the proof: SyMk, SyEq, SySm, SyOpen, SyTop, SyMap, SyRc, SySiz, SyJn, SyRf, SyCom, SyRp, SxB, SxSet, SxByte, SxCls, SxIdx, SxChk, SxSize, SxNull, SxSpec, SxPp, SxPq, SxPr, SxFuel, SxParse, SyCk, SyCl, SyCo. -/
import Derived.Test.YtpcnadmaeebhbaaGreatDoorRows
import Derived.WalkKit
import Derived.ProofKit
import Derived.OpenShut
import Derived.JoinedOf
import Derived.Deep.Slices
import Derived.Test.YtpcnadmaeebhbaaGreatDoorCards
import Derived.Test.YtpcnadmaeebhbaaGreatDoorTie
import Derived.Carry
import Derived.Deep.DeepHandedRow
import Derived.Lib.LaidTab
import Derived.Laws.Externs
import Derived.Test.YtpcnadmaeebhbaaGreatDoorJai
set_option linter.unusedVariables false
set_option linter.unusedSimpArgs false
section
open Go Go.Proofs Go.Ab Go.Rf
set_option linter.unusedSimpArgs false
set_option maxRecDepth 100000
namespace Go.Sy
theorem getT{l:List Tx}{i:Nat}(h:i<l.length):Rf.isK .str ((gAt (txs l) (i:Int)).getD 0 D0)=true/\Rf.dstr ((gAt (txs l) (i:Int)).getD 0 D0)=l[i]:=by rw[gT0 h];simp[dS]
theorem c34(s:Tx)(l:List Tx)(hl:l.length<=2^50):Holds Tryz.prog 34 [strA s,slA (txs l)] [] (Ret (boolA (decide (s∈l)))):=by
 refine w34 s (txs l) ?_;refine⟨fun x=>∃i:Nat,x=i/\i<=l.length/\(s∈l.drop i↔s∈l),fun x=>l.length-x.toNat,⟨0,rfl,Nat.zero_le _,by simp⟩,?_,trivial⟩;rintro x ⟨i,rfl,hi,hr⟩;refine⟨fun hc=>?_,fun hc=>?_⟩
 ·have h1:i<l.length:=by have:=of_tlt hc;simp at this;omega
  refine⟨tle (by omega),teq (by rw[gT1 h1];rfl),(getT h1).1,fun hn=>?_,fun hn=>⟨tle (by omega),tle (by omega),⟨i+1,rfl,h1,?_⟩,dec h1⟩⟩
  ·rw[(getT h1).2]at hn;have:s∈l:=Ya7 hn▸List.getElem_mem h1;exact⟨by simp[this],rfl⟩
  ·rw[(getT h1).2]at hn;have hne:=Ybe hn;rw[<-hr]
   conv=>rhs;rw[Ybl h1]
   simp only[List.mem_cons,hne,false_or]
 ·have h1:l.length<=i:=by have:=of_flt hc;simp at this;omega
  have:¬s∈l:=fun h=>by rw[<-hr,Ybt h1]at h;cases h
  exact⟨by simp[this],rfl⟩
end Go.Sy
end
section
open Go Go.Proofs Go.Ab Go.Rf
set_option linter.unusedSimpArgs false
set_option maxRecDepth 100000
namespace Go.Sy
end Go.Sy
end
section
open Go Go.Proofs Go.Ab Go.Rf
set_option linter.unusedSimpArgs false
set_option maxRecDepth 100000
namespace Go.Sy
def Yh1(n:Int)(s:Tx):Int:=min (n+s.length) 10000
def Yb5(n:Int)(l:List Tx):Int:=l.foldl Yh1 n
abbrev Ya4(l:List Tx):Int:=Yb5 0 l
theorem Yb1(n:Int)(s:Tx)(l:List Tx):Yb5 n (s::l)=Yb5 (min (n+s.length) 10000) l:=rfl
theorem Yck:∀(l:List Tx)(n:Int),0<=n->n<=10000->0<=Yb5 n l/\Yb5 n l<=10000/\(n<=Yb5 n l)
 |[],n,h1,h2=>⟨h1,h2,Int.le_refl _⟩
 |s::l,n,h1,h2=>by
  rw[Yb1];obtain⟨a,b,c⟩:=Yck l (min (n+s.length) 10000) (by omega) (by omega);exact⟨a,b,by omega⟩
theorem Yc3:∀(l:List Tx)(n:Int)(s:Tx),0<=n->n<=10000->s∈l->Yb5 n l<10000->(s.length:Int)<=Yb5 n l
 |[],n,s,_,_,h,_=>by cases h
 |x::l,n,s,h1,h2,h,hs=>by
  rw[Yb1]at hs⊢;have hb:=Yck l (min (n+x.length) 10000) (by omega) (by omega);rcases List.mem_cons.1 h with rfl|h
  ·omega
  ·exact Yc3 l _ s (by omega) (by omega) h hs
theorem Yar(l:List Tx):0<=Ya4 l/\Ya4 l<=10000:=by
 have:=Yck l 0 (by omega) (by omega);exact⟨this.1,this.2.1⟩
theorem c41(l:List Tx)(hl:l.length<=2^50)(ht:∀s∈l,s.length<=2^50):Holds Tryz.prog 41 [slA (txs l)] [] (Ret (intA (Ya4 l))):=by
 refine w41 (txs l) ⟨fun n x=>∃i:Nat,x=i/\i<=l.length/\0<=n/\n<=10000/\Yb5 n (l.drop i)=Ya4 l,fun _ x=>l.length-x.toNat,⟨0,rfl,Nat.zero_le _,by omega,by omega,rfl⟩,?_,trivial⟩;rintro n x ⟨i,rfl,hi,h1,h2,hr⟩;refine⟨fun hc=>?_,fun hc=>?_⟩
 ·have k1:i<l.length:=by have:=of_tlt hc;simp at this;omega
  have k2:=ht _ (List.getElem_mem k1);rw[Ybl k1,Yb1]at hr;rw[(getT k1).2]
  have e:(n+((l[i]).length:Int)+10000)-gMax (n+((l[i]).length:Int)) 10000=min (n+l[i].length) 10000:=by
   unfold gMax;split<;>omega
  rw[e];exact⟨tle (by omega),teq (by rw[gT1 k1];rfl),(getT k1).1,tle (by omega),tle (by omega),tle (by omega),tle (by omega),⟨i+1,rfl,k1,by omega,by omega,hr⟩,dec k1⟩
 ·have k1:l.length<=i:=by have:=of_flt hc;simp at this;omega
  rw[Ybt k1]at hr;exact⟨by rw[<-hr];rfl,rfl⟩
def BigB(B:Nat)(r:Nd):Prop:=(r.subs.length<=B/\r.decls.length<=B/\r.tail.length<=B/\r.lead.length<=B)/\(∀s∈[r.text,r.n0,r.n1,r.trail],s.length<=B)/\(∀s∈r.tail,s.length<=B)/\ ∀s∈r.lead,s.length<=B
abbrev Big(r:Nd):Prop:=BigB (2^50) r
theorem BigB.mono{B C:Nat}(hBC:B<=C)(r:Nd)(h:BigB B r):BigB C r:=
 ⟨⟨Nat.le_trans h.1.1 hBC,Nat.le_trans h.1.2.1 hBC,Nat.le_trans h.1.2.2.1 hBC,Nat.le_trans h.1.2.2.2 hBC⟩,fun s hs=>Nat.le_trans (h.2.1 s hs) hBC,fun s hs=>Nat.le_trans (h.2.2.1 s hs) hBC,fun s hs=>Nat.le_trans (h.2.2.2 s hs) hBC⟩
theorem Yi3{r:Nd}(h:All Big r):Lm r:=h.mono fun _ h=>h.1
def ownE(r:Nd):Int:=1+r.tail.length+Ya4 [r.text,r.n0,r.n1]/20+Ya4 r.tail/20
def ownD(r:Nd):Int:=1+r.lead.length+r.tail.length+Ya4 [r.text,r.n0,r.n1,r.trail]/20+Ya4 r.lead/20+Ya4 r.tail/20
mutual
def Ycl:Nd->Int->Int
 |.mk k n t a b tr le ta p s d,m=>Ya5 d (Yau s (m-ownE (.mk k n t a b tr le ta p s d)))
def Yau:List Nd->Int->Int
 |[],m=>m
 |x::l,m=>Yau l (if 0<=m then Ycl x m else m)
def Ydb:Nd->Int->Int
 |.mk k n t a b tr le ta p s d,m=>Ya5 d (Yau s (m-ownD (.mk k n t a b tr le ta p s d)))
def Ya5:List Nd->Int->Int
 |[],m=>m
 |x::l,m=>if m<0 then m else Ya5 l (Ydb x m)
end
theorem Ydc(r:Nd)(m:Int):Ycl r m=Ya5 r.decls (Yau r.subs (m-ownE r)):=by cases r;rw[Ycl];rfl
theorem Ydd(r:Nd)(m:Int):Ydb r m=Ya5 r.decls (Yau r.subs (m-ownD r)):=by cases r;rw[Ydb];rfl
theorem Ye7{r:Nd}(h:Big r):1<=ownE r/\ownE r<=2^51:=by
 have h1:=Yar [r.text,r.n0,r.n1];have h2:=Yar r.tail;have h3:=h.1.2.2.1;unfold ownE;omega
theorem Ye8{r:Nd}(h:Big r):1<=ownD r/\ownD r<=2^52:=by
 have h1:=Yar [r.text,r.n0,r.n1,r.trail];have h2:=Yar r.tail;have h2':=Yar r.lead;have h3:=h.1.2.2;unfold ownD;omega
def Bd(f:Int->Int):Prop:=∀m,0<=m->m<=1000-> -2^52<=f m/\f m<=m
theorem Yb9:∀(l:List Nd)(m:Int),m<0->Yau l m=m
 |[],_,_=>rfl
 |x::l,m,h=>by rw[Yau,if_neg (by omega)];exact Yb9 l m h
theorem Ye1:∀(l:List Nd)(m:Int),m<0->Ya5 l m=m
 |[],_,_=>rfl
 |x::l,m,h=>by rw[Ya5,if_pos h]
theorem Ycm:∀(l:List Nd),(∀x∈l,Bd (Ycl x))-> ∀m,-2^52<=m->m<=1000-> -2^52<=Yau l m/\Yau l m<=m
 |[],_,m,h1,h2=>⟨h1,Int.le_refl _⟩
 |x::l,h,m,h1,h2=>by
  rw[Yau];split
  ·rename_i h0;have hx:=h x (List.mem_cons_self ..) m h0 h2;have:=Ycm l (fun y hy=>h y (List.mem_cons_of_mem _ hy)) _ hx.1 (by omega);omega
  ·exact Ycm l (fun y hy=>h y (List.mem_cons_of_mem _ hy)) m h1 h2
theorem Ycn:∀(l:List Nd),(∀x∈l,Bd (Ydb x))-> ∀m,-2^52<=m->m<=1000-> -2^52<=Ya5 l m/\Ya5 l m<=m
 |[],_,m,h1,h2=>⟨h1,Int.le_refl _⟩
 |x::l,h,m,h1,h2=>by
  rw[Ya5];split
  ·exact⟨h1,Int.le_refl _⟩
  ·rename_i h0;have hx:=h x (List.mem_cons_self ..) m (by omega) h2;have:=Ycn l (fun y hy=>h y (List.mem_cons_of_mem _ hy)) _ hx.1 (by omega);omega
theorem Yej:∀r:Nd,All Big r->Bd (Ycl r)/\Bd (Ydb r):=by
 refine Ybr fun r hs hd hb=>?_
 have hE:=Ycm r.subs fun x hx=>(hs x hx (hb.sub hx)).1
 have hD:=Ycn r.decls fun x hx=>(hd x hx (hb.dec hx)).2
 have h1:=Ye7 hb.here;have h2:=Ye8 hb.here;refine⟨fun m m0 m1=>?_,fun m m0 m1=>?_⟩
 ·rw[Ydc];have a:=hE (m-ownE r) (by omega) (by omega);have b:=hD _ a.1 (by omega);omega
 ·rw[Ydd];have a:=hE (m-ownD r) (by omega) (by omega);have b:=hD _ a.1 (by omega);omega
theorem tdv{x:Int}(h:0<=x/\x<=10000):x.tdiv 20=x/20/\0<=x/20/\x/20<=500:=⟨Int.tdiv_eq_ediv_of_nonneg h.1,by omega,by omega⟩
abbrev H57(e:Nd):Prop:=∀m,0<=m->m<=1000->Holds Tryz.prog 57 [.agg (encE e),intA m] [] (Ret (intA (Ycl e m)))
abbrev H42(l:List Nd):Prop:=∀m,-2^52<=m->m<=1000->Holds Tryz.prog 42 [slA (Ybc l),intA m] [] (Ret (intA (Ya5 l m)))
theorem c42(l:List Nd)(hl:l.length<=2^50)(hb:∀x∈l,All Big x)(ih:∀x∈l,H42 x.decls/\ ∀e∈x.subs,H57 e):H42 l:=by
 intro m m0 m1;refine w42 (Ybc l) m ⟨fun n x=>∃i:Nat,x=i/\i<=l.length/\(-2^52<=n/\n<=1000)/\Ya5 (l.drop i) n=Ya5 l m,fun _ x=>l.length-x.toNat,⟨0,rfl,Nat.zero_le _,⟨m0,m1⟩,rfl⟩,?_,trivial⟩;rintro n x ⟨i,rfl,hi,hn,hr⟩;refine⟨fun hc=>?_,fun hc=>?_⟩
 ·have k1:i<l.length:=by have:=of_tlt hc;simp at this;omega
  rw[Ybl k1,Ya5]at hr;have hx:=List.getElem_mem k1;have l1:=hb _ hx;have ihx:=ih _ hx;rw[Yf2 rfl k1];generalize l[i]=a at hr l1 ihx;have b1:=l1.here;have q1:=Yar [a.text,a.n0,a.n1,a.trail];have q2:=Yar a.lead;have q3:=Yar a.tail;have o1:=Ye8 b1;simp only[Ya6,d0,d1,d2,d3,d4,d5,d6,d7,d8,d9,d10,isK_int,Yaq,isK_slc,dint_int,Ya1,dlst_slc,Bool.or_true,true_and,Yab,Yaa,Yae];refine⟨tle (by omega),teq rfl,fun h=>?_,fun h=>?_⟩
  ·rw[if_pos (of_tlt h)]at hr;exact⟨by rw[<-hr],rfl⟩
  ·have h:=of_flt h;rw[if_neg (by omega)]at hr;have L:=b1.1;refine⟨tle (by omega),tle (by omega),tle (by omega),tle (by omega),tle (by omega),tle (by omega),Ya4 [a.text,a.n0,a.n1,a.trail],fun _=>c41 [a.text,a.n0,a.n1,a.trail] (by simp) b1.2.1,?_⟩;rw[(tdv q1).1];refine⟨tle (by omega),tle (by omega),tle (by omega),tle (by omega),Ya4 a.lead,fun _=>c41 a.lead L.2.2.2 b1.2.2.2,?_⟩;rw[(tdv q2).1];refine⟨tle (by omega),tle (by omega),tle (by omega),tle (by omega),Ya4 a.tail,fun _=>c41 a.tail L.2.2.1 b1.2.2.1,?_⟩;rw[(tdv q3).1];have eo:n-1-(a.lead.length:Int)-(a.tail.length:Int)-Ya4 [a.text,a.n0,a.n1,a.trail]/20-Ya4 a.lead/20-Ya4 a.tail/20=n-ownD a:=by unfold ownD;omega
   rw[eo];refine⟨tle (by omega),tle (by omega),tle (by omega),tle (by omega),fun n' x=>∃j:Nat,x=j/\j<=a.subs.length/\(-2^52<=n'/\n'<=1000)/\Yau (a.subs.drop j) n'=Yau a.subs (n-ownD a),fun _ x=>a.subs.length-x.toNat,⟨0,rfl,Nat.zero_le _,⟨by omega,by omega⟩,rfl⟩,?_,trivial⟩;rintro n' x ⟨j,rfl,hj,hn',hrj⟩;refine⟨fun hcj=>?_,fun hcj=>?_⟩
   ·have j1:j<a.subs.length:=by have:=of_tlt hcj;omega
    rw[Ybl j1,Yau]at hrj;rw[Ydw rfl j1];refine⟨tle (by omega),teq (by simp),fun h0=>?_,fun h0=>?_⟩
    ·have h0:=of_tle h0;rw[if_pos h0]at hrj;have hm:=List.getElem_mem j1;have hbd:=(Yej _ (l1.sub hm)).1 n' h0 (by omega);exact call1 (ihx.2 _ hm n' h0 (by omega)) ⟨_,rfl,rfl,tle (by omega),tle (by omega),⟨j+1,rfl,j1,⟨hbd.1,by omega⟩,hrj⟩,dec j1⟩
    ·rw[if_neg (by have:=of_fle h0;omega)]at hrj;exact⟨tle (by omega),tle (by omega),⟨j+1,rfl,j1,hn',hrj⟩,dec j1⟩
   ·have j1:a.subs.length<=j:=by have:=of_flt hcj;omega
    rw[Ybt j1,Yau]at hrj;refine call1 (ihx.1 n' hn'.1 hn'.2) ⟨_,rfl,rfl,tle (by omega),tle (by omega),⟨i+1,rfl,k1,?_,?_⟩,dec k1⟩
    ·have:=Ycn a.decls (fun y hy=>(Yej y (l1.dec hy)).2) n' hn'.1 hn'.2;omega
    ·rw[<-hr,Ydd,<-hrj]
 ·have k1:l.length<=i:=by have:=of_flt hc;simp at this;omega
  rw[Ybt k1]at hr;exact⟨by rw[<-hr];rfl,rfl⟩
theorem Yi4:∀(r:Nd),All Big r->H57 r/\H42 r.decls/\ ∀e∈r.subs,H57 e:=by
 refine Ybr fun r hs hd hb=>?_
 have ihs:∀e∈r.subs,H57 e:=fun x hx=>(hs x hx (hb.sub hx)).1
 have ihd:H42 r.decls:=c42 r.decls hb.here.1.2.1 (fun x hx=>hb.dec hx) fun x hx=>(hd x hx (hb.dec hx)).2
 refine⟨fun m m0 m1=>?_,ihd,ihs⟩;have b1:=hb.here;have q1:=Yar [r.text,r.n0,r.n1];have q3:=Yar r.tail;have o1:=Ye7 b1;have L:=b1.1;refine w57 (encE r) m ?_;simp only[Yah,e0,e1,e2,e3,e4,e5,e6,e7,e8,isK_int,Yaq,isK_slc,dint_int,Ya1,dlst_slc,Bool.or_true,true_and,Yab,Yaa,Yae];refine⟨teq rfl,tle (by omega),tle (by omega),tle (by omega),tle (by omega),Ya4 [r.text,r.n0,r.n1],fun _=>c41 [r.text,r.n0,r.n1] (by simp) (fun s hs=>b1.2.1 s (by simp only[List.mem_cons,List.not_mem_nil,or_false]at hs⊢;rcases hs with h|h|h<;>simp[h])),?_⟩;rw[(tdv q1).1];refine⟨tle (by omega),tle (by omega),tle (by omega),tle (by omega),Ya4 r.tail,fun _=>c41 r.tail L.2.2.1 b1.2.2.1,?_⟩;rw[(tdv q3).1];have eo:m-1-(r.tail.length:Int)-Ya4 [r.text,r.n0,r.n1]/20-Ya4 r.tail/20=m-ownE r:=by unfold ownE;omega
 rw[eo];refine⟨tle (by omega),tle (by omega),tle (by omega),tle (by omega),fun n' x=>∃j:Nat,x=j/\j<=r.subs.length/\(-2^52<=n'/\n'<=1000)/\Yau (r.subs.drop j) n'=Yau r.subs (m-ownE r),fun _ x=>r.subs.length-x.toNat,⟨0,rfl,Nat.zero_le _,⟨by omega,by omega⟩,rfl⟩,?_,trivial⟩;rintro n' x ⟨j,rfl,hj,hn',hrj⟩;refine⟨fun hcj=>?_,fun hcj=>?_⟩
 ·have j1:j<r.subs.length:=by have:=of_tlt hcj;omega
  rw[Ybl j1,Yau]at hrj;rw[Ydw rfl j1];refine⟨tle (by omega),teq (by simp),fun h0=>?_,fun h0=>?_⟩
  ·have h0:=of_tle h0;rw[if_pos h0]at hrj;have hm:=List.getElem_mem j1;have hbd:=(Yej _ (hb.sub hm)).1 n' h0 (by omega);exact call1 (ihs _ hm n' h0 (by omega)) ⟨_,rfl,rfl,tle (by omega),tle (by omega),⟨j+1,rfl,j1,⟨hbd.1,by omega⟩,hrj⟩,dec j1⟩
  ·rw[if_neg (by have:=of_fle h0;omega)]at hrj;exact⟨tle (by omega),tle (by omega),⟨j+1,rfl,j1,hn',hrj⟩,dec j1⟩
 ·have j1:r.subs.length<=j:=by have:=of_flt hcj;omega
  rw[Ybt j1,Yau]at hrj;exact call1 (ihd n' hn'.1 hn'.2) ⟨_,rfl,rfl,by rw[Ydc,<-hrj],rfl⟩
def smE(r:Nd):Bool:=decide (0<=Ycl r 100)
theorem c16(r:Nd)(h:All Big r):Holds Tryz.prog 16 [.agg (encE r)] [] (Ret (boolA (smE r))):=
 w16 _ ⟨teq (by simp),call1 ((Yi4 r h).1 100 (by omega) (by omega)) ⟨_,rfl,rfl,by simp[smE],rfl⟩⟩
mutual
def wE:Nd->Int
 |.mk k n t a b tr le ta p s d=>ownE (.mk k n t a b tr le ta p s d)+wEs s+wDs d
def wEs:List Nd->Int
 |[]=>0
 |x::l=>wE x+wEs l
def wD:Nd->Int
 |.mk k n t a b tr le ta p s d=>ownD (.mk k n t a b tr le ta p s d)+wEs s+wDs d
def wDs:List Nd->Int
 |[]=>0
 |x::l=>wD x+wDs l
end
theorem Yf7(r:Nd):wE r=ownE r+wEs r.subs+wDs r.decls:=by cases r;rw[wE];rfl
theorem Yf8(r:Nd):wD r=ownD r+wEs r.subs+wDs r.decls:=by cases r;rw[wD];rfl
theorem Yek(r:Nd):(1<=ownE r/\(r.tail.length:Int)<=ownE r/\Ya4 [r.text,r.n0,r.n1]/20<=ownE r/\Ya4 r.tail/20<=ownE r)/\
 (1<=ownD r/\(r.tail.length:Int)+r.lead.length+1<=ownD r/\Ya4 [r.text,r.n0,r.n1,r.trail]/20<=ownD r/\Ya4 r.tail/20<=ownD r/\Ya4 r.lead/20<=ownD r):=by
 have h1:=Yar [r.text,r.n0,r.n1];have h2:=Yar [r.text,r.n0,r.n1,r.trail];have h3:=Yar r.tail;have h4:=Yar r.lead;unfold ownE ownD;omega
theorem Yde:∀{l:List Nd},(∀x∈l,1<=wE x)->(l.length:Int)<=wEs l/\ ∀x∈l,wE x<=wEs l
 |[],_=>⟨by simp[wEs],fun _ h=>by cases h⟩
 |x::l,h=>by
  have ih:=Yde fun y hy=>h y (List.mem_cons_of_mem _ hy)
  have hx:=h x (List.mem_cons_self ..);rw[wEs];refine⟨by simp only[List.length_cons];omega,fun y hy=>?_⟩;rcases List.mem_cons.1 hy with rfl|hy
  ·have:=ih.1;omega
  ·have:=ih.2 y hy;omega
theorem Ydf:∀{l:List Nd},(∀x∈l,1<=wD x)->(l.length:Int)<=wDs l/\ ∀x∈l,wD x<=wDs l
 |[],_=>⟨by simp[wDs],fun _ h=>by cases h⟩
 |x::l,h=>by
  have ih:=Ydf fun y hy=>h y (List.mem_cons_of_mem _ hy)
  have hx:=h x (List.mem_cons_self ..);rw[wDs];refine⟨by simp only[List.length_cons];omega,fun y hy=>?_⟩;rcases List.mem_cons.1 hy with rfl|hy
  ·have:=ih.1;omega
  ·have:=ih.2 y hy;omega
theorem Yf9:∀r:Nd,1<=wE r/\1<=wD r:=by
 refine Ybr fun r hs hd=>?_
 have h1:=(Yde fun x hx=>(hs x hx).1).1;have h2:=(Ydf fun x hx=>(hd x hx).2).1;have h3:=Yek r;rw[Yf7,Yf8];omega
theorem Yh2:∀r:Nd,(∀m,0<=Ycl r m->wE r<=m/\Ycl r m=m-wE r)/\ ∀m,0<=Ydb r m->wD r<=m/\Ydb r m=m-wD r:=by
 refine Ybr fun r hs hd=>?_
 have kE:∀(l:List Nd),(∀x∈l,x∈r.subs)-> ∀m,0<=Yau l m->wEs l<=m/\Yau l m=m-wEs l:=by
  intro l
  induction l with
  |nil=>intro _ m h;simp only[Yau,wEs]at*;omega
  |cons x l ih=>
   intro hl m h;rw[Yau]at h⊢;by_cases hm:0<=m
   ·rw[if_pos hm]at h⊢;have:=ih (fun y hy=>hl y (List.mem_cons_of_mem _ hy)) _ h
    have h0:0<=Ycl x m:=by
     by_cases hc:0<=Ycl x m
     ·exact hc
     ·rw[Yb9 _ _ (by omega)]at h;exact h
    have hx:=(hs x (hl x (List.mem_cons_self ..))).1 m h0;rw[wEs];omega
   ·rw[if_neg hm,Yb9 _ _ (by omega)]at h;omega
 have kD:∀(l:List Nd),(∀x∈l,x∈r.decls)-> ∀m,0<=Ya5 l m->wDs l<=m/\Ya5 l m=m-wDs l:=by
  intro l
  induction l with
  |nil=>intro _ m h;simp only[Ya5,wDs]at*;omega
  |cons x l ih=>
   intro hl m h;rw[Ya5]at h⊢;by_cases hm:m<0
   ·rw[if_pos hm]at h;omega
   ·rw[if_neg hm]at h⊢;have:=ih (fun y hy=>hl y (List.mem_cons_of_mem _ hy)) _ h
    have h0:0<=Ydb x m:=by
     by_cases hc:0<=Ydb x m
     ·exact hc
     ·rw[Ye1 _ _ (by omega)]at h;exact h
    have hx:=(hd x (hl x (List.mem_cons_self ..))).2 m h0;rw[wDs];omega
 have h1:=(Yde (l:=r.subs) fun x _=>(Yf9 x).1).1;have h2:=(Ydf (l:=r.decls) fun x _=>(Yf9 x).2).1;refine⟨fun m h=>?_,fun m h=>?_⟩
 ·rw[Ydc]at h⊢;have a:=kD _ (fun _ h=>h) _ h;have b:=kE r.subs (fun _ h=>h) (m-ownE r) (by omega);rw[Yf7];omega
 ·rw[Ydd]at h⊢;have a:=kD _ (fun _ h=>h) _ h;have b:=kE r.subs (fun _ h=>h) (m-ownD r) (by omega);rw[Yf8];omega
mutual
def wfE:Nd->Prop
 |.mk _ _ _ _ _ tr le _ _ s d=>(tr=[]/\le=[])/\wfEs s/\wfDs d
def wfEs:List Nd->Prop
 |[]=>True
 |x::l=>wfE x/\wfEs l
def wfD:Nd->Prop
 |.mk _ _ _ _ _ _ _ _ _ s d=>wfEs s/\wfDs d
def wfDs:List Nd->Prop
 |[]=>True
 |x::l=>wfD x/\wfDs l
end
theorem Yh3(r:Nd):wfE r↔(r.trail=[]/\r.lead=[])/\wfEs r.subs/\wfDs r.decls:=by cases r;rw[wfE];rfl
theorem Yh4(r:Nd):wfD r↔wfEs r.subs/\wfDs r.decls:=by cases r;rw[wfD];rfl
theorem Ych:∀(l:List Nd),wfEs l↔∀x∈l,wfE x
 |[]=>by simp[wfEs]
 |x::l=>by rw[wfEs,Ych l];simp
theorem Yci:∀(l:List Nd),wfDs l↔∀x∈l,wfD x
 |[]=>by simp[wfDs]
 |x::l=>by rw[wfDs,Yci l];simp
theorem Yco{l:List Tx}(h:Ya4 l/20<=400):∀s∈l,s.length<=10000:=fun s hs=>by
 have:=Yc3 l 0 s (by omega) (by omega) hs (show Ya4 l<10000 by omega);have h2:Ya4 l<=8019:=by omega
 have:(s.length:Int)<=Ya4 l:=this;omega
abbrev Sml(r:Nd):Prop:=BigB 10000 r
theorem Yh5:∀r:Nd,(wfE r->wE r<=400->All Sml r)/\(wfD r->wD r<=400->All Sml r):=by
 refine Ybr fun r hs hd=>?_
 have h1:=Yde (l:=r.subs) fun x _=>(Yf9 x).1
 have h2:=Ydf (l:=r.decls) fun x _=>(Yf9 x).2
 have h3:=Yek r;have q1:=Yar [r.text,r.n0,r.n1];refine⟨fun hw h=>?_,fun hw h=>?_⟩
 ·rw[Yf7]at h;rw[Yh3,Ych,Yci]at hw;obtain⟨⟨w1,w2⟩,w3,w4⟩:=hw;refine .mk ⟨⟨by omega,by omega,by omega,by rw[w2];simp⟩,?_,Yco (by omega),by rw[w2];simp⟩ (fun x hx=>(hs x hx).1 (w3 x hx) (by have:=h1.2 x hx;omega)) (fun x hx=>(hd x hx).2 (w4 x hx) (by have:=h2.2 x hx;omega));have:=Yco (l:=[r.text,r.n0,r.n1]) (by omega);rw[w1];intro s hs;simp only[List.mem_cons,List.not_mem_nil,or_false]at hs this;rcases hs with h|h|h|h
  ·exact this s (.inl h)
  ·exact this s (.inr (.inl h))
  ·exact this s (.inr (.inr h))
  ·subst h;simp
 ·rw[Yf8]at h;rw[Yh4,Ych,Yci]at hw;exact .mk ⟨⟨by omega,by omega,by omega,by omega⟩,Yco (by omega),Yco (by omega),Yco (by omega)⟩ (fun x hx=>(hs x hx).1 (hw.1 x hx) (by have:=h1.2 x hx;omega)) (fun x hx=>(hd x hx).2 (hw.2 x hx) (by have:=h2.2 x hx;omega))
theorem Yh6{r:Nd}(hw:wfE r)(h:smE r=true):All Sml r/\wE r<=100:=by
 have:=(Yh2 r).1 100 (by simpa[smE]using h);exact⟨(Yh5 r).1 hw (by omega),this.1⟩
end Go.Sy
end
section
open Go Go.Proofs Go.Ab Go.Rf Go.ChangeShapes Go.WideShapes
set_option maxRecDepth 100000
set_option linter.unusedSimpArgs false
namespace Go.Sy
def prW(w:World):Nat->Nat->Prop:=fun b _=>b<w.heap.size
def ghW(w:World):Gh:=⟨prW w,fun _=>0,fun _=>0,fun _=>False⟩
theorem Yg6{w:World}{a:Addr}{v:Value}(h:w.cell? a=some v):a.block<w.heap.size:=by
 unfold World.cell? at h;by_cases hb:a.block<w.heap.size
 ·exact hb
 ·simp[Array.getElem?_eq_none (by omega:w.heap.size<=a.block)]at h
theorem Ye9{w:World}{a:Addr}{n:Nat}{cs:List Value}(h:w.cells? 0 a n=some cs):cs.length=n/\ ∀i,i<n->w.cell? (a.add i)=cs[i]? :=by
 unfold World.cells? at h;rw[if_pos (Nat.zero_le _)]at h;have hl:=mapM_some_length h;simp only[List.length_range]at hl;refine⟨hl,fun i hi=>mapM_some_get h i i (by simp[hi])⟩
theorem Yfa{α β:Type}{R:α->β->Prop}:∀{l:List α}{m:List β},All2 R l m-> ∀(i:Nat)(h:i<l.length),∃b,m[i]? =some b/\R l[i] b
 |a::l,b::m,⟨h1,_⟩,0,_=>⟨b,rfl,h1⟩
 |a::l,b::m,⟨_,h2⟩,i+1,h=>by
  obtain⟨c,h3,h4⟩:=Yfa h2 i (by simpa using h);exact⟨c,by simpa using h3,by simpa using h4⟩
 |[],_,_,i,h=>by simp at h
theorem Ydg{α β:Type}{R:α->β->Prop}:∀{l:List α}{m:List β},All2 R l m->l.length=m.length
 |[],[],_=>rfl
 |_::_,_::_,⟨_,h⟩=>by simp[Ydg h]
 |[],_::_,h=>h.elim
 |_::_,[],h=>h.elim
section
variable {H:Type} {en:TypeId×Value->H} {w:World}
theorem Yh7{α:Type}{E:α->List D}{n:Nat}(hn:0<n)(hE:∀a,(E a).length=n){b off cap:Nat}(l:List α)(hc:l.length<=cap)(V:Nat->List Value)
 (h:∀i (hi:i<l.length),All2 (RepD w (prW w)) (E l[i]) (V i)/\ ∀j,j<n->w.cell? ⟨b,off+(i*n+j),none⟩=(V i)[j]?):
 RepD w (prW w) (.slc (l.map E)) (.slice (some ⟨b,off,none⟩) l.length cap):=by
 have hk:∀k,k<l.length*n->w.cell? ⟨b,off+k,none⟩=some ((V (k/n)).getD (k % n) .nilIface):=by
  intro k hk;have hi:k/n<l.length:=Nat.div_lt_of_lt_mul (by rw[Nat.mul_comm];exact hk);obtain⟨h1,h3⟩:=h _ hi;have hl:=Ydg h1;rw[hE]at hl;have:=h3 (k % n) (Nat.mod_lt _ hn);rw[show k/n*n+k % n=k by rw[Nat.mul_comm];exact Nat.div_add_mod k n]at this;rw[this,List.getElem?_eq_getElem (by rw[<-hl];exact Nat.mod_lt _ hn)];simp[List.getD,List.getElem?_eq_getElem (show k % n<(V (k/n)).length by rw[<-hl];exact Nat.mod_lt _ hn)]
 have hlen:(l.map E).length=l.length:=by simp
 rw[<-hlen];refine .slc (l.map E) n b off cap _ hn ?_ (by rw[hlen];exact hc) (fun k hk'=>hk k (by rw[hlen]at hk';exact hk')) (fun k hk'=>Yg6 (hk k (by rw[hlen]at hk';exact hk'))) ?_
 ·intro e he;obtain⟨a,_,rfl⟩:=List.mem_map.1 he;exact hE a
 ·intro i j hi hj;have hi':i<l.length:=by rw[hlen]at hi;exact hi
  have e:(l.map E)[i]=E l[i]:=by simp
  have hj':j<n:=by rw[e,hE]at hj;exact hj
  obtain⟨h1,_⟩:=h i hi';obtain⟨v,hv,hr⟩:=Yfa h1 j (by rw[hE];exact hj');have e1:(i*n+j)/n=i:=by rw[Nat.mul_comm,Nat.mul_add_div hn,Nat.div_eq_of_lt hj',Nat.add_zero]
  have e2:(i*n+j) % n=j:=by rw[Nat.mul_comm,Nat.mul_add_mod,Nat.mod_eq_of_lt hj']
  rw[e1,e2];simp only[e];simpa[List.getD,hv]using hr
def Fit(t:TypeId)(x:DataW H×List MemPlace):Prop:=∀k∈x.1.weights Tryz.prog t,k<=reachBytes
theorem Ybk{P:Program}{e:TypeId}{k:Nat}:∀{l:List (DataW H)}{d:DataW H},d∈l->k∈d.weights P e->k∈DataW.weightsAll P e l
 |a::l,d,h,hk=>by
  unfold DataW.weightsAll;rcases List.mem_cons.1 h with rfl|h
  ·exact List.mem_append_left _ hk
  ·exact List.mem_append_right _ (Ybk h hk)
theorem Yca{α:Type}{E:α->List D}{Good:α->Prop}{n:Nat}{t e:TypeId}(ht:Tryz.prog.underlying t=some (.slice e))(hc:Tryz.prog.cellsOf e=n)(hn:0<n)(hby:1<=Tryz.prog.bytesOf e)(hE:∀a,(E a).length=n){fuel:Nat}
 (ih:∀q<fuel,∀(cs:List Value)(x:DataW H×List MemPlace),DataW.trod en Tryz.prog w 0 (fun _=>true) true q e cs=some x->Fit e x-> ∃a:α,All2 (RepD w (prW w)) (E a) cs/\Good a)
 {v:Value} {x:DataW H×List MemPlace} (h:DataW.trod en Tryz.prog w 0 (fun _=>true) true fuel t [v]=some x) (hz:Fit t x):
 ∃l:List α,RepD w (prW w) (.slc (l.map E)) v/\l.length<=2^50/\ ∀a∈l,Good a:=by
 rcases DataW.trod_slice ht h with⟨e1,_⟩|⟨ad,len,cap,elems,rest,q,hq,e1,hx,_,hlc,_,hel,hes,_⟩
 ·have e1:v=.slice none 0 0:=by simpa using e1
  exact⟨[],by rw[e1];exact .emp _ _,by simp,fun _ h=>by cases h⟩
 ·have e1:v=.slice (some ad) len cap:=by simpa using e1
  rw[hc]at hes;subst hx
  have hW:(elems.map (·.1)).length*Tryz.prog.bytesOf e<=reachBytes/\ ∀y∈elems,Fit e y:=by
   unfold Fit at hz;simp only[DataW.weights,ht,List.mem_cons,List.mem_append]at hz;refine⟨Nat.le_trans (Nat.mul_le_mul_right _ (Nat.le_add_right _ _)) (hz _ (.inl rfl)),fun y hy k hk=>hz k (.inr (.inl (Ybk (List.mem_map.2 ⟨y,hy,rfl⟩) hk)))⟩
  have hlen:len<=2^50:=by
   have h1:=hW.1;rw[List.length_map,hel]at h1;have h2:len*1<=len*Tryz.prog.bytesOf e:=Nat.mul_le_mul_left _ hby;have h3:reachBytes<=2^50:=by decide
   omega
  have hall:∀i,i<len-> ∃(r:α)(V:List Value),All2 (RepD w (prW w)) (E r) V/\Good r/\ ∀j,j<n->w.cell? ((ad.add (i*n)).add j)=V[j]? :=by
   intro i hi;have h3:=hes i hi;have hi':i<elems.length:=by omega
   rw[List.getElem?_eq_getElem hi']at h3;obtain⟨cs',h4,h5⟩:=Option.bind_eq_some_iff.1 h3;obtain⟨r,h7,h8⟩:=ih q (by omega) _ _ h5 (hW.2 _ (List.getElem_mem hi'));exact⟨r,cs',h7,h8,(Ye9 h4).2⟩
  by_cases h0:len=0
  ·subst h0;exact⟨[],by rw[e1];exact .emp _ _,by simp,fun _ h=>by cases h⟩
  ·have hall':∃(f:Nat->α)(V:Nat->List Value),∀i,i<len->All2 (RepD w (prW w)) (E (f i)) (V i)/\Good (f i)/\ ∀j,j<n->w.cell? ((ad.add (i*n)).add j)=(V i)[j]? :=by
    classical
    obtain⟨a0,_⟩:=hall 0 (by omega);refine⟨fun i=>if h:i<len then(hall i h).choose else a0,fun i=>if h:i<len then(hall i h).choose_spec.choose else[],fun i hi=>?_⟩
    simp only[hi,dif_pos];exact(hall i hi).choose_spec.choose_spec
   obtain⟨f,V,hfV⟩:=hall';subst e1;refine⟨(List.range len).map f,?_,by simpa using hlen,fun r hr=>?_⟩
   ·have sp:ad.spot=none:=by
     have h1:=(hfV 0 (by omega)).2.2 0 hn;have hl:=Ydg (hfV 0 (by omega)).1;rw[hE]at hl;rw[List.getElem?_eq_getElem (by omega)]at h1;simpa[Addr.add]using World.cell?_spot h1
    obtain⟨bb,off,spot⟩:=ad;subst sp
    have:=Yh7 (w:=w) hn hE (b:=bb) (off:=off) (cap:=cap) ((List.range len).map f) (by simpa using hlc) V (fun i hi=>by
     have hi':i<len:=by simpa using hi
     obtain⟨k2,_,k4⟩:=hfV i hi';refine⟨by simpa using k2,fun j hj=>?_⟩;rw[<-k4 j hj,<-Go.WideShapes.add_plain,Go.Deep.add_add])
    simpa using this
   ·obtain⟨i,hi,rfl⟩:=List.mem_map.1 hr;exact(hfV i (List.mem_range.1 hi)).2.1
theorem Ybu{t:TypeId}(ht:Tryz.prog.underlying t=some .string){fuel:Nat}{cs:List Value}{x:DataW H×List MemPlace}(h:DataW.trod en Tryz.prog w 0 (fun _=>true) true fuel t cs=some x)(hz:Fit t x):
 ∃s:Tx,cs=[Zco s]/\s.length<=2^50:=by
 obtain⟨s,h1,h2,_⟩:=DataW.trod_string ht h;refine⟨s.data.toList,by rw[h1];simp[Zco],?_⟩;subst h2;have:=hz s.data.toList.length (by simp[DataW.weights]);have h3:reachBytes<=2^50:=by decide
 omega
theorem Ybf{P:Program}{k:Nat}:∀{ts:List TypeId}{l:List (DataW H)}{i:Nat}{t:TypeId}{d:DataW H},ts[i]? =some t->l[i]? =some d->k∈d.weights P t->k∈DataW.weightsEach P ts l
 |t::ts,a::l,0,_,_,h1,h2,hk=>by
  unfold DataW.weightsEach;cases h1;cases h2;exact List.mem_append_left _ hk
 |t::ts,a::l,i+1,_,_,h1,h2,hk=>by
  unfold DataW.weightsEach;exact List.mem_append_right _ (Ybf (by simpa using h1) (by simpa using h2) hk)
 |[],_,_,_,_,h1,_,_=>by simp at h1
 |_::_,[],_,_,_,_,h2,_=>by simp at h2
theorem Ycp{t:TypeId}{fs:Array Field}(ht:Tryz.prog.underlying t=some (.struct fs)){fuel:Nat}{cs:List Value}{x:DataW H×List MemPlace}(h:DataW.trod en Tryz.prog w 0 (fun _=>true) true fuel t cs=some x)(hz:Fit t x):
 cs.length=Tryz.prog.cellsOf t/\ ∃n<fuel,∀(i:Nat)(ty:TypeId)(off:Nat),(fs[i]?).map (fun f=>(f.type,f.offset))=some (ty,off)-> ∃y,DataW.trod en Tryz.prog w 0 (fun _=>true) true n ty ((cs.drop off).take (Tryz.prog.cellsOf ty))=some y/\Fit ty y:=by
 obtain⟨xs,n,rfl,rfl,hl,hxs,hf⟩:=DataW.trod_struct ht h;refine⟨hl,n,Nat.lt_succ_self n,fun i ty off hm=>?_⟩;obtain⟨f,hi,he⟩:=Option.map_eq_some_iff.1 hm;cases he
 have hi':i<xs.length:=by
  rw[hxs];exact(Array.getElem?_eq_some_iff.1 hi).1
 refine⟨xs[i],by rw[hf i f hi,List.getElem?_eq_getElem hi'],fun k hk=>hz k ?_⟩;unfold DataW.weights;rw[ht];refine Ybf (i:=i) (t:=f.type) (d:=xs[i].1) ?_ ?_ hk
 ·rw[List.getElem?_map,Array.getElem?_toList,hi];rfl
 ·rw[List.getElem?_map,List.getElem?_eq_getElem hi'];rfl
theorem Ye2{t e:TypeId}{n:Nat}(ht:Tryz.prog.underlying t=some (.array n e)){fuel:Nat}{cs:List Value}{x:DataW H×List MemPlace}(h:DataW.trod en Tryz.prog w 0 (fun _=>true) true fuel t cs=some x)(hz:Fit t x):
 cs.length=Tryz.prog.cellsOf t/\ ∃m<fuel,∀i<n,∃y,DataW.trod en Tryz.prog w 0 (fun _=>true) true m e ((cs.drop (i*Tryz.prog.cellsOf e)).take (Tryz.prog.cellsOf e))=some y/\Fit e y:=by
 obtain⟨xs,m,rfl,rfl,hl,hxs,hf⟩:=DataW.trod_array ht h;refine⟨hl,m,Nat.lt_succ_self m,fun i hi=>?_⟩;have hi':i<xs.length:=by omega
 refine⟨xs[i],by rw[hf i hi,List.getElem?_eq_getElem hi'],fun k hk=>hz k ?_⟩;unfold DataW.weights;rw[ht];exact Ybk (List.mem_map.2 ⟨xs[i],List.getElem_mem hi',rfl⟩) hk
theorem Ygr:Tryz.prog.cellsOf 3=1:=by kernel_rfl
theorem Yeq:Tryz.prog.cellsOf 9=1:=by kernel_rfl
theorem Ygs:Tryz.prog.cellsOf 2=1:=by kernel_rfl
theorem Yfb:Tryz.prog.cellsOf 31=2:=by kernel_rfl
theorem Yfc:Tryz.prog.cellsOf 32=1:=by kernel_rfl
theorem Yfd:Tryz.prog.cellsOf 23=1:=by kernel_rfl
theorem Yfe:Tryz.prog.cellsOf 24=1:=by kernel_rfl
theorem Yff:Tryz.prog.cellsOf 34=9:=by kernel_rfl
theorem Yfg:Tryz.prog.cellsOf 52=11:=by kernel_rfl
theorem by9:1<=Tryz.prog.bytesOf 9:=of_decide_eq_true (by kernel_rfl)
theorem by34:1<=Tryz.prog.bytesOf 34:=of_decide_eq_true (by kernel_rfl)
theorem by52:1<=Tryz.prog.bytesOf 52:=of_decide_eq_true (by kernel_rfl)
theorem Ydh{fuel:Nat}{v:Value}{x:DataW H×List MemPlace}(h:DataW.trod en Tryz.prog w 0 (fun _=>true) true fuel 24 [v]=some x)(hz:Fit 24 x):
 ∃l:List Tx,RepD w (prW w) (.slc (txs l)) v/\l.length<=2^50/\ ∀s∈l,s.length<=2^50:=
 Yca (E:=fun s=>[dS s]) Tryz.underlying24 Yeq (by decide) by9 (fun _=>rfl) (fun q _ cs y hy hf=>by
  obtain⟨s,rfl,hs⟩:=Ybu Tryz.underlying9 hy hf;exact⟨s,⟨.lit _ rfl,trivial⟩,hs⟩) h hz
theorem Yc4{fuel:Nat}{a b:Value}{x:DataW H×List MemPlace}(h:DataW.trod en Tryz.prog w 0 (fun _=>true) true fuel 31 [a,b]=some x)(hz:Fit 31 x):
 ∃s t:Tx,a=Zco s/\b=Zco t/\s.length<=2^50/\t.length<=2^50:=by
 obtain⟨_,m,_,hf⟩:=Ye2 Tryz.underlying31 h hz;rw[Yeq]at hf;obtain⟨y,h1,h2⟩:=hf 0 (by decide);obtain⟨z,h3,h4⟩:=hf 1 (by decide);obtain⟨s,e1,hs⟩:=Ybu Tryz.underlying9 h1 h2;obtain⟨t,e2,ht⟩:=Ybu Tryz.underlying9 h3 h4;exact⟨s,t,by simpa using e1,by simpa using e2,hs,ht⟩
abbrev Yg7(H:Type)(en:TypeId×Value->H)(w:World)(fuel:Nat):Prop:=∀(cs:List Value)(x:DataW H×List MemPlace),DataW.trod en Tryz.prog w 0 (fun _=>true) true fuel 34 cs=some x->Fit 34 x-> ∃r:Nd,All2 (RepD w (prW w)) (encE r) cs/\wfE r/\All Big r
abbrev Yg8(H:Type)(en:TypeId×Value->H)(w:World)(fuel:Nat):Prop:=∀(cs:List Value)(x:DataW H×List MemPlace),DataW.trod en Tryz.prog w 0 (fun _=>true) true fuel 52 cs=some x->Fit 52 x-> ∃r:Nd,All2 (RepD w (prW w)) (encD r) cs/\wfD r/\All Big r
theorem Yfh{fuel:Nat}(ih:∀q<fuel,Yg7 H en w q){v:Value}{x:DataW H×List MemPlace}(h:DataW.trod en Tryz.prog w 0 (fun _=>true) true fuel 32 [v]=some x)(hz:Fit 32 x):
 ∃l:List Nd,RepD w (prW w) (.slc (Yby l)) v/\l.length<=2^50/\wfEs l/\ ∀r∈l,All Big r:=by
 obtain⟨l,h1,h2,h3⟩:=Yca (E:=encE) (Good:=fun r=>wfE r/\All Big r) Tryz.underlying32 Yff (by decide) by34 Yah ih h hz;exact⟨l,by rw[Yb3];exact h1,h2,(Ych l).2 fun r hr=>(h3 r hr).1,fun r hr=>(h3 r hr).2⟩
theorem Yfi{fuel:Nat}(ih:∀q<fuel,Yg8 H en w q){v:Value}{x:DataW H×List MemPlace}(h:DataW.trod en Tryz.prog w 0 (fun _=>true) true fuel 23 [v]=some x)(hz:Fit 23 x):
 ∃l:List Nd,RepD w (prW w) (.slc (Ybc l)) v/\l.length<=2^50/\wfDs l/\ ∀r∈l,All Big r:=by
 obtain⟨l,h1,h2,h3⟩:=Yca (E:=encD) (Good:=fun r=>wfD r/\All Big r) Tryz.underlying23 Yfg (by decide) by52 Ya6 ih h hz;exact⟨l,by rw[Yb4];exact h1,h2,(Yci l).2 fun r hr=>(h3 r hr).1,fun r hr=>(h3 r hr).2⟩
theorem Yg9(fuel:Nat):Yg7 H en w fuel/\Yg8 H en w fuel:=by
 induction fuel using Nat.strongRecOn with
 |ind fuel ih=>
  have ihE:∀q<fuel,Yg7 H en w q:=fun q hq=>(ih q hq).1
  have ihD:∀q<fuel,Yg8 H en w q:=fun q hq=>(ih q hq).2
  refine⟨fun cs x h hz=>?_,fun cs x h hz=>?_⟩
  ·obtain⟨hl,n,hn,hf⟩:=Ycp Tryz.underlying34 h hz;rw[Yff]at hl
   match cs,hl with
   |[v0,v1,v2,v3,v4,v5,v6,v7,v8],_=>
    obtain⟨y0,a0,b0⟩:=hf 0 3 0 rfl;obtain⟨y1,a1,b1⟩:=hf 1 9 1 rfl;obtain⟨y2,a2,b2⟩:=hf 2 2 2 rfl;obtain⟨y3,a3,b3⟩:=hf 3 31 3 rfl;obtain⟨y4,a4,b4⟩:=hf 4 32 5 rfl;obtain⟨y5,a5,b5⟩:=hf 5 23 6 rfl;obtain⟨y6,a6,b6⟩:=hf 6 24 7 rfl;obtain⟨y7,a7,b7⟩:=hf 7 3 8 rfl;simp only[Ygr,Yeq,Ygs,Yfb,Yfc,Yfd,Yfe]at a0 a1 a2 a3 a4 a5 a6 a7;obtain⟨k,e0,_⟩:=DataW.trod_int Tryz.underlying3 a0;obtain⟨t,e1,g1⟩:=Ybu Tryz.underlying9 a1 b1;obtain⟨m,e2,_⟩:=DataW.trod_int Tryz.underlying2 a2;obtain⟨p,q,e3,e4,g3,g4⟩:=Yc4 a3 b3;obtain⟨s,e5,l5,f5,g5⟩:=Yfh (fun q hq=>ihE q (by omega)) a4 b4;obtain⟨d,e6,l6,f6,g6⟩:=Yfi (fun q hq=>ihD q (by omega)) a5 b5;obtain⟨c,e7,l7,g7⟩:=Ydh a6 b6;obtain⟨o,e8,_⟩:=DataW.trod_int Tryz.underlying3 a7;have u0:v0=_:=(List.cons.inj (show[v0]=_ from e0)).1
    have u1:v1=_:=(List.cons.inj (show[v1]=_ from e1)).1
    have u2:v2=_:=(List.cons.inj (show[v2]=_ from e2)).1
    have u8:v8=_:=(List.cons.inj (show[v8]=_ from e8)).1
    subst u0 u1 u2 e3 e4 u8;refine⟨.mk k m t p q [] [] c o s d,?_,?_,.mk ⟨⟨l5,l6,l7,by simp[Nd.lead]⟩,?_,g7,by simp[Nd.lead]⟩ g5 g6⟩
    ·rw[encE];exact⟨.lit _ rfl,.lit _ rfl,.lit _ rfl,.lit _ rfl,.lit _ rfl,e5,e6,e7,.lit _ rfl,trivial⟩
    ·rw[wfE];exact⟨⟨rfl,rfl⟩,f5,f6⟩
    ·intro z hz;simp only[Nd.text,Nd.n0,Nd.n1,Nd.trail,List.mem_cons,List.not_mem_nil,or_false]at hz;rcases hz with rfl|rfl|rfl|rfl
     ·exact g1
     ·exact g3
     ·exact g4
     ·simp
  ·obtain⟨hl,n,hn,hf⟩:=Ycp Tryz.underlying52 h hz;rw[Yfg]at hl
   match cs,hl with
   |[v0,v1,v2,v3,v4,v5,v6,v7,v8,v9,v10],_=>
    obtain⟨y0,a0,b0⟩:=hf 0 3 0 rfl;obtain⟨y1,a1,b1⟩:=hf 1 3 1 rfl;obtain⟨y2,a2,b2⟩:=hf 2 9 2 rfl;obtain⟨y3,a3,b3⟩:=hf 3 31 3 rfl;obtain⟨y4,a4,b4⟩:=hf 4 32 5 rfl;obtain⟨y5,a5,b5⟩:=hf 5 23 6 rfl;obtain⟨y6,a6,b6⟩:=hf 6 24 7 rfl;obtain⟨y7,a7,b7⟩:=hf 7 24 8 rfl;obtain⟨y8,a8,b8⟩:=hf 8 9 9 rfl;obtain⟨y9,a9,b9⟩:=hf 9 3 10 rfl;simp only[Ygr,Yeq,Ygs,Yfb,Yfc,Yfd,Yfe]at a0 a1 a2 a3 a4 a5 a6 a7 a8 a9;obtain⟨k,e0,_⟩:=DataW.trod_int Tryz.underlying3 a0;obtain⟨m,e1,_⟩:=DataW.trod_int Tryz.underlying3 a1;obtain⟨t,e2,g1⟩:=Ybu Tryz.underlying9 a2 b2;obtain⟨p,q,e3,e4,g3,g4⟩:=Yc4 a3 b3;obtain⟨s,e5,l5,f5,g5⟩:=Yfh (fun q hq=>ihE q (by omega)) a4 b4;obtain⟨d,e6,l6,f6,g6⟩:=Yfi (fun q hq=>ihD q (by omega)) a5 b5;obtain⟨c,e7,l7,g7⟩:=Ydh a6 b6;obtain⟨le,e8,l8,g8⟩:=Ydh a7 b7;obtain⟨tr,e9,g9⟩:=Ybu Tryz.underlying9 a8 b8;obtain⟨o,e10,_⟩:=DataW.trod_int Tryz.underlying3 a9;have u0:v0=_:=(List.cons.inj (show[v0]=_ from e0)).1
    have u1:v1=_:=(List.cons.inj (show[v1]=_ from e1)).1
    have u2:v2=_:=(List.cons.inj (show[v2]=_ from e2)).1
    have u9:v9=_:=(List.cons.inj (show[v9]=_ from e9)).1
    have u10:v10=_:=(List.cons.inj (show[v10]=_ from e10)).1
    subst u0 u1 u2 e3 e4 u9 u10;refine⟨.mk k m t p q tr le c o s d,?_,?_,.mk ⟨⟨l5,l6,l7,l8⟩,?_,g7,g8⟩ g5 g6⟩
    ·rw[encD];exact⟨.lit _ rfl,.lit _ rfl,.lit _ rfl,.lit _ rfl,.lit _ rfl,e5,e6,e7,e8,.lit _ rfl,.lit _ rfl,trivial⟩
    ·rw[wfD];exact⟨f5,f6⟩
    ·intro z hz;simp only[Nd.text,Nd.n0,Nd.n1,Nd.trail,List.mem_cons,List.not_mem_nil,or_false]at hz;rcases hz with rfl|rfl|rfl|rfl
     ·exact g1
     ·exact g3
     ·exact g4
     ·exact g9
end
end Go.Sy
end
section
open Go Go.Proofs Go.Ab Go.Rf Go.ChangeShapes Go.WideShapes Go.ChangeAt
set_option maxRecDepth 100000
namespace Go.Sy
theorem lay:laidOutB Tryz.prog=true:=by kernel_rfl
theorem own:ownKnob Tryz.prog.godebug=none:=by kernel_rfl
theorem Holds.out{P:Program}{f:FuncId}{args:List A}{v:A}(h:Holds P f args [] (Ret v)){w:World}{cargs:Array Value}
 (ha:All2 (fun x v=>∀p,RepA w (ghW w) (fun _=>0) p x v) args cargs.toList):
 CallsX P f cargs w fun e w'=>∃cv g',e=.returned cv/\RepA w' g' (fun _=>0) .res v cv/\RowKit.Below w.heap.size w w':=by
 have hh:HeapRel (Zag P w (ghW w) [] 0) (Zax []) (ghW w) w:=by
  have no:∀{o b},¬Owns (Zax []) (ghW w) o b:=fun ho=>by
   cases ho with
   |box h=>cases h
   |slot h=>cases h
   |cell h _ _=>cases h
  exact⟨fun r c h=>(by cases h),fun o o' b h _=>(no h).elim,fun o b h=>(no h).elim,fun b o h=>h,fun _ _ h=>h,fun _ _ h=>.inl h,fun _=>rfl,fun _ h=>h,Fr.refl _ _ _⟩
 refine(h w cargs (ghW w) ha hh).mono fun e w' ⟨out,H',g',hR,hH,hr,he⟩=>?_
 obtain⟨rfl,rfl⟩:=hR;obtain⟨cv,rfl,h1,_⟩:=he;refine⟨cv,g',rfl,h1,hr.fr.os,hr.fr.tape,hr.fr.output,hr.fr.size,fun b hb=>hr.fr.same b hb ?_⟩;rintro⟨o,ho⟩;cases ho with
 |box h=>cases h
 |slot h=>cases h
 |cell h _ _=>cases h
theorem Yel{P:Program}{f:FuncId}{fn:Func}{c:Code}(hf:P.funcs[f]? =some fn)(hb:fn.body=some c)(hn:(fn.name== "runtime.NumGoroutine")=false){args:Array Value}{w:World}{R:Ending->World->Prop}
 (h:CallsX P f args w R):Calls P f args w R:=by
 unfold CallsX at h;rw[Zea hf hb hn]at h;exact h
section
variable {H:Type} {en:TypeId×Value->H} {w:World} {base:Nat} {sp:Nat->Bool}
theorem Yi5{v:Value}{d:DataW H}{p:List MemPlace}(hv:Value.okWide Tryz.prog w .any base 34 v)(h:DataW.Trod en Tryz.prog w 0 (fun _=>true) true 34 v d p)(hz:∀k∈d.weights Tryz.prog 34,k<=reachBytes):
 ∃r:Nd,(∀q,RepA w (ghW w) (fun _=>0) q (.agg (encE r)) v)/\All Big r/\wfE r:=by
 obtain⟨fuel,h⟩:=h;simp only[Value.okWide,Tryz.underlying34]at hv;obtain⟨cs,rfl,_⟩:=hv;obtain⟨f,h2,h3,h4⟩:=(Yg9 fuel).1 _ _ h hz;exact⟨f,fun q=>⟨cs.toList,by simp,h2⟩,h4,h3⟩
theorem Ydx(hl:laidOutB Tryz.prog=true){W W':World}:∀{ts:List TypeId}{vs:List Value}{ds:List (DataW H)}{ps:List MemPlace},(∀t∈ts,Tryz.prog.readableRec t=true/\t<Tryz.prog.types.size)->
 DataW.TrodAll en Tryz.prog W 0 (fun _=>true) true ts vs ds ps->RowKit.Below W.heap.size W W'->(∀p∈ps,p.block<W.heap.size)->(∀p∈ps,sp p.block=true)->DataW.TrodAll en Tryz.prog W' 0 sp true ts vs ds ps
 |[],_,_,_,_,h,_,_,_=>by
  obtain⟨rfl,rfl,rfl⟩:=trodAll_nil h;rfl
 |t::ts,_,_,_,ht,h,hb,hlt,hs=>by
  obtain⟨v,vs1,d,ds1,a,b,rfl,rfl,rfl,h1,h2⟩:=trodAll_cons h;refine⟨a,b,?_,Ydx hl (fun t h=>ht t (List.mem_cons_of_mem _ h)) h2 hb (fun p hp=>hlt p (List.mem_append_right _ hp)) (fun p hp=>hs p (List.mem_append_right _ hp)),rfl⟩;exact WideElems.Trod_stays hl (ht t (List.mem_cons_self ..)).1 (ht t (List.mem_cons_self ..)).2 h1 (fun p hp=>hb.same (hlt p (List.mem_append_left _ hp))) (fun p hp=>hs p (List.mem_append_left _ hp))
theorem Yga{fn:Func}{s:ChangeSpec}{W W':World}{args:Array Value}{ds gs:List (DataW H)}{before:List MemPlace}(hvs:s.vars=[])
 (hW:DataW.Whole en Tryz.prog fn.params.toList s.vars false W args.toList ds gs before) (hres:fn.resultTypes= #[4])
 (hspec:s.fn H ds=⟨[.lit (.bool true)],ds,[]⟩) (hl:laidOutB Tryz.prog=true) (hrd0:(fn.params.toList.all fun t=>Tryz.prog.readableRec t&&decide (t<Tryz.prog.types.size))=true)
 (hb:RowKit.Below W.heap.size W W'):s.post en Tryz.prog fn false true false false W args (.bool true) W':=by
 have hlt:=hW.lt
 have hrd:∀t∈fn.params.toList,Tryz.prog.readableRec t=true/\t<Tryz.prog.types.size:=fun t ht=>by
  have:=List.all_eq_true.1 hrd0 t ht;simpa using this
 obtain⟨p,q,hA,hV,rfl,hfz,hnd⟩:=id hW;rw[hvs]at hV;obtain⟨rfl,rfl⟩:=trodVars_none hV;have hold:∀x∈p++[],(fun b=>decide (b<W.heap.size)) x.block=true:=fun x hx=>by simpa using hlt x hx
 have hr:∀(b:Nat)(sp:Nat->Bool)(hd:Bool),DataW.TrodAll en Tryz.prog W' b sp hd fn.resultTypes.toList ((Value.bool true).resultList fn.resultTypes.size) (s.fn H (ds++[])).results []:=fun b sp hd=>by
  rw[List.append_nil,hspec,hres];exact trodAll_cons_mk (RowKit.shut_bool Tryz.underlying4 _) trodAll_mk0
 have ha:∀sp:Nat->Bool,(∀x∈p++[],sp x.block=true)->DataW.TrodAll en Tryz.prog W' 0 sp true fn.params.toList args.toList (s.fn H (ds++[])).args p:=fun sp hs=>by
  rw[List.append_nil,hspec];exact Ydx hl hrd hA hb (fun x hx=>hlt x (by simpa using hx)) (fun x hx=>hs x (by simpa using hx))
 have hv:∀sp:Nat->Bool,DataW.TrodVars en Tryz.prog W' sp s.vars (s.fn H (ds++[])).vars []:=fun sp=>by
  rw[List.append_nil,hspec,hvs];rfl
 refine⟨ds,[],p++[],[],p,[],hW,hr _ _ _,ha _ hold,hv _,hb.frame _,fun _=>⟨RowKit.ok_one hres rfl (RowKit.okWide_bool_mk Tryz.underlying4 _),_,_,([]++p)++[],⟨[]++p,[],trodAll_append (ha _ (fun _ _=>rfl)) (hr _ _ _),hv _,rfl,?_,?_⟩,?_⟩⟩
 ·intro b off hx;have hx':MemPlace.cell b off∈p++[]:=by simpa using hx
  rw[hb.frozen (hlt _ hx')];exact hfz b off hx'
 ·intro h;cases h
 ·intro x hx _;simpa using hx
theorem Yh8{ts:List TypeId}{ds:List (DataW H)}(hz:(DataW.weightsEach Tryz.prog ts ds).all (· <=reachBytes)=true){i:Nat}{t:TypeId}{d:DataW H}(h1:ts[i]? =some t)(h2:ds[i]? =some d):∀k∈d.weights Tryz.prog t,k<=reachBytes:=fun k hk=>by
 have:=List.all_eq_true.1 hz k (Ybf h1 h2 hk);simpa using this
end
def Yh9:Array Value:=(Pinned.utf8FirstZ.map fun(n:Nat)=>Value.int .u8 n).toArray
def Yha:Array Value:=((([128,191,160,191,128,159,144,191,128,143]:List Nat)++List.replicate 22 0).map fun(n:Nat)=>Value.int .u8 n).toArray
def setC(v:Array Value):Obj->Obj
 |.cells _ t fr=>.cells v t fr
 |o=>o
noncomputable def Ycq(os:Os):World:=
 {World.holding Tryz.prog os ⟨#[],#[],[]⟩with heap:=((World.holding Tryz.prog os ⟨#[],#[],[]⟩).heap.modify 1 (setC Yh9)).modify 2 (setC Yha)}
def zE:Value:=.agg #[.int .i64 0,.string ⟨#[]⟩,.int .i64 0,.string ⟨#[]⟩,.string ⟨#[]⟩,.slice none 0 0,.slice none 0 0,.slice none 0 0,.int .i64 0]
def dE{H:Type}:DataW H:=.agg [.lit (.int .i64 0),.lit (.string []),.lit (.int .i64 0),.agg [.lit (.string []),.lit (.string [])],.nil,.nil,.nil,.lit (.int .i64 0)]
end Go.Sy
end
section
open Go Go.Proofs Go.Ab Go.Rf
set_option linter.unusedSimpArgs false
set_option maxRecDepth 100000
namespace Go.Sy
def RetD(es:List (List D)):Out->List (Ref×List A)->Prop:=fun o H=>H=[]/\ ∃v,o=.ret v/\AsD v (.d (.slc es))
theorem Holds.ofD{P:Program}{f:FuncId}{args:List A}{es:List (List D)}(h:Holds P f args [] (RetD es)):Holds P f args [] (Ret (slA es)):=
 h.asData fun o H' ⟨e,v,e1,e2⟩=>⟨.ret (slA es),by subst e1;exact e2,rfl,e⟩
end Go.Sy
end
section
open Go Go.Proofs Go.Ab Go.Rf
set_option linter.unusedSimpArgs false
set_option maxRecDepth 100000
namespace Go.Sy
end Go.Sy
end
section
open Go Go.Proofs Go.Ab Go.Rf
set_option linter.unusedSimpArgs false
set_option maxRecDepth 100000
namespace Go.Sy
theorem Ybm(l:List Nd):l.length<=sizes l:=by
 induction l with
 |nil=>simp
 |cons x l ih=>have:=size_pos x;simp only[List.length_cons,sizes];omega
end Go.Sy
end
section
open Go Go.Proofs Go.Ab Go.Rf
set_option linter.unusedSimpArgs false
set_option maxRecDepth 100000
namespace Go.Sy
def LET:Tx:=[108,101,116]
end Go.Sy
end
section
open Go Go.Proofs Go.Ab Go.Rf
set_option linter.unusedSimpArgs false
set_option maxRecDepth 100000
namespace Go.Sy
end Go.Sy
end
section
open Go Go.Proofs Go.Ab Go.Rf
set_option linter.unusedSimpArgs false
set_option maxRecDepth 100000
namespace Go.Sy
def RB(K:List (Ref×List A)):Out->List (Ref×List A)->Prop:=fun o H=>o=.ret (.tup [])/\H=K
end Go.Sy
end
section
open Go Go.Proofs Go.Ab Go.Rf
set_option linter.unusedSimpArgs false
set_option linter.unusedVariables false
set_option maxRecDepth 100000
namespace Go.Sy
theorem c104(s:Tx)(l:List Tx)(hl:l.length<=2^50):Holds Tryz.prog 104 [slA (txs l),strA s] [] (fun o H=>∃n:Int,o=.ret (intA n)/\H=[]/\(0<=n↔s∈l)):=by
 refine w104 (txs l) s ?_;refine⟨fun x=>∃i:Nat,x=i/\i<=l.length/\(s∈l.drop i↔s∈l),fun x=>l.length-x.toNat,⟨0,rfl,Nat.zero_le _,by simp⟩,?_,trivial⟩;rintro x ⟨i,rfl,hi,hr⟩;refine⟨fun hc=>?_,fun hc=>?_⟩
 ·have h1:i<l.length:=by have:=of_tlt hc;simp at this;omega
  refine⟨tle (by omega),teq (by rw[gT1 h1];rfl),(getT h1).1,fun hn=>?_,fun hn=>⟨tle (by omega),tle (by omega),⟨i+1,rfl,h1,?_⟩,dec h1⟩⟩
  ·rw[(getT h1).2]at hn;have:s∈l:=Ya7 hn▸List.getElem_mem h1;exact⟨i,rfl,rfl,by simp[this]⟩
  ·rw[(getT h1).2]at hn;have hne:=Ybe hn;rw[<-hr]
   conv=>rhs;rw[Ybl h1]
   simp only[List.mem_cons,hne,false_or]
 ·have h1:l.length<=i:=by have:=of_flt hc;simp at this;omega
  have:¬s∈l:=fun h=>by rw[<-hr,Ybt h1]at h;cases h
  exact⟨-1,rfl,rfl,by simp[this]⟩
theorem c71(s:Tx)(l:List Tx)(hl:l.length<=2^50):Holds Tryz.prog 71 [slA (txs l),strA s] [] (Ret (boolA (decide (s∈l)))):=
 w71 (txs l) s fun _=>⟨_,c104 s l hl,fun v H' ⟨n,e1,e2,e3⟩=>⟨n,Out.ret.inj e1,e2,by
  have:(tB (decide (0<=n)))=decide (s∈l):=by simp[e3]
  rw[this];exact⟨rfl,rfl⟩⟩,fun u H' ⟨n,e1,_⟩=>by cases e1⟩
end Go.Sy
end
section
open Go Go.Ab Go.Rf
set_option linter.unusedSimpArgs false
namespace Go.Rx
inductive Rx where
 |mk (kind s0 s1 s2 s3:Int) (subs:List Rx)
mutual
def enc:Rx->List D
 |.mk k a b c d l=>[.lit (.int .i64 k),.lit (.int .u64 a),.lit (.int .u64 b),.lit (.int .u64 c),.lit (.int .u64 d),.slc (encs l)]
def encs:List Rx->List (List D)
 |[]=>[]
 |r::l=>enc r::encs l
end
mutual
def size:Rx->Nat
 |.mk _ _ _ _ _ l=>1+sizes l
def sizes:List Rx->Nat
 |[]=>0
 |r::l=>size r+sizes l
end
def Rx.kind:Rx->Int|.mk k _ _ _ _ _=>k
def Rx.subs:Rx->List Rx|.mk _ _ _ _ _ l=>l
def Rx.w(r:Rx)(i:Nat):Int:=match r,i with|.mk _ a _ _ _ _,0=>a|.mk _ _ b _ _ _,1=>b|.mk _ _ _ c _ _,2=>c|.mk _ _ _ _ d _,_=>d
@[simp] theorem Yas:∀l,(encs l).length=l.length
  |[]=>rfl
  |r::l=>by simp[encs,Yas l]
@[simp] theorem Yer:∀(l:List Rx)(i:Nat),(encs l)[i]? =(l[i]?).map enc
  |[],i=>by simp[encs]
  |r::l,0=>by simp[encs]
  |r::l,i+1=>by simp[encs,Yer l i]
@[simp] theorem Yaz:∀(l m:List Rx),encs l++encs m=encs (l++m)
  |[],m=>rfl
  |r::l,m=>by simp[encs,Yaz l m]
@[simp] theorem Yin:([]:List (List D))=encs []:=rfl
@[simp] theorem Yc5 (r:Rx):(enc r).length=6:=by cases r;simp[enc]
@[simp] theorem enc0 (r:Rx):(enc r).getD 0 D0=.lit (.int .i64 r.kind):=by cases r;simp[enc,Rx.kind]
@[simp] theorem enc1 (r:Rx):(enc r).getD 1 D0=.lit (.int .u64 (r.w 0)):=by cases r;simp[enc,Rx.w]
@[simp] theorem enc2 (r:Rx):(enc r).getD 2 D0=.lit (.int .u64 (r.w 1)):=by cases r;simp[enc,Rx.w]
@[simp] theorem enc3 (r:Rx):(enc r).getD 3 D0=.lit (.int .u64 (r.w 2)):=by cases r;simp[enc,Rx.w]
@[simp] theorem enc4 (r:Rx):(enc r).getD 4 D0=.lit (.int .u64 (r.w 3)):=by cases r;simp[enc,Rx.w]
@[simp] theorem enc5 (r:Rx):(enc r).getD 5 D0=.slc (encs r.subs):=by cases r;simp[enc,Rx.subs]
@[simp] theorem Yjn (r:Rx) (h:0<(enc r).length):(enc r)[0]=.lit (.int .i64 r.kind):=by cases r;simp[enc,Rx.kind,Rx.w,Rx.subs]
@[simp] theorem Yjo (r:Rx) (h:1<(enc r).length):(enc r)[1]=.lit (.int .u64 (r.w 0)):=by cases r;simp[enc,Rx.kind,Rx.w,Rx.subs]
@[simp] theorem Yjp (r:Rx) (h:2<(enc r).length):(enc r)[2]=.lit (.int .u64 (r.w 1)):=by cases r;simp[enc,Rx.kind,Rx.w,Rx.subs]
@[simp] theorem Yjq (r:Rx) (h:3<(enc r).length):(enc r)[3]=.lit (.int .u64 (r.w 2)):=by cases r;simp[enc,Rx.kind,Rx.w,Rx.subs]
@[simp] theorem Yjr (r:Rx) (h:4<(enc r).length):(enc r)[4]=.lit (.int .u64 (r.w 3)):=by cases r;simp[enc,Rx.kind,Rx.w,Rx.subs]
@[simp] theorem Yjs (r:Rx) (h:5<(enc r).length):(enc r)[5]=.slc (encs r.subs):=by cases r;simp[enc,Rx.kind,Rx.w,Rx.subs]
theorem Yes{l:List Rx}{i:Nat}{x:Int}(hx:x=i)(h:i<l.length):gAt (encs l) x=enc l[i]:=by
 subst hx;have h2:=Yer l i;rw[List.getElem?_eq_getElem h]at h2;simp only[gAt,List.getD,Int.toNat_natCast,h2];rfl
@[simp] theorem isK_int (k:IntKind) (n:Int):Rf.isK (.int k) (.lit (.int k n))=true:=by simp[Rf.isK]
@[simp] theorem isK_bool (b:Bool):Rf.isK .bool (.lit (.bool b))=true:=rfl
@[simp] theorem isK_slc (l:List (List D)):Rf.isK .slc (.slc l)=true:=rfl
@[simp] theorem dint_int (k:IntKind) (n:Int):Rf.dint (.lit (.int k n))=n:=rfl
@[simp] theorem dbool_bool (b:Bool):Rf.dbool (.lit (.bool b))=b:=rfl
@[simp] theorem dlst_slc (l:List (List D)):Rf.dlst (.slc l)=l:=rfl
def Ret(v:A):Out->List (Ref×List A)->Prop:=fun o H=>o=.ret v/\H=[]
@[simp] theorem ret_iff {v u:A} {H:List (Ref×List A)}:Ret v (.ret u) H↔u=v/\H=[]:=by simp[Ret]
@[simp] theorem pan_iff {v:A} {u:Value} {H:List (Ref×List A)}:Ret v (.pan u) H↔False:=by simp[Ret]
theorem call1{P:Program}{f:Nat}{args:List A}{v:A}(hc:Holds P f args [] (Ret v)){Q1:A->List (Ref×List A)->Prop}{Q2:Value->List (Ref×List A)->Prop}(h:Q1 v []):
 ∀_:Nat->Nat,∃R':Out->List (Ref×List A)->Prop,Holds P f args [] R'/\(∀v H',R' (.ret v) H'->Q1 v H')/\(∀u H',R' (.pan u) H'->Q2 u H'):=
 fun _=>⟨_,hc,fun v' H' e=>by obtain⟨e1,rfl⟩:=e;cases e1;exact h,fun u H' e=>by cases e.1⟩
theorem Yc6:∀(l:List Rx)(k:Nat)(h:k<l.length),sizes (l.take (k+1))=sizes (l.take k)+size l[k]
 |r::l,0,_=>by simp[sizes]
 |r::l,k+1,h=>by
  have:=Yc6 l k (by simpa using h);simp[sizes,this];omega
theorem Yet:∀(l:List Rx)(k:Nat),sizes (l.take k)<=sizes l
 |[],k=>by simp[sizes]
 |r::l,0=>by simp[sizes]
 |r::l,k+1=>by have:=Yet l k;simp[sizes];omega
theorem size_pos(r:Rx):1<=size r:=by cases r;simp[size]
theorem size_eq(r:Rx):size r=1+sizes r.subs:=by cases r;rfl
theorem size_sub{r:Rx}{i:Nat}(h:i<r.subs.length):size r.subs[i]<size r:=by
 have h1:=Yc6 r.subs i h;have h2:=Yet r.subs (i+1);have h3:=size_eq r;omega
mutual
def lens(B:Nat):Rx->Prop
 |.mk _ _ _ _ _ l=>l.length<=B/\Yfj B l
def Yfj(B:Nat):List Rx->Prop
 |[]=>True
 |r::l=>lens B r/\Yfj B l
end
theorem Ydy{B:Nat}:∀{l:List Rx},Yfj B l↔∀r∈l,lens B r
 |[]=>by simp[Yfj]
 |r::l=>by simp[Yfj,Ydy (l:=l)]
theorem Ybv{B:Nat}{r:Rx}:lens B r↔r.subs.length<=B/\ ∀x∈r.subs,lens B x:=by
 cases r with|mk k a b c d l=>simp[lens,Rx.subs,Ydy]
theorem Yeu{B:Nat}{r:Rx}(h:lens B r){i:Nat}(hi:i<r.subs.length):lens B r.subs[i]:=(Ybv.1 h).2 _ (List.getElem_mem hi)
theorem Ycr{B C:Nat}(h:B<=C):∀(n:Nat)(r:Rx),size r<=n->lens B r->lens C r
 |0,r,hs,_=>by have:=size_pos r;omega
 |n+1,r,hs,hr=>by
  rw[Ybv]at hr⊢;refine⟨Nat.le_trans hr.1 h,fun x hx=>?_⟩;obtain⟨i,hi,rfl⟩:=List.mem_iff_getElem.1 hx;exact Ycr h n _ (by have:=size_sub hi;omega) (hr.2 _ hx)
end Go.Rx
end
section
open Go Go.Proofs Go.Ab Go.Rf
set_option maxRecDepth 100000
namespace Go.Rx
def wdA(p:Nat->Bool)(k:Nat):Nat->Nat
 |0=>0
 |n+1=>wdA p k n+if p (64*k+n)then 2^n else 0
def wd(p:Nat->Bool)(k:Nat):Nat:=wdA p k 64
theorem Yfk(p:Nat->Bool)(k:Nat):∀n,wdA p k n<2^n
 |0=>by simp[wdA]
 |n+1=>by
  have:=Yfk p k n;simp only[wdA,Nat.pow_succ];split<;>omega
theorem Yfl(p:Nat->Bool)(k:Nat):∀n j,(wdA p k n).testBit j=(decide (j<n)&&p (64*k+j))
 |0,j=>by simp[wdA]
 |n+1,j=>by
  have hlt:=Yfk p k n;have ih:=Yfl p k n;simp only[wdA];by_cases hp:p (64*k+n)=true
  ·rw[if_pos hp,Nat.add_comm];by_cases hj:j=n
   ·subst hj;rw[Nat.testBit_two_pow_add_eq,ih];simp[hp]
   ·rcases Nat.lt_or_gt_of_ne hj with h|h
    ·rw[Nat.testBit_two_pow_add_gt h,ih];simp[h,Nat.lt_succ_of_lt h]
    ·rw[Nat.testBit_lt_two_pow (Nat.lt_of_lt_of_le (show 2^n+wdA p k n<2^(n+1) by rw[Nat.pow_succ];omega) (Nat.pow_le_pow_right (by decide) h))];have:¬j<n+1:=by omega
     simp[this]
  ·rw[if_neg hp,Nat.add_zero,ih];by_cases hj:j=n
   ·subst hj;simp[hp]
   ·have:(j<n+1)=(j<n):=by simp;omega
    simp[this]
theorem Ydz(p:Nat->Bool)(k j:Nat):(wd p k).testBit j=(decide (j<64)&&p (64*k+j)):=Yfl p k 64 j
theorem Ycb(p:Nat->Bool)(k:Nat):wd p k<2^64:=Yfk p k 64
theorem Yd0{p:Nat->Bool}{k w:Nat}(h:w<2^64)(hb:∀j<64,w.testBit j=p (64*k+j)):wd p k=w:=by
 refine Nat.eq_of_testBit_eq fun j=>?_
 rw[Ydz];by_cases hj:j<64
 ·simp[hj,hb j hj]
 ·rw[Nat.testBit_lt_two_pow (Nat.lt_of_lt_of_le h (Nat.pow_le_pow_right (by decide) (by omega)))];simp[hj]
def row4(p:Nat->Bool):List D:=[.lit (.int .u64 (wd p 0)),.lit (.int .u64 (wd p 1)),.lit (.int .u64 (wd p 2)),.lit (.int .u64 (wd p 3))]
theorem Ydi(n:Nat)(h:n<2^64):IntKind.wrap .u64 (n:Int)=n:=by
 have e1:IntKind.signed .u64=false:=rfl;have e2:IntKind.bits .u64=64:=rfl;simp[IntKind.wrap,e1,e2];omega
theorem Ydj(a b:Nat)(ha:a<2^64)(hb:b<2^64):gOr .u64 (a:Int) (b:Int)=((a|||b:Nat):Int):=by
 have e2:IntKind.bits .u64=64:=rfl;unfold gOr;rw[e2]
 have:(BitVec.ofInt 64 (a:Int)|||BitVec.ofInt 64 (b:Int)).toNat=a|||b:=by
  rw[BitVec.toNat_or,BitVec.ofInt_natCast,BitVec.ofInt_natCast,BitVec.toNat_ofNat,BitVec.toNat_ofNat,Nat.mod_eq_of_lt ha,Nat.mod_eq_of_lt hb]
 rw[this];exact Ydi _ (Nat.or_lt_two_pow ha hb)
theorem Yev(j:Nat)(h:j<64):gShl .u64 1 (j:Int)=((2^j:Nat):Int):=by
 have e2:IntKind.bits .u64=64:=rfl;unfold gShl;rw[e2];have e:(min ((j:Int).toNat) 64)=j:=by omega
 rw[e,Int.one_mul];have:=Ydi (2^j) (Nat.pow_lt_pow_right (by decide) h);rw[<-this]
 congr 1
theorem Yew(a:Nat)(h:a<2^64):gNot .u64 (a:Int)=((2^64-1-a:Nat):Int):=by
 have e2:IntKind.bits .u64=64:=rfl;have e1:(if IntKind.signed .u64=true then(-1:Int)else IntKind.max .u64)=((2^64-1:Nat):Int):=rfl
 unfold gNot;rw[e2,e1]
 have:(BitVec.ofInt 64 ((2^64-1:Nat):Int)^^^BitVec.ofInt 64 (a:Int)).toNat=2^64-1-a:=by
  rw[BitVec.ofInt_natCast,BitVec.ofInt_natCast];have:BitVec.ofNat 64 (2^64-1)=BitVec.allOnes 64:=rfl;rw[this,BitVec.allOnes_xor,BitVec.toNat_not,BitVec.toNat_ofNat,Nat.mod_eq_of_lt h]
 rw[this];exact Ydi _ (by omega)
theorem Ygb(p q:Nat->Bool)(k:Nat):wd p k|||wd q k=wd (fun i=>p i||q i) k:=by
 refine(Yd0 (Nat.or_lt_two_pow (Ycb _ _) (Ycb _ _)) fun j hj=>?_).symm;rw[Nat.testBit_or,Ydz,Ydz];simp[hj]
theorem Ygt(p:Nat->Bool)(k:Nat):2^64-1-wd p k=wd (fun i=>!p i) k:=by
 refine(Yd0 (by have:=Ycb p k;omega) fun j hj=>?_).symm;rw[show 2^64-1-wd p k=2^64-(wd p k+1) by omega,Nat.testBit_two_pow_sub_succ (Ycb _ _),Ydz];simp[hj]
theorem Ygu(k j:Nat)(h:j<64):wd (fun i=>decide (i=64*k+j)) k=2^j:=by
 refine Yd0 (Nat.pow_lt_pow_right (by decide) h) fun i hi=>?_
 rw[Nat.testBit_two_pow];by_cases e:j=i
 ·subst e;simp
 ·have:¬i=j:=fun h=>e h.symm
  simp[e,this]
theorem Ybi{p q:Nat->Bool}{k:Nat}(h:∀i,64*k<=i->i<64*k+64->p i=q i):wd p k=wd q k:=
 Yd0 (Ycb _ _) fun j hj=>by rw[Ydz,h _ (by omega) (by omega)];simp[hj]
theorem Yc7{p q:Nat->Bool}(h:∀i<256,p i=q i):row4 p=row4 q:=by
 unfold row4;rw[Ybi (p:=p) (q:=q) (k:=0) fun i _ h2=>h i (by omega),Ybi (p:=p) (q:=q) (k:=1) fun i _ h2=>h i (by omega),Ybi (p:=p) (q:=q) (k:=2) fun i _ h2=>h i (by omega),Ybi (p:=p) (q:=q) (k:=3) fun i _ h2=>h i (by omega)]
@[simp] theorem Yhb (p:Nat->Bool):(row4 p).length=4:=rfl
@[simp] theorem Yjj (p:Nat->Bool):(row4 p).getD 0 D0=.lit (.int .u64 (wd p 0)):=rfl
@[simp] theorem Yjk (p:Nat->Bool):(row4 p).getD 1 D0=.lit (.int .u64 (wd p 1)):=rfl
@[simp] theorem Yjl (p:Nat->Bool):(row4 p).getD 2 D0=.lit (.int .u64 (wd p 2)):=rfl
@[simp] theorem Yjm (p:Nat->Bool):(row4 p).getD 3 D0=.lit (.int .u64 (wd p 3)):=rfl
theorem Ygv(x:Nat):Int.tdiv (x:Int) 64=((x/64:Nat):Int):=rfl
theorem Ygw(x:Nat):Int.tmod (x:Int) 64=((x % 64:Nat):Int):=rfl
theorem Yfm(n:Nat)(h:n<256):IntKind.wrap .u8 (n:Int)=n:=by
 have e1:IntKind.signed .u8=false:=rfl;have e2:IntKind.bits .u8=8:=rfl;simp[IntKind.wrap,e1,e2];omega
def upTo(lo n:Nat):Nat->Bool:=fun i=>decide (lo<=i/\i<n)
theorem Ydk{lo n:Nat}(h:lo<=n){k:Nat}(hk:n/64=k):gOr .u64 (wd (upTo lo n) k:Int) (gShl .u64 1 ((n % 64:Nat):Int))=wd (upTo lo (n+1)) k:=by
 have hj:n % 64<64:=Nat.mod_lt _ (by decide);rw[Yev _ hj,Ydj _ _ (Ycb _ _) (Nat.pow_lt_pow_right (by decide) hj),<-Ygu k _ hj,Ygb]
 congr 1
 refine Ybi fun i h1 h2=>?_
 simp only[upTo];rw[Bool.eq_iff_iff];simp only[Bool.or_eq_true,decide_eq_true_eq];omega
theorem Yax(lo:Nat){n k:Nat}(hk:n/64≠k):wd (upTo lo (n+1)) k=wd (upTo lo n) k:=by
 refine Ybi fun i h1 h2=>?_
 simp only[upTo];rw[Bool.eq_iff_iff];simp only[decide_eq_true_eq];omega
theorem Ygc(lo k:Nat):wd (upTo lo lo) k=0:=by
 refine Yd0 (by decide) fun i hi=>?_
 rw[Nat.zero_testBit]
 symm
 simp only[upTo,decide_eq_false_iff_not];omega
theorem c85(lo hi:Nat)(h:hi<256)(hl:lo<2^40):Holds Tryz.prog 166 [A.d (.lit (.int .i64 lo)),A.d (.lit (.int .i64 hi))] [] (Ret (.agg (row4 (fun i=>decide (lo<=i/\i<=hi))))):=by
 refine w85 lo hi ⟨fun x a b c d=>∃n:Nat,x=n/\lo<=n/\(n<=hi+1\/n=lo)/\a=wd (upTo lo n) 0/\b=wd (upTo lo n) 1/\c=wd (upTo lo n) 2/\d=wd (upTo lo n) 3,fun x _ _ _ _=>(hi+1-x.toNat),⟨lo,rfl,Nat.le_refl _,.inr rfl,by simp[Ygc]⟩,?_,trivial⟩;rintro x a b c d ⟨n,rfl,hn,hn2,rfl,rfl,rfl,rfl⟩;simp only[Ygv,Ygw,Zwb,decide_eq_true_eq,decide_eq_false_iff_not,beq_iff_eq,beq_eq_false_iff_ne,Int.toNat_natCast];refine⟨fun hc=>⟨by omega,by omega,by omega,by omega,fun h0=>⟨by omega,by omega,by omega,⟨n+1,rfl,by omega,.inl (by omega),?_⟩,by omega⟩,fun h0=>⟨fun h1=>⟨by omega,by omega,by omega,⟨n+1,rfl,by omega,.inl (by omega),?_⟩,by omega⟩,fun h1=>⟨fun h2=>⟨by omega,by omega,by omega,⟨n+1,rfl,by omega,.inl (by omega),?_⟩,by omega⟩,fun h2=>⟨by omega,by omega,by omega,by omega,⟨n+1,rfl,by omega,.inl (by omega),?_⟩,by omega⟩⟩⟩⟩,fun hc=>?_⟩
 ·have hk:n/64=0:=by omega
  rw[Ydk hn hk,Yax lo (k:=1) (by omega),Yax lo (k:=2) (by omega),Yax lo (k:=3) (by omega)];simp
 ·have hk:n/64=1:=by omega
  rw[Ydk hn hk,Yax lo (k:=0) (by omega),Yax lo (k:=2) (by omega),Yax lo (k:=3) (by omega)];simp
 ·have hk:n/64=2:=by omega
  rw[Ydk hn hk,Yax lo (k:=0) (by omega),Yax lo (k:=1) (by omega),Yax lo (k:=3) (by omega)];simp
 ·have hk:n/64=3:=by omega
  rw[Ydk hn hk,Yax lo (k:=0) (by omega),Yax lo (k:=1) (by omega),Yax lo (k:=2) (by omega)];simp
 ·have e:row4 (fun i=>decide (lo<=i/\i<=hi))=row4 (upTo lo n):=Yc7 fun i hi=>by
   simp only[upTo];rw[Bool.eq_iff_iff];simp only[decide_eq_true_eq];omega
  rw[e];simp[row4]
def part(lo hi n:Nat):Nat->Bool:=fun i=>decide (lo<=i/\i<=hi/\i<n)
theorem Ydl{lo hi n:Nat}(h:lo<=n)(h':n<=hi){k:Nat}(hk:n/64=k):gOr .u64 (wd (part lo hi n) k:Int) (gShl .u64 1 ((n % 64:Nat):Int))=wd (part lo hi (n+1)) k:=by
 have hj:n % 64<64:=Nat.mod_lt _ (by decide);rw[Yev _ hj,Ydj _ _ (Ycb _ _) (Nat.pow_lt_pow_right (by decide) hj),<-Ygu k _ hj,Ygb]
 congr 1
 refine Ybi fun i h1 h2=>?_
 simp only[part];rw[Bool.eq_iff_iff];simp only[Bool.or_eq_true,decide_eq_true_eq];omega
theorem Yap(lo hi:Nat){n k:Nat}(hk:n/64≠k\/ ¬(lo<=n/\n<=hi)):wd (part lo hi (n+1)) k=wd (part lo hi n) k:=by
 refine Ybi fun i h1 h2=>?_
 simp only[part];rw[Bool.eq_iff_iff];simp only[decide_eq_true_eq];omega
theorem Ygd(lo hi k:Nat):wd (part lo hi 0) k=0:=by
 refine Yd0 (by decide) fun i hi=>?_
 rw[Nat.zero_testBit]
 symm
 simp only[part,decide_eq_false_iff_not];omega
theorem c79(lo hi:Nat)(h:hi<256)(hl:lo<256):Holds Tryz.prog 160 [A.d (.lit (.int .u8 lo)),A.d (.lit (.int .u8 hi))] [] (Ret (.agg (row4 (fun i=>decide (lo<=i/\i<=hi))))):=by
 refine w79 lo hi ⟨fun x a b c d=>∃n:Nat,x=n/\n<=256/\a=wd (part lo hi n) 0/\b=wd (part lo hi n) 1/\c=wd (part lo hi n) 2/\d=wd (part lo hi n) 3,fun x _ _ _ _=>(256-x.toNat),⟨0,rfl,by omega,by simp[Ygd]⟩,?_,trivial⟩;rintro x a b c d ⟨n,rfl,hn,rfl,rfl,rfl,rfl⟩;simp only[Ygv,Ygw,Zwb,decide_eq_true_eq,decide_eq_false_iff_not,beq_iff_eq,beq_eq_false_iff_ne,Int.toNat_natCast,Bool.or_eq_true,Bool.not_eq_true',Bool.and_eq_true,Bool.and_eq_false_iff];refine⟨fun hc=>⟨by omega,by omega,by omega,by omega,fun hin=>⟨by omega,by omega,by omega,by omega,fun h0=>⟨by omega,by omega,by omega,⟨n+1,rfl,by omega,?_⟩,by omega⟩,fun h0=>⟨fun h1=>⟨by omega,by omega,by omega,⟨n+1,rfl,by omega,?_⟩,by omega⟩,fun h1=>⟨fun h2=>⟨by omega,by omega,by omega,⟨n+1,rfl,by omega,?_⟩,by omega⟩,fun h2=>⟨by omega,by omega,by omega,by omega,⟨n+1,rfl,by omega,?_⟩,by omega⟩⟩⟩⟩,fun hin=>⟨by omega,by omega,⟨n+1,rfl,by omega,?_⟩,by omega⟩⟩,fun hc=>?_⟩
 ·have hk:n/64=0:=by omega
  rw[Ydl (by omega) (by omega) hk,Yap lo hi (k:=1) (by omega),Yap lo hi (k:=2) (by omega),Yap lo hi (k:=3) (by omega)];simp
 ·have hk:n/64=1:=by omega
  rw[Ydl (by omega) (by omega) hk,Yap lo hi (k:=0) (by omega),Yap lo hi (k:=2) (by omega),Yap lo hi (k:=3) (by omega)];simp
 ·have hk:n/64=2:=by omega
  rw[Ydl (by omega) (by omega) hk,Yap lo hi (k:=0) (by omega),Yap lo hi (k:=1) (by omega),Yap lo hi (k:=3) (by omega)];simp
 ·have hk:n/64=3:=by omega
  rw[Ydl (by omega) (by omega) hk,Yap lo hi (k:=0) (by omega),Yap lo hi (k:=1) (by omega),Yap lo hi (k:=2) (by omega)];simp
 ·rw[Yap lo hi (k:=0) (by omega),Yap lo hi (k:=1) (by omega),Yap lo hi (k:=2) (by omega),Yap lo hi (k:=3) (by omega)];simp
 ·have e:row4 (fun i=>decide (lo<=i/\i<=hi))=row4 (part lo hi n):=Yc7 fun i hi=>by
   simp only[part];rw[Bool.eq_iff_iff];simp only[decide_eq_true_eq];omega
  rw[e];simp[row4]
@[simp] theorem Yi6 (p:Nat->Bool):(row4 p)[0]? =some (.lit (.int .u64 (wd p 0))):=rfl
@[simp] theorem Yi7 (p:Nat->Bool):(row4 p)[1]? =some (.lit (.int .u64 (wd p 1))):=rfl
@[simp] theorem Yi8 (p:Nat->Bool):(row4 p)[2]? =some (.lit (.int .u64 (wd p 2))):=rfl
@[simp] theorem Yi9 (p:Nat->Bool):(row4 p)[3]? =some (.lit (.int .u64 (wd p 3))):=rfl
def wq(p p':Nat->Bool)(n k:Nat):D:=.lit (.int .u64 (wd (if k<n then p' else p) k))
theorem c91(p q:Nat->Bool):Holds Tryz.prog 173 [A.agg (row4 p),A.agg (row4 q)] [] (Ret (.agg (row4 fun i=>p i||q i))):=by
 refine w91 (row4 p) (row4 q) ⟨rfl,rfl,fun x a b c d=>∃n:Nat,x=n/\n<=4/\a=wq p (fun i=>p i||q i) n 0/\b=wq p (fun i=>p i||q i) n 1/\c=wq p (fun i=>p i||q i) n 2/\d=wq p (fun i=>p i||q i) n 3,fun x _ _ _ _=>(4-x.toNat),⟨0,rfl,by omega,rfl,rfl,rfl,rfl⟩,?_,trivial⟩;rintro x a b c d ⟨n,rfl,hn,rfl,rfl,rfl,rfl⟩;have hor:∀k,gOr .u64 (wd p k:Int) (wd q k:Int)=wd (fun i=>p i||q i) k:=fun k=>by rw[Ydj _ _ (Ycb _ _) (Ycb _ _),Ygb]
 rcases(show n=0\/n=1\/n=2\/n=3\/n=4 by omega)with rfl|rfl|rfl|rfl|rfl
 ·simp[wq,hor];exact⟨1,rfl,by omega,by simp⟩
 ·simp[wq,hor];exact⟨2,rfl,by omega,by simp⟩
 ·simp[wq,hor];exact⟨3,rfl,by omega,by simp⟩
 ·simp[wq,hor];exact⟨4,rfl,by omega,by simp⟩
 ·simp[wq,row4]
theorem c99(p q:Nat->Bool):Holds Tryz.prog 180 [A.agg (row4 p),A.agg (row4 q)] [] (Ret (.agg (row4 fun i=>p i||q i))):=by
 refine w99 (row4 p) (row4 q) ⟨rfl,rfl,fun x a b c d=>∃n:Nat,x=n/\n<=4/\a=wq p (fun i=>p i||q i) n 0/\b=wq p (fun i=>p i||q i) n 1/\c=wq p (fun i=>p i||q i) n 2/\d=wq p (fun i=>p i||q i) n 3,fun x _ _ _ _=>(4-x.toNat),⟨0,rfl,by omega,rfl,rfl,rfl,rfl⟩,?_,trivial⟩;rintro x a b c d ⟨n,rfl,hn,rfl,rfl,rfl,rfl⟩;have hor:∀k,gOr .u64 (wd p k:Int) (wd q k:Int)=wd (fun i=>p i||q i) k:=fun k=>by rw[Ydj _ _ (Ycb _ _) (Ycb _ _),Ygb]
 rcases(show n=0\/n=1\/n=2\/n=3\/n=4 by omega)with rfl|rfl|rfl|rfl|rfl
 ·simp[wq,hor];exact⟨1,rfl,by omega,by simp⟩
 ·simp[wq,hor];exact⟨2,rfl,by omega,by simp⟩
 ·simp[wq,hor];exact⟨3,rfl,by omega,by simp⟩
 ·simp[wq,hor];exact⟨4,rfl,by omega,by simp⟩
 ·simp[wq,row4]
theorem c92(p:Nat->Bool):Holds Tryz.prog 174 [A.agg (row4 p)] [] (Ret (.agg (row4 fun i=>!p i))):=by
 refine w92 (row4 p) ⟨rfl,fun x a b c d=>∃n:Nat,x=n/\n<=4/\a=wq p (fun i=>!p i) n 0/\b=wq p (fun i=>!p i) n 1/\c=wq p (fun i=>!p i) n 2/\d=wq p (fun i=>!p i) n 3,fun x _ _ _ _=>(4-x.toNat),⟨0,rfl,by omega,rfl,rfl,rfl,rfl⟩,?_,trivial⟩;rintro x a b c d ⟨n,rfl,hn,rfl,rfl,rfl,rfl⟩;have hor:∀k,gNot .u64 (wd p k:Int)=wd (fun i=>!p i) k:=fun k=>by rw[Yew _ (Ycb _ _),Ygt]
 rcases(show n=0\/n=1\/n=2\/n=3\/n=4 by omega)with rfl|rfl|rfl|rfl|rfl
 ·simp[wq,hor];exact⟨1,rfl,by omega,by simp⟩
 ·simp[wq,hor];exact⟨2,rfl,by omega,by simp⟩
 ·simp[wq,hor];exact⟨3,rfl,by omega,by simp⟩
 ·simp[wq,hor];exact⟨4,rfl,by omega,by simp⟩
 ·simp[wq,row4]
theorem c100(p:Nat->Bool):Holds Tryz.prog 181 [A.agg (row4 p)] [] (Ret (.agg (row4 fun i=>!p i))):=by
 refine w100 (row4 p) ⟨rfl,fun x a b c d=>∃n:Nat,x=n/\n<=4/\a=wq p (fun i=>!p i) n 0/\b=wq p (fun i=>!p i) n 1/\c=wq p (fun i=>!p i) n 2/\d=wq p (fun i=>!p i) n 3,fun x _ _ _ _=>(4-x.toNat),⟨0,rfl,by omega,rfl,rfl,rfl,rfl⟩,?_,trivial⟩;rintro x a b c d ⟨n,rfl,hn,rfl,rfl,rfl,rfl⟩;have hor:∀k,gNot .u64 (wd p k:Int)=wd (fun i=>!p i) k:=fun k=>by rw[Yew _ (Ycb _ _),Ygt]
 rcases(show n=0\/n=1\/n=2\/n=3\/n=4 by omega)with rfl|rfl|rfl|rfl|rfl
 ·simp[wq,hor];exact⟨1,rfl,by omega,by simp⟩
 ·simp[wq,hor];exact⟨2,rfl,by omega,by simp⟩
 ·simp[wq,hor];exact⟨3,rfl,by omega,by simp⟩
 ·simp[wq,hor];exact⟨4,rfl,by omega,by simp⟩
 ·simp[wq,row4]
end Go.Rx
end
section
open Go Go.Proofs Go.Ab Go.Rf
set_option maxRecDepth 100000
namespace Go.Rx
def hexV(x:Nat):Option Nat:=if 48<=x/\x<=57 then some (x-48)else if 97<=x/\x<=102 then some (x-97+10)else if 65<=x/\x<=70 then some (x-65+10)else none
def optI(o:Option Nat):Int:=match o with|some n=>n|none=> -1
theorem Ybw(x c:Nat)(h:x<256)(hc:c<=x):IntKind.wrap .u8 ((x:Int)-(c:Int))=((x-c:Nat):Int):=by
 rw[<-Yfm (x-c) (by omega)]
 congr 1
 omega
theorem c103(x:Nat)(h:x<256):Holds Tryz.prog 184 [A.d (.lit (.int .u8 x))] [] (Ret (.d (.lit (.int .i64 (optI (hexV x)))))):=by
 refine w103 x ?_;have e48:48<=x->IntKind.wrap .u8 ((x:Int)-48)=((x-48:Nat):Int):=Ybw x 48 h;have e97:97<=x->IntKind.wrap .u8 ((x:Int)-97)=((x-97:Nat):Int):=Ybw x 97 h;have e65:65<=x->IntKind.wrap .u8 ((x:Int)-65)=((x-65:Nat):Int):=Ybw x 65 h;simp only[Zwb,decide_eq_true_eq,Bool.and_eq_true,Bool.and_eq_false_iff,decide_eq_false_iff_not,ret_iff,and_true,A.d.injEq,D.lit.injEq,Value.int.injEq,true_and];refine⟨fun h0=>?_,fun h0=>⟨fun h1=>?_,fun h1=>⟨fun h2=>?_,fun h2=>?_⟩⟩⟩
 ·rw[e48 (by omega)];have e:hexV x=some (x-48):=by unfold hexV;rw[if_pos (by omega)]
  rw[e];exact⟨by omega,by omega,rfl⟩
 ·rw[e97 (by omega)];have e:hexV x=some (x-97+10):=by unfold hexV;rw[if_neg (by omega),if_pos (by omega)]
  rw[e];exact⟨by omega,by omega,by omega,by omega,by simp[optI]⟩
 ·rw[e65 (by omega)];have e:hexV x=some (x-65+10):=by unfold hexV;rw[if_neg (by omega),if_neg (by omega),if_pos (by omega)]
  rw[e];exact⟨by omega,by omega,by omega,by omega,by simp[optI]⟩
 ·have e:hexV x=none:=by unfold hexV;rw[if_neg (by omega),if_neg (by omega),if_neg (by omega)]
  rw[e];rfl
def ctlV(x:Nat):Option Nat:=if x=110 then some 10 else if x=116 then some 9 else if x=114 then some 13 else none
theorem c97(x:Nat)(h:x<256):Holds Tryz.prog 178 [A.d (.lit (.int .u8 x))] [] (Ret (.d (.lit (.int .i64 (optI (ctlV x)))))):=by
 refine w97 x ?_;simp only[Zwb,beq_iff_eq,beq_eq_false_iff_ne,ret_iff,and_true,A.d.injEq,D.lit.injEq,Value.int.injEq,true_and];refine⟨fun h0=>?_,fun h0=>⟨fun h1=>?_,fun h1=>⟨fun h2=>?_,fun h2=>?_⟩⟩⟩
 ·have e:ctlV x=some 10:=by unfold ctlV;rw[if_pos (by omega)]
  rw[e];rfl
 ·have e:ctlV x=some 9:=by unfold ctlV;rw[if_neg (by omega),if_pos (by omega)]
  rw[e];rfl
 ·have e:ctlV x=some 13:=by unfold ctlV;rw[if_neg (by omega),if_neg (by omega),if_pos (by omega)]
  rw[e];rfl
 ·have e:ctlV x=none:=by unfold ctlV;rw[if_neg (by omega),if_neg (by omega),if_neg (by omega)]
  rw[e];rfl
def spcL:List UInt8:=[40,41,91,93,123,125,124,42,43,63,46,92]
def spcV(x:Nat):Bool:=spcL.any fun b=>b.toNat==x
theorem c87(x:Nat)(h:x<256):Holds Tryz.prog 168 [A.d (.lit (.int .u8 x))] [] (Ret (.d (.lit (.bool (spcV x))))):=by
 refine w87 x ⟨fun y=>∃i:Nat,y=i/\i<=12/\ ∀j<i,(spcL.getD j 0).toNat≠x,fun y=>(12-y.toNat),⟨0,rfl,by omega,fun j hj=>absurd hj (Nat.not_lt_zero _)⟩,?_,trivial⟩;rintro y ⟨i,rfl,hi,hall⟩;have eg:Zwc [40,41,91,93,123,125,124,42,43,63,46,92] (i:Int)=((spcL.getD i 0).toNat:Nat):=rfl;simp only[eg,Zwb,decide_eq_true_eq,decide_eq_false_iff_not,beq_iff_eq,beq_eq_false_iff_ne,Int.toNat_natCast,ret_iff,and_true,A.d.injEq,D.lit.injEq,Value.bool.injEq];refine⟨fun hc=>⟨by omega,fun he=>?_,fun he=>⟨by omega,by omega,⟨i+1,rfl,by omega,fun j hj=>?_⟩,by omega⟩⟩,fun hc=>?_⟩
 ·symm
  have hl:i<spcL.length:=by show i<12;omega
  refine List.any_eq_true.2 ⟨spcL[i],List.getElem_mem hl,?_⟩;have e:spcL.getD i 0=spcL[i]:=by simp[List.getD,hl]
  rw[e]at he;simpa using Int.ofNat.inj he
 ·by_cases e:j=i
  ·subst e;exact fun h=>he (by rw[h])
  ·exact hall j (by omega)
 ·symm
  refine Bool.eq_false_iff.2 fun ht=>?_
  obtain⟨b,hb,hx⟩:=List.any_eq_true.1 ht;obtain⟨j,hj,rfl⟩:=List.mem_iff_getElem.1 hb;have hj12:j<12:=hj;refine hall j (by omega) ?_;have e:spcL.getD j 0=spcL[j]'hj:=by rw[List.getD,List.getElem?_eq_getElem hj];rfl
  exact(congrArg UInt8.toNat e).trans (eq_of_beq hx)
theorem c101(x:Nat)(h:x<256):Holds Tryz.prog 183 [A.d (.lit (.int .u8 x))] [] (Ret (.tup [(false,[.lit (.int .u8 ((hexV x).getD 0:Nat))]),(false,[.lit (.bool (hexV x).isSome)])])):=by
 refine w101 x ?_;have e48:48<=x->IntKind.wrap .u8 ((x:Int)-48)=((x-48:Nat):Int):=Ybw x 48 h;have e97:97<=x->IntKind.wrap .u8 ((x:Int)-97)=((x-97:Nat):Int):=Ybw x 97 h;have e65:65<=x->IntKind.wrap .u8 ((x:Int)-65)=((x-65:Nat):Int):=Ybw x 65 h;have ten:∀n:Nat,n<200->IntKind.wrap .u8 ((n:Int)+10)=((n+10:Nat):Int):=fun n hn=>Yfm (n+10) (by omega)
 simp only[Zwb,decide_eq_true_eq,Bool.and_eq_true,Bool.and_eq_false_iff,decide_eq_false_iff_not,ret_iff,and_true];refine⟨fun h0=>?_,fun h0=>⟨fun h1=>?_,fun h1=>⟨fun h2=>?_,fun h2=>?_⟩⟩⟩
 ·rw[e48 (by omega)];have e:hexV x=some (x-48):=by unfold hexV;rw[if_pos (by omega)]
  rw[e];rfl
 ·rw[e97 (by omega),ten _ (by omega)];have e:hexV x=some (x-97+10):=by unfold hexV;rw[if_neg (by omega),if_pos (by omega)]
  rw[e];rfl
 ·rw[e65 (by omega),ten _ (by omega)];have e:hexV x=some (x-65+10):=by unfold hexV;rw[if_neg (by omega),if_neg (by omega),if_pos (by omega)]
  rw[e];rfl
 ·have e:hexV x=none:=by unfold hexV;rw[if_neg (by omega),if_neg (by omega),if_neg (by omega)]
  rw[e];rfl
end Go.Rx
end
section
open Go Go.Proofs Go.Ab Go.Rf
set_option maxRecDepth 100000
namespace Go.Rx
def rng(lo hi:Nat):Nat->Bool:=fun i=>decide (lo<=i/\i<=hi)
def orP(p q:Nat->Bool):Nat->Bool:=fun i=>p i||q i
def clsV(x:Nat):Option (Nat->Bool):=
 if x=100 then some (rng 48 57)else if x=119 then some (orP (orP (rng 48 57) (orP (rng 97 122) (rng 65 90))) (rng 95 95))else if x=115 then some (orP (orP (rng 9 10) (rng 13 13)) (rng 32 32))else none
def clsA(x:Nat):A:=.tup [(true,row4 ((clsV x).getD fun _=>false)),(false,[.lit (.bool (clsV x).isSome)])]
theorem c79'(lo hi:Nat)(h:hi<256)(hl:lo<256):Holds Tryz.prog 160 [A.d (.lit (.int .u8 lo)),A.d (.lit (.int .u8 hi))] [] (Ret (.agg (row4 (rng lo hi)))):=c79 lo hi h hl
theorem c91'(p q:Nat->Bool):Holds Tryz.prog 173 [A.agg (row4 p),A.agg (row4 q)] [] (Ret (.agg (row4 (orP p q)))):=c91 p q
theorem Yd1:row4 (fun _=>false)=[.lit (.int .u64 0),.lit (.int .u64 0),.lit (.int .u64 0),.lit (.int .u64 0)]:=by
 have:∀k,wd (fun _=>false) k=0:=fun k=>Yd0 (by decide) fun j _=>Nat.zero_testBit j
 simp[row4,this]
theorem c80(x:Nat)(h:x<256):Holds Tryz.prog 161 [A.d (.lit (.int .u8 x))] [] (Ret (clsA x)):=by
 refine w80 x (call1 (c79' 48 57 (by decide) (by decide)) ⟨_,rfl,rfl,rfl,fun h0=>?_,fun h0=>⟨fun h1=>call1 (c79' 97 122 (by decide) (by decide)) ⟨_,rfl,rfl,call1 (c79' 65 90 (by decide) (by decide)) ⟨_,rfl,rfl,call1 (c91' _ _) ⟨_,rfl,rfl,rfl,call1 (c91' _ _) ⟨_,rfl,rfl,call1 (c79' 95 95 (by decide) (by decide)) ⟨_,rfl,rfl,call1 (c91' _ _) ⟨_,rfl,rfl,rfl,?_⟩⟩⟩⟩⟩⟩,
  fun h1=>⟨fun h2=>call1 (c79' 9 10 (by decide) (by decide)) ⟨_,rfl,rfl,call1 (c79' 13 13 (by decide) (by decide)) ⟨_,rfl,rfl,call1 (c91' _ _) ⟨_,rfl,rfl,call1 (c79' 32 32 (by decide) (by decide)) ⟨_,rfl,rfl,call1 (c91' _ _) ⟨_,rfl,rfl,rfl,?_⟩⟩⟩⟩⟩,fun h2=>?_⟩⟩⟩)
 all_goals simp only[Zwb,beq_iff_eq,beq_eq_false_iff_ne]at*
 ·have e:clsV x=some (rng 48 57):=by unfold clsV;rw[if_pos (by omega)]
  simp[clsA,e]
 ·have e:clsV x=some (orP (orP (rng 48 57) (orP (rng 97 122) (rng 65 90))) (rng 95 95)):=by unfold clsV;rw[if_neg (by omega),if_pos (by omega)]
  simp[clsA,e]
 ·have e:clsV x=some (orP (orP (rng 9 10) (rng 13 13)) (rng 32 32)):=by unfold clsV;rw[if_neg (by omega),if_neg (by omega),if_pos (by omega)]
  simp[clsA,e]
 ·have e:clsV x=none:=by unfold clsV;rw[if_neg (by omega),if_neg (by omega),if_neg (by omega)]
  simp[clsA,e,Yd1]
theorem c85'(lo hi:Nat)(h:hi<256)(hl:lo<256):Holds Tryz.prog 166 [A.d (.lit (.int .i64 lo)),A.d (.lit (.int .i64 hi))] [] (Ret (.agg (row4 (rng lo hi)))):=c85 lo hi h (by omega)
theorem c99'(p q:Nat->Bool):Holds Tryz.prog 180 [A.agg (row4 p),A.agg (row4 q)] [] (Ret (.agg (row4 (orP p q)))):=c99 p q
theorem c96(x:Nat)(h:x<256):Holds Tryz.prog 177 [A.d (.lit (.int .u8 x))] [] (Ret (clsA x)):=by
 refine w96 x ⟨fun h0=>call1 (c85' 48 57 (by decide) (by decide)) ⟨_,rfl,rfl,rfl,?_⟩,fun h0=>⟨fun h1=>call1 (c85' 48 57 (by decide) (by decide)) ⟨_,rfl,rfl,call1 (c85' 97 122 (by decide) (by decide)) ⟨_,rfl,rfl,call1 (c99' _ _) ⟨_,rfl,rfl,call1 (c85' 65 90 (by decide) (by decide)) ⟨_,rfl,rfl,call1 (c85' 95 95 (by decide) (by decide)) ⟨_,rfl,rfl,call1 (c99' _ _) ⟨_,rfl,rfl,call1 (c99' _ _) ⟨_,rfl,rfl,rfl,?_⟩⟩⟩⟩⟩⟩⟩,
  fun h1=>⟨fun h2=>call1 (c85' 32 32 (by decide) (by decide)) ⟨_,rfl,rfl,call1 (c85' 9 10 (by decide) (by decide)) ⟨_,rfl,rfl,call1 (c99' _ _) ⟨_,rfl,rfl,call1 (c85' 13 13 (by decide) (by decide)) ⟨_,rfl,rfl,call1 (c99' _ _) ⟨_,rfl,rfl,rfl,?_⟩⟩⟩⟩⟩,fun h2=>?_⟩⟩⟩
 all_goals simp only[Zwb,beq_iff_eq,beq_eq_false_iff_ne]at*
 ·have e:clsV x=some (rng 48 57):=by unfold clsV;rw[if_pos (by omega)]
  simp[clsA,e]
 ·have e:clsV x=some (orP (orP (rng 48 57) (orP (rng 97 122) (rng 65 90))) (rng 95 95)):=by unfold clsV;rw[if_neg (by omega),if_pos (by omega)]
  simp only[clsA,e,ret_iff,and_true,Option.getD_some,Option.isSome_some]
  congr 4
  funext i
  simp only[orP];cases rng 48 57 i<;>cases rng 97 122 i<;>cases rng 65 90 i<;>cases rng 95 95 i<;>rfl
 ·have e:clsV x=some (orP (orP (rng 9 10) (rng 13 13)) (rng 32 32)):=by unfold clsV;rw[if_neg (by omega),if_neg (by omega),if_pos (by omega)]
  simp only[clsA,e,ret_iff,and_true,Option.getD_some,Option.isSome_some]
  congr 4
  funext i
  simp only[orP];cases rng 9 10 i<;>cases rng 13 13 i<;>cases rng 32 32 i<;>rfl
 ·have e:clsV x=none:=by unfold clsV;rw[if_neg (by omega),if_neg (by omega),if_neg (by omega)]
  simp[clsA,e,Yd1]
end Go.Rx
end
section
open Go Go.Proofs Go.Ab Go.Rf
set_option maxRecDepth 100000
namespace Go.Rx
def idxV(l:List UInt8)(c:Nat):Int:=firstIdx ⟨l.toArray⟩ c.toUInt8
theorem c102(l:List UInt8)(c:Nat):Holds Tryz.prog 146 [A.d (.lit (Zco l)),A.d (.lit (.int .u8 c))] [] (Ret (.d (.lit (.int .i64 (idxV l c))))):=by
 intro w cargs g h1 h2
 have hc:cargs= #[Zco l,.int .u8 c]:=by
  rcases cargs with⟨cl⟩
  match cl,h1 with
  |[a,b],⟨ha,hb,_⟩=>
   have ha:=ha .res;have hb:=hb .res;cases ha;cases hb;rfl
 subst hc;unfold CallsX;rw[run_callFunc_extern (P:=Tryz.prog) (f:=146) (fn:=Tryz.f146) (e:=Extern.BytealgIndexByte.indexByte) rfl (by decide) rfl rfl rfl];rw[Zco,run_indexByte_string];refine⟨.ret (.d (.lit (.int .i64 (idxV l c)))),[],g,⟨rfl,rfl⟩,rfl,?_,_,rfl,?_,fun h=>by cases h⟩
 ·exact⟨h2.box,h2.inj,h2.wr,h2.prs,h2.pr0,h2.prn,h2.up,h2.uu,h2.fr⟩
 ·exact .lit _ rfl
theorem c94(l:List UInt8)(c:Nat):Holds Tryz.prog 133 [A.d (.lit (Zco l)),A.d (.lit (.int .u8 c))] [] (Ret (.d (.lit (.int .i64 (idxV l c))))):=
 w94 l c (call1 (c102 l c) ⟨_,rfl,rfl,by simp⟩)
theorem c83(l:List UInt8)(c:Nat):Holds Tryz.prog 164 [A.d (.lit (Zco l)),A.d (.lit (.int .u8 c))] [] (Ret (.d (.lit (.int .i64 (idxV l c))))):=
 w83 l c (call1 (c94 l c) ⟨_,rfl,rfl,by simp⟩)
theorem idxV_nonneg(l:List UInt8)(c:Nat)(h:c<256):0<=idxV l c↔(l.any fun b=>b.toNat==c)=true:=by
 unfold idxV firstIdx
 have key:∀b:UInt8,b=c.toUInt8↔b.toNat=c:=fun b=>by
  constructor
  ·rintro rfl;simp;omega
  ·rintro rfl;simp
 split
 ·rename_i i hi;have h1:=List.find?_some hi;have h2:=List.mem_range.1 (List.mem_of_find?_eq_some hi);simp only[beq_iff_eq,key]at h1;refine⟨fun _=>List.any_eq_true.2 ⟨_,?_,by simpa using h1⟩,fun _=>by omega⟩
  have e:(⟨l.toArray⟩:ByteArray)[i]! =l[i]'h2:=by
   rw[getElem!_pos _ i h2];rfl
  rw[e];exact List.getElem_mem _
 ·rename_i hi;refine⟨fun h=>by omega,fun h=>?_⟩;obtain⟨b,hb,hx⟩:=List.any_eq_true.1 h;obtain⟨j,hj,rfl⟩:=List.mem_iff_getElem.1 hb;have:=List.find?_eq_none.1 hi j (List.mem_range.2 hj)
  have e:(⟨l.toArray⟩:ByteArray)[j]! =l[j]'hj:=by
   rw[getElem!_pos _ j hj];rfl
  rw[e]at this;simp only[beq_iff_eq,key]at this;exact absurd (by simpa using hx) this
end Go.Rx
end
section
open Go Go.Proofs Go.Ab Go.Rf
set_option maxRecDepth 100000
namespace Go.Rx
def Yao(r:Rx):Int:=
 if r.kind<0\/5<r.kind\/(r.kind≠2/\ ¬(r.w 0=0/\r.w 1=0/\r.w 2=0/\r.w 3=0))then 11
 else if r.kind=3\/r.kind=4 then(if r.subs.length<2 then 2 else 0)
 else if r.kind=5 then(if r.subs.length≠1 then 2 else 0)
 else if r.subs.length≠0 then 2 else 0
theorem c47(r:Rx):Holds Tryz.prog 152 [A.agg (enc r)] [] (Ret (.d (.lit (.int .i64 (Yao r))))):=by
 refine w47 (enc r) ?_;have e:(0<r.subs.length)↔¬r.subs=[]:=List.length_pos_iff;simp only[enc0,enc1,enc2,enc3,enc4,enc5,Yc5,isK_int,isK_slc,dint_int,dlst_slc,Zwb,Yas,ret_iff,and_true,true_and,decide_eq_true_eq,decide_eq_false_iff_not,Bool.or_true,Bool.and_eq_true,Bool.or_eq_true,Bool.not_eq_true',Bool.and_eq_false_iff,Bool.or_eq_false_iff,Bool.not_eq_false',beq_iff_eq,beq_eq_false_iff_ne,A.d.injEq,D.lit.injEq,Value.int.injEq];refine⟨rfl,fun h=>?_,fun h=>⟨fun h2=>?_,fun h2=>?_⟩⟩
 ·unfold Yao;rw[if_pos];rcases h with(h|h)|⟨h,h'⟩
  ·exact .inl h
  ·exact .inr (.inl h)
  ·exact .inr (.inr ⟨h,by rintro⟨a,b,c,d⟩;rcases h' with h'|h'|h'|h'<;>contradiction⟩)
 ·unfold Yao;rw[if_neg]
  ·repeat' split
   all_goals omega
  ·rintro(h'|h'|⟨h',h''⟩)
   ·exact h.1.1 h'
   ·exact h.1.2 h'
   ·rcases h.2 with h3|h3
    ·exact h' h3
    ·exact h'' h3
 ·unfold Yao;rw[if_neg]
  ·repeat' split
   all_goals omega
  ·rintro(h'|h'|⟨h',h''⟩)
   ·exact h.1.1 h'
   ·exact h.1.2 h'
   ·rcases h.2 with h3|h3
    ·exact h' h3
    ·exact h'' h3
mutual
def chk(lvl:Int):Rx->Int
 |.mk k a b c d l=>if 16<lvl then 9 else if Yao (.mk k a b c d l)≠0 then Yao (.mk k a b c d l)else chks (lvl+1) l
def chks(lvl:Int):List Rx->Int
 |[]=>0
 |r::l=>if chk lvl r≠0 then chk lvl r else chks lvl l
end
theorem Yce(lvl:Int)(r:Rx):chk lvl r=if 16<lvl then 9 else if Yao r≠0 then Yao r else chks (lvl+1) r.subs:=by cases r;simp only[chk,Rx.subs]
theorem Ycs{lvl:Int}:∀(l:List Rx),(∀i (h:i<l.length),chk lvl l[i]=0)->chks lvl l=0
 |[],_=>rfl
 |r::l,h=>by
  simp only[chks];rw[if_neg (fun hne=>hne (h 0 (Nat.succ_pos _)))];exact Ycs l fun i hi=>h (i+1) (Nat.succ_lt_succ hi)
theorem Ycc{lvl:Int}:∀(l:List Rx)(j:Nat)(hj:j<l.length),(∀i (h:i<j),chk lvl (l[i]'(by omega))=0)->chk lvl l[j]≠0->chks lvl l=chk lvl l[j]
 |r::l,0,_,_,h=>by simp only[chks];rw[if_pos (by simpa using h)];rfl
 |r::l,j+1,hj,h0,h=>by
  simp only[chks];rw[if_neg (by simpa using h0 0 (by omega))];exact Ycc l j (by simpa using hj) (fun i hi=>by simpa using h0 (i+1) (by omega)) h
theorem c34:∀(n:Nat)(r:Rx)(lvl:Int),size r<=n->lens (2^40) r-> -100<=lvl->lvl<=100->Holds Tryz.prog 144 [A.agg (enc r),A.d (.lit (.int .i64 lvl))] [] (Ret (.d (.lit (.int .i64 (chk lvl r))))):=by
 intro n
 induction n with
 |zero=>intro r lvl h;have:=size_pos r;omega
 |succ n ih=>
  intro r lvl hs hn h1 h2;refine w34 (enc r) lvl ⟨by simp,fun h=>?_,fun h=>?_⟩
  ·simp at h;have e:chk lvl r=9:=by rw[Yce,if_pos h]
   simp[e]
  ·simp at h;refine call1 (c47 r) ⟨Yao r,rfl,rfl,fun he=>?_,fun he=>?_⟩
   ·simp at he;have e:chk lvl r=Yao r:=by rw[Yce,if_neg (by omega),if_pos he]
    simp[e]
   ·simp at he;have hlen:r.subs.length<=2^40:=(Ybv.1 hn).1;refine⟨fun x=>∃i:Nat,x=i/\i<=r.subs.length/\ ∀j (hj:j<r.subs.length),j<i->chk (lvl+1) r.subs[j]=0,fun x=>(r.subs.length-x.toNat),⟨0,rfl,Nat.zero_le _,fun j _ hj=>absurd hj (Nat.not_lt_zero _)⟩,?_,trivial⟩;rintro x ⟨i,rfl,hi,hall⟩;refine⟨by simp,fun hc=>?_,fun hc=>?_⟩
    ·simp at hc;have hsub:=size_sub hc;simp only[enc5,dlst_slc];rw[Yes rfl hc];refine⟨by simp,by simp,by simp;omega,by simp;omega,call1 (ih r.subs[i] (lvl+1) (by omega) (Yeu hn hc) (by omega) (by omega)) ⟨_,rfl,rfl,fun hne=>?_,fun heq=>?_⟩⟩
     ·simp at hne;have e:chk lvl r=chk (lvl+1) r.subs[i]:=by rw[Yce,if_neg (by omega),if_neg (by simp[he]),Ycc r.subs i hc (fun j hj=>hall j (by omega) hj) hne]
      simp[e]
     ·simp at heq;refine⟨by simp;omega,by simp;omega,⟨i+1,rfl,hc,fun j hj hji=>?_⟩,by simp;omega⟩;by_cases e:j=i
      ·subst e;exact heq
      ·exact hall j hj (by omega)
    ·simp at hc;have e:chk lvl r=0:=by rw[Yce,if_neg (by omega),if_neg (by simp[he]),Ycs r.subs fun j hj=>hall j hj (by omega)]
     simp[e]
end Go.Rx
end
section
open Go Go.Proofs Go.Ab Go.Rf
set_option maxRecDepth 100000
namespace Go.Rx
theorem c33:∀(n:Nat)(r:Rx)(lvl:Int),size r<=n->lens (2^40) r-> -100<=lvl->lvl<=100->Holds Tryz.prog 140 [A.agg (enc r),A.d (.lit (.int .i64 lvl))] [] (Ret (.d (.lit (.int .i64 (chk lvl r))))):=by
 intro n
 induction n with
 |zero=>intro r lvl h;have:=size_pos r;omega
 |succ n ih=>
  intro r lvl hs hn h1 h2;refine w33 (enc r) lvl ⟨by simp,fun h=>?_,fun h=>?_⟩
  ·simp at h;have e:chk lvl r=9:=by rw[Yce,if_pos h]
   simp[e]
  ·simp at h;have hbad:Yao r≠0->chk lvl r=Yao r:=fun he=>by rw[Yce,if_neg (by omega),if_pos he]
   refine⟨by simp,by simp,by simp,by simp,by simp,fun hk=>?_,fun hk=>?_⟩
   ·have e:Yao r=11:=by
     simp only[enc0,enc1,enc2,enc3,enc4,dint_int,Zwb,decide_eq_true_eq,Bool.and_eq_true,Bool.or_eq_true,Bool.not_eq_true',Bool.and_eq_false_iff,beq_iff_eq,beq_eq_false_iff_ne]at hk;unfold Yao;rw[if_pos];rcases hk with(h|h)|⟨h,h'⟩
     ·exact .inl h
     ·exact .inr (.inl h)
     ·exact .inr (.inr ⟨h,by rintro⟨a,b,c,d⟩;rcases h' with h'|h'|h'|h'<;>contradiction⟩)
    have e2:chk lvl r=11:=by rw[hbad (by omega),e]
    simp[e2]
   ·have e:Yao r=if r.kind=3\/r.kind=4 then(if r.subs.length<2 then 2 else 0)else if r.kind=5 then(if r.subs.length≠1 then 2 else 0)else if r.subs.length≠0 then 2 else 0:=by
     simp only[enc0,enc1,enc2,enc3,enc4,dint_int,Zwb,decide_eq_false_iff_not,Bool.and_eq_true,Bool.or_eq_false_iff,Bool.not_eq_true',Bool.and_eq_false_iff,Bool.not_eq_false',beq_iff_eq]at hk;unfold Yao;rw[if_neg];rintro(h'|h'|⟨h',h''⟩)
     ·exact hk.1.1 h'
     ·exact hk.1.2 h'
     ·rcases hk.2 with h3|h3
      ·exact h' h3
      ·exact h'' h3
    have hlen:r.subs.length<=2^40:=(Ybv.1 hn).1;refine⟨by simp,fun _=>Yao r=0,⟨fun hk=>⟨fun hl=>?_,fun hl=>?_⟩,fun hk3=>⟨fun hk=>⟨fun hl=>?_,fun hl=>?_⟩,fun hk4=>⟨fun hk=>⟨fun hl=>?_,fun hl=>?_⟩,fun hk5=>⟨fun hl=>?_,fun hl=>?_⟩⟩⟩⟩,?_,trivial⟩
    ·simp at hk hl;have e2:Yao r=2:=by rw[e,if_pos (.inl hk),if_pos (by omega)]
     have e3:chk lvl r=2:=by rw[hbad (by omega),e2]
     simp[e3]
    ·simp at hk hl;rw[e,if_pos (.inl hk),if_neg (by omega)]
    ·simp at hk hl;have e2:Yao r=2:=by rw[e,if_pos (.inr hk),if_pos (by omega)]
     have e3:chk lvl r=2:=by rw[hbad (by omega),e2]
     simp[e3]
    ·simp at hk hl;rw[e,if_pos (.inr hk),if_neg (by omega)]
    ·simp at hk3 hk4 hk hl;have e2:Yao r=2:=by rw[e,if_neg (by omega),if_pos hk,if_pos (by omega)]
     have e3:chk lvl r=2:=by rw[hbad (by omega),e2]
     simp[e3]
    ·simp at hk3 hk4 hk hl;rw[e,if_neg (by omega),if_pos hk,if_neg (by omega)]
    ·simp only[enc0,enc5,dint_int,dlst_slc,Zwb,Yas,beq_eq_false_iff_ne,Bool.not_eq_true']at hk3 hk4 hk5 hl;have e2:Yao r=2:=by rw[e,if_neg (by omega),if_neg hk5,if_pos (by omega)]
     have e3:chk lvl r=2:=by rw[hbad (by omega),e2]
     simp[e3]
    ·simp only[enc0,enc5,dint_int,dlst_slc,Zwb,Yas,beq_eq_false_iff_ne,Bool.not_eq_false',beq_iff_eq]at hk3 hk4 hk5 hl;rw[e,if_neg (by omega),if_neg hk5,if_neg (by omega)]
    ·intro _ he;refine⟨fun x=>∃i:Nat,x=i/\i<=r.subs.length/\ ∀j (hj:j<r.subs.length),j<i->chk (lvl+1) r.subs[j]=0,fun x=>(r.subs.length-x.toNat),⟨0,rfl,Nat.zero_le _,fun j _ hj=>absurd hj (Nat.not_lt_zero _)⟩,?_,trivial⟩;rintro x ⟨i,rfl,hi,hall⟩;refine⟨fun hc=>?_,fun hc=>?_⟩
     ·simp at hc;have hsub:=size_sub hc;simp only[enc5,dlst_slc];rw[Yes rfl hc];refine⟨by simp,by simp,by simp;omega,by simp;omega,call1 (ih r.subs[i] (lvl+1) (by omega) (Yeu hn hc) (by omega) (by omega)) ⟨_,rfl,rfl,fun hne=>?_,fun heq=>?_⟩⟩
      ·simp at hne;have e:chk lvl r=chk (lvl+1) r.subs[i]:=by rw[Yce,if_neg (by omega),if_neg (by simp[he]),Ycc r.subs i hc (fun j hj=>hall j (by omega) hj) hne]
       simp[e]
      ·simp at heq;refine⟨by simp;omega,by simp;omega,⟨i+1,rfl,hc,fun j hj hji=>?_⟩,by simp;omega⟩;by_cases e:j=i
       ·subst e;exact heq
       ·exact hall j hj (by omega)
     ·simp at hc;have e:chk lvl r=0:=by rw[Yce,if_neg (by omega),if_neg (by simp[he]),Ycs r.subs fun j hj=>hall j hj (by omega)]
      simp[e]
end Go.Rx
end
section
open Go Go.Proofs Go.Ab Go.Rf
set_option maxRecDepth 100000
namespace Go.Rx
theorem c15(r:Rx)(h:lens (2^40) r):Holds Tryz.prog 129 [A.agg (enc r)] [] (Ret (.d (.lit (.int .i64 (chk 1 r))))):=
 w15 (enc r) ⟨by simp,call1 (c33 _ r 1 (Nat.le_refl _) h (by omega) (by omega)) ⟨_,rfl,rfl,by simp⟩⟩
theorem c16(r:Rx)(h:lens (2^40) r):Holds Tryz.prog 131 [A.agg (enc r)] [] (Ret (.d (.lit (.int .i64 (chk 1 r))))):=
 w16 (enc r) ⟨by simp,call1 (c34 _ r 1 (Nat.le_refl _) h (by omega) (by omega)) ⟨_,rfl,rfl,by simp⟩⟩
end Go.Rx
end
section
open Go Go.Proofs Go.Ab Go.Rf
set_option maxRecDepth 100000
namespace Go.Rx
inductive Res (α:Type) where
 |ok (a:α) (t:List UInt8)
 |bad (t:List UInt8)
def hd(t:List UInt8):Nat:=match t with|[]=>0|c::_=>c.toNat
def escV(x:Nat):Option Nat:=match ctlV x with|some n=>some n|none=>if spcV x||x==94||x==45 then some x else none
def hexR(lo:Nat)(t:List UInt8):Res Nat:=
 match hexV (hd t)with
 |none=>.bad t
 |some d=>if d*16+15<lo then .bad t else match hexV (hd t.tail)with
  |none=>.bad t.tail
  |some e=>if d*16+e<lo then .bad t.tail else .ok (d*16+e) t.tail.tail
def escR(lo:Nat)(t:List UInt8):Res Nat:=
 if hd t=120 then hexR lo t.tail else match escV (hd t)with
  |none=>.bad t
  |some n=>if n<lo then .bad t else .ok n t.tail
def Ya0(lo:Nat)(t:List UInt8):Res Nat:=
 if hd t=92 then escR lo t.tail
 else if hd t<32\/126<hd t\/hd t<lo\/(spcV (hd t)||hd t==94||hd t==45)=true then .bad t else .ok (hd t) t.tail
def mk0(k:Int)(l:List Rx):Rx:=.mk k 0 0 0 0 l
def setX(p:Nat->Bool):Rx:=.mk 2 (wd p 0) (wd p 1) (wd p 2) (wd p 3) []
def hiR(lo:Nat)(t:List UInt8):Res Nat:=if hd t=45 then Ya0 lo t.tail else .ok lo t
def negP(neg:Bool)(p:Nat->Bool):Nat->Bool:=if neg then fun i=>!p i else p
def setL:Nat->Bool->(Nat->Bool)->List UInt8->Option (Res Rx)
 |0,_,_,_=>none
 |n+1,neg,p,t=>match Ya0 0 t with
  |.bad q=>some (.bad q)
  |.ok lo t1=>match hiR lo t1 with
   |.bad q=>some (.bad q)
   |.ok hi t3=>if hd t3=93 then some (.ok (setX (negP neg (orP p (rng lo hi)))) t3.tail)else setL n neg (orP p (rng lo hi)) t3
def no:Nat->Bool:=fun _=>false
def setR(n:Nat)(t:List UInt8):Option (Res Rx):=
 if hd t=94 then setL n true no t.tail else if hd t=93 then some (.ok (mk0 0 []) t.tail)else setL n false no t
def Yd2(k:Int)(l:List Rx):Rx:=match l with|[r]=>r|l=>mk0 k l
def Yem(r:Rx):Rx:=mk0 5 [r]
def opX(c:Nat)(r:Rx):Option Rx:=if c=42 then some (Yem r)else if c=43 then some (mk0 3 [r,Yem r])else if c=63 then some (mk0 4 [r,mk0 1 []])else none
def opsL:Nat->Rx->List UInt8->Option (Res Rx)
 |0,_,_=>none
 |n+1,r,t=>match opX (hd t) r with|some r'=>opsL n r' t.tail|none=>some (.ok r t)
def oneX(c:Nat):Rx:=setX (rng c c)
def Ycf(r:Rx)(t:List UInt8):Res Rx:=if hd t=41 then .ok r t.tail else .bad t
mutual
def alts:Nat->List UInt8->Option (Res Rx)
 |0,_=>none
 |n+1,t=>match seqs n t with
  |none=>none
  |some (.bad q)=>some (.bad q)
  |some (.ok r t1)=>altL n [r] t1
def altL:Nat->List Rx->List UInt8->Option (Res Rx)
 |0,_,_=>none
 |n+1,l,t=>if hd t=124 then(match seqs n t.tail with
  |none=>none
  |some (.bad q)=>some (.bad q)
  |some (.ok r t1)=>altL n (l++[r]) t1)else some (.ok (Yd2 4 l) t)
def seqs:Nat->List UInt8->Option (Res Rx)
 |0,_=>none
 |n+1,t=>match Ybd n t with
  |none=>none
  |some (.bad q)=>some (.bad q)
  |some (.ok r t1)=>seqL n [r] t1
def seqL:Nat->List Rx->List UInt8->Option (Res Rx)
 |0,_,_=>none
 |n+1,l,t=>if t≠[]/\hd t≠124/\hd t≠41 then(match Ybd n t with
  |none=>none
  |some (.bad q)=>some (.bad q)
  |some (.ok r t1)=>seqL n (l++[r]) t1)else some (.ok (Yd2 3 l) t)
def Ybd:Nat->List UInt8->Option (Res Rx)
 |0,_=>none
 |n+1,t=>match atom n t with
  |none=>none
  |some (.bad q)=>some (.bad q)
  |some (.ok r t1)=>opsL n r t1
def atom:Nat->List UInt8->Option (Res Rx)
 |0,_=>none
 |n+1,t=>
  if hd t=40 then(if hd t.tail=41 then some (.ok (mk0 1 []) t.tail.tail)else match alts n t.tail with
   |none=>none
   |some (.bad q)=>some (.bad q)
   |some (.ok r t1)=>some (Ycf r t1))
  else if hd t=91 then setR n t.tail
  else if hd t=46 then some (.ok (setX (rng 0 255)) t.tail)
  else if hd t=92 then(match clsV (hd t.tail)with
   |some p=>some (.ok (setX p) t.tail.tail)
   |none=>match escR 0 t.tail with
    |.bad q=>some (.bad q)
    |.ok c t1=>some (.ok (oneX c) t1))
  else if hd t<32\/126<hd t\/spcV (hd t)=true then some (.bad t)
  else some (.ok (oneX (hd t)) t.tail)
end
def Res.Lt{α:Type}(t:List UInt8):Res α->Prop
 |.ok _ t'=>t'.length<t.length/\t'<:+t
 |.bad t'=>t'<:+t
def Res.Le{α:Type}(t:List UInt8):Res α->Prop
 |.ok _ t'=>t'<:+t
 |.bad t'=>t'<:+t
theorem Yb6{t:List UInt8}(h:hd t≠0):t.tail.length<t.length:=by
 cases t with
 |nil=>exact absurd rfl h
 |cons c t=>simp
theorem Yai(t:List UInt8):t.tail<:+t:=List.tail_suffix t
theorem Ydm{x d:Nat}(h:hexV x=some d):x≠0:=by
 rintro rfl;simp[hexV]at h
theorem Yhc(lo:Nat)(t:List UInt8):(hexR lo t).Lt t:=by
 unfold hexR;split
 ·exact List.suffix_refl _
 ·rename_i d hd1;split
  ·exact List.suffix_refl _
  ·split
   ·exact Yai _
   ·rename_i e he;split
    ·exact Yai _
    ·have h1:=Yb6 (Ydm hd1);have h2:=Yb6 (Ydm he);exact⟨by omega,(Yai _).trans (Yai _)⟩
theorem Yhd{x d:Nat}(h:escV x=some d):x≠0:=by
 rintro rfl;revert h;simp[escV,ctlV,spcV,spcL]
theorem Res.Lt.tail{α:Type}{t:List UInt8}{r:Res α}(h:r.Lt t.tail):r.Lt t:=by
 cases r with
 |ok a t'=>exact⟨by have:=h.1;have:t.tail.length<=t.length:=by simp
                    omega,h.2.trans (Yai _)⟩
 |bad t'=>exact List.IsSuffix.trans (show t'<:+t.tail from h) (Yai _)
theorem Yfn(lo:Nat)(t:List UInt8):(escR lo t).Lt t:=by
 unfold escR;split
 ·exact(Yhc _ _).tail
 ·split
  ·exact List.suffix_refl _
  ·rename_i n hn;split
   ·exact List.suffix_refl _
   ·exact⟨Yb6 (Yhd hn),Yai _⟩
theorem Ybx(lo:Nat)(t:List UInt8):(Ya0 lo t).Lt t:=by
 unfold Ya0;split
 ·exact(Yfn _ _).tail
 ·split
  ·exact List.suffix_refl _
  ·rename_i h;exact⟨Yb6 (by omega),Yai _⟩
theorem Res.Lt.trans{α:Type}{t t':List UInt8}{r:Res α}(h:r.Lt t')(h2:t'<:+t):r.Lt t:=by
 cases r with
 |ok a q=>exact⟨Nat.lt_of_lt_of_le h.1 h2.length_le,h.2.trans h2⟩
 |bad q=>exact List.IsSuffix.trans (show q<:+t' from h) h2
theorem Yd3(lo:Nat)(t:List UInt8):(hiR lo t).Le t:=by
 unfold hiR;split
 ·have:=(Ybx lo t.tail).tail;cases hb:Ya0 lo t.tail with
  |ok a q=>rw[hb]at this;exact this.2
  |bad q=>rw[hb]at this;exact this
 ·exact List.suffix_refl _
theorem Yen:∀(n:Nat)(neg:Bool)(p:Nat->Bool)(t:List UInt8)(r:Res Rx),setL n neg p t=some r->r.Lt t
 |0,_,_,_,_,h=>by simp[setL]at h
 |n+1,neg,p,t,r,h=>by
  unfold setL at h;have h1:=Ybx 0 t;split at h
  ·rename_i q hq;rw[hq]at h1;cases h;exact h1
  ·rename_i lo t1 hq;rw[hq]at h1;have h2:=Yd3 lo t1;split at h
   ·rename_i q hq;rw[hq]at h2;cases h;exact List.IsSuffix.trans h2 h1.2
   ·rename_i hi t3 hq;rw[hq]at h2;have h3:t3<:+t1:=h2;split at h
    ·cases h
     exact⟨by have:=h1.1;have:=h3.length_le;have:t3.tail.length<=t3.length:=by simp
              omega,(Yai _).trans (h3.trans h1.2)⟩
    ·exact(Yen n neg _ t3 r h).trans (h3.trans h1.2)
theorem Yhe(n:Nat)(t:List UInt8)(r:Res Rx)(h:setR n t=some r):r.Lt t:=by
 unfold setR at h;split at h
 ·exact(Yen _ _ _ _ _ h).tail
 ·split at h
  ·cases h;exact⟨Yb6 (by omega),Yai _⟩
  ·exact Yen _ _ _ _ _ h
theorem Yia{c:Nat}{r r':Rx}(h:opX c r=some r'):c≠0:=by
 rintro rfl;simp[opX]at h
theorem Yfo:∀(n:Nat)(r:Rx)(t:List UInt8)(o:Res Rx),opsL n r t=some o->o.Le t
 |0,_,_,_,h=>by simp[opsL]at h
 |n+1,r,t,o,h=>by
  unfold opsL at h;split at h
  ·rename_i r' _;have:=Yfo n r' t.tail o h;cases o with
   |ok a q=>exact List.IsSuffix.trans this (Yai _)
   |bad q=>exact List.IsSuffix.trans this (Yai _)
  ·cases h;exact List.suffix_refl _
theorem Res.Le.trans{α:Type}{t t':List UInt8}{r:Res α}(h:r.Le t')(h2:t'<:+t):r.Le t:=by
 cases r with
 |ok a q=>exact List.IsSuffix.trans h h2
 |bad q=>exact List.IsSuffix.trans h h2
theorem Res.Le.lt{α:Type}{t t':List UInt8}{r:Res α}(h:r.Le t')(h2:t'<:+t)(h3:t'.length<t.length):r.Lt t:=by
 cases r with
 |ok a q=>exact⟨Nat.lt_of_le_of_lt (List.IsSuffix.length_le h) h3,List.IsSuffix.trans h h2⟩
 |bad q=>exact List.IsSuffix.trans h h2
theorem Ya8:∀(n:Nat),(∀t r,alts n t=some r->r.Lt t)/\(∀l t r,altL n l t=some r->r.Le t)/\(∀t r,seqs n t=some r->r.Lt t)/\(∀l t r,seqL n l t=some r->r.Le t)/\
 (∀t r,Ybd n t=some r->r.Lt t)/\(∀t r,atom n t=some r->r.Lt t):=by
 intro n
 induction n with
 |zero=>exact⟨fun t r h=>by simp[alts]at h,fun l t r h=>by simp[altL]at h,fun t r h=>by simp[seqs]at h,fun l t r h=>by simp[seqL]at h,fun t r h=>by simp[Ybd]at h,fun t r h=>by simp[atom]at h⟩
 |succ n ih=>
  obtain⟨ih1,ih2,ih3,ih4,ih5,ih6⟩:=ih;refine⟨fun t r h=>?_,fun l t r h=>?_,fun t r h=>?_,fun l t r h=>?_,fun t r h=>?_,fun t r h=>?_⟩
  ·unfold alts at h;split at h
   ·cases h
   ·rename_i hq;cases h;exact ih3 _ _ hq
   ·rename_i hq;have:=ih3 _ _ hq;exact(ih2 _ _ _ h).lt this.2 this.1
  ·unfold altL at h;split at h
   ·split at h
    ·cases h
    ·rename_i hq;cases h;exact(ih3 _ _ hq).tail
    ·rename_i hq;have:=(ih3 _ _ hq).tail;exact(ih2 _ _ _ h).trans this.2
   ·cases h;exact List.suffix_refl _
  ·unfold seqs at h;split at h
   ·cases h
   ·rename_i hq;cases h;exact ih5 _ _ hq
   ·rename_i hq;have:=ih5 _ _ hq;exact(ih4 _ _ _ h).lt this.2 this.1
  ·unfold seqL at h;split at h
   ·split at h
    ·cases h
    ·rename_i hq;cases h;exact(ih5 _ _ hq)
    ·rename_i hq;have:=(ih5 _ _ hq);exact(ih4 _ _ _ h).trans this.2
   ·cases h;exact List.suffix_refl _
  ·unfold Ybd at h;split at h
   ·cases h
   ·rename_i hq;cases h;exact ih6 _ _ hq
   ·rename_i hq;have:=ih6 _ _ hq;exact(Yfo _ _ _ _ h).lt this.2 this.1
  ·unfold atom at h;split at h
   ·have h0:=Yb6 (show hd t≠0 by omega);split at h
    ·have h1:=Yb6 (show hd t.tail≠0 by omega);cases h;exact⟨by omega,(Yai _).trans (Yai _)⟩
    ·split at h
     ·cases h
     ·rename_i hq;cases h;exact(ih1 _ _ hq).tail
     ·rename_i hq;have h2:=(ih1 _ _ hq).tail;cases h;unfold Ycf;split
      ·rename_i t1 _
       exact⟨by have:=h2.1;have:t1.tail.length<=t1.length:=by simp
                omega,(Yai _).trans h2.2⟩
      ·exact h2.2
   ·split at h
    ·exact(Yhe _ _ _ h).tail
    ·split at h
     ·cases h;exact⟨Yb6 (by omega),Yai _⟩
     ·split at h
      ·split at h
       ·cases h;exact⟨by have h1:=Yb6 (show hd t≠0 by omega);have:t.tail.tail.length<=t.tail.length:=by simp
                         omega,(Yai _).trans (Yai _)⟩
       ·have h1:=(Yfn 0 t.tail).tail;split at h
        ·rename_i q hq;rw[hq]at h1;cases h;exact h1
        ·rename_i q hq;rw[hq]at h1;cases h;exact h1
      ·split at h
       ·cases h;exact List.suffix_refl _
       ·cases h;exact⟨Yb6 (by omega),Yai _⟩
end Go.Rx
end
section
open Go Go.Proofs Go.Ab Go.Rf
set_option maxRecDepth 100000
namespace Go.Rx
def boolA(b:Bool):A:=.d (.lit (.bool b))
theorem tle{a b:Int}(h:a<=b):(tB (decide (a<=b)))=true:=by simp[h]
theorem tlt{a b:Int}(h:a<b):(tB (decide (a<b)))=true:=by simp[h]
theorem teq{a b:Int}(h:a=b):(tB (a==b))=true:=by simp[h]
theorem of_tle{a b:Int}(h:(tB (decide (a<=b)))=true):a<=b:=by simpa using h
theorem of_tlt{a b:Int}(h:(tB (decide (a<b)))=true):a<b:=by simpa using h
theorem of_teq{a b:Int}(h:(tB (a==b))=true):a=b:=by simpa using h
theorem of_fle{a b:Int}(h:(tB (decide (a<=b)))=false):b<a:=by simpa using h
theorem of_flt{a b:Int}(h:(tB (decide (a<b)))=false):b<=a:=by simpa using h
theorem of_feq{a b:Int}(h:(tB (a==b))=false):a≠b:=by simpa using h
structure At (s t:List UInt8) (i:Int):Prop where
 suf:t<:+s
 pos:i+t.length=s.length
 sm:s.length<=1048576
theorem At.next{s t:List UInt8}{i:Int}(h:At s t i)(hn:t≠[]):At s t.tail (i+1):=by
 refine⟨(Yai _).trans h.suf,?_,h.sm⟩;have:=h.pos
 have:t.tail.length+1=t.length:=by cases t with
  |nil=>exact absurd rfl hn
  |cons c t=>simp
 omega
theorem At.lo{s t:List UInt8}{i:Int}(h:At s t i):0<=i/\i<=1048576:=by
 have:=h.pos;have:=h.sm;have:=h.suf.length_le;omega
theorem At.lt{s t:List UInt8}{i:Int}(h:At s t i):i<(s.length:Int)↔t≠[]:=by
 have h1:=h.pos;cases t with
 |nil=>simp at h1;simp;omega
 |cons c t=>simp at h1;simp;omega
theorem At.byte{s t:List UInt8}{i:Int}(h:At s t i)(hn:t≠[]):Zwc s i=hd t:=by
 obtain⟨u,hu⟩:=h.suf;cases t with
 |nil=>exact absurd rfl hn
 |cons c t=>
  have h1:=h.pos;rw[<-hu]at h1⊢;simp only[List.length_append,List.length_cons]at h1;have e:i.toNat=u.length:=by omega
  simp[Zwc,e,hd]
theorem Yaf{t:List UInt8}(h:hd t≠0):t≠[]:=by rintro rfl;exact h rfl
theorem Yb7(t:List UInt8):hd t<256:=by
 cases t with
 |nil=>simp[hd]
 |cons c t=>exact c.toNat_lt
def PB(q:Ref)(s:List UInt8)(i:Int):List (Ref×List A):=[(.up q,[A.d (.lit (Zco s)),A.d (.lit (.int .i64 i))])]
def Ybg(i:Int):Value:=dval (D.lit (.iface 135 (.agg (([D.lit (.int .i64 i)]:List D).map dval).toArray)))
def Res.map{α β:Type}(f:α->β):Res α->Res β|.ok a t=>.ok (f a) t|.bad t=>.bad t
def RetB(v:A)(B:List (Ref×List A)):Out->List (Ref×List A)->Prop:=fun o H=>o=.ret v/\H=B
def PAft(q:Ref)(s:List UInt8)(res:Res A):Out->List (Ref×List A)->Prop:=fun o H=>match res with
 |.ok v t=>o=.ret v/\ ∃i,At s t i/\H=PB q s i
 |.bad t=>∃i j,At s t i/\o=.pan (Ybg i)/\H=PB q s j
theorem callB{P:Program}{f:Nat}{args:List A}{v:A}{B B':List (Ref×List A)}(hc:Holds P f args B (RetB v B')){Q1:A->List (Ref×List A)->Prop}{Q2:Value->List (Ref×List A)->Prop}(h:Q1 v B'):
 ∀_:Nat->Nat,∃R':Out->List (Ref×List A)->Prop,Holds P f args B R'/\(∀v H',R' (.ret v) H'->Q1 v H')/\(∀u H',R' (.pan u) H'->Q2 u H'):=
 fun _=>⟨_,hc,fun v' H' e=>by obtain⟨e1,rfl⟩:=e;cases e1;exact h,fun u H' e=>by cases e.1⟩
theorem Ybz{P:Program}{f:Nat}{args:List A}{v:Value}{B B':List (Ref×List A)}(hc:Holds P f args B fun o H=>o=.pan v/\H=B'){Q1:A->List (Ref×List A)->Prop}{Q2:Value->List (Ref×List A)->Prop}(h:Q2 v B'):
 ∀_:Nat->Nat,∃R':Out->List (Ref×List A)->Prop,Holds P f args B R'/\(∀v H',R' (.ret v) H'->Q1 v H')/\(∀u H',R' (.pan u) H'->Q2 u H'):=
 fun _=>⟨_,hc,fun v' H' e=>(by cases e.1),fun u H' e=>by obtain⟨e1,rfl⟩:=e;cases e1;exact h⟩
theorem Yb0{P:Program}{f:Nat}{args:List A}{B:List (Ref×List A)}{q:Ref}{s:List UInt8}{res:Res A}(hc:Holds P f args B (PAft q s res)){Q1:A->List (Ref×List A)->Prop}{Q2:Value->List (Ref×List A)->Prop}
 (h1:∀v t i,res=.ok v t->At s t i->Q1 v (PB q s i)) (h2:∀t i j,res=.bad t->At s t i->Q2 (Ybg i) (PB q s j)):
 ∀_:Nat->Nat,∃R':Out->List (Ref×List A)->Prop,Holds P f args B R'/\(∀v H',R' (.ret v) H'->Q1 v H')/\(∀u H',R' (.pan u) H'->Q2 u H'):=by
 refine fun _=>⟨_,hc,fun v' H' e=>(by
  cases res with
  |ok v t=>obtain⟨e1,i,hi,rfl⟩:=e;cases e1;exact h1 _ t i rfl hi
  |bad t=>obtain⟨i,j,hi,e1,_⟩:=e;cases e1),fun u H' e=>by
  cases res with
  |ok v t=>cases e.1
  |bad t=>obtain⟨i,j,hi,e1,rfl⟩:=e;cases e1;exact h2 t i j rfl hi⟩
theorem Ya9{q:Ref}{s t:List UInt8}{v:A}{res:Res A}{i:Int}(h:res=.ok v t)(hi:At s t i):PAft q s res (.ret v) (PB q s i):=by subst h;exact⟨rfl,i,hi,rfl⟩
theorem Yak{q:Ref}{s t:List UInt8}{res:Res A}{i j:Int}(h:res=.bad t)(hi:At s t i):PAft q s res (.pan (Ybg i)) (PB q s j):=by subst h;exact⟨i,j,hi,rfl,rfl⟩
theorem Yam{α β:Type}{f:α->β}{r:Res α}{b:β}{t:List UInt8}(h:r.map f=.ok b t):∃a,r=.ok a t/\f a=b:=by
 cases r with
 |ok a t'=>cases h;exact⟨a,rfl,rfl⟩
 |bad t'=>cases h
theorem Yal{α β:Type}{f:α->β}{r:Res α}{t:List UInt8}(h:r.map f=.bad t):r=.bad t:=by
 cases r with
 |ok a t'=>cases h
 |bad t'=>cases h;rfl
theorem c49{q:Ref}{s t:List UInt8}{i:Int}(h:At s t i):Holds Tryz.prog 138 [A.ptr (.up q) 0] (PB q s i) (RetB (.d (.lit (.int .u8 (hd t)))) (PB q s i)):=by
 refine w49 s i q ⟨fun hc=>?_,fun hc=>?_⟩
 ·have hn:=h.lt.1 (of_tlt hc);exact⟨tle h.lo.1,by rw[h.byte hn];exact⟨rfl,rfl⟩⟩
 ·have hn:t=[]:=Classical.byContradiction fun hn=>by have:=h.lt.2 hn;have:=of_flt hc;omega
  subst hn;exact⟨rfl,rfl⟩
theorem c38{q:Ref}{s:List UInt8}{i j:Int}:Holds Tryz.prog 128 [A.ptr (.up q) 0,A.d (.lit (.int .i64 j))] (PB q s i) (fun o H=>o=.pan (Ybg j)/\H=PB q s i):=
 w38 s i j q ⟨rfl,rfl,rfl⟩
theorem c50(k:Int)(l:List Rx):Holds Tryz.prog 139 [A.d (.lit (.int .i64 k)),A.d (.slc (encs l))] [] (Ret (.agg (enc (Yd2 k l)))):=by
 refine w50 k (encs l) ⟨fun h=>?_,fun h=>?_⟩
 ·have h:=of_teq h;simp only[Yas]at h
  match l,h with
  |[r],_=>
   have e:gAt (encs [r]) 0=enc r:=rfl;rw[e];exact⟨tlt (by simp),teq (by simp),rfl,rfl⟩
 ·have h:=of_feq h;simp only[Yas]at h
  match l,h with
  |[],_=>exact⟨rfl,rfl⟩
  |[r],h=>exact absurd rfl h
  |_::_::_,_=>exact⟨rfl,rfl⟩
theorem c81(c:Nat)(h:c<256):Holds Tryz.prog 162 [A.d (.lit (.int .u8 c))] [] (Ret (.agg (enc (oneX c)))):=
 w81 c (call1 (c79' c c h h) ⟨_,rfl,rfl,rfl,rfl,rfl⟩)
theorem nib(n d:Nat)(hn:n<16)(hd:d<16):gOr .u8 (gShl .u8 (n:Int) 4) (d:Int)=((n*16+d:Nat):Int):=by
 have:∀n<16,∀d<16,gOr .u8 (gShl .u8 ((n:Nat):Int) 4) ((d:Nat):Int)=((n*16+d:Nat):Int):=by decide
 exact this n hn d hd
theorem Ybo{x d:Nat}(h:hexV x=some d):d<16:=by
 unfold hexV at h
 repeat' split at h
 all_goals first|cases h;omega|cases h
def u8A(n:Nat):A:=.d (.lit (.int .u8 n))
theorem c93{q:Ref}{s t:List UInt8}{i:Int}(lo:Nat)(h:At s t (i+1)):Holds Tryz.prog 175 [A.ptr (.up q) 0,A.d (.lit (.int .u8 lo))] (PB q s i) (PAft q s ((hexR lo t).map u8A)):=by
 refine w93 s i lo q ⟨fun x k s' i'=>s'=s/\((k=0/\x=0/\i'=i)\/(∃d,hexV (hd t)=some d/\ ¬d*16+15<lo/\k=1/\x=(d:Nat)/\i'=i+1)\/(∃d,hexR lo t=.ok d t.tail.tail/\k=2/\x=(d:Nat)/\At s t.tail.tail (i'+1))),fun _ k _ _=>2-k.toNat,⟨rfl,.inl ⟨rfl,rfl,rfl⟩⟩,?_,trivial⟩;have hlo:=h.lo;rintro x k s' i' ⟨rfl,⟨rfl,rfl,rfl⟩|⟨d,hd1,hd2,rfl,rfl,rfl⟩|⟨d,hd1,rfl,rfl,hd2⟩⟩
 ·refine⟨fun _=>⟨tle (by omega),fun _=>⟨tle (by omega),tle (by omega),callB (c49 h) ⟨_,_,_,rfl,rfl,call1 (c101 (hd t) (Yb7 t)) ⟨_,_,rfl,rfl,fun hc=>?_,fun hc=>?_⟩⟩⟩,fun h0=>absurd rfl (of_feq h0)⟩,fun h0=>absurd (of_flt h0) (by decide)⟩
  ·refine Ybz c38 ⟨_,_,rfl,?_⟩;refine Yak (t:=t) ?_ h;unfold hexR;cases hv:hexV (hd t)with
   |none=>rfl
   |some d=>
    have h1:=Ybo hv;rw[hv]at hc;rw[show((0:Int))=((0:Nat):Int)from rfl]at hc
    simp only[Option.getD_some,Option.isSome_some,nib 0 d (by decide) h1,show(15:Int)=((15:Nat):Int)from rfl,nib (0*16+d) 15 (by omega) (by decide),Bool.not_true,Bool.false_or]at hc
    have hc:=of_tlt hc;dsimp only;rw[if_pos (by omega)];rfl
  ·refine⟨tle (by omega),tle (by omega),⟨rfl,.inr (.inl ?_)⟩,by simp⟩;cases hv:hexV (hd t)with
   |none=>rw[hv]at hc;cases hc
   |some d=>
    have h1:=Ybo hv;rw[hv]at hc;rw[show((0:Int))=((0:Nat):Int)from rfl]at hc⊢
    simp only[Option.getD_some,Option.isSome_some,nib 0 d (by decide) h1,show(15:Int)=((15:Nat):Int)from rfl,nib (0*16+d) 15 (by omega) (by decide),Bool.not_true,Bool.false_or]at hc⊢
    have hc:=of_flt hc;exact⟨d,rfl,by omega,by omega,by omega,trivial⟩
 ·have hne:=Yaf (Ydm hd1);have h2:=h.next hne
  have h1:=Ybo hd1;have hlo2:=h2.lo;refine⟨fun _=>⟨tle (by omega),fun h0=>absurd (of_teq h0) (by decide),fun _=>⟨teq rfl,tle (by omega),tle (by omega),callB (c49 h2) ⟨_,_,_,rfl,rfl,call1 (c101 (hd t.tail) (Yb7 _)) ⟨_,_,rfl,rfl,fun hc=>?_,fun hc=>?_⟩⟩⟩⟩,fun h0=>absurd (of_flt h0) (by decide)⟩
  ·refine Ybz c38 ⟨_,_,rfl,?_⟩;refine Yak (t:=t.tail) ?_ h2;unfold hexR;rw[hd1];dsimp only;rw[if_neg hd2];cases hv:hexV (hd t.tail)with
   |none=>rfl
   |some e=>
    have h3:=Ybo hv;rw[hv]at hc;simp only[Option.getD_some,Option.isSome_some,nib d e h1 h3,Bool.not_true,Bool.false_or]at hc;have hc:=of_tlt hc;dsimp only;rw[if_pos (by omega)];rfl
  ·refine⟨tle (by omega),tle (by omega),⟨rfl,.inr (.inr ?_)⟩,by simp⟩;cases hv:hexV (hd t.tail)with
   |none=>rw[hv]at hc;cases hc
   |some e=>
    have h3:=Ybo hv;rw[hv]at hc;simp only[Option.getD_some,Option.isSome_some,nib d e h1 h3,Bool.not_true,Bool.false_or]at hc⊢;have hc:=of_flt hc;refine⟨d*16+e,?_,by omega,by omega,h2.next (Yaf (Ydm hv))⟩
    unfold hexR;rw[hd1];dsimp only;rw[if_neg hd2,hv];dsimp only;rw[if_neg (by omega)]
 ·refine⟨fun h0=>absurd (of_tlt h0) (by decide),fun _=>⟨?_,?_,?_⟩⟩
  ·have:=hd2.lo;exact tle (by omega)
  ·have:=hd2.lo;exact tle (by omega)
  ·exact Ya9 (by rw[hd1];rfl) hd2
end Go.Rx
end
section
open Go Go.Proofs Go.Ab Go.Rf
set_option maxRecDepth 100000
namespace Go.Rx
theorem At.end_{s t:List UInt8}{i:Int}(h:At s t i)(hc:(s.length:Int)<=i):t=[]:=Classical.byContradiction fun hn=>by have:=h.lt.2 hn;omega
theorem At.more{s t:List UInt8}{i:Int}(h:At s t i)(hc:i<(s.length:Int)):t≠[]:=h.lt.1 hc
theorem Yd4{x:Nat}(h1:x≠110)(h2:x≠116)(h3:x≠114):ctlV x=none:=by
 unfold ctlV;rw[if_neg h1,if_neg h2,if_neg h3]
def escL:List UInt8:=[40,41,91,93,123,125,124,42,43,63,46,92,45,94]
theorem Yge(x:Nat):(escL.any fun b=>b.toNat==x)=(spcV x||x==94||x==45):=by
 simp only[escL,spcV,spcL,List.any_cons,List.any_nil,Bool.or_false];have e1:((45:UInt8).toNat==x)=(x==45):=Bool.eq_iff_iff.2 (by simp;exact eq_comm);have e2:((94:UInt8).toNat==x)=(x==94):=Bool.eq_iff_iff.2 (by simp;exact eq_comm);rw[e1,e2];cases x==94<;>cases x==45<;>simp
theorem c82{q:Ref}{s t:List UInt8}{i:Int}(lo:Nat)(h:At s t (i+1)):Holds Tryz.prog 163 [A.ptr (.up q) 0,A.d (.lit (.int .u8 lo))] (PB q s i) (PAft q s ((escR lo t).map u8A)):=by
 have hlo:=h.lo
 have fin:∀n:Nat,t≠[]->hd t≠120->escV (hd t)=some n->(lo:Int)<=(n:Int)->PAft q s ((escR lo t).map u8A) (.ret (u8A n)) (PB q s (i+1+1)):=fun n hn h1 h2 h3=>by
  refine Ya9 (t:=t.tail) ?_ (h.next hn)
  unfold escR;rw[if_neg h1,h2];dsimp only;rw[if_neg (by omega)];rfl
 have low:∀(n:Nat)(j:Int),hd t≠120->escV (hd t)=some n->(n:Int)<(lo:Int)->PAft q s ((escR lo t).map u8A) (.pan (Ybg (i+1))) (PB q s j):=fun n j h1 h2 h3=>by
  refine Yak (t:=t) ?_ h;unfold escR;rw[if_neg h1,h2];dsimp only;rw[if_pos (by omega)];rfl
 have non:∀(j:Int),hd t≠120->escV (hd t)=none->PAft q s ((escR lo t).map u8A) (.pan (Ybg (i+1))) (PB q s j):=fun j h1 h2=>by
  refine Yak (t:=t) ?_ h;unfold escR;rw[if_neg h1,h2];rfl
 refine w82 s i lo q ⟨tle (by omega),tle (by omega),callB (c49 h) ⟨_,_,_,rfl,rfl,fun hc=>?_,fun hc=>⟨fun h0=>?_,fun h0=>⟨fun h1=>⟨fun h2=>?_,fun h2=>?_⟩,fun h1=>⟨fun h2=>⟨fun h3=>?_,fun h3=>?_⟩,fun h2=>⟨fun h3=>⟨fun h4=>?_,fun h4=>?_⟩,fun h3=>?_⟩⟩⟩⟩⟩⟩
 ·have ht:=h.end_ (of_tle hc);subst ht;have e:(s.length:Int)=i+1:=by have:=h.pos;simp at this;omega
  rw[e];exact Ybz c38 ⟨_,_,rfl,non _ (by decide) rfl⟩
 ·have h0:=of_teq h0;have e:escR lo t=hexR lo t.tail:=by unfold escR;rw[if_pos (by omega)]
  have hn:=h.more (of_fle hc);rw[e];exact Yb0 (c93 lo (h.next hn)) (fun v t' i' e hi=>by obtain⟨n,e1,rfl⟩:=Yam e;exact⟨_,_,_,rfl,rfl,Ya9 e hi⟩) (fun t' i' j e hi=>⟨_,_,rfl,Yak e hi⟩)
 ·exact Ybz c38 ⟨_,_,rfl,low 10 _ (by have:=of_feq h0;omega) (by rw[show hd t=110 by have:=of_teq h1;omega];rfl) (of_tlt h2)⟩
 ·exact⟨tle (by omega),tle (by omega),fin 10 (h.more (of_fle hc)) (by have:=of_feq h0;omega) (by rw[show hd t=110 by have:=of_teq h1;omega];rfl) (of_flt h2)⟩
 ·exact Ybz c38 ⟨_,_,rfl,low 9 _ (by have:=of_feq h0;omega) (by rw[show hd t=116 by have:=of_teq h2;omega];rfl) (of_tlt h3)⟩
 ·exact⟨tle (by omega),tle (by omega),fin 9 (h.more (of_fle hc)) (by have:=of_feq h0;omega) (by rw[show hd t=116 by have:=of_teq h2;omega];rfl) (of_flt h3)⟩
 ·exact Ybz c38 ⟨_,_,rfl,low 13 _ (by have:=of_feq h0;omega) (by rw[show hd t=114 by have:=of_teq h3;omega];rfl) (of_tlt h4)⟩
 ·exact⟨tle (by omega),tle (by omega),fin 13 (h.more (of_fle hc)) (by have:=of_feq h0;omega) (by rw[show hd t=114 by have:=of_teq h3;omega];rfl) (of_flt h4)⟩
 ·have hx:hd t≠120:=by have:=of_feq h0;omega
  have ec:ctlV (hd t)=none:=Yd4 (by have:=of_feq h1;omega) (by have:=of_feq h2;omega) (by have:=of_feq h3;omega);have hidx:=idxV_nonneg escL (hd t) (Yb7 t);rw[Yge]at hidx;refine call1 (c83 escL (hd t)) ⟨_,rfl,rfl,fun h4=>?_,fun h4=>⟨fun h5=>?_,fun h5=>?_⟩⟩
  ·have h4:=of_tlt h4;have hb:¬((spcV (hd t)||hd t==94||hd t==45)=true):=fun hb=>by have:=hidx.2 hb;omega
   refine Ybz c38 ⟨_,_,rfl,non _ hx ?_⟩;unfold escV;rw[ec];dsimp only;rw[if_neg hb]
  ·have h4:=of_flt h4;have es:escV (hd t)=some (hd t):=by unfold escV;rw[ec];dsimp only;rw[if_pos (hidx.1 h4)]
   exact Ybz c38 ⟨_,_,rfl,low _ _ hx es (of_tlt h5)⟩
  ·have h4:=of_flt h4;have es:escV (hd t)=some (hd t):=by unfold escV;rw[ec];dsimp only;rw[if_pos (hidx.1 h4)]
   exact⟨tle (by omega),tle (by omega),fin _ (h.more (of_fle hc)) hx es (of_flt h5)⟩
def itemL:List UInt8:=[40,41,91,93,123,125,124,42,43,63,46,94,45]
theorem Yfp(x:Nat)(h:x≠92):(itemL.any fun b=>b.toNat==x)=(spcV x||x==94||x==45):=by
 simp only[itemL,spcV,spcL,List.any_cons,List.any_nil,Bool.or_false];have e1:((45:UInt8).toNat==x)=(x==45):=Bool.eq_iff_iff.2 (by simp;exact eq_comm);have e2:((94:UInt8).toNat==x)=(x==94):=Bool.eq_iff_iff.2 (by simp;exact eq_comm);have e3:((92:UInt8).toNat==x)=false:=by simpa using fun e=>h e.symm
 rw[e1,e2,e3];simp[Bool.or_assoc]
theorem c90{q:Ref}{s t:List UInt8}{i:Int}(lo:Nat)(h:At s t i):Holds Tryz.prog 172 [A.ptr (.up q) 0,A.d (.lit (.int .u8 lo))] (PB q s i) (PAft q s ((Ya0 lo t).map u8A)):=by
 have hlo:=h.lo
 have bad:∀(j:Int),hd t≠92->(hd t<32\/126<hd t\/hd t<lo\/(spcV (hd t)||hd t==94||hd t==45)=true)->PAft q s ((Ya0 lo t).map u8A) (.pan (Ybg i)) (PB q s j):=fun j h1 h2=>by
  refine Yak (t:=t) ?_ h;unfold Ya0;rw[if_neg h1,if_pos h2];rfl
 refine w90 s i lo q (callB (c49 h) ⟨_,_,_,rfl,rfl,fun hc=>?_,fun hc=>⟨fun h0=>?_,fun h0=>⟨fun h1=>?_,fun h1=>?_⟩⟩⟩)
 ·have ht:=h.end_ (of_tle hc);subst ht;have e:(s.length:Int)=i:=by have:=h.pos;simp at this;omega
  rw[e];exact Ybz c38 ⟨_,_,rfl,bad _ (by decide) (.inl (by decide))⟩
 ·have h0:=of_teq h0;have e:Ya0 lo t=escR lo t.tail:=by unfold Ya0;rw[if_pos (by omega)]
  rw[e];exact Yb0 (c82 lo (h.next (h.more (of_fle hc)))) (fun v t' i' e hi=>by obtain⟨n,e1,rfl⟩:=Yam e;exact⟨_,_,_,rfl,rfl,Ya9 e hi⟩) (fun t' i' j e hi=>⟨_,_,rfl,Yak e hi⟩)
 ·have hx:hd t≠92:=by have:=of_feq h0;omega
  have hidx:=idxV_nonneg itemL (hd t) (Yb7 t);rw[Yfp _ hx]at hidx;simp only[Zwb,Bool.not_eq_true',Bool.or_eq_false_iff,decide_eq_false_iff_not]at h1;refine call1 (c83 itemL (hd t)) ⟨_,rfl,rfl,fun h4=>?_,fun h4=>?_⟩
  ·exact Ybz c38 ⟨_,_,rfl,bad _ hx (.inr (.inr (.inr (hidx.1 (of_tle h4)))))⟩
  ·have h4:=of_fle h4;refine⟨tle (by omega),tle (by omega),Ya9 (t:=t.tail) ?_ (h.next (h.more (of_fle hc)))⟩
   unfold Ya0;rw[if_neg hx,if_neg]
   ·rfl
   ·rintro(h5|h5|h5|h5)
    ·omega
    ·omega
    ·omega
    ·have:=hidx.2 h5;omega
 ·have hx:hd t≠92:=by have:=of_feq h0;omega
  simp only[Zwb,Bool.not_eq_false',Bool.or_eq_true,decide_eq_true_eq]at h1;exact Ybz c38 ⟨_,_,rfl,bad _ hx (by omega)⟩
def setC(n:Nat)(neg:Bool)(p:Nat->Bool)(t:List UInt8):Option (Res Rx):=if hd t=93 then some (.ok (setX (negP neg p)) t.tail)else setL n neg p t
structure SetI (s:List UInt8) (neg:Bool) (res:Res Rx) (b:Bool) (a0 a1 a2 a3:D) (s':List UInt8) (i:Int) (n:Nat) (p:Nat->Bool) (t:List UInt8):Prop where
 es:s'=s
 e0:a0=.lit (.int .u64 (wd p 0))
 e1:a1=.lit (.int .u64 (wd p 1))
 e2:a2=.lit (.int .u64 (wd p 2))
 e3:a3=.lit (.int .u64 (wd p 3))
 at_:At s t i
 run:(if b then setL n neg p t else setC n neg p t)=some res
theorem Yct{n:Nat}{neg:Bool}{p:Nat->Bool}{t t1 t3:List UInt8}{lo hi:Nat}{res:Res Rx}(h:setL n neg p t=some res)(h1:Ya0 0 t=.ok lo t1)(h2:hiR lo t1=.ok hi t3):∃m,setC m neg (orP p (rng lo hi)) t3=some res:=by
 cases n with
 |zero=>simp[setL]at h
 |succ m=>
  refine⟨m,?_⟩;unfold setL at h;rw[h1]at h;dsimp only at h;rw[h2]at h;exact h
theorem Ycu{n:Nat}{neg:Bool}{p:Nat->Bool}{t q:List UInt8}{res:Res Rx}(h:setL n neg p t=some res)(h1:Ya0 0 t=.bad q):res=.bad q:=by
 cases n with
 |zero=>simp[setL]at h
 |succ m=>
  unfold setL at h;rw[h1]at h;cases h;rfl
theorem Ycv{n:Nat}{neg:Bool}{p:Nat->Bool}{t t1 q:List UInt8}{lo:Nat}{res:Res Rx}(h:setL n neg p t=some res)(h1:Ya0 0 t=.ok lo t1)(h2:hiR lo t1=.bad q):res=.bad q:=by
 cases n with
 |zero=>simp[setL]at h
 |succ m=>
  unfold setL at h;rw[h1]at h;dsimp only at h;rw[h2]at h;cases h;rfl
theorem SetI.lt{s t:List UInt8}{i i':Int}{t':List UInt8}(h:At s t i)(h':At s t' i')(hl:t'.length<t.length):((s.length:Int)-i').toNat<((s.length:Int)-i).toNat:=by
 have:=h.pos;have:=h'.pos;omega
theorem Yay(lo:Nat){t t':List UInt8}{n:Nat}(h:Ya0 lo t=.ok n t'):n<256:=by
 have h0:=Yb7 t
 have hx:∀t:List UInt8,hexR lo t=.ok n t'->n<256:=fun t h=>by
  unfold hexR at h;split at h
  ·cases h
  ·rename_i d hd1;split at h
   ·cases h
   ·split at h
    ·cases h
    ·rename_i e hd2;have:=Ybo hd1;have:=Ybo hd2;split at h
     ·cases h
     ·cases h;omega
 unfold Ya0 at h;split at h
 ·unfold escR at h;split at h
  ·exact hx _ h
  ·split at h
   ·cases h
   ·rename_i m hm;split at h
    ·cases h
    ·cases h;have h1:=Yb7 t.tail;unfold escV at hm;split at hm
     ·rename_i k hk;cases hm;unfold ctlV at hk
      repeat' split at hk
      all_goals first|cases hk;decide|cases hk
     ·split at hm
      ·cases hm;exact h1
      ·cases hm
 ·split at h
  ·cases h
  ·cases h;exact h0
theorem c79r(lo hi:Nat)(h:hi<256)(hl:lo<256):∀_:Nat->Nat,Holds Tryz.prog 160 [A.d (.lit (.int .u8 lo)),A.d (.lit (.int .u8 hi))] [] (Zpq [] (.agg (row4 (rng lo hi)))):=fun _=>c79' lo hi h hl
theorem Ycg(k:Nat):wd no k=0:=Yd0 (by decide) fun j _=>Nat.zero_testBit j
theorem c78{q:Ref}{s t:List UInt8}{i:Int}(n:Nat)(res:Res Rx)(hr:setR n t=some res)(h:At s t (i+1)):Holds Tryz.prog 159 [A.ptr (.up q) 0] (PB q s i) (PAft q s (res.map fun r=>A.agg (enc r))):=by
 have hlo:=h.lo;refine w78 s i q ⟨tle (by omega),tle (by omega),callB (c49 h) ⟨_,_,_,rfl,rfl,fun h0=>⟨tle (by omega),tle (by omega),?_⟩,fun h0=>callB (c49 h) ⟨_,_,_,rfl,rfl,fun h1=>?_,fun h1=>?_⟩⟩⟩
 ·have h0:=of_teq h0;have hn:t≠[]:=Yaf (by omega);have hr':setL n true no t.tail=some res:=by unfold setR at hr;rw[if_pos (by omega)]at hr;exact hr
  refine⟨fun b a0 a1 a2 a3 s' i'=>∃n p t,SetI s true res b a0 a1 a2 a3 s' i' n p t,fun _ _ _ _ _ s' i'=>((s'.length:Int)-i').toNat,⟨n,no,t.tail,rfl,by simp[Ycg],by simp[Ycg],by simp[Ycg],by simp[Ycg],h.next hn,hr'⟩,?_,trivial⟩
  rintro b a0 a1 a2 a3 s' i' ⟨m,p,t',rfl,rfl,rfl,rfl,rfl,hat,hrun⟩;have hlo':=hat.lo
  have key:∀n,setL n true p t'=some res-> ∀lo t1 i1,Ya0 0 t'=.ok lo t1->At s' t1 i1-> ∀hi t3 i3,hiR lo t1=.ok hi t3->At s' t3 i3->
   (∃n p' t,SetI s' true res false ((row4 (orP p (rng lo hi))).getD 0 D0) ((row4 (orP p (rng lo hi))).getD 1 D0) ((row4 (orP p (rng lo hi))).getD 2 D0) ((row4 (orP p (rng lo hi))).getD 3 D0) s' i3 n p' t)/\((s'.length:Int)-i3).toNat<((s'.length:Int)-i').toNat:=fun n hs lo t1 i1 e1 h1 hi t3 i3 e2 h2=>by
   obtain⟨m,hm⟩:=Yct hs e1 e2;refine⟨⟨m,orP p (rng lo hi),t3,rfl,rfl,rfl,rfl,rfl,h2,hm⟩,SetI.lt hat h2 ?_⟩;have hl1:=Ybx 0 t';rw[e1]at hl1;have hl2:=Yd3 lo t1;rw[e2]at hl2;have:=hl1.1;have:=List.IsSuffix.length_le hl2;omega
  refine⟨fun hb=>callB (c49 hat) ⟨_,_,_,rfl,rfl,fun hc=>?_,fun hc=>?_⟩,fun hb=>?_⟩
  rotate_left
  ·have hc:hd t'=93:=by simp at hc;omega
   have hn':t'≠[]:=Yaf (by omega);have hb:b=false:=by simpa using hb
   subst hb;simp only[Bool.false_eq_true,if_false,setC,if_pos hc]at hrun;cases hrun;refine⟨tle (by omega),tle (by omega),call1 (c92 p) ⟨_,rfl,rfl,rfl,?_⟩⟩;exact⟨rfl,_,hat.next hn',rfl⟩
  all_goals
   have hrun':setL m true p t'=some res:=by
    first
     |(have hb:b=true:=by simpa using hb
       subst hb;exact hrun)
     |(have hb:b=false:=by simpa using hb
       subst hb;have hc:hd t'≠93:=by simp at hc;omega
       simp only[Bool.false_eq_true,if_false,setC,if_neg hc]at hrun;exact hrun)
   refine Yb0 (c90 0 hat) (fun v t1 i1 e1 hi1=>?_) (fun t1 i1 j e1 hi1=>?_)
   ·obtain⟨lo,f1,rfl⟩:=Yam e1;have hlo1:=hi1.lo;refine⟨_,_,_,rfl,rfl,callB (c49 hi1) ⟨_,_,_,rfl,rfl,fun h2=>?_,fun h2=>?_⟩⟩
    ·have h2:=of_teq h2;have hn1:t1≠[]:=Yaf (by omega);have eh:hiR lo t1=Ya0 lo t1.tail:=by unfold hiR;rw[if_pos (by omega)]
     refine⟨tle (by omega),tle (by omega),Yb0 (c90 lo (hi1.next hn1)) (fun v t3 i3 e3 hi3=>?_) (fun t3 i3 j e3 hi3=>?_)⟩
     ·obtain⟨hi,f3,rfl⟩:=Yam e3;exact⟨_,_,_,rfl,rfl,_,c79r lo hi (Yay _ f3) (Yay _ f1),call1 (c91' p (rng lo hi)) ⟨_,rfl,rfl,rfl,(key m hrun' lo t1 i1 f1 hi1 hi t3 i3 (by rw[eh,f3]) hi3)⟩⟩
     ·have e3:=Yal e3;have:=Ycv hrun' f1 (by rw[eh,e3]);subst this;exact⟨_,_,rfl,Yak rfl hi3⟩
    ·have h2:=of_feq h2;have eh:hiR lo t1=.ok lo t1:=by unfold hiR;rw[if_neg (by omega)]
     exact⟨_,c79r lo lo (Yay _ f1) (Yay _ f1),call1 (c91' p (rng lo lo)) ⟨_,rfl,rfl,rfl,(key m hrun' lo t1 i1 f1 hi1 lo t1 i1 eh hi1)⟩⟩
   ·have e1:=Yal e1;have:=Ycu hrun' e1;subst this;exact⟨_,_,rfl,Yak rfl hi1⟩
 ·have h0:=of_feq h0;have h1:=of_teq h1;have hn:t≠[]:=Yaf (by omega);unfold setR at hr;rw[if_neg (by omega),if_pos (by omega)]at hr;cases hr;exact⟨tle (by omega),tle (by omega),Ya9 rfl (h.next hn)⟩
 ·have h0:=of_feq h0;have h1:=of_feq h1;have hr':setL n false no t=some res:=by unfold setR at hr;rw[if_neg (by omega),if_neg (by omega)]at hr;exact hr
  refine⟨fun b a0 a1 a2 a3 s' i'=>∃n p t,SetI s false res b a0 a1 a2 a3 s' i' n p t,fun _ _ _ _ _ s' i'=>((s'.length:Int)-i').toNat,⟨n,no,t,rfl,by simp[Ycg],by simp[Ycg],by simp[Ycg],by simp[Ycg],h,hr'⟩,?_,trivial⟩;rintro b a0 a1 a2 a3 s' i' ⟨m,p,t',rfl,rfl,rfl,rfl,rfl,hat,hrun⟩;have hlo':=hat.lo
  have key:∀n,setL n false p t'=some res-> ∀lo t1 i1,Ya0 0 t'=.ok lo t1->At s' t1 i1-> ∀hi t3 i3,hiR lo t1=.ok hi t3->At s' t3 i3->
   (∃n p' t,SetI s' false res false ((row4 (orP p (rng lo hi))).getD 0 D0) ((row4 (orP p (rng lo hi))).getD 1 D0) ((row4 (orP p (rng lo hi))).getD 2 D0) ((row4 (orP p (rng lo hi))).getD 3 D0) s' i3 n p' t)/\((s'.length:Int)-i3).toNat<((s'.length:Int)-i').toNat:=fun n hs lo t1 i1 e1 h1 hi t3 i3 e2 h2=>by
   obtain⟨m,hm⟩:=Yct hs e1 e2;refine⟨⟨m,orP p (rng lo hi),t3,rfl,rfl,rfl,rfl,rfl,h2,hm⟩,SetI.lt hat h2 ?_⟩;have hl1:=Ybx 0 t';rw[e1]at hl1;have hl2:=Yd3 lo t1;rw[e2]at hl2;have:=hl1.1;have:=List.IsSuffix.length_le hl2;omega
  refine⟨fun hb=>callB (c49 hat) ⟨_,_,_,rfl,rfl,fun hc=>?_,fun hc=>?_⟩,fun hb=>?_⟩
  rotate_left
  ·have hc:hd t'=93:=by simp at hc;omega
   have hn':t'≠[]:=Yaf (by omega);have hb:b=false:=by simpa using hb
   subst hb;simp only[Bool.false_eq_true,if_false,setC,if_pos hc]at hrun;cases hrun;exact⟨tle (by omega),tle (by omega),rfl,_,hat.next hn',rfl⟩
  all_goals
   have hrun':setL m false p t'=some res:=by
    first
     |(have hb:b=true:=by simpa using hb
       subst hb;exact hrun)
     |(have hb:b=false:=by simpa using hb
       subst hb;have hc:hd t'≠93:=by simp at hc;omega
       simp only[Bool.false_eq_true,if_false,setC,if_neg hc]at hrun;exact hrun)
   refine Yb0 (c90 0 hat) (fun v t1 i1 e1 hi1=>?_) (fun t1 i1 j e1 hi1=>?_)
   ·obtain⟨lo,f1,rfl⟩:=Yam e1;have hlo1:=hi1.lo;refine⟨_,_,_,rfl,rfl,callB (c49 hi1) ⟨_,_,_,rfl,rfl,fun h2=>?_,fun h2=>?_⟩⟩
    ·have h2:=of_teq h2;have hn1:t1≠[]:=Yaf (by omega);have eh:hiR lo t1=Ya0 lo t1.tail:=by unfold hiR;rw[if_pos (by omega)]
     refine⟨tle (by omega),tle (by omega),Yb0 (c90 lo (hi1.next hn1)) (fun v t3 i3 e3 hi3=>?_) (fun t3 i3 j e3 hi3=>?_)⟩
     ·obtain⟨hi,f3,rfl⟩:=Yam e3;exact⟨_,_,_,rfl,rfl,_,c79r lo hi (Yay _ f3) (Yay _ f1),call1 (c91' p (rng lo hi)) ⟨_,rfl,rfl,rfl,(key m hrun' lo t1 i1 f1 hi1 hi t3 i3 (by rw[eh,f3]) hi3)⟩⟩
     ·have e3:=Yal e3;have:=Ycv hrun' f1 (by rw[eh,e3]);subst this;exact⟨_,_,rfl,Yak rfl hi3⟩
    ·have h2:=of_feq h2;have eh:hiR lo t1=.ok lo t1:=by unfold hiR;rw[if_neg (by omega)]
     exact⟨_,c79r lo lo (Yay _ f1) (Yay _ f1),call1 (c91' p (rng lo lo)) ⟨_,rfl,rfl,rfl,(key m hrun' lo t1 i1 f1 hi1 lo t1 i1 eh hi1)⟩⟩
   ·have e1:=Yal e1;have:=Ycu hrun' e1;subst this;exact⟨_,_,rfl,Yak rfl hi1⟩
end Go.Rx
end
section
open Go Go.Proofs Go.Ab Go.Rf
set_option maxRecDepth 100000
namespace Go.Rx
def encA(r:Rx):A:=.agg (enc r)
def K37(n:Nat):Prop:=∀(q:Ref)(s t:List UInt8)(i:Int)(res:Res Rx),alts n t=some res->At s t i->Holds Tryz.prog 127 [A.ptr (.up q) 0] (PB q s i) (PAft q s (res.map encA))
def K48(n:Nat):Prop:=∀(q:Ref)(s t:List UInt8)(i:Int)(res:Res Rx),seqs n t=some res->At s t i->Holds Tryz.prog 137 [A.ptr (.up q) 0] (PB q s i) (PAft q s (res.map encA))
def K65(n:Nat):Prop:=∀(q:Ref)(s t:List UInt8)(i:Int)(res:Res Rx),Ybd n t=some res->At s t i->Holds Tryz.prog 149 [A.ptr (.up q) 0] (PB q s i) (PAft q s (res.map encA))
def K73(n:Nat):Prop:=∀(q:Ref)(s t:List UInt8)(i:Int)(res:Res Rx),atom n t=some res->At s t i->Holds Tryz.prog 154 [A.ptr (.up q) 0] (PB q s i) (PAft q s (res.map encA))
theorem teq6(r:Rx):(tB (((enc r).length:Int)==6))=true:=teq (by simp)
def Yex(n:Nat)(t:List UInt8):Option (Res Rx):=
 if hd t=41 then some (.ok (mk0 1 []) t.tail)else match alts n t with
  |none=>none
  |some (.bad q)=>some (.bad q)
  |some (.ok r t1)=>some (Ycf r t1)
theorem c77{n:Nat}(K:K37 n){q:Ref}{s t:List UInt8}{i:Int}{res:Res Rx}(hr:Yex n t=some res)(h:At s t (i+1)):Holds Tryz.prog 158 [A.ptr (.up q) 0] (PB q s i) (PAft q s (res.map encA)):=by
 have hlo:=h.lo;refine w77 s i q ⟨tle (by omega),tle (by omega),callB (c49 h) ⟨_,_,_,rfl,rfl,fun h0=>?_,fun h0=>?_⟩⟩
 ·have h0:=of_teq h0;unfold Yex at hr;rw[if_pos (by omega)]at hr;cases hr;exact⟨tle (by omega),tle (by omega),Ya9 rfl (h.next (Yaf (by omega)))⟩
 ·have h0:=of_feq h0;unfold Yex at hr;rw[if_neg (by omega)]at hr;cases ha:alts n t with
  |none=>rw[ha]at hr;cases hr
  |some ra=>
   rw[ha]at hr;refine Yb0 (K (.up q) s t (i+1) ra ha h) (fun v t1 i1 e1 hi1=>?_) (fun t1 i1 j e1 hi1=>?_)
   ·obtain⟨r,f1,rfl⟩:=Yam e1;subst f1;cases hr;have hlo1:=hi1.lo;refine⟨_,_,_,rfl,rfl,teq6 r,callB (c49 hi1) ⟨_,_,_,rfl,rfl,fun h2=>?_,fun h2=>?_⟩⟩
    ·have h2:hd t1≠41:=by simp at h2;omega
     refine Ybz c38 ⟨_,_,rfl,Yak (t:=t1) ?_ hi1⟩;unfold Ycf;rw[if_neg h2];rfl
    ·have h2:hd t1=41:=by simp at h2;omega
     refine⟨tle (by omega),tle (by omega),Ya9 (t:=t1.tail) ?_ (hi1.next (Yaf (by omega)))⟩
     unfold Ycf;rw[if_pos h2];rfl
   ·have f1:=Yal e1;subst f1;cases hr;exact⟨_,_,rfl,Yak rfl hi1⟩
theorem c73{n:Nat}(K:K37 n):K73 (n+1):=by
 intro q s t i res hr h;have hlo:=h.lo;have hx:=Yb7 t;unfold atom at hr
 have bad:hd t≠40->hd t≠91->hd t≠46->hd t≠92->(hd t<32\/126<hd t\/spcV (hd t)=true)-> ∀j,PAft q s (res.map encA) (.pan (Ybg i)) (PB q s j):=fun h1 h2 h3 h4 h5 j=>by
  rw[if_neg h1,if_neg h2,if_neg h3,if_neg h4,if_pos h5]at hr;cases hr;exact Yak rfl h
 refine w73 s i q (callB (c49 h) ⟨_,_,_,rfl,rfl,fun hc=>?_,fun hc=>⟨fun h0=>?_,fun h0=>⟨fun h1=>?_,fun h1=>⟨fun h2=>?_,fun h2=>⟨fun h3=>?_,fun h3=>⟨fun h4=>?_,fun h4=>?_⟩⟩⟩⟩⟩⟩)
 ·have ht:=h.end_ (of_tle hc);subst ht;have e:(s.length:Int)=i:=by have:=h.pos;simp at this;omega
  rw[e];exact Ybz c38 ⟨_,_,rfl,bad (by decide) (by decide) (by decide) (by decide) (.inl (by decide)) _⟩
 ·have h0:=of_teq h0;have hn:t≠[]:=Yaf (by omega);rw[if_pos (by omega)]at hr;have hg:Yex n t.tail=some res:=hr;exact Yb0 (c77 K hg (h.next hn)) (fun v t1 i1 e1 hi1=>by obtain⟨r,f1,rfl⟩:=Yam e1;exact⟨_,_,_,rfl,rfl,teq6 r,Ya9 e1 hi1⟩) (fun t1 i1 j e1 hi1=>⟨_,_,rfl,Yak e1 hi1⟩)
 ·have h0:=of_feq h0;have h1:=of_teq h1;have hn:t≠[]:=Yaf (by omega);rw[if_neg (by omega),if_pos (by omega)]at hr;exact Yb0 (c78 n res hr (h.next hn)) (fun v t1 i1 e1 hi1=>by obtain⟨r,f1,rfl⟩:=Yam e1;exact⟨_,_,_,rfl,rfl,teq6 r,Ya9 e1 hi1⟩) (fun t1 i1 j e1 hi1=>⟨_,_,rfl,Yak e1 hi1⟩)
 ·have h0:=of_feq h0;have h1:=of_feq h1;have h2:=of_teq h2;have hn:t≠[]:=Yaf (by omega);rw[if_neg (by omega),if_neg (by omega),if_pos (by omega)]at hr;cases hr;exact⟨tle (by omega),tle (by omega),call1 (c79' 0 255 (by decide) (by decide)) ⟨_,rfl,rfl,rfl,Ya9 rfl (h.next hn)⟩⟩
 ·have h0:=of_feq h0;have h1:=of_feq h1;have h2:=of_feq h2;have h3:=of_teq h3;have hn:t≠[]:=Yaf (by omega);have h':=h.next hn
  have hlo':=h'.lo;rw[if_neg (by omega),if_neg (by omega),if_neg (by omega),if_pos (by omega)]at hr
  have esc:clsV (hd t.tail)=none-> ∀(Q1:A->List (Ref×List A)->Prop)(Q2:Value->List (Ref×List A)->Prop),(∀c t1 i1,c<256->At s t1 i1->PAft q s (res.map encA) (.ret (encA (oneX c))) (PB q s i1)->Q1 (u8A c) (PB (.up q) s i1))->(∀i1 j,PAft q s (res.map encA) (.pan (Ybg i1)) (PB q s j)->Q2 (Ybg i1) (PB (.up q) s j))->
   ∀_:Nat->Nat,∃R':Out->List (Ref×List A)->Prop,Holds Tryz.prog 163 [(A.ptr (.up (Ref.up q)) 0),A.d (.lit (.int .u8 (0:Int)))] (PB (.up q) s i) R'/\(∀v H',R' (.ret v) H'->Q1 v H')/\(∀u H',R' (.pan u) H'->Q2 u H'):=fun hcl Q1 Q2 k1 k2=>by
   rw[hcl]at hr;refine Yb0 (c82 0 h') (fun v t1 i1 e1 hi1=>?_) (fun t1 i1 j e1 hi1=>?_)
   ·obtain⟨c,f1,rfl⟩:=Yam e1;rw[f1]at hr;cases hr;have hc:c<256:=Yay 0 (t:=t) (by unfold Ya0;rw[if_pos (by omega),f1]);exact k1 c t1 i1 hc hi1 (Ya9 rfl hi1)
   ·have f1:=Yal e1;rw[f1]at hr;cases hr;exact k2 i1 j (Yak rfl hi1)
  refine⟨tle (by omega),tle (by omega),fun hm=>?_,fun hm=>?_⟩
  ·have hn':=h'.more (of_tlt hm);rw[h'.byte hn'];refine⟨tle (by omega),call1 (c80 (hd t.tail) (Yb7 _)) ⟨_,_,rfl,rfl,rfl,fun hs=>?_,fun hs=>?_⟩⟩
   ·cases hcl:clsV (hd t.tail)with
    |none=>rw[hcl]at hs;cases hs
    |some p=>
     rw[hcl]at hr;cases hr;have h'':=h'.next hn'
     rw[show i+1+1=i+2 by omega]at h'';exact⟨tle (by omega),tle (by omega),Ya9 rfl h''⟩
   ·cases hcl:clsV (hd t.tail)with
    |some p=>rw[hcl]at hs;cases hs
    |none=>
     exact esc hcl _ _ (fun c t1 i1 hc hi1 k=>⟨_,_,_,rfl,rfl,call1 (c81 c hc) ⟨_,rfl,rfl,teq6 _,k⟩⟩) (fun i1 j k=>⟨_,_,rfl,k⟩)
  ·have hn':=h'.end_ (of_flt hm);exact esc (by rw[hn'];rfl) _ _ (fun c t1 i1 hc hi1 k=>⟨_,_,_,rfl,rfl,call1 (c81 c hc) ⟨_,rfl,rfl,teq6 _,k⟩⟩) (fun i1 j k=>⟨_,_,rfl,k⟩)
 ·have h0:=of_feq h0;have h1:=of_feq h1;have h2:=of_feq h2;have h3:=of_feq h3;simp only[Zwb,Bool.not_eq_true',Bool.or_eq_false_iff,decide_eq_false_iff_not]at h4;have hidx:=idxV_nonneg spcL (hd t) hx;refine call1 (c83 spcL (hd t)) ⟨_,rfl,rfl,fun h5=>?_,fun h5=>?_⟩
  ·exact Ybz c38 ⟨_,_,rfl,bad (by omega) (by omega) (by omega) (by omega) (.inr (.inr (hidx.1 (of_tle h5)))) _⟩
  ·have h5:=of_fle h5;have hn:=h.more (of_fle hc);have hsp:¬spcV (hd t)=true:=fun hb=>by have:=hidx.2 hb;omega
   rw[if_neg (by omega),if_neg (by omega),if_neg (by omega),if_neg (by omega),if_neg (by rintro(h6|h6|h6)<;>first|omega|exact hsp h6)]at hr
   cases hr;exact⟨tle (by omega),tle (by omega),call1 (c81 (hd t) hx) ⟨_,rfl,rfl,teq6 _,Ya9 rfl (h.next hn)⟩⟩
 ·have h0:=of_feq h0;have h1:=of_feq h1;have h2:=of_feq h2;have h3:=of_feq h3;simp only[Zwb,Bool.not_eq_false',Bool.or_eq_true,decide_eq_true_eq]at h4;exact Ybz c38 ⟨_,_,rfl,bad (by omega) (by omega) (by omega) (by omega) (by omega) _⟩
theorem Yb8(r:Rx):[(enc r).getD 0 D0,(enc r).getD 1 D0,(enc r).getD 2 D0,(enc r).getD 3 D0,(enc r).getD 4 D0,(enc r).getD 5 D0]=enc r:=by cases r;rfl
theorem Ybn{m:Nat}{r r':Rx}{t:List UInt8}{res:Res Rx}(h:opsL m r t=some res)(h1:opX (hd t) r=some r'):∃m',opsL m' r' t.tail=some res:=by
 cases m with
 |zero=>simp[opsL]at h
 |succ m=>refine⟨m,?_⟩;unfold opsL at h;rw[h1]at h;exact h
theorem Yd5{m:Nat}{r:Rx}{t:List UInt8}{res:Res Rx}(h:opsL m r t=some res)(h1:opX (hd t) r=none):res=.ok r t:=by
 cases m with
 |zero=>simp[opsL]at h
 |succ m=>unfold opsL at h;rw[h1]at h;cases h;rfl
theorem c65{n:Nat}(K:K73 n):K65 (n+1):=by
 intro q s t i res hr h;unfold Ybd at hr;cases ha:atom n t with
 |none=>rw[ha]at hr;cases hr
 |some ra=>
  rw[ha]at hr;refine w65 s i q (Yb0 (K (.up q) s t i ra ha h) (fun v t1 i1 e1 hi1=>?_) (fun t1 i1 j e1 hi1=>?_))
  ·obtain⟨r,f1,rfl⟩:=Yam e1;subst f1;refine⟨_,_,_,rfl,rfl,teq6 r,fun a b c d e f s' i'=>∃m r t,s'=s/\[a,b,c,d,e,f]=enc r/\At s t i'/\opsL m r t=some res,fun _ _ _ _ _ _ s' i'=>((s'.length:Int)-i').toNat,⟨n,r,t1,rfl,Yb8 r,hi1,hr⟩,?_,trivial⟩;rintro a b c d e f s' i' ⟨m,r',t',rfl,he,hat,hrun⟩;have hlo':=hat.lo;have lt:t'≠[]->((s'.length:Int)-(i'+1)).toNat<((s'.length:Int)-i').toNat:=fun hn=>by have:=hat.lt.2 hn;omega
   refine callB (c49 hat) ⟨_,_,_,rfl,rfl,fun h0=>?_,fun h0=>⟨fun h1=>?_,fun h1=>⟨fun h2=>?_,fun h2=>?_⟩⟩⟩
   ·have h0:=of_teq h0;have hn:=Yaf (t:=t') (by omega);obtain⟨m',hm⟩:=Ybn hrun (r':=Yem r') (by unfold opX;rw[if_pos (by omega)]);refine⟨tle (by omega),tle (by omega),⟨m',_,_,rfl,?_,hat.next hn,hm⟩,lt hn⟩
    rw[he];rfl
   ·have h0:=of_feq h0;have h1:=of_teq h1;have hn:=Yaf (t:=t') (by omega);obtain⟨m',hm⟩:=Ybn hrun (r':=mk0 3 [r',Yem r']) (by unfold opX;rw[if_neg (by omega),if_pos (by omega)]);refine⟨tle (by omega),tle (by omega),⟨m',_,_,rfl,?_,hat.next hn,hm⟩,lt hn⟩
    rw[he];rfl
   ·have h0:=of_feq h0;have h1:=of_feq h1;have h2:=of_teq h2;have hn:=Yaf (t:=t') (by omega);obtain⟨m',hm⟩:=Ybn hrun (r':=mk0 4 [r',mk0 1 []]) (by unfold opX;rw[if_neg (by omega),if_neg (by omega),if_pos (by omega)]);refine⟨tle (by omega),tle (by omega),⟨m',_,_,rfl,?_,hat.next hn,hm⟩,lt hn⟩
    rw[he];rfl
   ·have h0:=of_feq h0;have h1:=of_feq h1;have h2:=of_feq h2;have:=Yd5 hrun (by unfold opX;rw[if_neg (by omega),if_neg (by omega),if_neg (by omega)]);subst this;rw[he];exact Ya9 rfl hat
  ·have f1:=Yal e1;subst f1;cases hr;exact⟨_,_,rfl,Yak rfl hi1⟩
theorem Ygf{C:Ctx}{r:Ref}{x:A}{H:List (Ref×List A)}{g:Gh}{w:World}(h:HeapRel C (Zax ((r,[x])::H)) g w):HeapRel C (Zax ((r,[A.any])::H)) g w:=by
 have old:∀{o b},Owns (Zax ((r,[A.any])::H)) g o b->Owns (Zax ((r,[x])::H)) g o b:=fun{o b} ho=>by
  cases ho with
  | @box q c h1=>
    by_cases e:q=r
    ·subst e;exact .box (c:=[x]) (by simp[Zax,kOf])
    ·exact .box (c:=c) (by simpa[Zax,kOf,upd,e]using h1)
  |slot h1=>cases h1
  | @cell q c j a h1 h2 h3=>
    by_cases e:q=r
    ·subst e;have hc:c=[A.any]:=by simpa[Zax,kOf]using h1.symm
     subst hc;cases j with
     |zero=>cases h2;cases h3
     |succ j=>simp at h2
    ·exact .cell (c:=c) (by simpa[Zax,kOf,upd,e]using h1) h2 h3
 refine⟨fun q c hc=>?_,fun o o' b h1 h2=>h.inj o o' b (old h1) (old h2),fun o b h1=>h.wr o b (old h1),h.prs,h.pr0,h.prn,h.up,h.uu,h.fr⟩;by_cases e:q=r
 ·subst e;have hc:c=[A.any]:=by simpa[Zax,kOf]using hc.symm
  subst hc;obtain⟨cs,k1,k2,k3,k4,k5⟩:=h.box q [x] (by simp[Zax,kOf]);refine⟨cs,k1,k2,fun j a ha=>?_,k4,k5⟩;cases j with
  |zero=>
   cases ha;obtain⟨_,v,k6,_⟩:=k3 0 x rfl;exact⟨rfl,v,k6,trivial⟩
  |succ j=>simp at ha
 ·exact h.box q c (by simpa[Zax,kOf,upd,e]using hc)
theorem Ye3{P:Program}{f:Nat}{args:List A}{r:Ref}{x:A}{H:List (Ref×List A)}{R R':Out->List (Ref×List A)->Prop}(h:Holds P f args ((r,[x])::H) R)
 (hret:∀v H',R (.ret v) H'->R' (.ret v) H') (hpan:∀u H',R (.pan u) H'-> ∃y H1,H'=(r,[y])::H1/\R' (.pan u) ((r,[A.any])::H1)):
 Holds P f args ((r,[x])::H) R':=
 fun w cargs g h1 h2=>(h w cargs g h1 h2).mono fun e w' ⟨out,H',g',a,b,c,d⟩=>by
  cases out with
  |ret v=>exact⟨.ret v,H',g',hret _ _ a,b,c,d⟩
  |pan u=>
   obtain⟨y,H1,rfl,hR⟩:=hpan _ _ a;exact⟨.pan u,_,g',hR,b,Ygf c,d⟩
def Yhf(q0 q1 q2:Ref)(s:List UInt8)(l:List Rx)(res:Res Rx):Out->List (Ref×List A)->Prop:=fun o H=>match res with
 |.ok r t=>o=.ret (.tup [])/\ ∃i,At s t i/\H=[(.up q0,[A.own 6 (encs (l++[r])) []]),(.up q1,[A.ptr (.up q2) 0]),(.up q2,[A.d (.lit (Zco s)),A.d (.lit (.int .i64 i))])]
 |.bad t=>∃i j,At s t i/\o=.pan (Ybg i)/\H=[(.up q0,[A.any]),(.up q1,[A.ptr (.up q2) 0]),(.up q2,[A.d (.lit (Zco s)),A.d (.lit (.int .i64 j))])]
theorem Yey{a b:List D}(h:a.length=b.length):Ab.setL a 0 b=b:=by
 unfold Ab.setL;simp[<-h]
theorem c64a{n:Nat}(K:K65 n){q0 q1 q2:Ref}(h01:q0≠q1)(h02:q0≠q2)(h12:q1≠q2){s t:List UInt8}{i:Int}{res:Res Rx}(hr:Ybd n t=some res)(h:At s t i):
 Holds Tryz.prog 148 [A.ptr (.up q0) 0,A.ptr (.up q1) 0] [(.up q0,[A.zs []]),(.up q1,[A.ptr (.up q2) 0]),(.up q2,[A.d (.lit (Zco s)),A.d (.lit (.int .i64 i))])] (Yhf q0 q1 q2 s [] res):=by
 let R0:Out->List (Ref×List A)->Prop:=fun o H=>match res with
  |.ok r t=>o=.ret (.tup [])/\ ∃i,At s t i/\H=[(.up q0,[A.own 6 (encs ([]++[r])) []]),(.up q1,[A.ptr (.up q2) 0]),(.up q2,[A.d (.lit (Zco s)),A.d (.lit (.int .i64 i))])]
  |.bad t=>∃i j,At s t i/\o=.pan (Ybg i)/\H=[(.up q0,[A.zs []]),(.up q1,[A.ptr (.up q2) 0]),(.up q2,[A.d (.lit (Zco s)),A.d (.lit (.int .i64 j))])]
 refine Ye3 (R:=R0) (w64a s i q0 q1 q2 h01 h02 h12 (Yb0 (K (.up q2) s t i res hr h) (fun v t1 i1 e1 hi1=>?_) (fun t1 i1 j e1 hi1=>?_))) (fun v H' ho=>?_) (fun u H' ho=>?_)
 ·obtain⟨r,f1,rfl⟩:=Yam e1;subst f1;refine⟨_,_,_,rfl,rfl,tle (by decide),tle (by decide),tlt (by decide),teq6 r,rfl,i1,hi1,?_⟩;have e:gAt (((D.lit (.int .i64 (0:Int)))::((D.lit (.int .u64 (0:Int)))::((D.lit (.int .u64 (0:Int)))::((D.lit (.int .u64 (0:Int)))::((D.lit (.int .u64 (0:Int)))::((D.slc ([]:List (List D)))::([]:List D)))))))::([]:List (List D))) (0:Int)=[D.lit (.int .i64 (0:Int)),D.lit (.int .u64 (0:Int)),D.lit (.int .u64 (0:Int)),D.lit (.int .u64 (0:Int)),D.lit (.int .u64 (0:Int)),D.slc []]:=rfl;rw[e,Yey (by simp)];rfl
 ·have f1:=Yal e1;subst f1;exact⟨_,_,rfl,i1,j,hi1,rfl,rfl⟩
 ·cases res with
  |ok r t1=>exact ho
  |bad t1=>obtain⟨_,_,_,e,_⟩:=ho;cases e
 ·cases res with
  |ok r t1=>cases ho.1
  |bad t1=>obtain⟨i1,j,hi1,e,rfl⟩:=ho;exact⟨_,_,rfl,i1,j,hi1,e,rfl⟩
theorem c64b{n:Nat}(K:K65 n){q0 q1 q2:Ref}(h01:q0≠q1)(h02:q0≠q2)(h12:q1≠q2){s t:List UInt8}{i:Int}{res:Res Rx}{l:List Rx}(hl:l.length<=1048576)(hr:Ybd n t=some res)(h:At s t i):
 Holds Tryz.prog 148 [A.ptr (.up q0) 0,A.ptr (.up q1) 0] [(.up q0,[A.own 6 (encs l) []]),(.up q1,[A.ptr (.up q2) 0]),(.up q2,[A.d (.lit (Zco s)),A.d (.lit (.int .i64 i))])] (Yhf q0 q1 q2 s l res):=by
 refine w64b (encs l) s i q0 q1 q2 h01 h02 h12 (Yb0 (K (.up q2) s t i res hr h) (fun v t1 i1 e1 hi1=>?_) (fun t1 i1 j e1 hi1=>?_))
 ·obtain⟨r,f1,rfl⟩:=Yam e1;subst f1;refine⟨_,_,_,rfl,rfl,tle (by simp;omega),tle (by simp;omega),teq6 r,rfl,i1,hi1,?_⟩;rw[Yey (by simp)];show[(Ref.up q0,[A.own 6 (encs l++encs [r]) []]),_,_]=_;rw[Yaz]
 ·have f1:=Yal e1;subst f1;exact⟨_,_,rfl,i1,j,hi1,rfl,rfl⟩
theorem Yfq(r:Rx):Zwd 6 [enc r]=true:=by unfold Zwd;rw[List.all_cons,Yc5];rfl
theorem Yib{f:Nat}{args:List A}{B:List (Ref×List A)}{q0 q1 q2:Ref}{s:List UInt8}{l:List Rx}{res:Res Rx}(hc:Holds Tryz.prog f args B (Yhf q0 q1 q2 s l res)){Q1:A->List (Ref×List A)->Prop}{Q2:Value->List (Ref×List A)->Prop}
 (h1:∀r t i,res=.ok r t->At s t i->Q1 (.tup []) [(.up q0,[A.own 6 (encs (l++[r])) []]),(.up q1,[A.ptr (.up q2) 0]),(.up q2,[A.d (.lit (Zco s)),A.d (.lit (.int .i64 i))])])
 (h2:∀t i j,res=.bad t->At s t i->Q2 (Ybg i) [(.up q0,[A.any]),(.up q1,[A.ptr (.up q2) 0]),(.up q2,[A.d (.lit (Zco s)),A.d (.lit (.int .i64 j))])]):
 ∃R':Out->List (Ref×List A)->Prop,Holds Tryz.prog f args B R'/\(∀v H',R' (.ret v) H'->Q1 v H')/\(∀u H',R' (.pan u) H'->Q2 u H'):=by
 refine⟨_,hc,fun v' H' e=>?_,fun u H' e=>?_⟩
 ·cases res with
  |ok v t=>obtain⟨e1,i,hi,rfl⟩:=e;cases e1;exact h1 _ t i rfl hi
  |bad t=>obtain⟨i,j,hi,e1,_⟩:=e;cases e1
 ·cases res with
  |ok v t=>cases e.1
  |bad t=>obtain⟨i,j,hi,e1,rfl⟩:=e;cases e1;exact h2 t i j rfl hi
theorem Ydn{q:Ref}{a b:Nat}:Ref.own a b≠Ref.up q:=fun h=>by cases h
theorem Yfr{a b c d:Nat}(h:a≠c):Ref.own a b≠Ref.own c d:=fun e=>by cases e;exact h rfl
theorem c48{n:Nat}(K:∀m,m<=n->K65 m):K48 (n+1):=by
 intro q s t i res hr h;unfold seqs at hr;cases ha:Ybd n t with
 |none=>rw[ha]at hr;cases hr
 |some ra=>
  rw[ha]at hr;refine w48 s i q fun ν=>Yib (c64a (K n (Nat.le_refl _)) (Yfr (by decide)) Ydn Ydn ha h) (fun r t1 i1 e1 hi1=>?_) (fun t1 i1 j e1 hi1=>?_)
  ·subst e1;have hlt:=(Ya8 n).2.2.2.2.1 _ _ ha;refine⟨_,_,_,rfl,rfl,fun x s' i'=>∃m l t',s'=s/\x=encs l/\At s t' i'/\seqL m l t'=some res/\m<=n/\l.length+t'.length<=s.length,fun _ s' i'=>((s'.length:Int)-i').toNat,⟨n,[r],t1,rfl,rfl,hi1,hr,Nat.le_refl _,?_⟩,?_,trivial⟩
   ·have:=hlt.1;have:=h.suf.length_le;simp;omega
   ·rintro x s' i' ⟨m,l,t',rfl,rfl,hat,hrun,hm,hl⟩;have hsm:=hat.sm
    have done:¬(t'≠[]/\hd t'≠124/\hd t'≠41)->PAft q s' (res.map encA) (.ret (encA (Yd2 3 l))) (PB q s' i'):=fun hn=>by
     cases m with
     |zero=>simp[seqL]at hrun
     |succ m=>
      unfold seqL at hrun;rw[if_neg hn]at hrun;cases hrun;exact Ya9 rfl hat
    refine⟨fun h0=>callB (c49 hat) ⟨_,_,_,rfl,rfl,fun h1=>callB (c49 hat) ⟨_,_,_,rfl,rfl,fun h2=>fun ν=>?_,fun h2=>?_⟩,fun h1=>?_⟩,fun h0=>?_⟩
    ·have hn:t'≠[]/\hd t'≠124/\hd t'≠41:=⟨hat.more (of_tlt h0),by simp at h1;omega,by simp at h2;omega⟩;cases m with
     |zero=>simp[seqL]at hrun
     |succ m=>
      unfold seqL at hrun;rw[if_pos hn]at hrun;cases hb:Ybd m t' with
      |none=>rw[hb]at hrun;cases hrun
      |some rb=>
       rw[hb]at hrun;refine Yib (c64b (K m (by omega)) (Yfr (by decide)) Ydn Ydn (by omega) hb hat) (fun r t2 i2 e2 hi2=>?_) (fun t2 i2 j e2 hi2=>?_)
       ·subst e2;have hlt2:=((Ya8 m).2.2.2.2.1 _ _ hb).1;refine⟨_,_,_,rfl,rfl,⟨m,l++[r],t2,rfl,rfl,hi2,hrun,by omega,by simp;omega⟩,?_⟩;exact SetI.lt hat hi2 hlt2
       ·subst e2;cases hrun;exact⟨_,_,rfl,Yak rfl hi2⟩
    ·have h2:hd t'=41:=by simp at h2;omega
     exact call1 (c50 3 l) ⟨_,rfl,rfl,teq6 _,done fun h=>h.2.2 h2⟩
    ·have h1:hd t'=124:=by simp at h1;omega
     exact call1 (c50 3 l) ⟨_,rfl,rfl,teq6 _,done fun h=>h.2.1 h1⟩
    ·exact call1 (c50 3 l) ⟨_,rfl,rfl,teq6 _,done fun h=>h.1 (hat.end_ (of_flt h0))⟩
  ·subst e1;cases hr;exact⟨_,_,rfl,Yak rfl hi1⟩
theorem c37{n:Nat}(K:∀m,m<=n->K48 m):K37 (n+1):=by
 intro q s t i res hr h;unfold alts at hr;cases ha:seqs n t with
 |none=>rw[ha]at hr;cases hr
 |some ra=>
  rw[ha]at hr;refine w37 s i q (Yb0 (K n (Nat.le_refl _) (.up q) s t i ra ha h) (fun v t1 i1 e1 hi1=>?_) (fun t1 i1 j e1 hi1=>?_))
  ·obtain⟨r,f1,rfl⟩:=Yam e1;subst f1;have hlt:=(Ya8 n).2.2.1 _ _ ha;refine⟨_,_,_,rfl,rfl,teq6 r,fun x s' i'=>∃m l t',s'=s/\x=encs l/\At s t' i'/\altL m l t'=some res/\m<=n/\l.length+t'.length<=s.length,fun _ s' i'=>((s'.length:Int)-i').toNat,⟨n,[r],t1,rfl,rfl,hi1,hr,Nat.le_refl _,?_⟩,?_,trivial⟩
   ·have:=hlt.1;have:=h.suf.length_le;simp;omega
   ·rintro x s' i' ⟨m,l,t',rfl,rfl,hat,hrun,hm,hl⟩;have hsm:=hat.sm;have hlo:=hat.lo;cases m with
    |zero=>simp[altL]at hrun
    |succ m=>
     unfold altL at hrun;refine callB (c49 hat) ⟨_,_,_,rfl,rfl,fun h1=>⟨tle (by omega),tle (by omega),?_⟩,fun h1=>?_⟩
     ·have h1:=of_teq h1;have hn:t'≠[]:=Yaf (by omega)
      have hnl:t'.tail.length+1=t'.length:=by cases t' with
       |nil=>exact absurd rfl hn
       |cons c t=>simp
      rw[if_pos (by omega)]at hrun;cases hb:seqs m t'.tail with
      |none=>rw[hb]at hrun;cases hrun
      |some rb=>
       rw[hb]at hrun;refine Yb0 (K m (by omega) (.up q) s' t'.tail (i'+1) rb hb (hat.next hn)) (fun v t2 i2 e2 hi2=>?_) (fun t2 i2 j e2 hi2=>?_)
       ·obtain⟨r',f2,rfl⟩:=Yam e2;subst f2;have hlt2:=((Ya8 m).2.2.1 _ _ hb).1;refine⟨_,_,_,rfl,rfl,teq6 r',Yfq r',tle (by simp;omega),tle (by simp;omega),⟨m,l++[r'],t2,rfl,?_,hi2,hrun,by omega,by simp;omega⟩,SetI.lt hat hi2 (by omega)⟩;show encs l++encs [r']=_;rw[Yaz]
       ·have f2:=Yal e2;subst f2;cases hrun;exact⟨_,_,rfl,Yak rfl hi2⟩
     ·have h1:=of_feq h1;rw[if_neg (by omega)]at hrun;cases hrun;exact call1 (c50 4 l) ⟨_,rfl,rfl,teq6 _,Ya9 rfl hat⟩
  ·have f1:=Yal e1;subst f1;cases hr;exact⟨_,_,rfl,Yak rfl hi1⟩
theorem Yja:∀n,(∀m,m<=n->K37 m/\K48 m/\K65 m/\K73 m):=by
 intro n
 induction n with
 |zero=>
  intro m hm;have:m=0:=by omega
  subst this;exact⟨fun q s t i res hr=>by simp[alts]at hr,fun q s t i res hr=>by simp[seqs]at hr,fun q s t i res hr=>by simp[Ybd]at hr,fun q s t i res hr=>by simp[atom]at hr⟩
 |succ n ih=>
  intro m hm;by_cases h:m<=n
  ·exact ih m h
  ·have:m=n+1:=by omega
   subst this;exact⟨c37 fun m h=>(ih m h).2.1,c48 fun m h=>(ih m h).2.2.1,c65 (ih n (Nat.le_refl _)).2.2.2,c73 (ih n (Nat.le_refl _)).1⟩
theorem k37(n:Nat):K37 n:=(Yja n n (Nat.le_refl _)).1
end Go.Rx
end
section
open Go Go.Proofs Go.Ab Go.Rf
set_option maxRecDepth 100000
namespace Go.Rx
theorem Ycw:∀(n:Nat)(neg:Bool)(p:Nat->Bool)(t:List UInt8),t.length<n->setL n neg p t≠none
 |0,_,_,_,h=>by omega
 |n+1,neg,p,t,h=>by
  unfold setL;have h1:=Ybx 0 t;cases e1:Ya0 0 t with
  |bad q=>simp
  |ok lo t1=>
   rw[e1]at h1;dsimp only;have h2:=Yd3 lo t1;cases e2:hiR lo t1 with
   |bad q=>simp
   |ok hi t3=>
    rw[e2]at h2;dsimp only;split
    ·simp
    ·refine Ycw n neg _ t3 ?_;have:=h1.1;have:=List.IsSuffix.length_le h2;omega
theorem Yfs(n:Nat)(t:List UInt8)(h:t.length<n):setR n t≠none:=by
 unfold setR;split
 ·exact Ycw _ _ _ _ (by simp;omega)
 ·split
  ·simp
  ·exact Ycw _ _ _ _ h
theorem Yd6:∀(n:Nat)(r:Rx)(t:List UInt8),t.length<n->opsL n r t≠none
 |0,_,_,h=>by omega
 |n+1,r,t,h=>by
  unfold opsL;cases e:opX (hd t) r with
  |none=>simp
  |some r'=>
   have:=Yb6 (Yia e);exact Yd6 n r' t.tail (by omega)
theorem Ygg:∀n,(∀t,5*t.length+4<=n->alts n t≠none)/\(∀l t,5*t.length+4<=n->altL n l t≠none)/\(∀t,5*t.length+3<=n->seqs n t≠none)/\(∀l t,5*t.length+3<=n->seqL n l t≠none)/\
 (∀t,5*t.length+2<=n->Ybd n t≠none)/\(∀t,5*t.length+1<=n->atom n t≠none):=by
 intro n
 induction n with
 |zero=>exact⟨fun t h=>by omega,fun l t h=>by omega,fun t h=>by omega,fun l t h=>by omega,fun t h=>by omega,fun t h=>by omega⟩
 |succ n ih=>
  obtain⟨ih1,ih2,ih3,ih4,ih5,ih6⟩:=ih;refine⟨fun t h=>?_,fun l t h=>?_,fun t h=>?_,fun l t h=>?_,fun t h=>?_,fun t h=>?_⟩
  ·unfold alts;cases e:seqs n t with
   |none=>exact absurd e (ih3 t (by omega))
   |some res=>cases res with
    |bad q=>simp
    |ok r t1=>have:=((Ya8 n).2.2.1 _ _ e).1;exact ih2 _ _ (by omega)
  ·unfold altL;split
   ·rename_i hc;have ht:=Yb6 (show hd t≠0 by omega);cases e:seqs n t.tail with
    |none=>exact absurd e (ih3 t.tail (by omega))
    |some res=>cases res with
     |bad q=>simp
     |ok r t1=>have:=((Ya8 n).2.2.1 _ _ e).1;exact ih2 _ _ (by omega)
   ·simp
  ·unfold seqs;cases e:Ybd n t with
   |none=>exact absurd e (ih5 t (by omega))
   |some res=>cases res with
    |bad q=>simp
    |ok r t1=>have:=((Ya8 n).2.2.2.2.1 _ _ e).1;exact ih4 _ _ (by omega)
  ·unfold seqL;split
   ·cases e:Ybd n t with
    |none=>exact absurd e (ih5 t (by omega))
    |some res=>cases res with
     |bad q=>simp
     |ok r t1=>have:=((Ya8 n).2.2.2.2.1 _ _ e).1;exact ih4 _ _ (by omega)
   ·simp
  ·unfold Ybd;cases e:atom n t with
   |none=>exact absurd e (ih6 t (by omega))
   |some res=>cases res with
    |bad q=>simp
    |ok r t1=>have:=((Ya8 n).2.2.2.2.2 _ _ e).1;exact Yd6 _ _ _ (by omega)
  ·unfold atom;have ht:hd t≠0->t.tail.length<t.length:=Yb6;split
   ·rename_i hc;have ht:=ht (by omega);split
    ·simp
    ·cases e:alts n t.tail with
     |none=>exact absurd e (ih1 t.tail (by omega))
     |some res=>cases res<;>simp
   ·split
    ·rename_i hc;have ht:=ht (by omega);exact Yfs _ _ (by omega)
    ·split
     ·simp
     ·split
      ·cases clsV (hd t.tail)with
       |some p=>simp
       |none=>dsimp only;cases escR 0 t.tail<;>simp
      ·split<;>simp
def Ycx(t:List UInt8):Nat:=5*t.length+4
theorem Yd7(t:List UInt8):∃res,alts (Ycx t) t=some res:=by
 have:=(Ygg (Ycx t)).1 t (Nat.le_refl _);cases h:alts (Ycx t) t with
 |none=>exact absurd h this
 |some r=>exact⟨r,rfl⟩
def parseV(s:List UInt8):Rx×Int×Int:=
 if 1000<s.length then(mk0 0 [],2,0)else match alts (Ycx s) s with
  |some (.ok r t)=>if t=[]then(if chk 1 r=9 then(mk0 0 [],9,0)else(r,0,0))else(mk0 0 [],8,(s.length:Int)-t.length)
  |some (.bad t)=>(mk0 0 [],8,(s.length:Int)-t.length)
  |none=>(mk0 0 [],0,0)
def pairA(x:Rx×Int×Int):A:=.tup [(true,enc x.1),(true,[.lit (.int .i64 x.2.1),.lit (.int .i64 x.2.2)])]
theorem Ybp{B:Nat}{k:Int}{l:List Rx}:lens B (mk0 k l)↔l.length<=B/\ ∀x∈l,lens B x:=Ybv
theorem Ybs{B:Nat}(p:Nat->Bool):lens B (setX p):=Ybv.2 ⟨Nat.zero_le _,fun _ h=>by cases h⟩
theorem Yc8{B:Nat}{k:Int}{l:List Rx}(h:l.length<=B)(hl:∀x∈l,lens B x):lens B (Yd2 k l):=by
 unfold Yd2;split
 ·exact hl _ (by simp)
 ·exact Ybp.2 ⟨h,hl⟩
def Res.All{α:Type}(P:α->Prop):Res α->Prop|.ok a _=>P a|.bad _=>True
theorem Ycy{B:Nat}:∀(n:Nat)(neg:Bool)(p:Nat->Bool)(t:List UInt8)(r:Res Rx),setL n neg p t=some r->r.All (lens B)
 |0,_,_,_,_,h=>by simp[setL]at h
 |n+1,neg,p,t,r,h=>by
  unfold setL at h;split at h
  ·cases h;trivial
  ·split at h
   ·cases h;trivial
   ·split at h
    ·cases h;show lens B _;exact Ybs _
    ·exact Ycy n _ _ _ _ h
theorem Yd8{B:Nat}{r:Rx}(hB:2<=B)(h:lens B r):lens B (Yem r):=Ybp.2 ⟨by simp;omega,by simpa using h⟩
theorem Ygh{B c:Nat}{r r':Rx}(hB:2<=B)(h:lens B r)(e:opX c r=some r'):lens B r':=by
 unfold opX at e;have he:lens B (mk0 1 []):=Ybp.2 ⟨Nat.zero_le _,by simp⟩
 repeat' split at e
 all_goals first
  |(cases e;exact Yd8 hB h)
  |(cases e;exact Ybp.2 ⟨by simpa using hB,by simp;exact⟨h,Yd8 hB h⟩⟩)
  |(cases e;exact Ybp.2 ⟨by simpa using hB,by simp;exact⟨h,he⟩⟩)
  |cases e
theorem Yd9{B:Nat}(hB:2<=B):∀(n:Nat)(r:Rx)(t:List UInt8)(o:Res Rx),opsL n r t=some o->lens B r->o.All (lens B)
 |0,_,_,_,h,_=>by simp[opsL]at h
 |n+1,r,t,o,h,hr=>by
  unfold opsL at h;split at h
  ·rename_i r' e;exact Yd9 hB n r' _ _ h (Ygh hB hr e)
  ·cases h;exact hr
theorem Ygi(B:Nat)(hB:2<=B):∀(n:Nat),(∀t r,alts n t=some r->t.length<=B->r.All (lens B))/\(∀l t r,altL n l t=some r->l.length+t.length<=B->(∀x∈l,lens B x)->r.All (lens B))/\(∀t r,seqs n t=some r->t.length<=B->r.All (lens B))/\
 (∀l t r,seqL n l t=some r->l.length+t.length<=B->(∀x∈l,lens B x)->r.All (lens B))/\
 (∀t r,Ybd n t=some r->t.length<=B->r.All (lens B))/\(∀t r,atom n t=some r->t.length<=B->r.All (lens B)):=by
 intro n
 induction n with
 |zero=>exact⟨fun t r h=>by simp[alts]at h,fun l t r h=>by simp[altL]at h,fun t r h=>by simp[seqs]at h,fun l t r h=>by simp[seqL]at h,fun t r h=>by simp[Ybd]at h,fun t r h=>by simp[atom]at h⟩
 |succ n ih=>
  obtain⟨ih1,ih2,ih3,ih4,ih5,ih6⟩:=ih;refine⟨fun t r h hl=>?_,fun l t r h hl hx=>?_,fun t r h hl=>?_,fun l t r h hl hx=>?_,fun t r h hl=>?_,fun t r h hl=>?_⟩
  ·unfold alts at h;split at h
   ·cases h
   ·cases h;trivial
   ·rename_i hq;have h1:=ih3 _ _ hq hl;have h2:=((Ya8 n).2.2.1 _ _ hq).1;exact ih2 _ _ _ h (by simp;omega) (fun x hx=>by rw[List.mem_singleton.1 hx];exact h1)
  ·unfold altL at h;split at h
   ·rename_i hc;have h0:=Yb6 (show hd t≠0 by omega);split at h
    ·cases h
    ·cases h;trivial
    ·rename_i hq;have h1:=ih3 _ _ hq (by omega);have h2:=((Ya8 n).2.2.1 _ _ hq).1;refine ih2 _ _ _ h (by simp;omega) fun x hx'=>?_
     rcases List.mem_append.1 hx' with hx'|hx'
     ·exact hx x hx'
     ·rw[List.mem_singleton.1 hx'];exact h1
   ·cases h;exact Yc8 (by omega) hx
  ·unfold seqs at h;split at h
   ·cases h
   ·cases h;trivial
   ·rename_i hq;have h1:=ih5 _ _ hq hl;have h2:=((Ya8 n).2.2.2.2.1 _ _ hq).1;exact ih4 _ _ _ h (by simp;omega) (fun x hx=>by rw[List.mem_singleton.1 hx];exact h1)
  ·unfold seqL at h;split at h
   ·split at h
    ·cases h
    ·cases h;trivial
    ·rename_i hq;have h1:=ih5 _ _ hq (by omega);have h2:=((Ya8 n).2.2.2.2.1 _ _ hq).1;refine ih4 _ _ _ h (by simp;omega) fun x hx'=>?_
     rcases List.mem_append.1 hx' with hx'|hx'
     ·exact hx x hx'
     ·rw[List.mem_singleton.1 hx'];exact h1
   ·cases h;exact Yc8 (by omega) hx
  ·unfold Ybd at h;split at h
   ·cases h
   ·cases h;trivial
   ·rename_i hq;exact Yd9 hB _ _ _ _ h (ih6 _ _ hq hl)
  ·have hT:t.tail.length<=B:=by simp;omega
   unfold atom at h;split at h
   ·split at h
    ·cases h;show lens B (mk0 1 []);exact Ybp.2 ⟨Nat.zero_le _,by simp⟩
    ·split at h
     ·cases h
     ·cases h;trivial
     ·rename_i hq;cases h;have h1:=ih1 _ _ hq hT;unfold Ycf;split
      ·exact h1
      ·trivial
   ·split at h
    ·unfold setR at h;split at h
     ·exact Ycy _ _ _ _ _ h
     ·split at h
      ·cases h;show lens B (mk0 1 []);exact Ybp.2 ⟨Nat.zero_le _,by simp⟩
      ·exact Ycy _ _ _ _ _ h
    ·split at h
     ·cases h;show lens B _;exact Ybs _
     ·split at h
      ·split at h
       ·cases h;show lens B _;exact Ybs _
       ·split at h
        ·cases h;trivial
        ·cases h;show lens B _;exact Ybs _
      ·split at h
       ·cases h;trivial
       ·cases h;show lens B _;exact Ybs _
theorem Yea{n:Nat}{t t':List UInt8}{r:Rx}(h:alts n t=some (.ok r t')):lens (t.length+2) r:=(Ygi (t.length+2) (by omega) n).1 t _ h (by omega)
theorem at0{s:List UInt8}(h:s.length<=1048576):At s s 0:=⟨List.suffix_refl _,by omega,h⟩
theorem Yc9{s:List UInt8}(h:1000<s.length):parseV s=(mk0 0 [],2,0):=by unfold parseV;rw[if_pos h]
theorem Yeb{s t:List UInt8}{i:Int}(h:¬1000<s.length)(hr:alts (Ycx s) s=some (.bad t))(hi:At s t i):parseV s=(mk0 0 [],8,i):=by
 unfold parseV;rw[if_neg h,hr];have:=hi.pos;have:(s.length:Int)-t.length=i:=by omega
 simp[this]
theorem Yda{s t:List UInt8}{r:Rx}{i:Int}(h:¬1000<s.length)(hr:alts (Ycx s) s=some (.ok r t))(hi:At s t i)(ht:t≠[]):parseV s=(mk0 0 [],8,i):=by
 unfold parseV;rw[if_neg h,hr];have:=hi.pos;have:(s.length:Int)-t.length=i:=by omega
 simp[this,ht]
theorem Yez{s:List UInt8}{r:Rx}(h:¬1000<s.length)(hr:alts (Ycx s) s=some (.ok r [])):parseV s=if chk 1 r=9 then(mk0 0 [],9,0)else(r,0,0):=by
 unfold parseV;rw[if_neg h,hr];simp
end Go.Rx
end
section
open Go Go.Proofs Go.Ab Go.Rf
set_option maxRecDepth 100000
namespace Go.Rx
theorem Yjb{α:Type}{l:List α}(h:l.length=4):∃a b c d,l=[a,b,c,d]:=by
 match l,h with
 |[a,b,c,d],_=>exact⟨a,b,c,d,rfl⟩
def Yec(s:List UInt8):Out->Prop:=fun o=>o=.ret (pairA (parseV s))
theorem Yhg(r:Rx):enc r=[(enc r).getD 0 D0,(enc r).getD 1 D0,(enc r).getD 2 D0,(enc r).getD 3 D0,(enc r).getD 4 D0,(enc r).getD 5 D0]:=(Yb8 r).symm
theorem c19(s:List UInt8):Holds Tryz.prog 112 [A.d (.lit (Zco s))] [] (Ret (pairA (parseV s))):=by
 have key:Holds Tryz.prog 112 [A.d (D.lit (Zco s))] [] (fun o H=>H=[]/\Yec s o):=by
  refine w19p _ rfl s ⟨fun hl=>⟨fun _=>?_,fun h=>absurd rfl h⟩,fun hl=>⟨fun h=>(by cases h),fun _=>⟨_,rfl,fun qs hlen hn=>?_⟩⟩⟩
  ·have hl:=of_tlt hl;unfold Yec;rw[Yc9 (by omega)];rfl
  ·have hl:=of_flt hl;have hs:¬1000<s.length:=by omega
   have h0:At s s 0:=at0 (by omega);obtain⟨res,hr⟩:=Yd7 s;obtain⟨q0,q1,q2,q3,rfl⟩:=Yjb hlen;simp only[List.nodup_cons,List.mem_cons,List.not_mem_nil,or_false,not_or,List.nodup_nil,and_true,not_false_eq_true]at hn;obtain⟨⟨h01,h02,h03⟩,⟨h12,h13⟩,h23⟩:=hn
   have failz:∀(i j:Int),parseV s=(mk0 0 [],8,i)->midR Tryz.prog 126 3 [(1,6),(2,2)] (Yec s) [q0,q1,q2,q3] (.pan (Ybg i)) [(Ref.up q0,[A.ptr (Ref.up q3) 0]),(Ref.up q1,[A.d (.lit (.int .i64 0)),A.d (.lit (.int .u64 0)),A.d (.lit (.int .u64 0)),A.d (.lit (.int .u64 0)),A.d (.lit (.int .u64 0)),A.zs []]),(Ref.up q2,[A.d (.lit (.int .i64 0)),A.d (.lit (.int .i64 0))]),(Ref.up q3,[A.d (.lit (Zco s)),A.d (.lit (.int .i64 j))])]:=fun i j hp=>
    ⟨_,fun H=>H=_,w36z _ rfl _ _ _ _ _ (D.lit .nilIface) _ _ s j i q0 q1 q2 q3 h01 h02 h12 h03 h13 h23 rfl,rfl,fun H2 hR=>by subst hR;exact⟨_,rfl,by unfold Yec;rw[hp];rfl⟩⟩
   have faild:∀(i j:Int)(a b c d e f:D),parseV s=(mk0 0 [],8,i)->midR Tryz.prog 126 3 [(1,6),(2,2)] (Yec s) [q0,q1,q2,q3] (.pan (Ybg i)) [(Ref.up q0,[A.ptr (Ref.up q3) 0]),(Ref.up q1,[A.d a,A.d b,A.d c,A.d d,A.d e,A.d f]),(Ref.up q2,[A.d (.lit (.int .i64 0)),A.d (.lit (.int .i64 0))]),(Ref.up q3,[A.d (.lit (Zco s)),A.d (.lit (.int .i64 j))])]:=fun i j a b c d e f hp=>
    ⟨_,fun H=>H=_,w36f _ rfl _ _ _ _ _ _ _ _ s j i q0 q1 q2 q3 h01 h02 h12 h03 h13 h23 rfl,rfl,fun H2 hR=>by subst hR;exact⟨_,rfl,by unfold Yec;rw[hp];rfl⟩⟩
   have fine:∀(j:Int)(a b c d e f g h:D),pairA (parseV s)=.tup [(true,[a,b,c,d,e,f]),(true,[g,h])]->midR Tryz.prog 126 3 [(1,6),(2,2)] (Yec s) [q0,q1,q2,q3] (.ret (.tup [])) [(Ref.up q0,[A.ptr (Ref.up q3) 0]),(Ref.up q1,[A.d a,A.d b,A.d c,A.d d,A.d e,A.d f]),(Ref.up q2,[A.d g,A.d h]),(Ref.up q3,[A.d (.lit (Zco s)),A.d (.lit (.int .i64 j))])]:=fun j a b c d e f g h hp=>
    ⟨_,fun H=>H=_,w36n _ rfl _ _ _ _ _ _ _ _ s j 0 q0 q1 q2 q3 h01 h02 h12 h03 h13 h23 rfl,rfl,fun H2 hR=>by subst hR;exact⟨_,rfl,by unfold Yec;rw[hp];rfl⟩⟩
   refine w19q s 0 0 0 0 0 0 0 s 0 q0 q1 q2 q3 h01 h02 h12 h03 h13 h23 ?_;refine Yb0 (k37 _ (Ref.up q3) s s 0 res hr h0) (fun v t i e hi=>?_) (fun t i j e hi=>?_)
   ·obtain⟨r,f1,rfl⟩:=Yam e;subst f1;refine⟨_,_,_,rfl,rfl,teq6 r,fun hf=>?_,fun hf=>?_⟩
    ·have ht:t≠[]:=hi.more (of_tlt hf);exact Ybz c38 ⟨_,_,rfl,faild i i _ _ _ _ _ _ (Yda hs hr hi ht)⟩
    ·have ht:t=[]:=hi.end_ (of_flt hf);subst ht;have hp:=Yez hs hr;have hb:lens (2^40) r:=Ycr (by omega) _ r (Nat.le_refl _) (Yea hr);refine call1 (c15 r hb) ⟨_,rfl,rfl,fun h9=>?_,fun h9=>?_⟩
     ·rw[if_pos (of_teq h9)]at hp;exact fine i _ _ _ _ _ _ _ _ (by rw[hp];rfl)
     ·rw[if_neg (of_feq h9)]at hp;exact fine i _ _ _ _ _ _ _ _ (by rw[hp];show A.tup [(true,enc r),_]=_;rw[Yhg r];rfl)
   ·have f1:=Yal e;subst f1;exact⟨_,_,rfl,failz i j (Yeb hs hr hi)⟩
 exact key.mono fun o H' h=>⟨h.2,h.1⟩
end Go.Rx
end
section
open Go Go.Proofs Go.Ab Go.Rf
set_option linter.unusedSimpArgs false
set_option linter.unusedVariables false
set_option maxRecDepth 100000
namespace Go.Sy
theorem Yac{a b:Bool}(h:a=b):Ret (boolA b) (.ret (boolA a)) []:=by subst h;exact⟨rfl,rfl⟩
def letV(x:Int):Bool:=(decide (97<=x)&&decide (x<=122))||(decide (65<=x)&&decide (x<=90))
def chV(x:Int):Bool:=letV x||(x==95||(decide (48<=x)&&decide (x<=57)))
def Ydo(t:Tx):Bool:=(!t.isEmpty&&letV (Zwc t 0))&&(List.range t.length).all fun i=>chV (Zwc t (i:Nat))
def cutV(s:Tx):Tx:=if decide (0<s.length)&&(Zwc s 0==35||Zwc s 0==95)then gSub s 1 s.length else s
def KW:List Tx:=[[110,117,108,108],[116,114,117,101],[102,97,108,115,101],[98,111,111,108],[105,110,116],[110,117,109,98,101,114],[115,116,114,105,110,103],[108,101,116],[105,102],[102,111,114],[105,110],[112,97,99,107,97,103,101],[105,109,112,111,114,116]]
def idV(s:Tx):Bool:=(decide (s.length<=32)&&!decide (s∈KW))&&Ydo (cutV s)
theorem c93(x:Int):Holds Tryz.prog 93 [.d (.lit (.int .u8 x))] [] (Ret (boolA (letV x))):=w93 x (by simp only[Zwb];exact⟨rfl,rfl⟩)
theorem Yic{x:Int}(h:((((!letV x)&&(!(tB (x==95))))&&((tB (decide (x<48)))||(tB (decide (57<x))))))=true):chV x=false:=by
 unfold chV;revert h;cases letV x
 ·simp only[Zwb];intro h;simp at h⊢;omega
 ·simp
theorem Ygx{x:Int}(h:((((!letV x)&&(!(tB (x==95))))&&((tB (decide (x<48)))||(tB (decide (57<x))))))=false):chV x=true:=by
 unfold chV;revert h;cases letV x
 ·simp only[Zwb];intro h;simp at h⊢;by_cases hx:x=95
  ·exact .inl hx
  ·have:=h hx;exact .inr (by omega)
 ·simp
theorem Yft{t:Tx}{i:Nat}(hi:i<t.length)(h:chV (Zwc t (i:Nat))=false):Ydo t=false:=by
 unfold Ydo;rw[Bool.and_eq_false_iff];right;rw[List.all_eq_false];exact⟨i,List.mem_range.2 hi,by rw[h];simp⟩
theorem Ye0{t:Tx}(hne:t≠[])(h:letV (Zwc t 0)=true)(ha:∀i<t.length,chV (Zwc t (i:Nat))=true):Ydo t=true:=by
 unfold Ydo;rw[h,List.all_eq_true.2 fun i hi=>ha i (List.mem_range.1 hi)];cases t with
 |nil=>exact absurd rfl hne
 |cons=>rfl
theorem c48(s:Tx):Holds Tryz.prog 48 [strA s] [] (Ret (boolA (idV s))):=by
 refine w48 s ⟨fun h=>?_,fun h=>?_⟩
 ·have hl:s.length<=32:=by have:=nb1 h;simp at this;omega
  refine call1 (c71 s KW (by decide)) ⟨_,rfl,rfl,fun hk=>?_,fun hk=>?_⟩
  ·exact Yac (by unfold idV;rw[hk];simp)
  ·have hi:idV s=Ydo (cutV s):=by unfold idV;rw[hk,decide_eq_true hl];rfl
   refine⟨by by_cases h0:0<s.length<;>simp[h0],by by_cases h0:0<s.length<;>simp[h0],fun h1=>?_,fun h1=>?_⟩
   ·have hc:cutV s=gSub s 1 s.length:=by unfold cutV;rw[if_pos (by simpa using h1)]
    have h0:0<s.length:=by simp at h1;omega
    rw[hc]at hi;have hg:(gSub s 1 (s.length:Int)).length<=32:=by simp[gSub];omega
    have hid:=hi;refine⟨tle (by omega),tle (by omega),by by_cases h2:(gSub s 1 (s.length:Int)).length=0<;>simp[h2]<;>omega,fun h2=>?_,fun h2=>?_⟩
    ·have hne:gSub s 1 (s.length:Int)≠[]:=fun e=>by rw[e]at h2;simp at h2
     refine call1 (c93 _) ⟨_,rfl,rfl,fun h3=>?_,fun h3=>?_⟩
     ·exact Yac (by rw[hid];unfold Ydo;rw[nb1 h3];simp)
     ·have h3:=nb0 h3;refine⟨fun x=>∃i:Nat,x=i/\i<=(gSub s 1 (s.length:Int)).length/\ ∀j<i,chV (Zwc (gSub s 1 (s.length:Int)) (j:Nat))=true,fun x=>(gSub s 1 (s.length:Int)).length-x.toNat,⟨0,rfl,Nat.zero_le _,fun j hj=>absurd hj (Nat.not_lt_zero j)⟩,?_,trivial⟩;rintro x ⟨i,rfl,hi,hr⟩;refine⟨fun hc=>?_,fun hc=>?_⟩
      ·have k1:i<(gSub s 1 (s.length:Int)).length:=by have:=of_tlt hc;omega
       refine⟨tle (by omega),call1 (c93 _) ⟨_,rfl,rfl,fun h4=>?_,fun h4=>⟨tle (by omega),tle (by omega),⟨i+1,rfl,k1,fun j hj=>?_⟩,dec k1⟩⟩⟩
       ·refine Yac ?_;rw[hid];exact(Yft k1 (Yic h4)).symm
       ·rcases Nat.lt_succ_iff_lt_or_eq.1 hj with h5|rfl
        ·exact hr j h5
        ·exact Ygx h4
      ·have k1:(gSub s 1 (s.length:Int)).length<=i:=by have:=of_flt hc;omega
       refine Yac ?_;rw[hid];exact(Ye0 hne h3 fun j hj=>hr j (by omega)).symm
    ·refine Yac ?_;rw[hid];have:gSub s 1 (s.length:Int)=[]:=List.length_eq_zero_iff.1 (by simpa using h2);rw[this];rfl
   ·have hc:cutV s=s:=by unfold cutV;rw[if_neg (by intro e;rw[show((tB (decide ((0:Int)<(s.length:Int))))&&((tB ((Zwc s 0)==35))||(tB ((Zwc s 0)==95))))=true by simpa using e]at h1;cases h1)]
    rw[hc]at hi;have hid:=hi;refine⟨by by_cases h2:s.length=0<;>simp[h2]<;>omega,fun h2=>?_,fun h2=>?_⟩
    ·have hne:s≠[]:=fun e=>by rw[e]at h2;simp at h2
     refine call1 (c93 _) ⟨_,rfl,rfl,fun h3=>?_,fun h3=>?_⟩
     ·exact Yac (by rw[hid];unfold Ydo;rw[nb1 h3];simp)
     ·have h3:=nb0 h3;refine⟨fun x=>∃i:Nat,x=i/\i<=(s).length/\ ∀j<i,chV (Zwc (s) (j:Nat))=true,fun x=>(s).length-x.toNat,⟨0,rfl,Nat.zero_le _,fun j hj=>absurd hj (Nat.not_lt_zero j)⟩,?_,trivial⟩;rintro x ⟨i,rfl,hi,hr⟩;refine⟨fun hc=>?_,fun hc=>?_⟩
      ·have k1:i<(s).length:=by have:=of_tlt hc;omega
       refine⟨tle (by omega),call1 (c93 _) ⟨_,rfl,rfl,fun h4=>?_,fun h4=>⟨tle (by omega),tle (by omega),⟨i+1,rfl,k1,fun j hj=>?_⟩,dec k1⟩⟩⟩
       ·refine Yac ?_;rw[hid];exact(Yft k1 (Yic h4)).symm
       ·rcases Nat.lt_succ_iff_lt_or_eq.1 hj with h5|rfl
        ·exact hr j h5
        ·exact Ygx h4
      ·have k1:(s).length<=i:=by have:=of_flt hc;omega
       refine Yac ?_;rw[hid];exact(Ye0 hne h3 fun j hj=>hr j (by omega)).symm
    ·refine Yac ?_;rw[hid];have:s=[]:=List.length_eq_zero_iff.1 (by simpa using h2);rw[this];rfl
 ·exact Yac (by have:=nb0 h;simp at this;unfold idV;rw[decide_eq_false (by omega:¬s.length<=32)];rfl)
def tyW:List Tx:=[[110,117,108,108],[98,111,111,108],[105,110,116],[110,117,109,98,101,114],[115,116,114,105,110,103]]
theorem Yhh:Holds Tryz.prog 145 [strA [110,117,108,108,32,98,111,111,108,32,105,110,116,32,110,117,109,98,101,114,32,115,116,114,105,110,103],strA [32]] [] (Ret (slA (txs tyW))):=(Yan (m:=(145,[.d (Go.Sy.s [110,117,108,108,32,98,111,111,108,32,105,110,116,32,110,117,109,98,101,114,32,115,116,114,105,110,103]),.d (Go.Sy.s [32])],.d (Go.Sy.l (txs tyW)))) (by kernel_rfl)).2 (fun _=>.own 0 0) (by simp)
def bdW:List Tx:=[[60],[60,61],[62],[62,61],[33,61],[61,126],[33,126]]
theorem Yhi:Holds Tryz.prog 145 [strA [60,32,60,61,32,62,32,62,61,32,33,61,32,61,126,32,33,126],strA [32]] [] (Ret (slA (txs bdW))):=(Yan (m:=(145,[.d (Go.Sy.s [60,32,60,61,32,62,32,62,61,32,33,61,32,61,126,32,33,126]),.d (Go.Sy.s [32])],.d (Go.Sy.l (txs bdW)))) (by kernel_rfl)).2 (fun _=>.own 0 0) (by simp)
def unW:List Tx:=[[45],[33]]
theorem Yhj:Holds Tryz.prog 145 [strA [45,32,33],strA [32]] [] (Ret (slA (txs unW))):=(Yan (m:=(145,[.d (Go.Sy.s [45,32,33]),.d (Go.Sy.s [32])],.d (Go.Sy.l (txs unW)))) (by kernel_rfl)).2 (fun _=>.own 0 0) (by simp)
def biW:List Tx:=[[43],[45],[42],[47],[37],[61,61],[33,61],[60],[60,61],[62],[62,61],[38,38],[124,124]]
theorem Yhk:Holds Tryz.prog 145 [strA [43,32,45,32,42,32,47,32,37,32,61,61,32,33,61,32,60,32,60,61,32,62,32,62,61,32,38,38,32,124,124],strA [32]] [] (Ret (slA (txs biW))):=(Yan (m:=(145,[.d (Go.Sy.s [43,32,45,32,42,32,47,32,37,32,61,61,32,33,61,32,60,32,60,61,32,62,32,62,61,32,38,38,32,124,124]),.d (Go.Sy.s [32])],.d (Go.Sy.l (txs biW)))) (by kernel_rfl)).2 (fun _=>.own 0 0) (by simp)
theorem c132(s all:Tx)(set:List Tx)(hc:Holds Tryz.prog 145 [strA all,strA [32]] [] (Ret (slA (txs set))))(hn:[]∉set)(hl:set.length<=2^50):Holds Tryz.prog 132 [strA s,strA all] [] (Ret (boolA (decide (s∈set)))):=by
 refine w132 s all ⟨fun h=>call1 hc ⟨_,rfl,rfl,call1 (c71 s set hl) ⟨_,rfl,rfl,rfl,rfl⟩⟩,fun h=>?_⟩;have:s=[]:=Ya7 (nb0 h);subst this;exact Yac (by simp[hn])
def lnV(s:Tx):Bool:=decide ((10:UInt8)∈s)
def lnsV(l:List Tx):Bool:=l.all fun s=>!lnV s
theorem Yjc(s:Tx):Holds Tryz.prog 125 [strA s,strA [10]] [] (fun o H=>∃n:Int,o=.ret (intA n)/\H=[]/\(0<=n↔(10:UInt8)∈s)):=by
 refine Yip s ⟨fun h=>?_,fun h=>?_⟩
 ·have:s=[10]:=(Ya7 h).symm;exact⟨0,rfl,rfl,by rw[this];simp⟩
 ·refine call1 (v:=intA (Go.Rx.idxV s 10)) (Go.Rx.c94 s 10) ⟨_,rfl,rfl,_,rfl,rfl,?_⟩;rw[Go.Rx.idxV_nonneg s 10 (by decide),List.any_eq_true]
  exact⟨fun⟨b,hb,he⟩=>by
   have he:b.toNat=10:=by simpa using he
   have:b=10:=UInt8.toNat_inj.1 he;rw[<-this];exact hb,fun hb=>⟨10,hb,rfl⟩⟩
theorem Yjd(s:Tx):Holds Tryz.prog 111 [strA s,strA [10]] [] (fun o H=>∃n:Int,o=.ret (intA n)/\H=[]/\(0<=n↔(10:UInt8)∈s)):=
 Yio s fun _=>⟨_,Yjc s,fun v H' ⟨n,e1,e2,e3⟩=>⟨n,Out.ret.inj e1,e2,n,rfl,rfl,e3⟩,fun u H' ⟨n,e1,_⟩=>by cases e1⟩
theorem c96(s:Tx):Holds Tryz.prog 96 [strA s,strA [10]] [] (Ret (boolA (lnV s))):=
 w96 s [10] fun _=>⟨_,Yjd s,fun v H' ⟨n,e1,e2,e3⟩=>⟨n,Out.ret.inj e1,e2,Yac (by unfold lnV;simp[e3])⟩,fun u H' ⟨n,e1,_⟩=>by cases e1⟩
theorem c95(s:Tx):Holds Tryz.prog 95 [strA s] [] (Ret (boolA (lnV s))):=w95 s (call1 (c96 s) ⟨_,rfl,rfl,rfl,rfl⟩)
theorem c110(l:List Tx)(hl:l.length<=2^50):Holds Tryz.prog 110 [slA (txs l),.fn 95 []] [] (fun o H=>∃n:Int,o=.ret (intA n)/\H=[]/\(0<=n↔∃s∈l,lnV s=true)):=by
 refine w110 (txs l) ⟨fun x=>∃i:Nat,x=i/\i<=l.length/\ ∀j (h:j<l.length),j<i->lnV l[j]=false,fun x=>l.length-x.toNat,⟨0,rfl,Nat.zero_le _,fun j _ h=>absurd h (Nat.not_lt_zero j)⟩,?_,trivial⟩;rintro x ⟨i,rfl,hi,hr⟩;refine⟨fun hc=>?_,fun hc=>?_⟩
 ·have k1:i<l.length:=by have:=of_tlt hc;simp at this;omega
  have g:=getT k1;rw[g.2];refine⟨tle (by omega),teq (by rw[gT1 k1];rfl),g.1,call1 (c95 _) ⟨_,rfl,rfl,fun h=>⟨i,rfl,rfl,by simp;exact⟨_,List.getElem_mem k1,h⟩⟩,fun h=>⟨tle (by omega),tle (by omega),⟨i+1,rfl,k1,fun j hj h1=>?_⟩,dec k1⟩⟩⟩;rcases Nat.lt_succ_iff_lt_or_eq.1 h1 with h5|rfl
  ·exact hr j hj h5
  ·exact h
 ·have k1:l.length<=i:=by have:=of_flt hc;simp at this;omega
  refine⟨-1,rfl,rfl,⟨fun h=>by omega,fun⟨s,hs,h⟩=>?_⟩⟩;obtain⟨j,hj,rfl⟩:=List.getElem_of_mem hs;rw[hr j hj (by omega)]at h;cases h
theorem c94(l:List Tx)(hl:l.length<=2^50):Holds Tryz.prog 94 [slA (txs l),.fn 95 []] [] (Ret (boolA (!lnsV l))):=
 w94 (txs l) fun _=>⟨_,c110 l hl,fun v H' ⟨n,e1,e2,e3⟩=>⟨n,Out.ret.inj e1,e2,Yac (by
  unfold lnsV;rw[Bool.eq_iff_iff];simp[e3])⟩,fun u H' ⟨n,e1,_⟩=>by cases e1⟩
theorem c49(l:List Tx)(hl:l.length<=2^50):Holds Tryz.prog 49 [slA (txs l)] [] (Ret (boolA (lnsV l))):=w49 (txs l) (call1 (c94 l hl) ⟨_,rfl,rfl,Yac (by simp)⟩)
def bls(l:List Bool):List (List D):=l.map fun b=>[.lit (.bool b)]
abbrev BC(q:Ref)(w d:Bool):List (Ref×List A):=[(.up q,[boolA w,boolA d])]
theorem gB{l:List Bool}{i:Nat}(h:i<l.length):gAt (bls l) (i:Int)=[.lit (.bool l[i])]:=by simp[gAt,bls,List.getD,h]
theorem c109(l:List Bool)(hl:l.length<=2^50):Holds Tryz.prog 109 [slA (bls l),boolA false] [] (fun o H=>∃n:Int,o=.ret (intA n)/\H=[]/\(0<=n↔false∈l)):=by
 have hbl:(bls l).length=l.length:=by simp[bls]
 refine w109 (bls l) false ⟨fun x=>∃i:Nat,x=i/\i<=l.length/\ ∀j (h:j<l.length),j<i->l[j]=true,fun x=>l.length-x.toNat,⟨0,rfl,Nat.zero_le _,fun j _ h=>absurd h (Nat.not_lt_zero j)⟩,?_,trivial⟩;rintro x ⟨i,rfl,hi,hr⟩;rw[hbl];refine⟨fun hc=>?_,fun hc=>?_⟩
 ·have k1:i<l.length:=by have:=of_tlt hc;omega
  rw[gB k1]
  refine⟨tle (by omega),teq rfl,rfl,fun h=>⟨i,rfl,rfl,by simp;have h:false=l[i]:=by simpa using h
                                                         rw[h];exact List.getElem_mem k1⟩,fun h=>⟨tle (by omega),tle (by omega),⟨i+1,rfl,k1,fun j hj h1=>?_⟩,dec k1⟩⟩
  rcases Nat.lt_succ_iff_lt_or_eq.1 h1 with h5|rfl
  ·exact hr j hj h5
  ·cases hb:l[j]with
   |true=>rfl
   |false=>simp[hb]at h
 ·have k1:l.length<=i:=by have:=of_flt hc;omega
  refine⟨-1,rfl,rfl,⟨fun h=>by omega,fun hs=>?_⟩⟩;obtain⟨j,hj,e⟩:=List.getElem_of_mem hs;rw[hr j hj (by omega)]at e;cases e
theorem c92(l:List Bool)(hl:l.length<=2^50):Holds Tryz.prog 92 [slA (bls l),boolA false] [] (Ret (boolA (!l.all id))):=
 w92 (bls l) false fun _=>⟨_,c109 l hl,fun v H' ⟨n,e1,e2,e3⟩=>⟨n,Out.ret.inj e1,e2,Yac (by
  rw[Bool.eq_iff_iff];simp[e3])⟩,fun u H' ⟨n,e1,_⟩=>by cases e1⟩
theorem c47(q:Ref)(w d:Bool)(l:List Bool)(hl:l.length<=2^50):Holds Tryz.prog 47 [.ptr (.up q) 0,slA (bls l)] (BC q w d) (RB (BC q (w||!l.all id) d)):=by
 refine w47 w d (bls l) q ⟨fun h=>call1 (c92 l hl) ⟨_,rfl,rfl,?_⟩,fun h=>?_⟩
 ·have:w=false:=nb1 h;subst this;exact⟨rfl,rfl⟩
 ·have:w=true:=nb0 h;subst this;exact⟨rfl,rfl⟩
theorem Yag{f:FuncId}{args:List A}{K0:List (Ref×List A)}{r:Ref}{w d:Bool}(hc:Holds Tryz.prog f args K0 (RB [(r,[boolA w,boolA d])])){K:Bool->Bool->Prop}{QP:Value->List (Ref×List A)->Prop}(h:K w d):
 ∀_:Nat->Nat,∃R':Out->List (Ref×List A)->Prop,Holds Tryz.prog f args K0 R'/\(∀v H',R' (.ret v) H'-> ∃x y,v=.tup []/\H'=[(r,[boolA x,boolA y])]/\K x y)/\(∀u H',R' (.pan u) H'->QP u H'):=
 fun _=>⟨_,hc,fun v H' e=>by obtain⟨e1,e2⟩:=e;cases e1;exact⟨w,d,rfl,e2,h⟩,fun u H' e=>by cases e.1⟩
def difV(a b:Tx):Bool:=idV a&&(idV b&&!(a==b))
def nonV(a b:Tx):Bool:=a.isEmpty&&b.isEmpty
theorem c113(a b:Tx):Holds Tryz.prog 113 [.agg [dS a,dS b]] [] (Ret (boolA (difV a b))):=by
 refine w113 _ ?_;simp only[List.getD_cons_zero,List.getD_cons_succ,Ya1,Yaq,Bool.or_true,true_and];refine⟨teq rfl,call1 (c48 a) ⟨idV a,rfl,rfl,fun h=>call1 (c48 b) ⟨idV b,rfl,rfl,Yac ?_⟩,fun h=>Yac ?_⟩⟩
 ·unfold difV;rw[h];simp
 ·unfold difV;rw[h];rfl
theorem c114(a b:Tx):Holds Tryz.prog 114 [.agg [dS a,dS b]] [] (Ret (boolA (nonV a b))):=by
 refine w114 _ ?_;simp only[List.getD_cons_zero,List.getD_cons_succ,Ya1,Yaq,true_and];exact⟨teq rfl,Yac (by unfold nonV;simp)⟩
def fixV(n:Int):Bool:=decide (-1000000000000000<=n)&&decide (n<=1000000000000000)
theorem c120(n:Int):Holds Tryz.prog 120 [intA n] [] (Ret (boolA (fixV n))):=w120 n (Yac (by unfold fixV;simp))
theorem c51(q:Ref)(w d:Bool):Holds Tryz.prog 51 [.ptr (.up q) 0] (BC q w d) (RetB (intA (if w then 11 else if d then 9 else 0)) (BC q w d)):=
 w51 w d q ⟨fun h=>by subst h;exact⟨rfl,rfl⟩,fun h=>by subst h;exact⟨fun h=>by subst h;exact⟨rfl,rfl⟩,fun h=>by subst h;exact⟨rfl,rfl⟩⟩⟩
end Go.Sy
end
section
open Go Go.Proofs Go.Ab Go.Rf
set_option linter.unusedSimpArgs false
set_option linter.unusedVariables false
set_option maxRecDepth 100000
namespace Go.Sy
theorem Yaw{q:Ref}{a b d:Bool}(h:a=b):RB (BC q b d) (.ret (.tup [])) (BC q a d):=by subst h;exact⟨rfl,rfl⟩
theorem Ybq{w a b:Bool}(h:a=b):(w||!a)=(w||!b):=by rw[h]
def Yav(k num n:Int):Bool:=
 if k=10\/k=21 then true else if k=5 then decide (1<=n)else if k=9\/k=11\/k=18\/k=19 then n==1 else if k=12\/k=16\/k=20 then n==2
 else if k=15 then(n==2||n==3)else if k=17 then decide (2<=n)else if k=14 then decide (gAnd .i64 num 1<=n)else n==0
theorem c117(r:Nd)(q:Ref)(w d:Bool):Holds Tryz.prog 117 [.ptr (.up q) 0,.agg (encE r)] (BC q w d) (RB (BC q (w||!Yav r.kind r.num r.subs.length) d)):=by
 refine w117 w d (encE r) q ?_;simp only[Yah,e0,e1,e2,e3,e4,e5,e6,e7,e8,isK_int,Yaq,isK_slc,dint_int,Ya1,dlst_slc,true_and,Yab,Yaa,Yae];generalize r.kind=k;generalize r.num=num;generalize(r.subs.length:Int)=n;refine⟨teq rfl,?_⟩;refine⟨fun h=>?_,fun h=>?_⟩
 ·obtain rfl:k=10:=of_teq h;exact Yaw (by simp[Yav])
 ·have h0:=of_feq h;refine⟨fun h=>?_,fun h=>?_⟩
  ·obtain rfl:k=21:=of_teq h;exact Yaw (by simp[Yav])
  ·have h1:=of_feq h;refine⟨fun h=>?_,fun h=>?_⟩
   ·obtain rfl:k=5:=of_teq h;exact Yag (c47 _ _ _ [_] (by simp)) (Yaw (Ybq (by simp[Yav])))
   ·have h2:=of_feq h;refine⟨fun h=>?_,fun h=>?_⟩
    ·obtain rfl:k=9:=of_teq h;exact Yag (c47 _ _ _ [_] (by simp)) (Yaw (Ybq (by simp[Yav])))
    ·have h3:=of_feq h;refine⟨fun h=>?_,fun h=>?_⟩
     ·obtain rfl:k=11:=of_teq h;exact Yag (c47 _ _ _ [_] (by simp)) (Yaw (Ybq (by simp[Yav])))
     ·have h4:=of_feq h;refine⟨fun h=>?_,fun h=>?_⟩
      ·obtain rfl:k=18:=of_teq h;exact Yag (c47 _ _ _ [_] (by simp)) (Yaw (Ybq (by simp[Yav])))
      ·have h5:=of_feq h;refine⟨fun h=>?_,fun h=>?_⟩
       ·obtain rfl:k=19:=of_teq h;exact Yag (c47 _ _ _ [_] (by simp)) (Yaw (Ybq (by simp[Yav])))
       ·have h6:=of_feq h;refine⟨fun h=>?_,fun h=>?_⟩
        ·obtain rfl:k=12:=of_teq h;exact Yag (c47 _ _ _ [_] (by simp)) (Yaw (Ybq (by simp[Yav])))
        ·have h7:=of_feq h;refine⟨fun h=>?_,fun h=>?_⟩
         ·obtain rfl:k=16:=of_teq h;exact Yag (c47 _ _ _ [_] (by simp)) (Yaw (Ybq (by simp[Yav])))
         ·have h8:=of_feq h;refine⟨fun h=>?_,fun h=>?_⟩
          ·obtain rfl:k=20:=of_teq h;exact Yag (c47 _ _ _ [_] (by simp)) (Yaw (Ybq (by simp[Yav])))
          ·have h9:=of_feq h;refine⟨fun h=>?_,fun h=>?_⟩
           ·obtain rfl:k=15:=of_teq h;exact Yag (c47 _ _ _ [_] (by simp)) (Yaw (Ybq (by simp[Yav])))
           ·have h10:=of_feq h;refine⟨fun h=>?_,fun h=>?_⟩
            ·obtain rfl:k=17:=of_teq h;exact Yag (c47 _ _ _ [_] (by simp)) (Yaw (Ybq (by simp[Yav])))
            ·have h11:=of_feq h;refine⟨fun h=>?_,fun h=>?_⟩
             ·obtain rfl:k=14:=of_teq h;exact Yag (c47 _ _ _ [_] (by simp)) (Yaw (Ybq (by simp[Yav])))
             ·have h12:=of_feq h;exact Yag (c47 _ _ _ [_] (by simp)) (Yaw (Ybq (by simp[Yav,h0,h1,h2,h3,h4,h5,h6,h7,h8,h9,h10,h11,h12])))
def Ybb(k:Int)(t:Tx):Bool:=
 if k=10\/k=4\/k=11 then true else if k=8 then decide (t∈tyW)else if k=9 then decide (t∈bdW)else if k=19 then decide (t∈unW)else if k=20 then decide (t∈biW)
 else if k=21 then idV t else t.isEmpty
theorem c118(r:Nd)(q:Ref)(w d:Bool):Holds Tryz.prog 118 [.ptr (.up q) 0,.agg (encE r)] (BC q w d) (RB (BC q (w||!Ybb r.kind r.text) d)):=by
 refine w118 w d (encE r) q ?_;simp only[Yah,e0,e1,e2,e3,e4,e5,e6,e7,e8,isK_int,Yaq,isK_slc,dint_int,Ya1,dlst_slc,true_and,Yab,Yaa,Yae];generalize r.kind=k;generalize r.text=t;refine⟨teq rfl,?_⟩;refine⟨fun h=>?_,fun h=>?_⟩
 ·obtain rfl:k=10:=of_teq h;exact Yaw (by simp[Ybb])
 ·have h0:=of_feq h;refine⟨fun h=>?_,fun h=>?_⟩
  ·obtain rfl:k=4:=of_teq h;exact Yaw (by simp[Ybb])
  ·have h1:=of_feq h;refine⟨fun h=>?_,fun h=>?_⟩
   ·obtain rfl:k=11:=of_teq h;exact Yaw (by simp[Ybb])
   ·have h2:=of_feq h;refine⟨fun h=>?_,fun h=>?_⟩
    ·obtain rfl:k=8:=of_teq h;exact call1 (c132 t _ tyW Yhh (by decide) (by decide)) ⟨_,rfl,rfl,Yag (c47 _ _ _ [_] (by simp)) (Yaw (Ybq (by simp[Ybb])))⟩
    ·have h3:=of_feq h;refine⟨fun h=>?_,fun h=>?_⟩
     ·obtain rfl:k=9:=of_teq h;exact call1 (c132 t _ bdW Yhi (by decide) (by decide)) ⟨_,rfl,rfl,Yag (c47 _ _ _ [_] (by simp)) (Yaw (Ybq (by simp[Ybb])))⟩
     ·have h4:=of_feq h;refine⟨fun h=>?_,fun h=>?_⟩
      ·obtain rfl:k=19:=of_teq h;exact call1 (c132 t _ unW Yhj (by decide) (by decide)) ⟨_,rfl,rfl,Yag (c47 _ _ _ [_] (by simp)) (Yaw (Ybq (by simp[Ybb])))⟩
      ·have h5:=of_feq h;refine⟨fun h=>?_,fun h=>?_⟩
       ·obtain rfl:k=20:=of_teq h;exact call1 (c132 t _ biW Yhk (by decide) (by decide)) ⟨_,rfl,rfl,Yag (c47 _ _ _ [_] (by simp)) (Yaw (Ybq (by simp[Ybb])))⟩
       ·have h6:=of_feq h;refine⟨fun h=>?_,fun h=>?_⟩
        ·obtain rfl:k=21:=of_teq h;exact call1 (c48 t) ⟨_,rfl,rfl,Yag (c47 _ _ _ [_] (by simp)) (Yaw (Ybq (by simp[Ybb])))⟩
        ·have h7:=of_feq h;exact Yag (c47 _ _ _ [_] (by simp)) (Yaw (Ybq (by simp[Ybb,h0,h1,h2,h3,h4,h5,h6,h7])))
def refW:List Tx:=[[102,105,101,108,100],[108,111,111,112],[112,97,99,107,97,103,101],[117,110,107,110,111,119,110]]
def Ycz(t a b:Tx)(num n:Int):Bool:=
 idV t&&(if a=[]then nonV a b&&(num==0&&n==0)else if a=LET then n==1&&(b.isEmpty&&decide (0<=num))else if a∈refW then n==0&&(b.isEmpty&&decide (0<=num))else false)
theorem Yc0{w a b c:Bool}(h:c=(a&&b)):(w||!a||!b)=(w||!c):=by rw[h,Bool.not_and,Bool.or_assoc]
theorem c119(r:Nd)(q:Ref)(w d:Bool):Holds Tryz.prog 119 [.ptr (.up q) 0,.agg (encE r)] (BC q w d) (RB (BC q (w||!Ycz r.text r.n0 r.n1 r.num r.subs.length) d)):=by
 refine w119 w d (encE r) q ?_;simp only[Yah,e0,e1,e2,e3,e4,e5,e6,e7,e8,isK_int,Yaq,isK_slc,dint_int,Ya1,dlst_slc,true_and,Yab,Yaa,Yae];generalize r.text=t;generalize r.n0=a;generalize r.n1=b;generalize r.num=num;generalize(r.subs.length:Int)=n;refine⟨teq rfl,call1 (c48 t) ⟨_,rfl,rfl,Yag (c47 _ _ _ [_] (by simp)) ?_⟩⟩;refine⟨fun h=>?_,fun h=>?_⟩
 ·obtain rfl:a=[]:=Ya7 h;exact⟨_,fun _=>c114 _ _,Yag (c47 _ _ _ [_,_,_] (by simp)) (Yaw (by simp only[List.all_cons,List.all_nil,Bool.and_true,id];exact Yc0 (by simp[Ycz])))⟩
 ·have h0:=Ybe h;refine⟨fun h=>?_,fun h=>?_⟩
  ·obtain rfl:a=[108,101,116]:=Ya7 h;exact Yag (c47 _ _ _ [_,_,_] (by simp)) (Yaw (by simp only[List.all_cons,List.all_nil,Bool.and_true,id];exact Yc0 (by simp[Ycz,LET,refW])))
  ·have h1:=Ybe h;refine⟨fun h=>?_,fun h=>?_⟩
   ·obtain rfl:a=[102,105,101,108,100]:=Ya7 h;exact Yag (c47 _ _ _ [_,_,_] (by simp)) (Yaw (by simp only[List.all_cons,List.all_nil,Bool.and_true,id];exact Yc0 (by simp[Ycz,LET,refW])))
   ·have h2:=Ybe h;refine⟨fun h=>?_,fun h=>?_⟩
    ·obtain rfl:a=[108,111,111,112]:=Ya7 h;exact Yag (c47 _ _ _ [_,_,_] (by simp)) (Yaw (by simp only[List.all_cons,List.all_nil,Bool.and_true,id];exact Yc0 (by simp[Ycz,LET,refW])))
    ·have h3:=Ybe h;refine⟨fun h=>?_,fun h=>?_⟩
     ·obtain rfl:a=[112,97,99,107,97,103,101]:=Ya7 h;exact Yag (c47 _ _ _ [_,_,_] (by simp)) (Yaw (by simp only[List.all_cons,List.all_nil,Bool.and_true,id];exact Yc0 (by simp[Ycz,LET,refW])))
     ·have h4:=Ybe h;refine⟨fun h=>?_,fun h=>?_⟩
      ·obtain rfl:a=[117,110,107,110,111,119,110]:=Ya7 h;exact Yag (c47 _ _ _ [_,_,_] (by simp)) (Yaw (by simp only[List.all_cons,List.all_nil,Bool.and_true,id];exact Yc0 (by simp[Ycz,LET,refW])))
      ·have h5:=Ybe h;exact Yag (c47 _ _ _ [_] (by simp)) (Yaw (by simp only[List.all_cons,List.all_nil,Bool.and_true,id];exact Yc0 (by simp[Ycz,LET,refW,h0,h1,h2,h3,h4,h5])))
end Go.Sy
end
section
open Go Go.Proofs Go.Ab Go.Rf
set_option linter.unusedSimpArgs false
set_option linter.unusedVariables false
set_option maxRecDepth 100000
namespace Go.Sy
abbrev posV(cj io il:Bool)(lv:Int):List D:=[.lit (.bool cj),.lit (.bool io),.lit (.bool il),.lit (.int .i64 lv)]
def Yc1(k num:Int):Bool:=if k=2\/k=14 then num==0||num==1 else if k=3 then decide (0<=num)&&fixV num else num==0
def Ydp(k:Int)(cj io il:Bool):Bool:=((io||!(k==18))&&(il||!(k==15)))&&((cj||!(k==13))&&(!cj||!(k==22)))
def Yed(r:Nd)(cj io il:Bool):Bool:=
 ((((decide (1<=r.kind)&&decide (r.kind<=22))&&Yav r.kind r.num r.subs.length)&&Ybb r.kind r.text)&&(((r.kind==13||r.kind==22)||((r.decls.length:Int)+(r.tail.length:Int)==0))&&lnsV r.tail))&&
   (if r.kind=10 then Ycz r.text r.n0 r.n1 r.num r.subs.length else(Yc1 r.kind r.num&&(if r.kind=15 then difV r.n0 r.n1 else nonV r.n0 r.n1))&&Ydp r.kind cj io il)
theorem c102(r:Nd)(q:Ref)(w d cj io il:Bool)(lv:Int)(h1:r.decls.length<=2^50)(h2:r.tail.length<=2^50):
 Holds Tryz.prog 102 [.ptr (.up q) 0,.agg (encE r),.agg (posV cj io il lv)] (BC q w d) (RB (BC q (w||!Yed r cj io il) d)):=by
 have key:∀a b c e f g:Bool,(w||!a||!b||!c||!(e&&f)||!g)=(w||!((((a&&b)&&c)&&(e&&f))&&g)):=by intros a b c e f g;cases w<;>cases a<;>cases b<;>cases c<;>cases e<;>cases f<;>cases g<;>rfl
 refine w102 w d (encE r) (posV cj io il lv) q ?_;simp only[Yah,e0,e1,e2,e3,e4,e5,e6,e7,e8,isK_int,Yaq,isK_slc,dint_int,Ya1,dlst_slc,true_and,Yab,Yaa,Yae,Bool.or_true];refine⟨teq rfl,teq rfl,Yag (c47 _ _ _ [_] (by simp)) (Yag (c117 r _ _ _) (Yag (c118 r _ _ _) ⟨by rw[tle (by omega),Bool.or_true],by rw[tle (by omega),Bool.or_true],_,fun _=>c49 _ h2,Yag (c47 _ _ _ [_,_] (by simp)) ?_⟩))⟩;refine⟨fun _ x y=>y=d/\x=(w||!(decide (1<=r.kind)&&decide (r.kind<=22))||!Yav r.kind r.num r.subs.length||!Ybb r.kind r.text||!(((r.kind==13||r.kind==22)||((r.decls.length:Int)+(r.tail.length:Int)==0))&&lnsV r.tail)||!Yc1 r.kind r.num)/\r.kind≠10,⟨fun hk=>?_,fun hk=>⟨fun hk2=>?_,fun hk2=>⟨fun hk3=>?_,fun hk3=>⟨fun hk4=>?_,fun hk4=>?_⟩⟩⟩⟩,?_,trivial⟩
 ·have hk:=of_teq hk;refine Yag (c119 r _ _ _) (Yaw ?_);simp only[List.all_cons,List.all_nil,Bool.and_true,id,Zwb];rw[key,Yed,if_pos hk]
 ·have hk:=of_feq hk;have hk2:=of_teq hk2;refine Yag (c47 _ _ _ [_] (by simp)) ⟨rfl,?_,hk⟩;simp only[List.all_cons,List.all_nil,Bool.and_true,id,Zwb,Yc1,if_pos (Or.inl hk2)]
 ·have hk:=of_feq hk;have hk2:=of_feq hk2;have hk3:=of_teq hk3;refine Yag (c47 _ _ _ [_] (by simp)) ⟨rfl,?_,hk⟩;simp only[List.all_cons,List.all_nil,Bool.and_true,id,Zwb,Yc1,if_pos (Or.inr hk3)]
 ·have hk:=of_feq hk;have hk2:=of_feq hk2;have hk3:=of_feq hk3;have hk4:=of_teq hk4;refine⟨_,fun _=>c120 _,Yag (c47 _ _ _ [_,_] (by simp)) ⟨rfl,?_,hk⟩⟩;simp only[List.all_cons,List.all_nil,Bool.and_true,id,Zwb,Yc1,if_neg (fun e:r.kind=2\/r.kind=14=>e.elim hk2 hk3),if_pos hk4]
 ·have hk:=of_feq hk;have hk2:=of_feq hk2;have hk3:=of_feq hk3;have hk4:=of_feq hk4;refine Yag (c47 _ _ _ [_] (by simp)) ⟨rfl,?_,hk⟩;simp only[List.all_cons,List.all_nil,Bool.and_true,id,Zwb,Yc1,if_neg (fun e:r.kind=2\/r.kind=14=>e.elim hk2 hk3),if_neg hk4]
 ·rintro _ x y ⟨rfl,hx,hk⟩;refine⟨fun _ z y'=>y'=y/\z=(x||!(if r.kind=15 then difV r.n0 r.n1 else nonV r.n0 r.n1)),⟨fun h=>?_,fun h=>?_⟩,?_,trivial⟩
  ·refine call1 (c113 _ _) ⟨_,rfl,rfl,Yag (c47 _ _ _ [_] (by simp)) ⟨rfl,?_⟩⟩;rw[if_pos (of_teq h)];simp
  ·refine call1 (c114 _ _) ⟨_,rfl,rfl,Yag (c47 _ _ _ [_] (by simp)) ⟨rfl,?_⟩⟩;rw[if_neg (of_feq h)];simp
  ·rintro _ z y' ⟨rfl,hz⟩;refine⟨rfl,rfl,Yag (c47 _ _ _ [_,_] (by simp)) ⟨rfl,Yag (c47 _ _ _ [_,_] (by simp)) (Yaw ?_)⟩⟩;simp only[List.all_cons,List.all_nil,Bool.and_true,id,Zwb];have e:=key (decide (1<=r.kind)&&decide (r.kind<=22)) (Yav r.kind r.num r.subs.length) (Ybb r.kind r.text) ((r.kind==13||r.kind==22)||((r.decls.length:Int)+(r.tail.length:Int)==0)) (lnsV r.tail) ((Yc1 r.kind r.num&&(if r.kind=15 then difV r.n0 r.n1 else nonV r.n0 r.n1))&&Ydp r.kind cj io il)
   rw[Yed,if_neg hk,<-e,hz,hx,Ydp];simp only[Bool.not_and,Bool.or_assoc];rfl
end Go.Sy
end
