/- Proved: the given card SyntaxLawsCardSaid, without conditions. -/
import Derived.Test.YtpcnadmaeebhbaaGreatDoorJaj
set_option linter.unusedVariables false
set_option linter.unusedSimpArgs false
section
open Go Go.Proofs Go.Ab Go.Rf
set_option maxRecDepth 100000
namespace Go.Rx
theorem Ydi:∀(n:Nat)(neg:Bool)(p:Nat->Bool)(t:List UInt8),t.length<n->setL n neg p t≠none
 |0,_,_,_,h=>by omega
 |n+1,neg,p,t,h=>by
  unfold setL;have h1:=Ycx 0 t;cases e1:Ybt 0 t with
  |bad q=>simp
  |ok lo t1=>
   rw[e1]at h1;dsimp only;have h2:=Yf5 lo t1;cases e2:hiR lo t1 with
   |bad q=>simp
   |ok hi t3=>
    rw[e2]at h2;dsimp only;split
    ·simp
    ·refine Ydi n neg _ t3 ?_;have:=h1.1;have:=List.IsSuffix.length_le h2;omega
theorem Yhj(n:Nat)(t:List UInt8)(h:t.length<n):setR n t≠none:=by
 unfold setR;split
 ·exact Ydi _ _ _ _ (by simp;omega)
 ·split
  ·simp
  ·exact Ydi _ _ _ _ h
theorem Yex:∀(n:Nat)(r:Rx)(t:List UInt8),t.length<n->opsL n r t≠none
 |0,_,_,h=>by omega
 |n+1,r,t,h=>by
  unfold opsL;cases e:opX (hd t) r with
  |none=>simp
  |some r'=>
   have:=Ycw (Ykq e);exact Yex n r' t.tail (by omega)
theorem Yio:∀n,(∀t,5*t.length+4<=n->alts n t≠none)/\(∀l t,5*t.length+4<=n->altL n l t≠none)/\(∀t,5*t.length+3<=n->seqs n t≠none)/\(∀l t,5*t.length+3<=n->seqL n l t≠none)/\
 (∀t,5*t.length+2<=n->Yb3 n t≠none)/\(∀t,5*t.length+1<=n->atom n t≠none):=by
 intro n
 induction n with
 |zero=>exact⟨fun t h=>by omega,fun l t h=>by omega,fun t h=>by omega,fun l t h=>by omega,fun t h=>by omega,fun t h=>by omega⟩
 |succ n ih=>
  obtain⟨ih1,ih2,ih3,ih4,ih5,ih6⟩:=ih;refine⟨fun t h=>?_,fun l t h=>?_,fun t h=>?_,fun l t h=>?_,fun t h=>?_,fun t h=>?_⟩
  ·unfold alts;cases e:seqs n t with
   |none=>exact absurd e (ih3 t (by omega))
   |some res=>cases res with
    |bad q=>simp
    |ok r t1=>have:=((Ybz n).2.2.1 _ _ e).1;exact ih2 _ _ (by omega)
  ·unfold altL;split
   ·rename_i hc;have ht:=Ycw (show hd t≠0 by omega);cases e:seqs n t.tail with
    |none=>exact absurd e (ih3 t.tail (by omega))
    |some res=>cases res with
     |bad q=>simp
     |ok r t1=>have:=((Ybz n).2.2.1 _ _ e).1;exact ih2 _ _ (by omega)
   ·simp
  ·unfold seqs;cases e:Yb3 n t with
   |none=>exact absurd e (ih5 t (by omega))
   |some res=>cases res with
    |bad q=>simp
    |ok r t1=>have:=((Ybz n).2.2.2.2.1 _ _ e).1;exact ih4 _ _ (by omega)
  ·unfold seqL;split
   ·cases e:Yb3 n t with
    |none=>exact absurd e (ih5 t (by omega))
    |some res=>cases res with
     |bad q=>simp
     |ok r t1=>have:=((Ybz n).2.2.2.2.1 _ _ e).1;exact ih4 _ _ (by omega)
   ·simp
  ·unfold Yb3;cases e:atom n t with
   |none=>exact absurd e (ih6 t (by omega))
   |some res=>cases res with
    |bad q=>simp
    |ok r t1=>have:=((Ybz n).2.2.2.2.2 _ _ e).1;exact Yex _ _ _ (by omega)
  ·unfold atom;have ht:hd t≠0->t.tail.length<t.length:=Ycw;split
   ·rename_i hc;have ht:=ht (by omega);split
    ·simp
    ·cases e:alts n t.tail with
     |none=>exact absurd e (ih1 t.tail (by omega))
     |some res=>cases res<;>simp
   ·split
    ·rename_i hc;have ht:=ht (by omega);exact Yhj _ _ (by omega)
    ·split
     ·simp
     ·split
      ·cases clsV (hd t.tail)with
       |some p=>simp
       |none=>dsimp only;cases escR 0 t.tail<;>simp
      ·split<;>simp
def Ydj(t:List UInt8):Nat:=5*t.length+4
theorem Yhk(t:List UInt8):∃res,alts (Ydj t) t=some res:=by
 have:=(Yio (Ydj t)).1 t (Nat.le_refl _);cases h:alts (Ydj t) t with
 |none=>exact absurd h this
 |some r=>exact⟨r,rfl⟩
def parseV(s:List UInt8):Rx×Int×Int:=
 if 1000<s.length then(mk0 0 [],2,0)else match alts (Ydj s) s with
  |some (.ok r t)=>if t=[]then(if chk 1 r=9 then(mk0 0 [],9,0)else(r,0,0))else(mk0 0 [],8,(s.length:Int)-t.length)
  |some (.bad t)=>(mk0 0 [],8,(s.length:Int)-t.length)
  |none=>(mk0 0 [],0,0)
def pairA(x:Rx×Int×Int):A:=.tup [(true,enc x.1),(true,[.lit (.int .i64 x.2.1),.lit (.int .i64 x.2.2)])]
theorem Yb4{B:Nat}{k:Int}{l:List Rx}:lens B (mk0 k l)↔l.length<=B/\ ∀x∈l,lens B x:=Ycv
theorem Ycd{B:Nat}(p:Nat->Bool):lens B (setX p):=Ycv.2 ⟨Nat.zero_le _,fun _ h=>by cases h⟩
theorem Ydx{B:Nat}{k:Int}{l:List Rx}(h:l.length<=B)(hl:∀x∈l,lens B x):lens B (Ygi k l):=by
 unfold Ygi;split
 ·exact hl _ (by simp)
 ·exact Yb4.2 ⟨h,hl⟩
def Res.All{α:Type}(P:α->Prop):Res α->Prop|.ok a _=>P a|.bad _=>True
theorem Ydk{B:Nat}:∀(n:Nat)(neg:Bool)(p:Nat->Bool)(t:List UInt8)(r:Res Rx),setL n neg p t=some r->r.All (lens B)
 |0,_,_,_,_,h=>by simp[setL]at h
 |n+1,neg,p,t,r,h=>by
  unfold setL at h;split at h
  ·cases h;trivial
  ·split at h
   ·cases h;trivial
   ·split at h
    ·cases h;show lens B _;exact Ycd _
    ·exact Ydk n _ _ _ _ h
theorem Yey{B:Nat}{r:Rx}(hB:2<=B)(h:lens B r):lens B (Yhc r):=Yb4.2 ⟨by simp;omega,by simpa using h⟩
theorem Yip{B c:Nat}{r r':Rx}(hB:2<=B)(h:lens B r)(e:opX c r=some r'):lens B r':=by
 unfold opX at e;have he:lens B (mk0 1 []):=Yb4.2 ⟨Nat.zero_le _,by simp⟩
 repeat' split at e
 all_goals first
  |(cases e;exact Yey hB h)
  |(cases e;exact Yb4.2 ⟨by simpa using hB,by simp;exact⟨h,Yey hB h⟩⟩)
  |(cases e;exact Yb4.2 ⟨by simpa using hB,by simp;exact⟨h,he⟩⟩)
  |cases e
theorem Yez{B:Nat}(hB:2<=B):∀(n:Nat)(r:Rx)(t:List UInt8)(o:Res Rx),opsL n r t=some o->lens B r->o.All (lens B)
 |0,_,_,_,h,_=>by simp[opsL]at h
 |n+1,r,t,o,h,hr=>by
  unfold opsL at h;split at h
  ·rename_i r' e;exact Yez hB n r' _ _ h (Yip hB hr e)
  ·cases h;exact hr
theorem Yiq(B:Nat)(hB:2<=B):∀(n:Nat),(∀t r,alts n t=some r->t.length<=B->r.All (lens B))/\(∀l t r,altL n l t=some r->l.length+t.length<=B->(∀x∈l,lens B x)->r.All (lens B))/\(∀t r,seqs n t=some r->t.length<=B->r.All (lens B))/\
 (∀l t r,seqL n l t=some r->l.length+t.length<=B->(∀x∈l,lens B x)->r.All (lens B))/\
 (∀t r,Yb3 n t=some r->t.length<=B->r.All (lens B))/\(∀t r,atom n t=some r->t.length<=B->r.All (lens B)):=by
 intro n
 induction n with
 |zero=>exact⟨fun t r h=>by simp[alts]at h,fun l t r h=>by simp[altL]at h,fun t r h=>by simp[seqs]at h,fun l t r h=>by simp[seqL]at h,fun t r h=>by simp[Yb3]at h,fun t r h=>by simp[atom]at h⟩
 |succ n ih=>
  obtain⟨ih1,ih2,ih3,ih4,ih5,ih6⟩:=ih;refine⟨fun t r h hl=>?_,fun l t r h hl hx=>?_,fun t r h hl=>?_,fun l t r h hl hx=>?_,fun t r h hl=>?_,fun t r h hl=>?_⟩
  ·unfold alts at h;split at h
   ·cases h
   ·cases h;trivial
   ·rename_i hq;have h1:=ih3 _ _ hq hl;have h2:=((Ybz n).2.2.1 _ _ hq).1;exact ih2 _ _ _ h (by simp;omega) (fun x hx=>by rw[List.mem_singleton.1 hx];exact h1)
  ·unfold altL at h;split at h
   ·rename_i hc;have h0:=Ycw (show hd t≠0 by omega);split at h
    ·cases h
    ·cases h;trivial
    ·rename_i hq;have h1:=ih3 _ _ hq (by omega);have h2:=((Ybz n).2.2.1 _ _ hq).1;refine ih2 _ _ _ h (by simp;omega) fun x hx'=>?_
     rcases List.mem_append.1 hx' with hx'|hx'
     ·exact hx x hx'
     ·rw[List.mem_singleton.1 hx'];exact h1
   ·cases h;exact Ydx (by omega) hx
  ·unfold seqs at h;split at h
   ·cases h
   ·cases h;trivial
   ·rename_i hq;have h1:=ih5 _ _ hq hl;have h2:=((Ybz n).2.2.2.2.1 _ _ hq).1;exact ih4 _ _ _ h (by simp;omega) (fun x hx=>by rw[List.mem_singleton.1 hx];exact h1)
  ·unfold seqL at h;split at h
   ·split at h
    ·cases h
    ·cases h;trivial
    ·rename_i hq;have h1:=ih5 _ _ hq (by omega);have h2:=((Ybz n).2.2.2.2.1 _ _ hq).1;refine ih4 _ _ _ h (by simp;omega) fun x hx'=>?_
     rcases List.mem_append.1 hx' with hx'|hx'
     ·exact hx x hx'
     ·rw[List.mem_singleton.1 hx'];exact h1
   ·cases h;exact Ydx (by omega) hx
  ·unfold Yb3 at h;split at h
   ·cases h
   ·cases h;trivial
   ·rename_i hq;exact Yez hB _ _ _ _ h (ih6 _ _ hq hl)
  ·have hT:t.tail.length<=B:=by simp;omega
   unfold atom at h;split at h
   ·split at h
    ·cases h;show lens B (mk0 1 []);exact Yb4.2 ⟨Nat.zero_le _,by simp⟩
    ·split at h
     ·cases h
     ·cases h;trivial
     ·rename_i hq;cases h;have h1:=ih1 _ _ hq hT;unfold Ydw;split
      ·exact h1
      ·trivial
   ·split at h
    ·unfold setR at h;split at h
     ·exact Ydk _ _ _ _ _ h
     ·split at h
      ·cases h;show lens B (mk0 1 []);exact Yb4.2 ⟨Nat.zero_le _,by simp⟩
      ·exact Ydk _ _ _ _ _ h
    ·split at h
     ·cases h;show lens B _;exact Ycd _
     ·split at h
      ·split at h
       ·cases h;show lens B _;exact Ycd _
       ·split at h
        ·cases h;trivial
        ·cases h;show lens B _;exact Ycd _
      ·split at h
       ·cases h;trivial
       ·cases h;show lens B _;exact Ycd _
theorem Yhl{n:Nat}{t t':List UInt8}{r:Rx}(h:alts n t=some (.ok r t')):lens (t.length+2) r:=(Yiq (t.length+2) (by omega) n).1 t _ h (by omega)
theorem at0{s:List UInt8}(h:s.length<=1048576):At s s 0:=⟨List.suffix_refl _,by omega,h⟩
theorem Ygk{s:List UInt8}(h:1000<s.length):parseV s=(mk0 0 [],2,0):=by unfold parseV;rw[if_pos h]
theorem Yhm{s t:List UInt8}{i:Int}(h:¬1000<s.length)(hr:alts (Ydj s) s=some (.bad t))(hi:At s t i):parseV s=(mk0 0 [],8,i):=by
 unfold parseV;rw[if_neg h,hr];have:=hi.pos;have:(s.length:Int)-t.length=i:=by omega
 simp[this]
theorem Ygl{s t:List UInt8}{r:Rx}{i:Int}(h:¬1000<s.length)(hr:alts (Ydj s) s=some (.ok r t))(hi:At s t i)(ht:t≠[]):parseV s=(mk0 0 [],8,i):=by
 unfold parseV;rw[if_neg h,hr];have:=hi.pos;have:(s.length:Int)-t.length=i:=by omega
 simp[this,ht]
theorem Yir{s:List UInt8}{r:Rx}(h:¬1000<s.length)(hr:alts (Ydj s) s=some (.ok r [])):parseV s=if chk 1 r=9 then(mk0 0 [],9,0)else(r,0,0):=by
 unfold parseV;rw[if_neg h,hr];simp
end Go.Rx
end
section
open Go Go.Proofs Go.Ab Go.Rf
set_option maxRecDepth 100000
namespace Go.Rx
theorem Yl2{α:Type}{l:List α}(h:l.length=4):∃a b c d,l=[a,b,c,d]:=by
 match l,h with
 |[a,b,c,d],_=>exact⟨a,b,c,d,rfl⟩
def Ye0(s:List UInt8):Out->Prop:=fun o=>o=.ret (pairA (parseV s))
theorem Yjq(r:Rx):enc r=[(enc r).getD 0 D0,(enc r).getD 1 D0,(enc r).getD 2 D0,(enc r).getD 3 D0,(enc r).getD 4 D0,(enc r).getD 5 D0]:=(Yew r).symm
theorem c19(s:List UInt8):Holds Tryz.prog 112 [A.d (.lit (Zco s))] [] (Ret (pairA (parseV s))):=by
 have key:Holds Tryz.prog 112 [A.d (D.lit (Zco s))] [] (fun o H=>H=[]/\Ye0 s o):=by
  refine w19p _ rfl s ⟨fun hl=>⟨fun _=>?_,fun h=>absurd rfl h⟩,fun hl=>⟨fun h=>(by cases h),fun _=>⟨_,rfl,fun qs hlen hn=>?_⟩⟩⟩
  ·have hl:=of_tlt hl;unfold Ye0;rw[Ygk (by omega)];rfl
  ·have hl:=of_flt hl;have hs:¬1000<s.length:=by omega
   have h0:At s s 0:=at0 (by omega);obtain⟨res,hr⟩:=Yhk s;obtain⟨q0,q1,q2,q3,rfl⟩:=Yl2 hlen;simp only[List.nodup_cons,List.mem_cons,List.not_mem_nil,or_false,not_or,List.nodup_nil,and_true,not_false_eq_true]at hn;obtain⟨⟨h01,h02,h03⟩,⟨h12,h13⟩,h23⟩:=hn
   have failz:∀(i j:Int),parseV s=(mk0 0 [],8,i)->midR Tryz.prog 126 3 [(1,6),(2,2)] (Ye0 s) [q0,q1,q2,q3] (.pan (Ybs i)) [(Ref.up q0,[A.ptr (Ref.up q3) 0]),(Ref.up q1,[A.d (.lit (.int .i64 0)),A.d (.lit (.int .u64 0)),A.d (.lit (.int .u64 0)),A.d (.lit (.int .u64 0)),A.d (.lit (.int .u64 0)),A.zs []]),(Ref.up q2,[A.d (.lit (.int .i64 0)),A.d (.lit (.int .i64 0))]),(Ref.up q3,[A.d (.lit (Zco s)),A.d (.lit (.int .i64 j))])]:=fun i j hp=>
    ⟨_,fun H=>H=_,w36z _ rfl _ _ _ _ _ (D.lit .nilIface) _ _ s j i q0 q1 q2 q3 h01 h02 h12 h03 h13 h23 rfl,rfl,fun H2 hR=>by subst hR;exact⟨_,rfl,by unfold Ye0;rw[hp];rfl⟩⟩
   have faild:∀(i j:Int)(a b c d e f:D),parseV s=(mk0 0 [],8,i)->midR Tryz.prog 126 3 [(1,6),(2,2)] (Ye0 s) [q0,q1,q2,q3] (.pan (Ybs i)) [(Ref.up q0,[A.ptr (Ref.up q3) 0]),(Ref.up q1,[A.d a,A.d b,A.d c,A.d d,A.d e,A.d f]),(Ref.up q2,[A.d (.lit (.int .i64 0)),A.d (.lit (.int .i64 0))]),(Ref.up q3,[A.d (.lit (Zco s)),A.d (.lit (.int .i64 j))])]:=fun i j a b c d e f hp=>
    ⟨_,fun H=>H=_,w36f _ rfl _ _ _ _ _ _ _ _ s j i q0 q1 q2 q3 h01 h02 h12 h03 h13 h23 rfl,rfl,fun H2 hR=>by subst hR;exact⟨_,rfl,by unfold Ye0;rw[hp];rfl⟩⟩
   have fine:∀(j:Int)(a b c d e f g h:D),pairA (parseV s)=.tup [(true,[a,b,c,d,e,f]),(true,[g,h])]->midR Tryz.prog 126 3 [(1,6),(2,2)] (Ye0 s) [q0,q1,q2,q3] (.ret (.tup [])) [(Ref.up q0,[A.ptr (Ref.up q3) 0]),(Ref.up q1,[A.d a,A.d b,A.d c,A.d d,A.d e,A.d f]),(Ref.up q2,[A.d g,A.d h]),(Ref.up q3,[A.d (.lit (Zco s)),A.d (.lit (.int .i64 j))])]:=fun j a b c d e f g h hp=>
    ⟨_,fun H=>H=_,w36n _ rfl _ _ _ _ _ _ _ _ s j 0 q0 q1 q2 q3 h01 h02 h12 h03 h13 h23 rfl,rfl,fun H2 hR=>by subst hR;exact⟨_,rfl,by unfold Ye0;rw[hp];rfl⟩⟩
   refine w19q s 0 0 0 0 0 0 0 s 0 q0 q1 q2 q3 h01 h02 h12 h03 h13 h23 ?_;refine Ycj (k37 _ (Ref.up q3) s s 0 res hr h0) (fun v t i e hi=>?_) (fun t i j e hi=>?_)
   ·obtain⟨r,f1,rfl⟩:=Ybl e;subst f1;refine⟨_,_,_,rfl,rfl,teq6 r,fun hf=>?_,fun hf=>?_⟩
    ·have ht:t≠[]:=hi.more (of_tlt hf);exact Yci c38 ⟨_,_,rfl,faild i i _ _ _ _ _ _ (Ygl hs hr hi ht)⟩
    ·have ht:t=[]:=hi.end_ (of_flt hf);subst ht;have hp:=Yir hs hr;have hb:lens (2^40) r:=Yeo (by omega) _ r (Nat.le_refl _) (Yhl hr);refine call1 (c15 r hb) ⟨_,rfl,rfl,fun h9=>?_,fun h9=>?_⟩
     ·rw[if_pos (of_teq h9)]at hp;exact fine i _ _ _ _ _ _ _ _ (by rw[hp];rfl)
     ·rw[if_neg (of_feq h9)]at hp;exact fine i _ _ _ _ _ _ _ _ (by rw[hp];show A.tup [(true,enc r),_]=_;rw[Yjq r];rfl)
   ·have f1:=Ybk e;subst f1;exact⟨_,_,rfl,failz i j (Yhm hs hr hi)⟩
 exact key.mono fun o H' h=>⟨h.2,h.1⟩
end Go.Rx
end
section
open Go Go.Proofs Go.Ab Go.Rf
set_option linter.unusedSimpArgs false
set_option linter.unusedVariables false
set_option maxRecDepth 100000
namespace Go.Sy
theorem Yb5{a b:Bool}(h:a=b):Ret (Yaf b) (.ret (Yaf a)) []:=by subst h;exact⟨rfl,rfl⟩
def letV(x:Int):Bool:=(decide (97<=x)&&decide (x<=122))||(decide (65<=x)&&decide (x<=90))
def chV(x:Int):Bool:=letV x||(x==95||(decide (48<=x)&&decide (x<=57)))
def Ye1(t:Tx):Bool:=(!t.isEmpty&&letV (Zwc t 0))&&(List.range t.length).all fun i=>chV (Zwc t (i:Nat))
def cutV(s:Tx):Tx:=if decide (0<s.length)&&(Zwc s 0==35||Zwc s 0==95)then gSub s 1 s.length else s
def KW:List Tx:=[[110,117,108,108],[116,114,117,101],[102,97,108,115,101],[98,111,111,108],[105,110,116],[110,117,109,98,101,114],[115,116,114,105,110,103],[108,101,116],[105,102],[102,111,114],[105,110],[112,97,99,107,97,103,101],[105,109,112,111,114,116]]
def idV(s:Tx):Bool:=(decide (s.length<=32)&&!decide (s∈KW))&&Ye1 (cutV s)
theorem c93(x:Int):Holds Tryz.prog 93 [.d (.lit (.int .u8 x))] [] (Ret (Yaf (letV x))):=w93 x (by simp only[Zwb];exact⟨rfl,rfl⟩)
theorem Yks{x:Int}(h:((((!letV x)&&(!(tB (x==95))))&&((tB (decide (x<48)))||(tB (decide (57<x))))))=true):chV x=false:=by
 unfold chV;revert h;cases letV x
 ·simp only[Zwb];intro h;simp at h⊢;omega
 ·simp
theorem Yi6{x:Int}(h:((((!letV x)&&(!(tB (x==95))))&&((tB (decide (x<48)))||(tB (decide (57<x))))))=false):chV x=true:=by
 unfold chV;revert h;cases letV x
 ·simp only[Zwb];intro h;simp at h⊢;by_cases hx:x=95
  ·exact .inl hx
  ·have:=h hx;exact .inr (by omega)
 ·simp
theorem Yhn{t:Tx}{i:Nat}(hi:i<t.length)(h:chV (Zwc t (i:Nat))=false):Ye1 t=false:=by
 unfold Ye1;rw[Bool.and_eq_false_iff];right;rw[List.all_eq_false];exact⟨i,List.mem_range.2 hi,by rw[h];simp⟩
theorem Yf8{t:Tx}(hne:t≠[])(h:letV (Zwc t 0)=true)(ha:∀i<t.length,chV (Zwc t (i:Nat))=true):Ye1 t=true:=by
 unfold Ye1;rw[h,List.all_eq_true.2 fun i hi=>ha i (List.mem_range.1 hi)];cases t with
 |nil=>exact absurd rfl hne
 |cons=>rfl
theorem c48(s:Tx):Holds Tryz.prog 48 [strA s] [] (Ret (Yaf (idV s))):=by
 refine w48 s ⟨fun h=>?_,fun h=>?_⟩
 ·have hl:s.length<=32:=by have:=nb1 h;simp at this;omega
  refine call1 (c71 s KW (by decide)) ⟨_,rfl,rfl,fun hk=>?_,fun hk=>?_⟩
  ·exact Yb5 (by unfold idV;rw[hk];simp)
  ·have hi:idV s=Ye1 (cutV s):=by unfold idV;rw[hk,decide_eq_true hl];rfl
   refine⟨by by_cases h0:0<s.length<;>simp[h0],by by_cases h0:0<s.length<;>simp[h0],fun h1=>?_,fun h1=>?_⟩
   ·have hc:cutV s=gSub s 1 s.length:=by unfold cutV;rw[if_pos (by simpa using h1)]
    have h0:0<s.length:=by simp at h1;omega
    rw[hc]at hi;have hg:(gSub s 1 (s.length:Int)).length<=32:=by simp[gSub];omega
    have hid:=hi;refine⟨tle (by omega),tle (by omega),by by_cases h2:(gSub s 1 (s.length:Int)).length=0<;>simp[h2]<;>omega,fun h2=>?_,fun h2=>?_⟩
    ·have hne:gSub s 1 (s.length:Int)≠[]:=fun e=>by rw[e]at h2;simp at h2
     refine call1 (c93 _) ⟨_,rfl,rfl,fun h3=>?_,fun h3=>?_⟩
     ·exact Yb5 (by rw[hid];unfold Ye1;rw[nb1 h3];simp)
     ·have h3:=nb0 h3;refine⟨fun x=>∃i:Nat,x=i/\i<=(gSub s 1 (s.length:Int)).length/\ ∀j<i,chV (Zwc (gSub s 1 (s.length:Int)) (j:Nat))=true,fun x=>(gSub s 1 (s.length:Int)).length-x.toNat,⟨0,rfl,Nat.zero_le _,fun j hj=>absurd hj (Nat.not_lt_zero j)⟩,?_,trivial⟩;rintro x ⟨i,rfl,hi,hr⟩;refine⟨fun hc=>?_,fun hc=>?_⟩
      ·have k1:i<(gSub s 1 (s.length:Int)).length:=by have:=of_tlt hc;omega
       refine⟨tle (by omega),call1 (c93 _) ⟨_,rfl,rfl,fun h4=>?_,fun h4=>⟨tle (by omega),tle (by omega),⟨i+1,rfl,k1,fun j hj=>?_⟩,dec k1⟩⟩⟩
       ·refine Yb5 ?_;rw[hid];exact(Yhn k1 (Yks h4)).symm
       ·rcases Nat.lt_succ_iff_lt_or_eq.1 hj with h5|rfl
        ·exact hr j h5
        ·exact Yi6 h4
      ·have k1:(gSub s 1 (s.length:Int)).length<=i:=by have:=of_flt hc;omega
       refine Yb5 ?_;rw[hid];exact(Yf8 hne h3 fun j hj=>hr j (by omega)).symm
    ·refine Yb5 ?_;rw[hid];have:gSub s 1 (s.length:Int)=[]:=List.length_eq_zero_iff.1 (by simpa using h2);rw[this];rfl
   ·have hc:cutV s=s:=by unfold cutV;rw[if_neg (by intro e;rw[show((tB (decide ((0:Int)<(s.length:Int))))&&((tB ((Zwc s 0)==35))||(tB ((Zwc s 0)==95))))=true by simpa using e]at h1;cases h1)]
    rw[hc]at hi;have hid:=hi;refine⟨by by_cases h2:s.length=0<;>simp[h2]<;>omega,fun h2=>?_,fun h2=>?_⟩
    ·have hne:s≠[]:=fun e=>by rw[e]at h2;simp at h2
     refine call1 (c93 _) ⟨_,rfl,rfl,fun h3=>?_,fun h3=>?_⟩
     ·exact Yb5 (by rw[hid];unfold Ye1;rw[nb1 h3];simp)
     ·have h3:=nb0 h3;refine⟨fun x=>∃i:Nat,x=i/\i<=(s).length/\ ∀j<i,chV (Zwc (s) (j:Nat))=true,fun x=>(s).length-x.toNat,⟨0,rfl,Nat.zero_le _,fun j hj=>absurd hj (Nat.not_lt_zero j)⟩,?_,trivial⟩;rintro x ⟨i,rfl,hi,hr⟩;refine⟨fun hc=>?_,fun hc=>?_⟩
      ·have k1:i<(s).length:=by have:=of_tlt hc;omega
       refine⟨tle (by omega),call1 (c93 _) ⟨_,rfl,rfl,fun h4=>?_,fun h4=>⟨tle (by omega),tle (by omega),⟨i+1,rfl,k1,fun j hj=>?_⟩,dec k1⟩⟩⟩
       ·refine Yb5 ?_;rw[hid];exact(Yhn k1 (Yks h4)).symm
       ·rcases Nat.lt_succ_iff_lt_or_eq.1 hj with h5|rfl
        ·exact hr j h5
        ·exact Yi6 h4
      ·have k1:(s).length<=i:=by have:=of_flt hc;omega
       refine Yb5 ?_;rw[hid];exact(Yf8 hne h3 fun j hj=>hr j (by omega)).symm
    ·refine Yb5 ?_;rw[hid];have:s=[]:=List.length_eq_zero_iff.1 (by simpa using h2);rw[this];rfl
 ·exact Yb5 (by have:=nb0 h;simp at this;unfold idV;rw[decide_eq_false (by omega:¬s.length<=32)];rfl)
def tyW:List Tx:=[[110,117,108,108],[98,111,111,108],[105,110,116],[110,117,109,98,101,114],[115,116,114,105,110,103]]
theorem Yjr:Holds Tryz.prog 145 [strA [110,117,108,108,32,98,111,111,108,32,105,110,116,32,110,117,109,98,101,114,32,115,116,114,105,110,103],strA [32]] [] (Ret (slA (txs tyW))):=(Yat (m:=(145,[.d (Go.Sy.s [110,117,108,108,32,98,111,111,108,32,105,110,116,32,110,117,109,98,101,114,32,115,116,114,105,110,103]),.d (Go.Sy.s [32])],.d (Go.Sy.l (txs tyW)))) (by kernel_rfl)).2 (fun _=>.own 0 0) (by simp)
def bdW:List Tx:=[[60],[60,61],[62],[62,61],[33,61],[61,126],[33,126]]
theorem Yjs:Holds Tryz.prog 145 [strA [60,32,60,61,32,62,32,62,61,32,33,61,32,61,126,32,33,126],strA [32]] [] (Ret (slA (txs bdW))):=(Yat (m:=(145,[.d (Go.Sy.s [60,32,60,61,32,62,32,62,61,32,33,61,32,61,126,32,33,126]),.d (Go.Sy.s [32])],.d (Go.Sy.l (txs bdW)))) (by kernel_rfl)).2 (fun _=>.own 0 0) (by simp)
def unW:List Tx:=[[45],[33]]
theorem Yjt:Holds Tryz.prog 145 [strA [45,32,33],strA [32]] [] (Ret (slA (txs unW))):=(Yat (m:=(145,[.d (Go.Sy.s [45,32,33]),.d (Go.Sy.s [32])],.d (Go.Sy.l (txs unW)))) (by kernel_rfl)).2 (fun _=>.own 0 0) (by simp)
def biW:List Tx:=[[43],[45],[42],[47],[37],[61,61],[33,61],[60],[60,61],[62],[62,61],[38,38],[124,124]]
theorem Yju:Holds Tryz.prog 145 [strA [43,32,45,32,42,32,47,32,37,32,61,61,32,33,61,32,60,32,60,61,32,62,32,62,61,32,38,38,32,124,124],strA [32]] [] (Ret (slA (txs biW))):=(Yat (m:=(145,[.d (Go.Sy.s [43,32,45,32,42,32,47,32,37,32,61,61,32,33,61,32,60,32,60,61,32,62,32,62,61,32,38,38,32,124,124]),.d (Go.Sy.s [32])],.d (Go.Sy.l (txs biW)))) (by kernel_rfl)).2 (fun _=>.own 0 0) (by simp)
theorem c132(s all:Tx)(set:List Tx)(hc:Holds Tryz.prog 145 [strA all,strA [32]] [] (Ret (slA (txs set))))(hn:[]∉set)(hl:set.length<=2^50):Holds Tryz.prog 132 [strA s,strA all] [] (Ret (Yaf (decide (s∈set)))):=by
 refine w132 s all ⟨fun h=>call1 hc ⟨_,rfl,rfl,call1 (c71 s set hl) ⟨_,rfl,rfl,rfl,rfl⟩⟩,fun h=>?_⟩;have:s=[]:=Ybc (nb0 h);subst this;exact Yb5 (by simp[hn])
def lnV(s:Tx):Bool:=decide ((10:UInt8)∈s)
def lnsV(l:List Tx):Bool:=l.all fun s=>!lnV s
theorem Yl3(s:Tx):Holds Tryz.prog 125 [strA s,strA [10]] [] (fun o H=>∃n:Int,o=.ret (intA n)/\H=[]/\(0<=n↔(10:UInt8)∈s)):=by
 refine Yk7 s ⟨fun h=>?_,fun h=>?_⟩
 ·have:s=[10]:=(Ybc h).symm;exact⟨0,rfl,rfl,by rw[this];simp⟩
 ·refine call1 (v:=intA (Go.Rx.idxV s 10)) (Go.Rx.c94 s 10) ⟨_,rfl,rfl,_,rfl,rfl,?_⟩;rw[Go.Rx.idxV_nonneg s 10 (by decide),List.any_eq_true]
  exact⟨fun⟨b,hb,he⟩=>by
   have he:b.toNat=10:=by simpa using he
   have:b=10:=UInt8.toNat_inj.1 he;rw[<-this];exact hb,fun hb=>⟨10,hb,rfl⟩⟩
theorem Yl4(s:Tx):Holds Tryz.prog 111 [strA s,strA [10]] [] (fun o H=>∃n:Int,o=.ret (intA n)/\H=[]/\(0<=n↔(10:UInt8)∈s)):=
 Yk6 s fun _=>⟨_,Yl3 s,fun v H' ⟨n,e1,e2,e3⟩=>⟨n,Out.ret.inj e1,e2,n,rfl,rfl,e3⟩,fun u H' ⟨n,e1,_⟩=>by cases e1⟩
theorem c96(s:Tx):Holds Tryz.prog 96 [strA s,strA [10]] [] (Ret (Yaf (lnV s))):=
 w96 s [10] fun _=>⟨_,Yl4 s,fun v H' ⟨n,e1,e2,e3⟩=>⟨n,Out.ret.inj e1,e2,Yb5 (by unfold lnV;simp[e3])⟩,fun u H' ⟨n,e1,_⟩=>by cases e1⟩
theorem c95(s:Tx):Holds Tryz.prog 95 [strA s] [] (Ret (Yaf (lnV s))):=w95 s (call1 (c96 s) ⟨_,rfl,rfl,rfl,rfl⟩)
theorem c110(l:List Tx)(hl:l.length<=2^50):Holds Tryz.prog 110 [slA (txs l),.fn 95 []] [] (fun o H=>∃n:Int,o=.ret (intA n)/\H=[]/\(0<=n↔∃s∈l,lnV s=true)):=by
 refine w110 (txs l) ⟨fun x=>∃i:Nat,x=i/\i<=l.length/\ ∀j (h:j<l.length),j<i->lnV l[j]=false,fun x=>l.length-x.toNat,⟨0,rfl,Nat.zero_le _,fun j _ h=>absurd h (Nat.not_lt_zero j)⟩,?_,trivial⟩;rintro x ⟨i,rfl,hi,hr⟩;refine⟨fun hc=>?_,fun hc=>?_⟩
 ·have k1:i<l.length:=by have:=of_tlt hc;simp at this;omega
  have g:=getT k1;rw[g.2];refine⟨tle (by omega),teq (by rw[gT1 k1];rfl),g.1,call1 (c95 _) ⟨_,rfl,rfl,fun h=>⟨i,rfl,rfl,by simp;exact⟨_,List.getElem_mem k1,h⟩⟩,fun h=>⟨tle (by omega),tle (by omega),⟨i+1,rfl,k1,fun j hj h1=>?_⟩,dec k1⟩⟩⟩;rcases Nat.lt_succ_iff_lt_or_eq.1 h1 with h5|rfl
  ·exact hr j hj h5
  ·exact h
 ·have k1:l.length<=i:=by have:=of_flt hc;simp at this;omega
  refine⟨-1,rfl,rfl,⟨fun h=>by omega,fun⟨s,hs,h⟩=>?_⟩⟩;obtain⟨j,hj,rfl⟩:=List.getElem_of_mem hs;rw[hr j hj (by omega)]at h;cases h
theorem c94(l:List Tx)(hl:l.length<=2^50):Holds Tryz.prog 94 [slA (txs l),.fn 95 []] [] (Ret (Yaf (!lnsV l))):=
 w94 (txs l) fun _=>⟨_,c110 l hl,fun v H' ⟨n,e1,e2,e3⟩=>⟨n,Out.ret.inj e1,e2,Yb5 (by
  unfold lnsV;rw[Bool.eq_iff_iff];simp[e3])⟩,fun u H' ⟨n,e1,_⟩=>by cases e1⟩
theorem c49(l:List Tx)(hl:l.length<=2^50):Holds Tryz.prog 49 [slA (txs l)] [] (Ret (Yaf (lnsV l))):=w49 (txs l) (call1 (c94 l hl) ⟨_,rfl,rfl,Yb5 (by simp)⟩)
def bls(l:List Bool):List (List D):=l.map fun b=>[.lit (.bool b)]
abbrev BC(q:Ref)(w d:Bool):List (Ref×List A):=[(.up q,[Yaf w,Yaf d])]
theorem gB{l:List Bool}{i:Nat}(h:i<l.length):gAt (bls l) (i:Int)=[.lit (.bool l[i])]:=by simp[gAt,bls,List.getD,h]
theorem c109(l:List Bool)(hl:l.length<=2^50):Holds Tryz.prog 109 [slA (bls l),Yaf false] [] (fun o H=>∃n:Int,o=.ret (intA n)/\H=[]/\(0<=n↔false∈l)):=by
 have hbl:(bls l).length=l.length:=by simp[bls]
 refine w109 (bls l) false ⟨fun x=>∃i:Nat,x=i/\i<=l.length/\ ∀j (h:j<l.length),j<i->l[j]=true,fun x=>l.length-x.toNat,⟨0,rfl,Nat.zero_le _,fun j _ h=>absurd h (Nat.not_lt_zero j)⟩,?_,trivial⟩;rintro x ⟨i,rfl,hi,hr⟩;rw[hbl];refine⟨fun hc=>?_,fun hc=>?_⟩
 ·have k1:i<l.length:=by have:=of_tlt hc;omega
  rw[gB k1]
  refine⟨tle (by omega),teq rfl,rfl,fun h=>⟨i,rfl,rfl,by simp;have h:false=l[i]:=by simpa using h
                                                         rw[h];exact List.getElem_mem k1⟩,fun h=>⟨tle (by omega),tle (by omega),⟨i+1,rfl,k1,fun j hj h1=>?_⟩,dec k1⟩⟩
  rcases Nat.lt_succ_iff_lt_or_eq.1 h1 with h5|rfl
  ·exact hr j hj h5
  ·cases hb:l[j]with
   |true=>rfl
   |false=>simp[hb]at h
 ·have k1:l.length<=i:=by have:=of_flt hc;omega
  refine⟨-1,rfl,rfl,⟨fun h=>by omega,fun hs=>?_⟩⟩;obtain⟨j,hj,e⟩:=List.getElem_of_mem hs;rw[hr j hj (by omega)]at e;cases e
theorem c92(l:List Bool)(hl:l.length<=2^50):Holds Tryz.prog 92 [slA (bls l),Yaf false] [] (Ret (Yaf (!l.all id))):=
 w92 (bls l) false fun _=>⟨_,c109 l hl,fun v H' ⟨n,e1,e2,e3⟩=>⟨n,Out.ret.inj e1,e2,Yb5 (by
  rw[Bool.eq_iff_iff];simp[e3])⟩,fun u H' ⟨n,e1,_⟩=>by cases e1⟩
theorem c47(q:Ref)(w d:Bool)(l:List Bool)(hl:l.length<=2^50):Holds Tryz.prog 47 [.ptr (.up q) 0,slA (bls l)] (BC q w d) (RB (BC q (w||!l.all id) d)):=by
 refine w47 w d (bls l) q ⟨fun h=>call1 (c92 l hl) ⟨_,rfl,rfl,?_⟩,fun h=>?_⟩
 ·have:w=false:=nb1 h;subst this;exact⟨rfl,rfl⟩
 ·have:w=true:=nb0 h;subst this;exact⟨rfl,rfl⟩
theorem Yan{f:FuncId}{args:List A}{K0:List (Ref×List A)}{r:Ref}{w d:Bool}(hc:Holds Tryz.prog f args K0 (RB [(r,[Yaf w,Yaf d])])){K:Bool->Bool->Prop}{QP:Value->List (Ref×List A)->Prop}(h:K w d):
 ∀_:Nat->Nat,∃R':Out->List (Ref×List A)->Prop,Holds Tryz.prog f args K0 R'/\(∀v H',R' (.ret v) H'-> ∃x y,v=.tup []/\H'=[(r,[Yaf x,Yaf y])]/\K x y)/\(∀u H',R' (.pan u) H'->QP u H'):=
 fun _=>⟨_,hc,fun v H' e=>by obtain⟨e1,e2⟩:=e;cases e1;exact⟨w,d,rfl,e2,h⟩,fun u H' e=>by cases e.1⟩
def difV(a b:Tx):Bool:=idV a&&(idV b&&!(a==b))
def nonV(a b:Tx):Bool:=a.isEmpty&&b.isEmpty
theorem c113(a b:Tx):Holds Tryz.prog 113 [.agg [dS a,dS b]] [] (Ret (Yaf (difV a b))):=by
 refine w113 _ ?_;simp only[List.getD_cons_zero,List.getD_cons_succ,Yal,Yae,Bool.or_true,true_and];refine⟨teq rfl,call1 (c48 a) ⟨idV a,rfl,rfl,fun h=>call1 (c48 b) ⟨idV b,rfl,rfl,Yb5 ?_⟩,fun h=>Yb5 ?_⟩⟩
 ·unfold difV;rw[h];simp
 ·unfold difV;rw[h];rfl
theorem c114(a b:Tx):Holds Tryz.prog 114 [.agg [dS a,dS b]] [] (Ret (Yaf (nonV a b))):=by
 refine w114 _ ?_;simp only[List.getD_cons_zero,List.getD_cons_succ,Yal,Yae,true_and];exact⟨teq rfl,Yb5 (by unfold nonV;simp)⟩
def fixV(n:Int):Bool:=decide (-1000000000000000<=n)&&decide (n<=1000000000000000)
theorem c120(n:Int):Holds Tryz.prog 120 [intA n] [] (Ret (Yaf (fixV n))):=w120 n (Yb5 (by unfold fixV;simp))
theorem c51(q:Ref)(w d:Bool):Holds Tryz.prog 51 [.ptr (.up q) 0] (BC q w d) (RetB (intA (if w then 11 else if d then 9 else 0)) (BC q w d)):=
 w51 w d q ⟨fun h=>by subst h;exact⟨rfl,rfl⟩,fun h=>by subst h;exact⟨fun h=>by subst h;exact⟨rfl,rfl⟩,fun h=>by subst h;exact⟨rfl,rfl⟩⟩⟩
end Go.Sy
end
section
open Go Go.Proofs Go.Ab Go.Rf
set_option linter.unusedSimpArgs false
set_option linter.unusedVariables false
set_option maxRecDepth 100000
namespace Go.Sy
theorem Ya7{q:Ref}{a b d:Bool}(h:a=b):RB (BC q b d) (.ret (.tup [])) (BC q a d):=by subst h;exact⟨rfl,rfl⟩
theorem Yb9{w a b:Bool}(h:a=b):(w||!a)=(w||!b):=by rw[h]
def Ybb(k num n:Int):Bool:=
 if k=10\/k=21 then true else if k=5 then decide (1<=n)else if k=9\/k=11\/k=18\/k=19 then n==1 else if k=12\/k=16\/k=20 then n==2
 else if k=15 then(n==2||n==3)else if k=17 then decide (2<=n)else if k=14 then decide (gAnd .i64 num 1<=n)else n==0
theorem c117(r:Nd)(q:Ref)(w d:Bool):Holds Tryz.prog 117 [.ptr (.up q) 0,.agg (encE r)] (BC q w d) (RB (BC q (w||!Ybb r.kind r.num r.subs.length) d)):=by
 refine w117 w d (encE r) q ?_;simp only[Yam,e0,e1,e2,e3,e4,e5,e6,e7,e8,isK_int,Yae,isK_slc,dint_int,Yal,dlst_slc,true_and,Yah,Yai,Yao];generalize r.kind=k;generalize r.num=num;generalize(r.subs.length:Int)=n;refine⟨teq rfl,?_⟩;refine⟨fun h=>?_,fun h=>?_⟩
 ·obtain rfl:k=10:=of_teq h;exact Ya7 (by simp[Ybb])
 ·have h0:=of_feq h;refine⟨fun h=>?_,fun h=>?_⟩
  ·obtain rfl:k=21:=of_teq h;exact Ya7 (by simp[Ybb])
  ·have h1:=of_feq h;refine⟨fun h=>?_,fun h=>?_⟩
   ·obtain rfl:k=5:=of_teq h;exact Yan (c47 _ _ _ [_] (by simp)) (Ya7 (Yb9 (by simp[Ybb])))
   ·have h2:=of_feq h;refine⟨fun h=>?_,fun h=>?_⟩
    ·obtain rfl:k=9:=of_teq h;exact Yan (c47 _ _ _ [_] (by simp)) (Ya7 (Yb9 (by simp[Ybb])))
    ·have h3:=of_feq h;refine⟨fun h=>?_,fun h=>?_⟩
     ·obtain rfl:k=11:=of_teq h;exact Yan (c47 _ _ _ [_] (by simp)) (Ya7 (Yb9 (by simp[Ybb])))
     ·have h4:=of_feq h;refine⟨fun h=>?_,fun h=>?_⟩
      ·obtain rfl:k=18:=of_teq h;exact Yan (c47 _ _ _ [_] (by simp)) (Ya7 (Yb9 (by simp[Ybb])))
      ·have h5:=of_feq h;refine⟨fun h=>?_,fun h=>?_⟩
       ·obtain rfl:k=19:=of_teq h;exact Yan (c47 _ _ _ [_] (by simp)) (Ya7 (Yb9 (by simp[Ybb])))
       ·have h6:=of_feq h;refine⟨fun h=>?_,fun h=>?_⟩
        ·obtain rfl:k=12:=of_teq h;exact Yan (c47 _ _ _ [_] (by simp)) (Ya7 (Yb9 (by simp[Ybb])))
        ·have h7:=of_feq h;refine⟨fun h=>?_,fun h=>?_⟩
         ·obtain rfl:k=16:=of_teq h;exact Yan (c47 _ _ _ [_] (by simp)) (Ya7 (Yb9 (by simp[Ybb])))
         ·have h8:=of_feq h;refine⟨fun h=>?_,fun h=>?_⟩
          ·obtain rfl:k=20:=of_teq h;exact Yan (c47 _ _ _ [_] (by simp)) (Ya7 (Yb9 (by simp[Ybb])))
          ·have h9:=of_feq h;refine⟨fun h=>?_,fun h=>?_⟩
           ·obtain rfl:k=15:=of_teq h;exact Yan (c47 _ _ _ [_] (by simp)) (Ya7 (Yb9 (by simp[Ybb])))
           ·have h10:=of_feq h;refine⟨fun h=>?_,fun h=>?_⟩
            ·obtain rfl:k=17:=of_teq h;exact Yan (c47 _ _ _ [_] (by simp)) (Ya7 (Yb9 (by simp[Ybb])))
            ·have h11:=of_feq h;refine⟨fun h=>?_,fun h=>?_⟩
             ·obtain rfl:k=14:=of_teq h;exact Yan (c47 _ _ _ [_] (by simp)) (Ya7 (Yb9 (by simp[Ybb])))
             ·have h12:=of_feq h;exact Yan (c47 _ _ _ [_] (by simp)) (Ya7 (Yb9 (by simp[Ybb,h0,h1,h2,h3,h4,h5,h6,h7,h8,h9,h10,h11,h12])))
def Yb0(k:Int)(t:Tx):Bool:=
 if k=10\/k=4\/k=11 then true else if k=8 then decide (t∈tyW)else if k=9 then decide (t∈bdW)else if k=19 then decide (t∈unW)else if k=20 then decide (t∈biW)
 else if k=21 then idV t else t.isEmpty
theorem c118(r:Nd)(q:Ref)(w d:Bool):Holds Tryz.prog 118 [.ptr (.up q) 0,.agg (encE r)] (BC q w d) (RB (BC q (w||!Yb0 r.kind r.text) d)):=by
 refine w118 w d (encE r) q ?_;simp only[Yam,e0,e1,e2,e3,e4,e5,e6,e7,e8,isK_int,Yae,isK_slc,dint_int,Yal,dlst_slc,true_and,Yah,Yai,Yao];generalize r.kind=k;generalize r.text=t;refine⟨teq rfl,?_⟩;refine⟨fun h=>?_,fun h=>?_⟩
 ·obtain rfl:k=10:=of_teq h;exact Ya7 (by simp[Yb0])
 ·have h0:=of_feq h;refine⟨fun h=>?_,fun h=>?_⟩
  ·obtain rfl:k=4:=of_teq h;exact Ya7 (by simp[Yb0])
  ·have h1:=of_feq h;refine⟨fun h=>?_,fun h=>?_⟩
   ·obtain rfl:k=11:=of_teq h;exact Ya7 (by simp[Yb0])
   ·have h2:=of_feq h;refine⟨fun h=>?_,fun h=>?_⟩
    ·obtain rfl:k=8:=of_teq h;exact call1 (c132 t _ tyW Yjr (by decide) (by decide)) ⟨_,rfl,rfl,Yan (c47 _ _ _ [_] (by simp)) (Ya7 (Yb9 (by simp[Yb0])))⟩
    ·have h3:=of_feq h;refine⟨fun h=>?_,fun h=>?_⟩
     ·obtain rfl:k=9:=of_teq h;exact call1 (c132 t _ bdW Yjs (by decide) (by decide)) ⟨_,rfl,rfl,Yan (c47 _ _ _ [_] (by simp)) (Ya7 (Yb9 (by simp[Yb0])))⟩
     ·have h4:=of_feq h;refine⟨fun h=>?_,fun h=>?_⟩
      ·obtain rfl:k=19:=of_teq h;exact call1 (c132 t _ unW Yjt (by decide) (by decide)) ⟨_,rfl,rfl,Yan (c47 _ _ _ [_] (by simp)) (Ya7 (Yb9 (by simp[Yb0])))⟩
      ·have h5:=of_feq h;refine⟨fun h=>?_,fun h=>?_⟩
       ·obtain rfl:k=20:=of_teq h;exact call1 (c132 t _ biW Yju (by decide) (by decide)) ⟨_,rfl,rfl,Yan (c47 _ _ _ [_] (by simp)) (Ya7 (Yb9 (by simp[Yb0])))⟩
       ·have h6:=of_feq h;refine⟨fun h=>?_,fun h=>?_⟩
        ·obtain rfl:k=21:=of_teq h;exact call1 (c48 t) ⟨_,rfl,rfl,Yan (c47 _ _ _ [_] (by simp)) (Ya7 (Yb9 (by simp[Yb0])))⟩
        ·have h7:=of_feq h;exact Yan (c47 _ _ _ [_] (by simp)) (Ya7 (Yb9 (by simp[Yb0,h0,h1,h2,h3,h4,h5,h6,h7])))
def refW:List Tx:=[[102,105,101,108,100],[108,111,111,112],[112,97,99,107,97,103,101],[117,110,107,110,111,119,110]]
def Yeg(t a b:Tx)(num n:Int):Bool:=
 idV t&&(if a=[]then nonV a b&&(num==0&&n==0)else if a=LET then n==1&&(b.isEmpty&&decide (0<=num))else if a∈refW then n==0&&(b.isEmpty&&decide (0<=num))else false)
theorem Ydl{w a b c:Bool}(h:c=(a&&b)):(w||!a||!b)=(w||!c):=by rw[h,Bool.not_and,Bool.or_assoc]
theorem c119(r:Nd)(q:Ref)(w d:Bool):Holds Tryz.prog 119 [.ptr (.up q) 0,.agg (encE r)] (BC q w d) (RB (BC q (w||!Yeg r.text r.n0 r.n1 r.num r.subs.length) d)):=by
 refine w119 w d (encE r) q ?_;simp only[Yam,e0,e1,e2,e3,e4,e5,e6,e7,e8,isK_int,Yae,isK_slc,dint_int,Yal,dlst_slc,true_and,Yah,Yai,Yao];generalize r.text=t;generalize r.n0=a;generalize r.n1=b;generalize r.num=num;generalize(r.subs.length:Int)=n;refine⟨teq rfl,call1 (c48 t) ⟨_,rfl,rfl,Yan (c47 _ _ _ [_] (by simp)) ?_⟩⟩;refine⟨fun h=>?_,fun h=>?_⟩
 ·obtain rfl:a=[]:=Ybc h;exact⟨_,fun _=>c114 _ _,Yan (c47 _ _ _ [_,_,_] (by simp)) (Ya7 (by simp only[List.all_cons,List.all_nil,Bool.and_true,id];exact Ydl (by simp[Yeg])))⟩
 ·have h0:=Ybo h;refine⟨fun h=>?_,fun h=>?_⟩
  ·obtain rfl:a=[108,101,116]:=Ybc h;exact Yan (c47 _ _ _ [_,_,_] (by simp)) (Ya7 (by simp only[List.all_cons,List.all_nil,Bool.and_true,id];exact Ydl (by simp[Yeg,LET,refW])))
  ·have h1:=Ybo h;refine⟨fun h=>?_,fun h=>?_⟩
   ·obtain rfl:a=[102,105,101,108,100]:=Ybc h;exact Yan (c47 _ _ _ [_,_,_] (by simp)) (Ya7 (by simp only[List.all_cons,List.all_nil,Bool.and_true,id];exact Ydl (by simp[Yeg,LET,refW])))
   ·have h2:=Ybo h;refine⟨fun h=>?_,fun h=>?_⟩
    ·obtain rfl:a=[108,111,111,112]:=Ybc h;exact Yan (c47 _ _ _ [_,_,_] (by simp)) (Ya7 (by simp only[List.all_cons,List.all_nil,Bool.and_true,id];exact Ydl (by simp[Yeg,LET,refW])))
    ·have h3:=Ybo h;refine⟨fun h=>?_,fun h=>?_⟩
     ·obtain rfl:a=[112,97,99,107,97,103,101]:=Ybc h;exact Yan (c47 _ _ _ [_,_,_] (by simp)) (Ya7 (by simp only[List.all_cons,List.all_nil,Bool.and_true,id];exact Ydl (by simp[Yeg,LET,refW])))
     ·have h4:=Ybo h;refine⟨fun h=>?_,fun h=>?_⟩
      ·obtain rfl:a=[117,110,107,110,111,119,110]:=Ybc h;exact Yan (c47 _ _ _ [_,_,_] (by simp)) (Ya7 (by simp only[List.all_cons,List.all_nil,Bool.and_true,id];exact Ydl (by simp[Yeg,LET,refW])))
      ·have h5:=Ybo h;exact Yan (c47 _ _ _ [_] (by simp)) (Ya7 (by simp only[List.all_cons,List.all_nil,Bool.and_true,id];exact Ydl (by simp[Yeg,LET,refW,h0,h1,h2,h3,h4,h5])))
end Go.Sy
end
section
open Go Go.Proofs Go.Ab Go.Rf
set_option linter.unusedSimpArgs false
set_option linter.unusedVariables false
set_option maxRecDepth 100000
namespace Go.Sy
abbrev posV(cj io il:Bool)(lv:Int):List D:=[.lit (.bool cj),.lit (.bool io),.lit (.bool il),.lit (.int .i64 lv)]
def Yfl(k num:Int):Bool:=if k=2\/k=14 then num==0||num==1 else if k=3 then decide (0<=num)&&fixV num else num==0
def Yjv(k:Int)(cj io il:Bool):Bool:=((io||!(k==18))&&(il||!(k==15)))&&((cj||!(k==13))&&(!cj||!(k==22)))
def Yeh(r:Nd)(cj io il:Bool):Bool:=
 ((((decide (1<=r.kind)&&decide (r.kind<=22))&&Ybb r.kind r.num r.subs.length)&&Yb0 r.kind r.text)&&(((r.kind==13||r.kind==22)||((r.decls.length:Int)+(r.tail.length:Int)==0))&&lnsV r.tail))&&
   (if r.kind=10 then Yeg r.text r.n0 r.n1 r.num r.subs.length else(Yfl r.kind r.num&&(if r.kind=15 then difV r.n0 r.n1 else nonV r.n0 r.n1))&&Yjv r.kind cj io il)
theorem c102(r:Nd)(q:Ref)(w d cj io il:Bool)(lv:Int)(h1:r.decls.length<=2^50)(h2:r.tail.length<=2^50):
 Holds Tryz.prog 102 [.ptr (.up q) 0,.agg (encE r),.agg (posV cj io il lv)] (BC q w d) (RB (BC q (w||!Yeh r cj io il) d)):=by
 have key:∀a b c e f g:Bool,(w||!a||!b||!c||!(e&&f)||!g)=(w||!((((a&&b)&&c)&&(e&&f))&&g)):=by intros a b c e f g;cases w<;>cases a<;>cases b<;>cases c<;>cases e<;>cases f<;>cases g<;>rfl
 refine w102 w d (encE r) (posV cj io il lv) q ?_;simp only[Yam,e0,e1,e2,e3,e4,e5,e6,e7,e8,isK_int,Yae,isK_slc,dint_int,Yal,dlst_slc,true_and,Yah,Yai,Yao,Bool.or_true];refine⟨teq rfl,teq rfl,Yan (c47 _ _ _ [_] (by simp)) (Yan (c117 r _ _ _) (Yan (c118 r _ _ _) ⟨by rw[tle (by omega),Bool.or_true],by rw[tle (by omega),Bool.or_true],_,fun _=>c49 _ h2,Yan (c47 _ _ _ [_,_] (by simp)) ?_⟩))⟩;refine⟨fun _ x y=>y=d/\x=(w||!(decide (1<=r.kind)&&decide (r.kind<=22))||!Ybb r.kind r.num r.subs.length||!Yb0 r.kind r.text||!(((r.kind==13||r.kind==22)||((r.decls.length:Int)+(r.tail.length:Int)==0))&&lnsV r.tail)||!Yfl r.kind r.num)/\r.kind≠10,⟨fun hk=>?_,fun hk=>⟨fun hk2=>?_,fun hk2=>⟨fun hk3=>?_,fun hk3=>⟨fun hk4=>?_,fun hk4=>?_⟩⟩⟩⟩,?_,trivial⟩
 ·have hk:=of_teq hk;refine Yan (c119 r _ _ _) (Ya7 ?_);simp only[List.all_cons,List.all_nil,Bool.and_true,id,Zwb];rw[key,Yeh,if_pos hk]
 ·have hk:=of_feq hk;have hk2:=of_teq hk2;refine Yan (c47 _ _ _ [_] (by simp)) ⟨rfl,?_,hk⟩;simp only[List.all_cons,List.all_nil,Bool.and_true,id,Zwb,Yfl,if_pos (Or.inl hk2)]
 ·have hk:=of_feq hk;have hk2:=of_feq hk2;have hk3:=of_teq hk3;refine Yan (c47 _ _ _ [_] (by simp)) ⟨rfl,?_,hk⟩;simp only[List.all_cons,List.all_nil,Bool.and_true,id,Zwb,Yfl,if_pos (Or.inr hk3)]
 ·have hk:=of_feq hk;have hk2:=of_feq hk2;have hk3:=of_feq hk3;have hk4:=of_teq hk4;refine⟨_,fun _=>c120 _,Yan (c47 _ _ _ [_,_] (by simp)) ⟨rfl,?_,hk⟩⟩;simp only[List.all_cons,List.all_nil,Bool.and_true,id,Zwb,Yfl,if_neg (fun e:r.kind=2\/r.kind=14=>e.elim hk2 hk3),if_pos hk4]
 ·have hk:=of_feq hk;have hk2:=of_feq hk2;have hk3:=of_feq hk3;have hk4:=of_feq hk4;refine Yan (c47 _ _ _ [_] (by simp)) ⟨rfl,?_,hk⟩;simp only[List.all_cons,List.all_nil,Bool.and_true,id,Zwb,Yfl,if_neg (fun e:r.kind=2\/r.kind=14=>e.elim hk2 hk3),if_neg hk4]
 ·rintro _ x y ⟨rfl,hx,hk⟩;refine⟨fun _ z y'=>y'=y/\z=(x||!(if r.kind=15 then difV r.n0 r.n1 else nonV r.n0 r.n1)),⟨fun h=>?_,fun h=>?_⟩,?_,trivial⟩
  ·refine call1 (c113 _ _) ⟨_,rfl,rfl,Yan (c47 _ _ _ [_] (by simp)) ⟨rfl,?_⟩⟩;rw[if_pos (of_teq h)];simp
  ·refine call1 (c114 _ _) ⟨_,rfl,rfl,Yan (c47 _ _ _ [_] (by simp)) ⟨rfl,?_⟩⟩;rw[if_neg (of_feq h)];simp
  ·rintro _ z y' ⟨rfl,hz⟩;refine⟨rfl,rfl,Yan (c47 _ _ _ [_,_] (by simp)) ⟨rfl,Yan (c47 _ _ _ [_,_] (by simp)) (Ya7 ?_)⟩⟩;simp only[List.all_cons,List.all_nil,Bool.and_true,id,Zwb];have e:=key (decide (1<=r.kind)&&decide (r.kind<=22)) (Ybb r.kind r.num r.subs.length) (Yb0 r.kind r.text) ((r.kind==13||r.kind==22)||((r.decls.length:Int)+(r.tail.length:Int)==0)) (lnsV r.tail) ((Yfl r.kind r.num&&(if r.kind=15 then difV r.n0 r.n1 else nonV r.n0 r.n1))&&Yjv r.kind cj io il)
   rw[Yeh,if_neg hk,<-e,hz,hx,Yjv];simp only[Bool.not_and,Bool.or_assoc];rfl
end Go.Sy
end
section
open Go Go.Proofs Go.Ab Go.Rf
set_option linter.unusedSimpArgs false
set_option linter.unusedVariables false
set_option maxRecDepth 100000
namespace Go.Sy
def Yfm(k:Int)(t:Tx)(sc:Bool):Bool:=if k=1 then true else if k=2 then(Go.Rx.parseV t).2.1==0 else if k=4 then sc&&idV t else t.isEmpty&&(sc||!(k==8))
def nSub(k:Int):Int:=if k=7 then 2 else if k=8 then 0 else 1
def Ye2(r:Nd)(sc:Bool):Bool:=
 (((decide (1<=r.kind)&&decide (r.kind<=8))&&(lnsV r.lead&&(lnsV r.tail&&(lnsV [r.trail]&&((r.kind==5||r.kind==6)||((r.decls.length:Int)+(r.tail.length:Int)==0))))))&&
   (if r.kind=1 then decide (1<=r.num)&&decide (r.num<=3)else r.num==0))&&(Yfm r.kind r.text sc&&((if r.kind=6 then difV r.n0 r.n1 else nonV r.n0 r.n1)&&((r.subs.length:Int)==nSub r.kind)))
def ownK(k:Int):Bool:=((k==1||k==2)||k==3)||k==4
mutual
def okE:Nd->Bool->Bool->Bool->Bool
 |.mk k n t a b tr le ta p s d,cj,io,il=>(Yeh (.mk k n t a b tr le ta p s d) cj io il&&okEs s ((k==16&&cj)||k==10) (k==17) (k==14) (k==14&&n==0))&&okDs d (k==13)
def okEs:List Nd->Bool->Bool->Bool->Bool->Bool
 |[],_,_,_,_=>true
 |x::l,cj,io,il,il2=>okE x cj io (if l.isEmpty then il2 else il)&&okEs l cj io il il2
def okD:Nd->Bool->Bool
 |.mk k n t a b tr le ta p s d,sc=>(Ye2 (.mk k n t a b tr le ta p s d) sc&&okFs s (sc&&ownK k))&&okDs d false
def okFs:List Nd->Bool->Bool
 |[],_=>true
 |x::l,cj=>okE x cj false false&&okFs l false
def okDs:List Nd->Bool->Bool
 |[],_=>true
 |x::l,sc=>okD x sc&&okDs l sc
end
mutual
def dpE:Nd->Int->Bool
 |.mk _ _ _ _ _ _ _ _ _ s d,lv=>(decide (16<lv)||dpEs s (lv+1))||dpDs d (lv+1)
def dpEs:List Nd->Int->Bool
 |[],_=>false
 |x::l,lv=>dpE x lv||dpEs l lv
def dpDs:List Nd->Int->Bool
 |[],_=>false
 |x::l,lv=>dpE x lv||dpDs l lv
end
theorem Yho(r:Nd)(cj io il:Bool):okE r cj io il=((Yeh r cj io il&&okEs r.subs ((r.kind==16&&cj)||r.kind==10) (r.kind==17) (r.kind==14) (r.kind==14&&r.num==0))&&okDs r.decls (r.kind==13)):=by cases r;rw[okE];rfl
theorem Yhp(r:Nd)(sc:Bool):okD r sc=((Ye2 r sc&&okFs r.subs (sc&&ownK r.kind))&&okDs r.decls false):=by cases r;rw[okD];rfl
theorem Ye3(r:Nd)(lv:Int):dpE r lv=((decide (16<lv)||dpEs r.subs (lv+1))||dpDs r.decls (lv+1)):=by cases r;rw[dpE];rfl
theorem Yhq{l:List Nd}{i:Nat}(cj io il il2:Bool)(h:i<l.length):okEs (l.drop i) cj io il il2=(okE l[i] cj io (if i+1<l.length then il else il2)&&okEs (l.drop (i+1)) cj io il il2):=by
 rw[List.drop_eq_getElem_cons h,okEs]
 congr 2
 by_cases h1:i+1<l.length
 ·rw[if_pos h1,if_neg (by simp;omega)]
 ·rw[if_neg h1,if_pos (by simp;omega)]
theorem Yhr{l:List Nd}{i:Nat}(sc:Bool)(h:i<l.length):okDs (l.drop i) sc=(okD l[i] sc&&okDs (l.drop (i+1)) sc):=by rw[List.drop_eq_getElem_cons h,okDs]
theorem Yhs{l:List Nd}{i:Nat}(cj:Bool)(h:i<l.length):okFs (l.drop i) (cj&&(i==0))=(okE l[i] (cj&&(i==0)) false false&&okFs (l.drop (i+1)) (cj&&(i+1==0))):=by
 rw[List.drop_eq_getElem_cons h,okFs];simp
theorem Ye4{l:List Nd}{i:Nat}(lv:Int)(h:i<l.length):dpEs (l.drop i) lv=(dpE l[i] lv||dpEs (l.drop (i+1)) lv):=by rw[List.drop_eq_getElem_cons h,dpEs]
theorem Yht{l:List Nd}{i:Nat}(lv:Int)(h:i<l.length):dpDs (l.drop i) lv=(dpE l[i] lv||dpDs (l.drop (i+1)) lv):=by rw[List.drop_eq_getElem_cons h,dpDs]
abbrev H58(r:Nd):Prop:=∀(q:Ref)(w d cj io il:Bool)(lv:Int),0<=lv->lv+size r<=2^50->
 Holds Tryz.prog 58 [.ptr (.up q) 0,.agg (encE r),.agg (posV cj io il lv)] (BC q w d) (RB (BC q (w||!okE r cj io il) (d||dpE r lv)))
abbrev H97(r:Nd):Prop:=∀(q:Ref)(w d sc:Bool)(lv:Int),0<=lv->lv+size r<=2^50->
 Holds Tryz.prog 97 [.ptr (.up q) 0,.agg (encD r),Yaf sc,intA lv] (BC q w d) (RB (BC q (w||!okD r sc) (d||dpE r lv)))
abbrev H50(l:List Nd):Prop:=∀(q:Ref)(w d sc:Bool)(lv:Int),0<=lv->lv+sizes l<=2^50->
 Holds Tryz.prog 50 [.ptr (.up q) 0,slA (Yaj l),Yaf sc,intA lv] (BC q w d) (RB (BC q (w||!okDs l sc) (d||dpDs l lv)))
theorem Yhu{q:Ref}{a b c d:Bool}(h:a=b)(h2:c=d):RB (BC q b d) (.ret (.tup [])) (BC q a c):=by subst h;subst h2;exact⟨rfl,rfl⟩
theorem c50(l:List Nd)(ih:∀x∈l,H97 x):H50 l:=by
 intro q w d sc lv h0 hb;have hll:=Ydg l;refine w50 w d (Yaj l) sc lv q ⟨fun x y z=>∃i:Nat,x=i/\i<=l.length/\(y||!okDs (l.drop i) sc)=(w||!okDs l sc)/\(z||dpDs (l.drop i) lv)=(d||dpDs l lv),fun x _ _=>l.length-x.toNat,⟨0,rfl,Nat.zero_le _,rfl,rfl⟩,?_,trivial⟩;rintro x y z ⟨i,rfl,hi,hy,hz⟩;rw[Yai];refine⟨fun hc=>?_,fun hc=>?_⟩
 ·have k1:i<l.length:=by have:=of_tlt hc;omega
  have hm:=List.getElem_mem k1;have hsz:=Ybx hm;rw[Yck rfl k1];refine⟨tle (by omega),teq (by simp),Yan (ih _ hm _ y z sc lv h0 (by omega)) ⟨tle (by omega),tle (by omega),⟨i+1,rfl,k1,?_,?_⟩,dec k1⟩⟩
  ·rw[<-hy,Yhr sc k1,Bool.not_and,Bool.or_assoc]
  ·rw[<-hz,Yht lv k1,Bool.or_assoc]
 ·have k1:l.length<=i:=by have:=of_flt hc;omega
  rw[List.drop_eq_nil_of_le k1]at hy hz;exact Yhu (by rw[<-hy];simp[okDs]) (by rw[<-hz];simp[dpDs])
theorem c58(r:Nd)(h1:r.decls.length<=2^50)(h2:r.tail.length<=2^50)(ihs:∀x∈r.subs,H58 x)(ihd:H50 r.decls):H58 r:=by
 intro q w d cj io il lv h0 hb;have hz:=size_eq r;have hsl:=Ydg r.subs;have hE:=Yho r cj io il;have hP:=Ye3 r lv;refine w58 w d (encE r) (posV cj io il lv) q ?_;simp only[Yam,e0,e1,e2,e3,e4,e5,e6,e7,e8,isK_int,Yae,isK_slc,dint_int,Yal,dlst_slc,true_and,Yah,Yai,Yao,Bool.or_true];refine⟨teq rfl,teq rfl,fun _ y=>y=(d||decide (16<lv)),⟨rfl,fun h=>?_,fun h=>?_⟩,?_,trivial⟩
 ·have h:16<lv:=of_tlt h;simp[h]
 ·have h:¬16<lv:=by have:lv<=16:=of_flt h;omega
  simp[h]
 ·rintro _ y rfl;refine Yan (c102 r _ _ _ cj io il lv h1 h2) ?_;refine⟨fun x y z=>∃i:Nat,x=i/\i<=r.subs.length/\(y||!okEs (r.subs.drop i) ((r.kind==16&&cj)||r.kind==10) (r.kind==17) (r.kind==14) (r.kind==14&&r.num==0))=(w||!(Yeh r cj io il&&okEs r.subs ((r.kind==16&&cj)||r.kind==10) (r.kind==17) (r.kind==14) (r.kind==14&&r.num==0)))/\(z||dpEs (r.subs.drop i) (lv+1))=(d||(decide (16<lv)||dpEs r.subs (lv+1))),fun x _ _=>r.subs.length-x.toNat,⟨0,rfl,Nat.zero_le _,by rw[Bool.not_and,<-Bool.or_assoc];rfl,by rw[<-Bool.or_assoc];rfl⟩,?_,trivial⟩;rintro x y z ⟨i,rfl,hi,hy,hz2⟩;refine⟨fun hc=>?_,fun hc=>?_⟩
  ·have k1:i<r.subs.length:=by have:=of_tlt hc;omega
   have hm:=List.getElem_mem k1;have hsz:=Ybx hm;rw[Ybg rfl k1];refine⟨tle (by omega),teq (by simp),by simp,by rw[tle (by omega),Bool.or_true],by rw[tle (by omega),Bool.or_true],rfl,tle (by simp;omega),tle (by simp;omega),?_⟩;refine Yan (ihs _ hm _ y z _ _ _ (lv+1) (by omega) (by omega)) ⟨tle (by omega),tle (by omega),⟨i+1,rfl,k1,?_,?_⟩,dec k1⟩
   ·rw[<-hy,Yhq _ _ _ _ k1,Bool.not_and,Bool.or_assoc]
    have e:(tB (r.kind==14)&&(tB (r.num==0)||tB (decide ((i:Int)+1<(r.subs.length:Int)))))=(if i+1<r.subs.length then r.kind==14 else(r.kind==14&&r.num==0)):=by
     by_cases hlt:i+1<r.subs.length
     ·have:(i:Int)+1<r.subs.length:=by omega
      simp[hlt,this]
     ·have:¬(i:Int)+1<r.subs.length:=by omega
      simp[hlt,this]
    rw[e];simp only[Zwb];rfl
   ·rw[<-hz2,Ye4 _ k1,Bool.or_assoc]
  ·have k1:r.subs.length<=i:=by have:=of_flt hc;omega
   rw[List.drop_eq_nil_of_le k1]at hy hz2;rw[okEs,Bool.not_true,Bool.or_false]at hy;rw[dpEs,Bool.or_false]at hz2;refine⟨rfl,tle (by simp;omega),tle (by simp;omega),Yan (ihd _ y z _ (lv+1) (by omega) (by omega)) (Yhu ?_ ?_)⟩
   ·rw[hE,hy];simp only[Zwb,Bool.not_and,Bool.or_assoc]
   ·rw[hP,hz2];simp only[Bool.or_assoc]
end Go.Sy
end
section
open Go Go.Proofs Go.Ab Go.Rf
set_option linter.unusedSimpArgs false
set_option linter.unusedVariables false
set_option maxRecDepth 100000
namespace Go.Sy
theorem c97(r:Nd)(hlm:Lim r)(ihs:∀x∈r.subs,H58 x)(ihd:H50 r.decls):H97 r:=by
 intro q w d sc lv h0 hb;obtain⟨l1,l2,l3,l4⟩:=hlm;have hz:=size_eq r;have hsl:=Ydg r.subs;have hE:=Yhp r sc;have hP:=Ye3 r lv;have cat:∀A B P L N S:Bool,(w||!A||!B||!P||!L||!N||!S)=(w||!(((A&&B)&&P)&&(L&&(N&&S)))):=by intros A B P L N S;cases w<;>cases A<;>cases B<;>cases P<;>cases L<;>cases N<;>cases S<;>rfl
 refine w97 w d (encD r) sc lv q ?_;simp only[Yap,d0,d1,d2,d3,d4,d5,d6,d7,d8,d9,d10,isK_int,Yae,isK_slc,dint_int,Yal,dlst_slc,true_and,Yah,Yai,Yao,Bool.or_true];refine⟨teq rfl,fun _ y=>y=(d||decide (16<lv)),⟨fun h=>?_,fun h=>?_⟩,?_,trivial⟩
 ·have h:16<lv:=of_tlt h;simp[h]
 ·have h:¬16<lv:=by have:lv<=16:=of_flt h;omega
  simp[h]
 rintro _ y rfl;refine Yan (c47 _ _ _ [_] (by simp)) ⟨_,fun _=>c49 _ l4,_,fun _=>c49 _ l3,_,fun _=>c49 [r.trail] (by simp),by rw[tle (by omega),Bool.or_true],by rw[tle (by omega),Bool.or_true],Yan (c47 _ _ _ [_,_,_,_] (by simp)) ?_⟩;obtain⟨W1,hW1⟩:∃W1,(w||!(decide (1<=r.kind)&&decide (r.kind<=8))||!(lnsV r.lead&&(lnsV r.tail&&(lnsV [r.trail]&&((r.kind==5||r.kind==6)||((r.decls.length:Int)+(r.tail.length:Int)==0))))))=W1:=⟨_,rfl⟩
 have eW:((w||!([tB (decide (1<=r.kind))&&tB (decide (r.kind<=8))].all id))||!([lnsV r.lead,lnsV r.tail,lnsV [r.trail],(tB (r.kind==5)||tB (r.kind==6))||tB ((r.decls.length:Int)+(r.tail.length:Int)==0)].all id))=W1:=by
  rw[<-hW1];simp only[List.all_cons,List.all_nil,Bool.and_true,id,Zwb]
 rw[eW];refine⟨fun _ x z=>z=(d||decide (16<lv))/\x=(W1||!(if r.kind=1 then decide (1<=r.num)&&decide (r.num<=3)else r.num==0)),⟨fun hk=>?_,fun hk=>?_⟩,?_,trivial⟩
 ·refine Yan (c47 _ _ _ [_] (by simp)) ⟨rfl,?_⟩;rw[if_pos (by simpa using hk)];simp
 ·refine Yan (c47 _ _ _ [_] (by simp)) ⟨rfl,?_⟩;rw[if_neg (by simpa using hk)];simp
 rintro _ x2 z ⟨rfl,hx2⟩;refine⟨fun _ x z=>z=(d||decide (16<lv))/\x=(x2||!Yfm r.kind r.text sc),⟨fun hk=>?_,fun hk=>⟨fun hk2=>?_,fun hk2=>⟨fun hk4=>?_,fun hk4=>?_⟩⟩⟩,?_,trivial⟩
 ·have hk:r.kind=1:=by simpa using hk
  exact⟨rfl,by simp[Yfm,hk]⟩
 ·have hk:¬r.kind=1:=by simpa using hk
  have hk2:r.kind=2:=by simpa using hk2
  refine call1 (v:=Go.Rx.pairA (Go.Rx.parseV r.text)) (Go.Rx.c19 r.text) ⟨_,_,rfl,rfl,teq (by simp),teq rfl,rfl,Yan (c47 _ _ _ [_] (by simp)) ⟨rfl,?_⟩⟩;simp[Yfm,hk2]
 ·have hk:¬r.kind=1:=by simpa using hk
  have hk2:¬r.kind=2:=by simpa using hk2
  have hk4:r.kind=4:=by simpa using hk4
  refine call1 (c48 r.text) ⟨_,rfl,rfl,Yan (c47 _ _ _ [_,_] (by simp)) ⟨rfl,?_⟩⟩;simp[Yfm,hk4]
 ·have hk:¬r.kind=1:=by simpa using hk
  have hk2:¬r.kind=2:=by simpa using hk2
  have hk4:¬r.kind=4:=by simpa using hk4
  refine Yan (c47 _ _ _ [_,_] (by simp)) ⟨rfl,?_⟩;simp[Yfm,hk,hk2,hk4]
 rintro _ x3 z ⟨rfl,hx3⟩;refine⟨fun _ _ x z=>z=(d||decide (16<lv))/\x=(x3||!(if r.kind=6 then difV r.n0 r.n1 else nonV r.n0 r.n1)),⟨fun hk=>?_,fun hk=>?_⟩,?_,trivial⟩
 ·refine call1 (c113 _ _) ⟨_,rfl,rfl,Yan (c47 _ _ _ [_] (by simp)) ⟨rfl,?_⟩⟩;rw[if_pos (by simpa using hk)];simp
 ·refine call1 (c114 _ _) ⟨_,rfl,rfl,Yan (c47 _ _ _ [_] (by simp)) ⟨rfl,?_⟩⟩;rw[if_neg (by simpa using hk)];simp
 rintro _ _ x4 z ⟨rfl,hx4⟩;refine⟨fun n _=>n=nSub r.kind,⟨fun hk=>?_,fun hk=>⟨fun hk2=>?_,fun hk2=>?_⟩⟩,?_,trivial⟩
 ·have hk:r.kind=7:=by simpa using hk
  simp[nSub,hk]
 ·have hk:¬r.kind=7:=by simpa using hk
  have hk2:r.kind=8:=by simpa using hk2
  simp[nSub,hk2]
 ·have hk:¬r.kind=7:=by simpa using hk
  have hk2:¬r.kind=8:=by simpa using hk2
  simp[nSub,hk,hk2]
 rintro n _ rfl
 have e5:(x4||!([tB ((r.subs.length:Int)==nSub r.kind)].all id))=(w||!Ye2 r sc):=by
  simp only[List.all_cons,List.all_nil,Bool.and_true,id,Zwb];rw[hx4,hx3,hx2,<-hW1,cat,show(((((decide (1<=r.kind)&&decide (r.kind<=8))&&(lnsV r.lead&&(lnsV r.tail&&(lnsV [r.trail]&&((r.kind==5||r.kind==6)||((r.decls.length:Int)+(r.tail.length:Int)==0))))))&&(if r.kind=1 then decide (1<=r.num)&&decide (r.num<=3)else r.num==0))&&(Yfm r.kind r.text sc&&((if r.kind=6 then difV r.n0 r.n1 else nonV r.n0 r.n1)&&((r.subs.length:Int)==nSub r.kind)))))=Ye2 r sc from rfl]
 refine Yan (c47 _ _ _ [_] (by simp)) ?_;rw[e5];refine⟨fun x y z=>∃i:Nat,x=i/\i<=r.subs.length/\(y||!okFs (r.subs.drop i) ((sc&&ownK r.kind)&&(i==0)))=(w||!(Ye2 r sc&&okFs r.subs (sc&&ownK r.kind)))/\(z||dpEs (r.subs.drop i) (lv+1))=(d||(decide (16<lv)||dpEs r.subs (lv+1))),fun x _ _=>r.subs.length-x.toNat,⟨0,rfl,Nat.zero_le _,by rw[Bool.not_and,<-Bool.or_assoc];simp,by rw[<-Bool.or_assoc];rfl⟩,?_,trivial⟩;rintro x y z ⟨i,rfl,hi,hy,hz2⟩;refine⟨fun hc=>?_,fun hc=>?_⟩
 ·have k1:i<r.subs.length:=by have:=of_tlt hc;omega
  have hm:=List.getElem_mem k1;have hsz:=Ybx hm;rw[Ybg rfl k1];refine⟨tle (by omega),teq (by simp),tle (by omega),tle (by omega),Yan (ihs _ hm _ y z _ _ _ (lv+1) (by omega) (by omega)) ⟨tle (by omega),tle (by omega),⟨i+1,rfl,k1,?_,?_⟩,dec k1⟩⟩
  ·rw[<-hy,Yhs _ k1,Bool.not_and,Bool.or_assoc];have e:(((i:Int)==0):Bool)=(i==0):=by rw[Bool.eq_iff_iff];simp
   rw[show(tB ((i:Int)==0))=(i==0) by rw[Zwb];exact e];simp only[Zwb];rfl
  ·rw[<-hz2,Ye4 _ k1,Bool.or_assoc]
 ·have k1:r.subs.length<=i:=by have:=of_flt hc;omega
  rw[List.drop_eq_nil_of_le k1]at hy hz2;rw[okFs,Bool.not_true,Bool.or_false]at hy;rw[dpEs,Bool.or_false]at hz2;refine⟨tle (by omega),tle (by omega),Yan (ihd _ y z _ (lv+1) (by omega) (by omega)) (Yhu ?_ ?_)⟩
  ·rw[hE,hy];simp only[Bool.not_and,Bool.or_assoc]
  ·rw[hP,hz2];simp only[Bool.or_assoc]
end Go.Sy
end
section
open Go Go.Proofs Go.Ab Go.Rf
set_option linter.unusedSimpArgs false
set_option linter.unusedVariables false
set_option maxRecDepth 100000
namespace Go.Sy
def verV(ok dp:Bool):Int:=if(!ok)=true then 11 else if dp=true then 9 else 0
theorem Yl5{a b:Int}(h:a=b):Ret (intA b) (.ret (intA a)) []:=by subst h;exact⟨rfl,rfl⟩
theorem Yl6:∀r:Nd,Lm r->H58 r/\H97 r:=by
 refine Yax fun r hs hd hl=>?_
 have ihs:∀x∈r.subs,H58 x:=fun x hx=>(hs x hx (hl.sub hx)).1
 have ihd:H50 r.decls:=c50 r.decls fun x hx=>(hd x hx (hl.dec hx)).2
 exact⟨c58 r hl.here.2.1 hl.here.2.2.1 ihs ihd,c97 r hl.here ihs ihd⟩
def okFl(f:Fl):Bool:=(((f.pkg.isEmpty||idV f.pkg)&&lnsV f.tail)&&f.imps.all fun i=>idV i.name)&&okDs f.decls true
def verF(f:Fl):Int:=verV (okFl f) (dpDs f.decls 1)
theorem c14(f:Fl)(hl:LmF f)(hz:sizes f.decls<=2^40):Holds Tryz.prog 14 [.agg (Ybp f)] [] (Ret (intA (verF f))):=by
 obtain⟨⟨l1,l2,l3⟩,hd⟩:=hl;have hD:H50 f.decls:=c50 f.decls fun x hx=>(Yl6 x (hd x hx)).2
 refine w14 (Ybp f) ?_;simp only[Yaw,f0,f1,f2,f3,Yae,isK_slc,Yal,dlst_slc,true_and,Ybh];refine⟨_,⟨teq rfl,trivial⟩,fun _=>⟨fun hp=>⟨_,fun _=>c48 _,_,fun _=>c49 _ l3,fun ν=>Yan (c47 (.own 7 (ν 7)) _ _ [_,_] (by simp)) ?_ ν⟩,fun hp=>⟨_,fun _=>c49 _ l3,fun ν=>Yan (c47 (.own 7 (ν 7)) _ _ [_,_] (by simp)) ?_ ν⟩⟩,trivial⟩
 all_goals
  obtain⟨W,hW⟩:∃W,(!((f.pkg.isEmpty||idV f.pkg)&&lnsV f.tail))=W:=⟨_,rfl⟩
  first
   |have eW:(false||!([idV f.pkg,lnsV f.tail].all id))=W:=by
     rw[<-hW];have:f.pkg.isEmpty=false:=by simpa using hp
     simp[this]
    rw[eW]
   |have eW:(false||!([true,lnsV f.tail].all id))=W:=by
     rw[<-hW];have:f.pkg.isEmpty=true:=by simpa using hp
     simp[this]
    rw[eW]
  refine⟨fun x y z=>∃i:Nat,x=i/\i<=f.imps.length/\(y||!((f.imps.drop i).all fun i=>idV i.name))=(W||!(f.imps.all fun i=>idV i.name))/\z=false,fun x _ _=>f.imps.length-x.toNat,⟨0,rfl,Nat.zero_le _,rfl,rfl⟩,?_,trivial⟩;rintro x y z ⟨i,rfl,hi,hy,rfl⟩;refine⟨fun hc=>?_,fun hc=>?_⟩
  ·have k1:i<f.imps.length:=by have:=of_tlt hc;omega
   rw[Ydm rfl k1];refine⟨tle (by omega),teq rfl,rfl,call1 (c48 _) ⟨_,rfl,rfl,fun ν=>Yan (c47 (.own 7 (ν 7)) _ _ [_] (by simp)) ⟨tle (by omega),tle (by omega),⟨i+1,rfl,k1,?_,rfl⟩,dec k1⟩ ν⟩⟩;rw[<-hy,List.drop_eq_getElem_cons k1];simp only[i0,Yal,List.all_cons,List.all_nil,Bool.and_true,id,Bool.not_and,Bool.or_assoc]
  ·have k1:f.imps.length<=i:=by have:=of_flt hc;omega
   rw[List.drop_eq_nil_of_le k1]at hy;have hy:y=(W||!(f.imps.all fun i=>idV i.name)):=by rw[<-hy];simp
   refine fun ν=>Yan (hD (.own 7 (ν 7)) y false true 1 (by omega) (by omega)) (fun ν=>callB (c51 (.own 7 (ν 7)) _ _) ⟨_,_,_,rfl,rfl,Yl5 ?_⟩ ν) ν
   rw[verF,okFl,verV,hy,<-hW];simp only[Bool.not_and,Bool.false_or]
theorem Ykt:∀r:Nd,(size r:Int)<=wE r/\(size r:Int)<=wD r:=by
 refine Yax fun r hs hd=>?_
 have kE:∀l:List Nd,(∀x∈l,x∈r.subs)->(sizes l:Int)<=wEs l:=by
  intro l
  induction l with
  |nil=>intro _;simp[sizes,wEs]
  |cons x l ih=>
   intro h;have:=ih fun y hy=>h y (List.mem_cons_of_mem _ hy)
   have:=(hs x (h x (List.mem_cons_self ..))).1;rw[sizes,wEs];push_cast;omega
 have kD:∀l:List Nd,(∀x∈l,x∈r.decls)->(sizes l:Int)<=wDs l:=by
  intro l
  induction l with
  |nil=>intro _;simp[sizes,wDs]
  |cons x l ih=>
   intro h;have:=ih fun y hy=>h y (List.mem_cons_of_mem _ hy)
   have:=(hd x (h x (List.mem_cons_self ..))).2;rw[sizes,wDs];push_cast;omega
 have a:=kE r.subs fun _ h=>h
 have b:=kD r.decls fun _ h=>h
 have o:=Yd4 r;rw[Ygr,Ygs,size_eq];omega
theorem Yhv:∀l:List Nd,(sizes l:Int)<=wDs l
 |[]=>by simp[sizes,wDs]
 |x::l=>by
  have:=Yhv l;have:=(Ykt x).2;rw[sizes,wDs];push_cast;omega
end Go.Sy
end
section
open Go Go.Proofs Go.Ab Go.Rf
set_option linter.unusedSimpArgs false
set_option maxRecDepth 100000
namespace Go.Sy
theorem Yb6{l m:List Nd}(h:eqEs l m=true):l.length=m.length:=by
 by_cases e:l.length=m.length
 ·exact e
 ·rw[Yd1 e]at h;cases h
theorem Yfn{l m:List Nd}(h:eqDs l m=true):l.length=m.length:=by
 by_cases e:l.length=m.length
 ·exact e
 ·rw[Yc7 e]at h;cases h
theorem Yfo{l m:List Im}(h:eqIs l m=true):l.length=m.length:=by
 by_cases e:l.length=m.length
 ·exact e
 ·rw[Yc8 e]at h;cases h
theorem Ye5{x y:Nd}(h:eqE x y=true):(x.kind=y.kind/\x.text=y.text/\x.num=y.num/\x.n0=y.n0/\x.n1=y.n1)/\x.tail=y.tail/\eqEs x.subs y.subs=true/\eqDs x.decls y.decls=true:=by
 rw[Yek]at h;simp only[Bool.and_eq_true,beq_iff_eq,decide_eq_true_eq]at h;exact⟨⟨h.1.1.1.1.1.1.1,h.1.1.1.1.1.1.2,h.1.1.1.1.1.2,h.1.1.1.1.2,h.1.1.1.2⟩,h.1.1.2,h.1.2,h.2⟩
theorem Ye6{x y:Nd}(h:eqD x y=true):(x.kind=y.kind/\x.num=y.num/\x.text=y.text/\x.n0=y.n0/\x.n1=y.n1)/\x.trail=y.trail/\x.lead=y.lead/\x.tail=y.tail/\eqEs x.subs y.subs=true/\eqDs x.decls y.decls=true:=by
 rw[Yel]at h;simp only[Bool.and_eq_true,beq_iff_eq,decide_eq_true_eq]at h;exact⟨⟨h.1.1.1.1.1.1.1.1.1,h.1.1.1.1.1.1.1.1.2,h.1.1.1.1.1.1.1.2,h.1.1.1.1.1.1.2,h.1.1.1.1.1.2⟩,h.1.1.1.1.2,h.1.1.1.2,h.1.1.2,h.1.2,h.2⟩
theorem c66(l m:List Nd)(hl:l.length<=2^50)(hlm:∀x∈l,Lim x)(ih:∀x∈l,(∀m,Holds Tryz.prog 66 [slA (Yaj x.decls),slA (Yaj m)] [] (Ret (Yaf (eqDs x.decls m))))/\
 ∀e∈x.subs,∀y,Holds Tryz.prog 22 [.agg (encE e),.agg (encE y)] [] (Ret (Yaf (eqE e y)))):
 Holds Tryz.prog 66 [slA (Yaj l),slA (Yaj m)] [] (Ret (Yaf (eqDs l m))):=by
 refine w66 _ _ ⟨fun h=>?_,fun h=>?_⟩
 ·exact⟨by rw[Yc7 (by simp at h;omega)],rfl⟩
 ·have hlen:l.length=m.length:=by simp at h;omega
  refine⟨fun x=>∃i:Nat,x=i/\i<=l.length/\eqDs (l.drop i) (m.drop i)=eqDs l m,fun x=>l.length-x.toNat,⟨0,rfl,Nat.zero_le _,rfl⟩,?_,trivial⟩;rintro x ⟨i,rfl,hi,hr⟩;refine⟨fun hc=>?_,fun hc=>?_⟩
  ·have h1:i<l.length:=by have:=of_tlt hc;simp at this;omega
   have h2:i<m.length:=by omega
   rw[Yab h1,Yab h2,eqDs]at hr;have hx:=List.getElem_mem h1;have l1:=hlm _ hx;have ihx:=ih _ hx;rw[Yck rfl h1,Yck rfl h2];generalize l[i]=a at hr l1 ihx;generalize m[i]=b at hr;have no:eqD a b=false->Ret (Yaf (eqDs l m)) (.ret (Yaf false)) []:=fun h=>⟨by rw[<-hr,h];rfl,rfl⟩
   simp only[Yap,d0,d1,d2,d3,d4,d5,d6,d7,d8,d9,d10,isK_int,Yae,isK_slc,dint_int,Yal,dlst_slc,Bool.or_true,true_and];refine⟨tle (by omega),tlt (by simp;omega),teq rfl,teq rfl,fun hn=>no ?_,fun hn=>?_⟩
   ·cases he:eqD a b with
    |false=>rfl
    |true=>
     exfalso;obtain⟨⟨p1,p2,p3,p4,p5⟩,p6,_,_,p7,_⟩:=Ye6 he;have:=Yb6 p7;simp[p1,p2,p3,p4,p5,p6,this]at hn
   ·have hn':((a.kind=b.kind/\a.num=b.num/\a.text=b.text/\a.n0=b.n0/\a.n1=b.n1)/\a.trail=b.trail)/\a.subs.length=b.subs.length:=by
     simp only[Zwb,Bool.or_eq_false_iff,Bool.not_eq_false',Bool.and_eq_true,beq_iff_eq,Yah]at hn;obtain⟨⟨⟨⟨⟨q1,q2⟩,q3⟩,q4⟩,q5⟩,q6⟩:=hn;exact⟨⟨⟨q1,q2,q3,q4.1,q4.2⟩,q5⟩,by omega⟩
    obtain⟨⟨⟨q1,q2,q3,q4,q4'⟩,q5⟩,q6⟩:=hn';have hed:eqD a b=(decide (a.lead=b.lead)&&decide (a.tail=b.tail)&&eqEs a.subs b.subs&&eqDs a.decls b.decls):=by rw[Yel,q1,q2,q3,q4,q4',q5];simp
    rw[hed]at no hr;refine call1 (c23 _ _ (Nat.le_trans l1.2.2.2 (by omega))) ⟨_,rfl,rfl,fun h3=>?_,fun h3=>no (by simp[h3])⟩;refine call1 (c23 _ _ (Nat.le_trans l1.2.2.1 (by omega))) ⟨_,rfl,rfl,fun h4=>?_,fun h4=>no (by simp[h4])⟩;refine call1 (ihx.1 b.decls) ⟨_,rfl,rfl,fun h5=>no (by rw[nb1 h5];simp),fun h5=>?_⟩;have h5:eqDs a.decls b.decls=true:=by simpa using h5
    refine⟨fun x=>∃j:Nat,x=j/\j<=a.subs.length/\eqEs (a.subs.drop j) (b.subs.drop j)=eqEs a.subs b.subs,fun x=>a.subs.length-x.toNat,⟨0,rfl,Nat.zero_le _,rfl⟩,?_,trivial⟩;rintro x ⟨j,rfl,hj,hrj⟩;refine⟨fun hcj=>?_,fun hcj=>?_⟩
    ·have k1:j<a.subs.length:=by have:=of_tlt hcj;simp at this;omega
     have k2:j<b.subs.length:=by omega
     rw[Yab k1,Yab k2,eqEs]at hrj;rw[Ybg rfl k1,Ybg rfl k2];refine⟨tle (by omega),teq (by simp),tlt (by simp;omega),teq (by simp),call1 (ihx.2 _ (List.getElem_mem k1) _) ⟨_,rfl,rfl,fun hn=>?_,fun hn=>⟨tle (by omega),tle (by have:=l1.1;omega),⟨j+1,rfl,k1,?_⟩,dec k1⟩⟩⟩
     ·have hn:eqE a.subs[j] b.subs[j]=false:=by simpa using hn
      exact no (by rw[<-hrj,hn];simp)
     ·have hn:eqE a.subs[j] b.subs[j]=true:=by simpa using hn
      rw[<-hrj,hn];rfl
    ·have k1:a.subs.length<=j:=by have:=of_flt hcj;simp at this;omega
     rw[Yad k1,Yad (by omega)]at hrj;have h6:eqEs a.subs b.subs=true:=by rw[<-hrj];simp[eqEs]
     exact⟨tle (by omega),tle (by omega),⟨i+1,rfl,h1,by rw[<-hr,h3,h4,h5,h6];rfl⟩,dec h1⟩
  ·have h1:l.length<=i:=by have:=of_flt hc;simp at this;omega
   rw[Yad h1,Yad (by omega)]at hr;exact⟨by rw[<-hr];simp[eqDs],rfl⟩
theorem Yl7:∀(r:Nd),Lm r->(∀y,Holds Tryz.prog 22 [.agg (encE r),.agg (encE y)] [] (Ret (Yaf (eqE r y))))/\(∀m,Holds Tryz.prog 66 [slA (Yaj r.decls),slA (Yaj m)] [] (Ret (Yaf (eqDs r.decls m))))/\
 ∀e∈r.subs,∀y,Holds Tryz.prog 22 [.agg (encE e),.agg (encE y)] [] (Ret (Yaf (eqE e y))):=by
 refine Yax fun r hs hd hl=>?_
 have l1:=hl.here;have ihs:∀e∈r.subs,∀y,Holds Tryz.prog 22 [.agg (encE e),.agg (encE y)] [] (Ret (Yaf (eqE e y))):=fun x hx=>(hs x hx (hl.sub hx)).1
 have ihd:∀m,Holds Tryz.prog 66 [slA (Yaj r.decls),slA (Yaj m)] [] (Ret (Yaf (eqDs r.decls m))):=fun m=>
  c66 r.decls m l1.2.1 (fun x hx=>(hl.dec hx).here) fun x hx=>(hd x hx (hl.dec hx)).2
 refine⟨fun y=>?_,ihd,ihs⟩;have no:eqE r y=false->Ret (Yaf (eqE r y)) (.ret (Yaf false)) []:=fun h=>⟨by rw[h],rfl⟩
 refine w22 (encE r) (encE y) ?_;simp only[Yam,e0,e1,e2,e3,e4,e5,e6,e7,e8,isK_int,Yae,isK_slc,dint_int,Yal,dlst_slc,Bool.or_true,true_and];refine⟨teq rfl,teq rfl,fun hn=>?_,fun hn=>no ?_⟩
 ·have hn':(r.kind=y.kind/\r.text=y.text/\r.num=y.num/\r.n0=y.n0/\r.n1=y.n1)/\r.subs.length=y.subs.length:=by
   simp only[Zwb,Bool.or_eq_false_iff,Bool.not_eq_true',Bool.not_eq_false',Bool.and_eq_true,beq_iff_eq,Yah]at hn;obtain⟨⟨⟨⟨q1,q2⟩,q3⟩,q4⟩,q6⟩:=hn;exact⟨⟨q1,q2,q3,q4.1,q4.2⟩,by omega⟩
  obtain⟨⟨q1,q2,q3,q4,q4'⟩,q6⟩:=hn';have hee:eqE r y=(decide (r.tail=y.tail)&&eqEs r.subs y.subs&&eqDs r.decls y.decls):=by rw[Yek,q1,q2,q3,q4,q4'];simp
  rw[hee]at no⊢;refine call1 (c23 _ _ (Nat.le_trans l1.2.2.1 (by omega))) ⟨_,rfl,rfl,fun h3=>no (by rw[nb1 h3];rfl),fun h3=>?_⟩;have h3:decide (r.tail=y.tail)=true:=by simpa using h3
  refine⟨fun x=>∃j:Nat,x=j/\j<=r.subs.length/\eqEs (r.subs.drop j) (y.subs.drop j)=eqEs r.subs y.subs,fun x=>r.subs.length-x.toNat,⟨0,rfl,Nat.zero_le _,rfl⟩,?_,trivial⟩;rintro x ⟨j,rfl,hj,hrj⟩;refine⟨fun hcj=>?_,fun hcj=>?_⟩
  ·have k1:j<r.subs.length:=by have:=of_tlt hcj;simp at this;omega
   have k2:j<y.subs.length:=by omega
   rw[Yab k1,Yab k2,eqEs]at hrj;rw[Ybg rfl k1,Ybg rfl k2];refine⟨tle (by omega),teq (by simp),tlt (by simp;omega),teq (by simp),call1 (ihs _ (List.getElem_mem k1) _) ⟨_,rfl,rfl,fun hn=>?_,fun hn=>⟨tle (by omega),tle (by have:=l1.1;omega),⟨j+1,rfl,k1,?_⟩,dec k1⟩⟩⟩
   ·have hn:eqE r.subs[j] y.subs[j]=false:=by simpa using hn
    exact no (by rw[<-hrj,hn];simp)
   ·have hn:eqE r.subs[j] y.subs[j]=true:=by simpa using hn
    rw[<-hrj,hn];rfl
  ·have k1:r.subs.length<=j:=by have:=of_flt hcj;simp at this;omega
   rw[Yad k1,Yad (by omega)]at hrj;have h6:eqEs r.subs y.subs=true:=by rw[<-hrj];simp[eqEs]
   exact call1 (ihd y.decls) ⟨_,rfl,rfl,by rw[h3,h6];simp,rfl⟩
 ·cases he:eqE r y with
  |false=>rfl
  |true=>
   exfalso;obtain⟨⟨p1,p2,p3,p4,p5⟩,_,p7,_⟩:=Ye5 he;have:=Yb6 p7;simp[p1,p2,p3,p4,p5,this]at hn
theorem c66'(l m:List Nd)(hl:l.length<=2^50)(h:∀x∈l,Lm x):Holds Tryz.prog 66 [slA (Yaj l),slA (Yaj m)] [] (Ret (Yaf (eqDs l m))):=
 c66 l m hl (fun x hx=>(h x hx).here) fun x hx=>(Yl7 x (h x hx)).2
theorem Yfp:∀{l m:List Nd}{i:Nat}(h:eqEs l m=true)(h1:i<l.length)(h2:i<m.length),eqE l[i] m[i]=true
 |a::l,b::m,0,h,_,_=>by rw[eqEs,Bool.and_eq_true]at h;exact h.1
 |a::l,b::m,i+1,h,h1,h2=>by rw[eqEs,Bool.and_eq_true]at h;exact Yfp h.2 (by simpa using h1) (by simpa using h2)
theorem Yhw:∀{l m:List Nd}{i:Nat}(h:eqDs l m=true)(h1:i<l.length)(h2:i<m.length),eqD l[i] m[i]=true
 |a::l,b::m,0,h,_,_=>by rw[eqDs,Bool.and_eq_true]at h;exact h.1
 |a::l,b::m,i+1,h,h1,h2=>by rw[eqDs,Bool.and_eq_true]at h;exact Yhw h.2 (by simpa using h1) (by simpa using h2)
mutual
def plE:Nd->Nd->Bool
 |.mk _ _ _ _ _ _ _ _ p s d,y=>plEs s y.subs&&(p==y.pos&&plDs d y.decls)
def plEs:List Nd->List Nd->Bool
 |a::l,b::m=>plE a b&&plEs l m
 |_,_=>true
def plD:Nd->Nd->Bool
 |.mk _ _ _ _ _ _ _ _ p s d,y=>p==y.pos&&(plDs d y.decls&&plEs s y.subs)
def plDs:List Nd->List Nd->Bool
 |a::l,b::m=>plD a b&&plDs l m
 |_,_=>true
end
theorem Yi7(x y:Nd):plE x y=(plEs x.subs y.subs&&(x.pos==y.pos&&plDs x.decls y.decls)):=by cases x;rw[plE];rfl
theorem Yi8(x y:Nd):plD x y=(x.pos==y.pos&&(plDs x.decls y.decls&&plEs x.subs y.subs)):=by cases x;rw[plD];rfl
theorem c84(l m:List Nd)(hl:l.length<=2^50)(hlm:∀x∈l,Lim x)(he:eqDs l m=true)(ih:∀x∈l,(∀m,eqDs x.decls m=true->Holds Tryz.prog 84 [slA (Yaj x.decls),slA (Yaj m)] [] (Ret (Yaf (plDs x.decls m))))/\
 ∀e∈x.subs,∀y,eqE e y=true->Holds Tryz.prog 89 [.agg (encE e),.agg (encE y)] [] (Ret (Yaf (plE e y)))):
 Holds Tryz.prog 84 [slA (Yaj l),slA (Yaj m)] [] (Ret (Yaf (plDs l m))):=by
 have hlen:=Yfn he;refine w84 _ _ ⟨fun x=>∃i:Nat,x=i/\i<=l.length/\plDs (l.drop i) (m.drop i)=plDs l m,fun x=>l.length-x.toNat,⟨0,rfl,Nat.zero_le _,rfl⟩,?_,trivial⟩;rintro x ⟨i,rfl,hi,hr⟩;refine⟨fun hc=>?_,fun hc=>?_⟩
 ·have h1:i<l.length:=by have:=of_tlt hc;simp at this;omega
  have h2:i<m.length:=by omega
  rw[Yab h1,Yab h2,plDs]at hr;have hx:=List.getElem_mem h1;have l1:=hlm _ hx;have ihx:=ih _ hx;have hab:=Yhw he h1 h2;rw[Yck rfl h1,Yck rfl h2];generalize l[i]=a at hr l1 ihx hab;generalize m[i]=b at hr hab;have no:plD a b=false->Ret (Yaf (plDs l m)) (.ret (Yaf false)) []:=fun h=>⟨by rw[<-hr,h];rfl,rfl⟩
  obtain⟨_,_,_,_,p7,p8⟩:=Ye6 hab;have q6:=Yb6 p7;rw[Yi8]at no hr;simp only[Yap,d0,d1,d2,d3,d4,d5,d6,d7,d8,d9,d10,isK_int,Yae,isK_slc,dint_int,Yal,dlst_slc,Bool.or_true,true_and];refine⟨tle (by omega),teq rfl,tle (by omega),tlt (by simp;omega),teq rfl,tle (by omega),by simp,by simp,fun hn=>?_,fun hn=>no (by rw[Zwb]at hn;rw[hn];rfl)⟩;rw[Zwb]at hn;refine call1 (ihx.1 b.decls p8) ⟨_,rfl,rfl,fun h5=>no (by rw[nb1 h5];simp),fun h5=>?_⟩;refine⟨tle (by omega),fun x=>∃j:Nat,x=j/\j<=a.subs.length/\plEs (a.subs.drop j) (b.subs.drop j)=plEs a.subs b.subs,fun x=>a.subs.length-x.toNat,⟨0,rfl,Nat.zero_le _,rfl⟩,?_,trivial⟩;rintro x ⟨j,rfl,hj,hrj⟩;refine⟨fun hcj=>?_,fun hcj=>?_⟩
  ·have k1:j<a.subs.length:=by have:=of_tlt hcj;simp at this;omega
   have k2:j<b.subs.length:=by omega
   rw[Yab k1,Yab k2,plEs]at hrj;rw[Ybg rfl k1,Ybg rfl k2];refine⟨tle (by omega),teq (by simp),tle (by omega),tlt (by simp;omega),teq (by simp),call1 (ihx.2 _ (List.getElem_mem k1) _ (Yfp p7 k1 k2)) ⟨_,rfl,rfl,fun hn=>no (by rw[<-hrj,nb1 hn];simp),fun hn=>⟨tle (by omega),tle (by have:=l1.1;omega),⟨j+1,rfl,k1,by rw[<-hrj,nb0 hn];rfl⟩,dec k1⟩⟩⟩
  ·have k1:a.subs.length<=j:=by have:=of_flt hcj;simp at this;omega
   rw[Yad k1,Yad (by omega)]at hrj;have h6:plEs a.subs b.subs=true:=by rw[<-hrj];simp[plEs]
   exact⟨tle (by omega),tle (by omega),⟨i+1,rfl,h1,by rw[<-hr,hn,nb0 h5,h6];rfl⟩,dec h1⟩
 ·have h1:l.length<=i:=by have:=of_flt hc;simp at this;omega
  rw[Yad h1,Yad (by omega)]at hr;exact⟨by rw[<-hr];simp[plDs],rfl⟩
theorem Yl8:∀(r:Nd),Lm r->(∀y,eqE r y=true->Holds Tryz.prog 89 [.agg (encE r),.agg (encE y)] [] (Ret (Yaf (plE r y))))/\(∀m,eqDs r.decls m=true->Holds Tryz.prog 84 [slA (Yaj r.decls),slA (Yaj m)] [] (Ret (Yaf (plDs r.decls m))))/\
 ∀e∈r.subs,∀y,eqE e y=true->Holds Tryz.prog 89 [.agg (encE e),.agg (encE y)] [] (Ret (Yaf (plE e y))):=by
 refine Yax fun r hs hd hl=>?_
 have l1:=hl.here;have ihs:∀e∈r.subs,∀y,eqE e y=true->Holds Tryz.prog 89 [.agg (encE e),.agg (encE y)] [] (Ret (Yaf (plE e y))):=fun x hx=>(hs x hx (hl.sub hx)).1
 have ihd:∀m,eqDs r.decls m=true->Holds Tryz.prog 84 [slA (Yaj r.decls),slA (Yaj m)] [] (Ret (Yaf (plDs r.decls m))):=fun m hm=>
  c84 r.decls m l1.2.1 (fun x hx=>(hl.dec hx).here) hm fun x hx=>(hd x hx (hl.dec hx)).2
 refine⟨fun y hy=>?_,ihd,ihs⟩;obtain⟨_,_,p7,p8⟩:=Ye5 hy;have q6:=Yb6 p7;have no:plE r y=false->Ret (Yaf (plE r y)) (.ret (Yaf false)) []:=fun h=>⟨by rw[h],rfl⟩
 rw[Yi7]at no⊢;refine w89 (encE r) (encE y) ?_;simp only[Yam,e0,e1,e2,e3,e4,e5,e6,e7,e8,isK_int,Yae,isK_slc,dint_int,Yal,dlst_slc,Bool.or_true,true_and];refine⟨teq rfl,teq rfl,fun x=>∃j:Nat,x=j/\j<=r.subs.length/\plEs (r.subs.drop j) (y.subs.drop j)=plEs r.subs y.subs,fun x=>r.subs.length-x.toNat,⟨0,rfl,Nat.zero_le _,rfl⟩,?_,trivial⟩;rintro x ⟨j,rfl,hj,hrj⟩;refine⟨fun hcj=>?_,fun hcj=>⟨fun hn=>?_,fun hn=>no (by rw[Zwb]at hn;rw[hn];simp)⟩⟩
 ·have k1:j<r.subs.length:=by have:=of_tlt hcj;simp at this;omega
  have k2:j<y.subs.length:=by omega
  rw[Yab k1,Yab k2,plEs]at hrj;rw[Ybg rfl k1,Ybg rfl k2];refine⟨tle (by omega),teq (by simp),tlt (by simp;omega),teq (by simp),call1 (ihs _ (List.getElem_mem k1) _ (Yfp p7 k1 k2)) ⟨_,rfl,rfl,fun hn=>no (by rw[<-hrj,nb1 hn];rfl),fun hn=>⟨tle (by omega),tle (by have:=l1.1;omega),⟨j+1,rfl,k1,by rw[<-hrj,nb0 hn];rfl⟩,dec k1⟩⟩⟩
 ·have k1:r.subs.length<=j:=by have:=of_flt hcj;simp at this;omega
  rw[Yad k1,Yad (by omega)]at hrj;have h6:plEs r.subs y.subs=true:=by rw[<-hrj];simp[plEs]
  rw[Zwb]at hn;exact call1 (ihd y.decls p8) ⟨_,rfl,rfl,by rw[h6,hn];rfl,rfl⟩
theorem c20(f g:Fl)(h:LmF f):Holds Tryz.prog 20 [.agg (Ybp f),.agg (Ybp g)] [] (Ret (Yaf (eqF f g))):=by
 have no:eqF f g=false->Ret (Yaf (eqF f g)) (.ret (Yaf false)) []:=fun h=>⟨by rw[h],rfl⟩
 unfold eqF at no⊢;refine w20 _ _ ?_;simp only[Yaw,f0,f1,f2,f3,Yae,isK_slc,Yal,dlst_slc,Bool.or_true,true_and];refine⟨teq rfl,teq rfl,fun hn=>?_,fun hn=>no ?_⟩
 ·have hn':f.pkg=g.pkg/\f.imps.length=g.imps.length:=by
   simp only[Zwb,Bool.or_eq_false_iff,Bool.not_eq_true',Bool.not_eq_false',beq_iff_eq,Ybh]at hn;exact⟨hn.1,by omega⟩
  obtain⟨q1,q2⟩:=hn';refine call1 (c23 _ _ (Nat.le_trans h.1.2.2 (by omega))) ⟨_,rfl,rfl,fun h3=>no (by rw[nb1 h3];simp),fun h3=>?_⟩;refine⟨fun x=>∃j:Nat,x=j/\j<=f.imps.length/\eqIs (f.imps.drop j) (g.imps.drop j)=eqIs f.imps g.imps,fun x=>f.imps.length-x.toNat,⟨0,rfl,Nat.zero_le _,rfl⟩,?_,trivial⟩;rintro x ⟨j,rfl,hj,hrj⟩;refine⟨fun hcj=>?_,fun hcj=>?_⟩
  ·have k1:j<f.imps.length:=by have:=of_tlt hcj;simp at this;omega
   have k2:j<g.imps.length:=by omega
   rw[Yab k1,Yab k2,eqIs]at hrj;have g1:=Ydm (x:=(j:Int)) rfl k1;have g2:=Ydm (x:=(j:Int)) rfl k2;simp only[g1,g2,f1,dlst_slc,Ybd,i0,i1,i2,isK_int,Yae,Yal,dint_int,Bool.or_true,true_and];have e:eqI f.imps[j] g.imps[j]=(f.imps[j].name==g.imps[j].name&&f.imps[j].path==g.imps[j].path):=rfl;refine⟨tle (by omega),teq rfl,tle (by omega),tlt (by simp;omega),teq rfl,tle (by omega),by simp,by simp,fun hn=>no ?_,fun hn=>⟨tle (by omega),tle (by have:=h.1.1;omega),⟨j+1,rfl,k1,?_⟩,dec k1⟩⟩
   ·have:eqI f.imps[j] g.imps[j]=false:=by
     rw[e];simp only[Zwb,Bool.or_eq_true,Bool.not_eq_true']at hn;rcases hn with hn|hn<;>simp only[hn,Bool.false_and,Bool.and_false]
    rw[<-hrj,this];simp
   ·have:eqI f.imps[j] g.imps[j]=true:=by
     rw[e];simp only[Zwb,Bool.or_eq_false_iff,Bool.not_eq_false']at hn;rw[hn.1,hn.2];rfl
    rw[<-hrj,this];rfl
  ·have k1:f.imps.length<=j:=by have:=of_flt hcj;simp at this;omega
   rw[Yad k1,Yad (by omega)]at hrj;have h6:eqIs f.imps g.imps=true:=by rw[<-hrj];simp[eqIs]
   exact call1 (c66' _ _ h.1.2.1 h.2) ⟨_,rfl,rfl,by rw[h6,q1,nb0 h3];simp,rfl⟩
 ·simp only[Zwb,Bool.or_eq_true,Bool.not_eq_false',Bool.not_eq_true',beq_eq_false_iff_ne,Ybh]at hn;rcases hn with hn|hn
  ·simp[hn]
  ·rw[Yc8 (by omega)];simp
def plI(a b:Im):Bool:=a.pos==b.pos
def plIs:List Im->List Im->Bool
 |a::l,b::m=>plI a b&&plIs l m
 |_,_=>true
def plF(f g:Fl):Bool:=plIs f.imps g.imps&&plDs f.decls g.decls
theorem Yhx:∀{l m:List Im}{i:Nat}(h:eqIs l m=true)(h1:i<l.length)(h2:i<m.length),eqI l[i] m[i]=true
 |a::l,b::m,0,h,_,_=>by rw[eqIs,Bool.and_eq_true]at h;exact h.1
 |a::l,b::m,i+1,h,h1,h2=>by rw[eqIs,Bool.and_eq_true]at h;exact Yhx h.2 (by simpa using h1) (by simpa using h2)
theorem c30(f g:Fl)(h:LmF f):Holds Tryz.prog 30 [.agg (Ybp f),.agg (Ybp g)] [] (Ret (Yaf (eqF f g&&plF f g))):=by
 have no:plF f g=false->Ret (Yaf (eqF f g&&plF f g)) (.ret (Yaf false)) []:=fun h=>⟨by rw[h];simp,rfl⟩
 refine w30 _ _ ?_;simp only[Yaw,f0,f1,f2,f3,Yae,isK_slc,Yal,dlst_slc,Bool.or_true,true_and];refine⟨teq rfl,teq rfl,call1 (c20 f g h) ⟨_,rfl,rfl,fun h1=>⟨by rw[nb1 h1];rfl,rfl⟩,fun h1=>?_⟩⟩;have h1:=nb0 h1;have h1':=h1;unfold eqF at h1';simp only[Bool.and_eq_true]at h1';have hI:=h1'.1.1.2;have hD:=h1'.1.2;have q2:=Yfo hI;unfold plF at no⊢;refine⟨fun x=>∃j:Nat,x=j/\j<=f.imps.length/\plIs (f.imps.drop j) (g.imps.drop j)=plIs f.imps g.imps,fun x=>f.imps.length-x.toNat,⟨0,rfl,Nat.zero_le _,rfl⟩,?_,trivial⟩;rintro x ⟨j,rfl,hj,hrj⟩;refine⟨fun hcj=>?_,fun hcj=>?_⟩
 ·have k1:j<f.imps.length:=by have:=of_tlt hcj;simp at this;omega
  have k2:j<g.imps.length:=by omega
  rw[Yab k1,Yab k2,plIs]at hrj;have g1:=Ydm (x:=(j:Int)) rfl k1;have g2:=Ydm (x:=(j:Int)) rfl k2;have hab:=Yhx hI k1 k2;unfold eqI at hab;simp only[Bool.and_eq_true,beq_iff_eq]at hab;simp only[g1,g2,Ybd,i0,i1,i2,isK_int,Yae,Yal,dint_int,Bool.or_true,true_and,hab.1,hab.2];refine⟨tle (by omega),teq rfl,tlt (by simp;omega),teq rfl,fun hn=>no ?_,fun hn=>⟨tle (by omega),tle (by have:=h.1.1;omega),⟨j+1,rfl,k1,?_⟩,dec k1⟩⟩
  ·have:plI f.imps[j] g.imps[j]=false:=by simpa[plI]using hn
   rw[<-hrj,this];rfl
  ·have:plI f.imps[j] g.imps[j]=true:=by simpa[plI]using hn
   rw[<-hrj,this];rfl
 ·have k1:f.imps.length<=j:=by have:=of_flt hcj;simp at this;omega
  rw[Yad k1,Yad (by omega)]at hrj;have h6:plIs f.imps g.imps=true:=by rw[<-hrj];simp[plIs]
  refine call1 (c84 _ _ h.1.2.1 (fun x hx=>(h.2 x hx).here) hD fun x hx=>(Yl8 x (h.2 x hx)).2) ⟨_,rfl,rfl,by rw[h6,h1];rfl,rfl⟩
end Go.Sy
end
section
open Go Go.Proofs Go.Ab Go.Rf
set_option linter.unusedSimpArgs false
set_option maxRecDepth 100000
namespace Go.Sy
theorem Ye7:∀{l:List Nd},(∀x∈l,eqE x x=true)->eqEs l l=true
 |[],_=>by rw[eqEs]
 |x::l,h=>by rw[eqEs,h x (List.mem_cons_self ..),Ye7 fun y hy=>h y (List.mem_cons_of_mem _ hy)];rfl
theorem Yc3:∀{l:List Nd},(∀x∈l,eqD x x=true)->eqDs l l=true
 |[],_=>by rw[eqDs]
 |x::l,h=>by rw[eqDs,h x (List.mem_cons_self ..),Yc3 fun y hy=>h y (List.mem_cons_of_mem _ hy)];rfl
theorem Ye8:∀{l:List Nd},(∀x∈l,plE x x=true)->plEs l l=true
 |[],_=>by rw[plEs];simp
 |x::l,h=>by rw[plEs,h x (List.mem_cons_self ..),Ye8 fun y hy=>h y (List.mem_cons_of_mem _ hy)];rfl
theorem Yc4:∀{l:List Nd},(∀x∈l,plD x x=true)->plDs l l=true
 |[],_=>by rw[plDs];simp
 |x::l,h=>by rw[plDs,h x (List.mem_cons_self ..),Yc4 fun y hy=>h y (List.mem_cons_of_mem _ hy)];rfl
theorem Yhy:∀r:Nd,(eqE r r=true/\eqD r r=true)/\plE r r=true/\plD r r=true:=by
 refine Yax fun r hs hd=>?_
 have a:=Ye7 fun x hx=>(hs x hx).1.1
 have b:=Yc3 fun x hx=>(hd x hx).1.2
 have c:=Ye8 fun x hx=>(hs x hx).2.1
 have d:=Yc4 fun x hx=>(hd x hx).2.2
 rw[Yek,Yel,Yi7,Yi8,a,b,c,d];simp
theorem Yhz(l:List Nd):eqDs l l=true:=Yc3 fun x _=>(Yhy x).1.2
theorem Yh0(l:List Nd):plDs l l=true:=Yc4 fun x _=>(Yhy x).2.2
theorem Ye9:∀l:List Im,eqIs l l=true
 |[]=>by rw[eqIs]
 |x::l=>by rw[eqIs,Ye9 l];simp[eqI]
theorem Yfa:∀l:List Im,plIs l l=true
 |[]=>by rw[plIs];simp
 |x::l=>by rw[plIs,Yfa l];simp[plI]
theorem Yis(f:Fl):(eqF f f&&plF f f)=true:=by
 unfold eqF plF;rw[Yhz,Yh0,Ye9,Yfa];simp
theorem Ygm{α:Type}{c:Bool}{l:List α}{n:Nat}(h:l.length<=n):(tl c l).length<=n:=Nat.le_trans (Ycc c l) h
theorem Yfb(p c:Bool)(l:List Nd):(mpEs p c l).length=l.length/\(mpDs p c l).length=l.length:=by rw[Yag,Yaa];simp
theorem Yku(p c:Bool):∀r:Nd,Lm r->Lm (mpE p c r)/\Lm (mpD p c r):=by
 refine Yax fun r hs hd hl=>?_
 have L:=hl.here;have m:=Yfb p c;rw[Yb7,Yb8];refine⟨.mk ⟨?_,?_,?_,?_⟩ (fun x hx=>?_) fun x hx=>?_,.mk ⟨?_,?_,?_,?_⟩ (fun x hx=>?_) fun x hx=>?_⟩
 ·show(mpEs p c r.subs).length<=_;rw[(m _).1];exact L.1
 ·show(mpDs p c r.decls).length<=_;rw[(m _).2];exact L.2.1
 ·exact Ygm L.2.2.1
 ·exact L.2.2.2
 ·have hx:x∈mpEs p c r.subs:=hx;rw[Yag]at hx;obtain⟨y,hy,rfl⟩:=List.mem_map.1 hx;exact(hs y hy (hl.sub hy)).1
 ·have hx:x∈mpDs p c r.decls:=hx;rw[Yaa]at hx;obtain⟨y,hy,rfl⟩:=List.mem_map.1 hx;exact(hd y hy (hl.dec hy)).2
 ·show(mpEs p c r.subs).length<=_;rw[(m _).1];exact L.1
 ·show(mpDs p c r.decls).length<=_;rw[(m _).2];exact L.2.1
 ·exact Ygm L.2.2.1
 ·exact Ygm L.2.2.2
 ·have hx:x∈mpEs p c r.subs:=hx;rw[Yag]at hx;obtain⟨y,hy,rfl⟩:=List.mem_map.1 hx;exact(hs y hy (hl.sub hy)).1
 ·have hx:x∈mpDs p c r.decls:=hx;rw[Yaa]at hx;obtain⟨y,hy,rfl⟩:=List.mem_map.1 hx;exact(hd y hy (hl.dec hy)).2
theorem Yh1(p c:Bool){l:List Nd}(h:∀x∈l,Lm x):∀x∈mpDs p c l,Lm x:=fun x hx=>by
 rw[Yaa]at hx;obtain⟨y,hy,rfl⟩:=List.mem_map.1 hx;exact(Yku p c y (h y hy)).2
theorem Yce{f:Fl}(h:LmF f):LmF (Yay f):=⟨⟨by simpa[Yay]using h.1.1,by show(mpDs true false f.decls).length<=_;rw[(Yfb _ _ _).2];exact h.1.2.1,h.1.2.2⟩,Yh1 _ _ h.2⟩
theorem Ycf{f:Fl}(h:LmF f):LmF (Ya5 f):=⟨⟨h.1.1,by show(mpDs false true f.decls).length<=_;rw[(Yfb _ _ _).2];exact h.1.2.1,by simp[Ya5]⟩,Yh1 _ _ h.2⟩
theorem Ykv{f:Fl}(h:BigF f):LmF f:=⟨h.1,fun x hx=>Ylm (h.2.2.2.2 x hx)⟩
theorem Yl9:∀r:Nd,((comE r).length:Int)<=wE r/\((comD r).length:Int)<=wD r:=by
 refine Yax fun r hs hd=>?_
 have kE:∀l:List Nd,(∀x∈l,x∈r.subs)->((Yak l).length:Int)<=wEs l:=by
  intro l
  induction l with
  |nil=>intro _;simp[Yak,wEs]
  |cons x l ih=>
   intro h;have:=ih fun y hy=>h y (List.mem_cons_of_mem _ hy)
   have:=(hs x (h x (List.mem_cons_self ..))).1;rw[Yak,wEs,List.length_append];push_cast;omega
 have kD:∀l:List Nd,(∀x∈l,x∈r.decls)->((Yac l).length:Int)<=wDs l:=by
  intro l
  induction l with
  |nil=>intro _;simp[Yac,wDs]
  |cons x l ih=>
   intro h;have:=ih fun y hy=>h y (List.mem_cons_of_mem _ hy)
   have:=(hd x (h x (List.mem_cons_self ..))).2;rw[Yac,wDs,List.length_append];push_cast;omega
 have a:=kE r.subs fun _ h=>h
 have b:=kD r.decls fun _ h=>h
 have o:=Yd4 r;have e1:=congrArg List.length (Yc0 r);have e2:=congrArg List.length (Yc1 r);have e3:(if r.trail=[]then[]else[r.trail]).length<=1:=by split<;>simp
 simp only[List.length_append]at e1 e2;rw[Ygr,Ygs];omega
theorem Yh2:∀l:List Nd,((Yac l).length:Int)<=wDs l
 |[]=>by simp[Yac,wDs]
 |x::l=>by
  have:=Yh2 l;have:=(Yl9 x).2;rw[Yac,wDs,List.length_append];push_cast;omega
theorem Yjw{f:Fl}(hw:wfF f)(h:smF f=true):ShrF f/\(comF f).length<=200:=by
 obtain⟨h1,h2,h3,h4⟩:=Yi4 hw h;have a:=Yh2 f.decls;have b:=(Ycz (l:=f.decls) fun x _=>(Yge x).2).1;refine⟨⟨by omega,by omega,by omega,fun x hx=>Yki (h3 x hx)⟩,?_⟩;unfold comF;rw[List.length_append];omega
end Go.Sy
end
section
open Go Go.Proofs Go.Ab Go.Rf
set_option linter.unusedSimpArgs false
set_option linter.unusedVariables false
set_option maxRecDepth 100000
namespace Go.Sy
theorem Ybe(p c:Bool)(r:Nd):((mpE p c r).kind=r.kind/\(mpE p c r).num=r.num/\(mpE p c r).text=r.text/\(mpE p c r).n0=r.n0/\(mpE p c r).n1=r.n1/\(mpE p c r).tail=tl c r.tail/\(mpE p c r).subs=mpEs p c r.subs/\(mpE p c r).decls=mpDs p c r.decls/\(mpE p c r).pos=ps p r.pos)/\
 ((mpD p c r).kind=r.kind/\(mpD p c r).num=r.num/\(mpD p c r).text=r.text/\(mpD p c r).n0=r.n0/\(mpD p c r).n1=r.n1/\(mpD p c r).tail=tl c r.tail/\(mpD p c r).subs=mpEs p c r.subs/\(mpD p c r).decls=mpDs p c r.decls/\(mpD p c r).lead=tl c r.lead/\(mpD p c r).trail=tl c r.trail/\(mpD p c r).pos=ps p r.pos):=by
 rw[Yb7,Yb8];exact⟨⟨rfl,rfl,rfl,rfl,rfl,rfl,rfl,rfl,rfl⟩,rfl,rfl,rfl,rfl,rfl,rfl,rfl,rfl,rfl,rfl,rfl⟩
theorem Yei(p c:Bool)(l:List Nd):(mpEs p c l).length=l.length:=(Yfb p c l).1
theorem Yc5(p c:Bool)(l:List Nd):(mpDs p c l).length=l.length:=(Yfb p c l).2
theorem Ykw(p c:Bool)(l:List Nd):(mpEs p c l).isEmpty=l.isEmpty:=by rw[Yag];cases l<;>rfl
theorem Yma(p c:Bool):∀r:Nd,∀lv,dpE (mpE p c r) lv=dpE r lv/\dpE (mpD p c r) lv=dpE r lv:=by
 refine Yax fun r hs hd lv=>?_
 have kE:∀(l:List Nd)(lv:Int),(∀x∈l,x∈r.subs)->dpEs (mpEs p c l) lv=dpEs l lv:=by
  intro l lv
  induction l with
  |nil=>intro _;rw[Yag];rfl
  |cons x l ih=>intro h;rw[Yag,List.map_cons,<-Yag,dpEs,dpEs,ih fun y hy=>h y (List.mem_cons_of_mem _ hy),(hs x (h x (List.mem_cons_self ..)) lv).1]
 have kD:∀(l:List Nd)(lv:Int),(∀x∈l,x∈r.decls)->dpDs (mpDs p c l) lv=dpDs l lv:=by
  intro l lv
  induction l with
  |nil=>intro _;rw[Yaa];rfl
  |cons x l ih=>intro h;rw[Yaa,List.map_cons,<-Yaa,dpDs,dpDs,ih fun y hy=>h y (List.mem_cons_of_mem _ hy),(hd x (h x (List.mem_cons_self ..)) lv).2]
 obtain⟨⟨_,_,_,_,_,_,a7,a8,_⟩,⟨_,_,_,_,_,_,b7,b8,_⟩⟩:=Ybe p c r;rw[Ye3 (mpE p c r),Ye3 (mpD p c r),Ye3 r,a7,a8,b7,b8,kE _ _ fun _ h=>h,kD _ _ fun _ h=>h];exact⟨rfl,rfl⟩
theorem Yfq(p c:Bool):∀(l:List Nd)(lv:Int),dpDs (mpDs p c l) lv=dpDs l lv
 |[],_=>by rw[Yaa];rfl
 |x::l,lv=>by rw[Yaa,List.map_cons,<-Yaa,dpDs,dpDs,Yfq p c l lv,(Yma p c x lv).2]
def Le(c a b:Bool):Prop:=if c then(a=true->b=true)else a=b
theorem Le.rfl{c a:Bool}:Le c a a:=by unfold Le;split;exact id;rfl
theorem Le.and{c a b a' b':Bool}(h:Le c a a')(h':Le c b b'):Le c (a&&b) (a'&&b'):=by
 unfold Le at*;cases c<;>simp_all
theorem Yh3(c:Bool)(l:List Tx):Le c (lnsV l) (lnsV (tl c l)):=by cases c;exact Le.rfl;unfold Le tl lnsV;simp
theorem Yjx(c:Bool)(s:Tx):Le c (lnsV [s]) (lnsV [tl c s]):=by cases c;exact Le.rfl;unfold Le tl lnsV lnV;simp
theorem Yh4(c x:Bool)(l:List Tx)(n:Int)(h0:0<=n):Le c (x||(n+(l.length:Int)==0)) (x||(n+((tl c l).length:Int)==0)):=by
 cases c
 ·exact Le.rfl
 ·unfold Le tl;cases x
  ·simp;intro h;omega
  ·simp
theorem Yit(p c:Bool)(r:Nd)(cj io il:Bool):Le c (Yeh r cj io il) (Yeh (mpE p c r) cj io il):=by
 obtain⟨⟨a1,a2,a3,a4,a5,a6,a7,a8,a9⟩,_⟩:=Ybe p c r;unfold Yeh;rw[a1,a2,a3,a4,a5,a6,a7,a8,Yei,Yc5];exact((Le.rfl).and ((Yh4 c _ _ _ (by omega)).and (Yh3 c _))).and Le.rfl
theorem Yiu(p c:Bool)(r:Nd)(sc:Bool):Le c (Ye2 r sc) (Ye2 (mpD p c r) sc):=by
 obtain⟨_,a1,a2,a3,a4,a5,a6,a7,a8,a9,a10,a11⟩:=Ybe p c r;unfold Ye2;rw[a1,a2,a3,a4,a5,a6,a7,a8,a9,a10,Yei,Yc5];exact(((Le.rfl).and ((Yh3 c _).and ((Yh3 c _).and ((Yjx c _).and (Yh4 c _ _ _ (by omega)))))).and Le.rfl).and Le.rfl
theorem Ymb(p c:Bool):∀r:Nd,(∀cj io il,Le c (okE r cj io il) (okE (mpE p c r) cj io il))/\ ∀sc,Le c (okD r sc) (okD (mpD p c r) sc):=by
 refine Yax fun r hs hd=>?_
 have kE:∀(l:List Nd),(∀x∈l,x∈r.subs)-> ∀cj io il il2,Le c (okEs l cj io il il2) (okEs (mpEs p c l) cj io il il2):=by
  intro l
  induction l with
  |nil=>intro _ cj io il il2;rw[Yag];exact Le.rfl
  |cons x l ih=>
   intro h cj io il il2;rw[Yag,List.map_cons,<-Yag,okEs,okEs,Ykw];exact((hs x (h x (List.mem_cons_self ..))).1 _ _ _).and (ih (fun y hy=>h y (List.mem_cons_of_mem _ hy)) _ _ _ _)
 have kF:∀(l:List Nd),(∀x∈l,x∈r.subs)-> ∀cj,Le c (okFs l cj) (okFs (mpEs p c l) cj):=by
  intro l
  induction l with
  |nil=>intro _ cj;rw[Yag];exact Le.rfl
  |cons x l ih=>
   intro h cj;rw[Yag,List.map_cons,<-Yag,okFs,okFs];exact((hs x (h x (List.mem_cons_self ..))).1 _ _ _).and (ih (fun y hy=>h y (List.mem_cons_of_mem _ hy)) _)
 have kD:∀(l:List Nd),(∀x∈l,x∈r.decls)-> ∀sc,Le c (okDs l sc) (okDs (mpDs p c l) sc):=by
  intro l
  induction l with
  |nil=>intro _ sc;rw[Yaa];exact Le.rfl
  |cons x l ih=>
   intro h sc;rw[Yaa,List.map_cons,<-Yaa,okDs,okDs];exact((hd x (h x (List.mem_cons_self ..))).2 _).and (ih (fun y hy=>h y (List.mem_cons_of_mem _ hy)) _)
 obtain⟨⟨a1,a2,a3,a4,a5,a6,a7,a8,a9⟩,b1,b2,b3,b4,b5,b6,b7,b8,b9,b10,b11⟩:=Ybe p c r;refine⟨fun cj io il=>?_,fun sc=>?_⟩
 ·rw[Yho r,Yho (mpE p c r),a1,a2,a7,a8];exact((Yit p c r cj io il).and (kE _ (fun _ h=>h) _ _ _ _)).and (kD _ (fun _ h=>h) _)
 ·rw[Yhp r,Yhp (mpD p c r),b1,b7,b8];exact((Yiu p c r sc).and (kF _ (fun _ h=>h) _)).and (kD _ (fun _ h=>h) _)
theorem Yfr(p c:Bool):∀(l:List Nd)(sc:Bool),Le c (okDs l sc) (okDs (mpDs p c l) sc)
 |[],sc=>by rw[Yaa];exact Le.rfl
 |x::l,sc=>by rw[Yaa,List.map_cons,<-Yaa,okDs,okDs];exact((Ymb p c x).2 sc).and (Yfr p c l sc)
theorem Yh5(f:Fl):verF (Yay f)=verF f:=by
 have h:=Yfr true false f.decls true;unfold Le at h;have h:okDs f.decls true=okDs (mpDs true false f.decls) true:=by simpa using h
 unfold verF okFl Yay;simp only[Yfq,<-h,List.all_map];rfl
theorem Yh6(f:Fl)(h:verF f=0):verF (Ya5 f)=0:=by
 have h2:=Yfr false true f.decls true;unfold Le at h2;have h2:okDs f.decls true=true->okDs (mpDs false true f.decls) true=true:=by simpa using h2
 unfold verF verV at*
 have hok:okFl f=true:=by
  cases hk:okFl f with
  |true=>rfl
  |false=>rw[hk]at h;simp at h
 have hd:dpDs f.decls 1=false:=by
  cases hk:dpDs f.decls 1 with
  |false=>rfl
  |true=>rw[hok,hk]at h;simp at h
 have:okFl (Ya5 f)=true:=by
  unfold okFl Ya5 at*;simp only[Bool.and_eq_true]at hok⊢;exact⟨⟨⟨hok.1.1.1,by simp[lnsV]⟩,hok.1.2⟩,h2 hok.2⟩
 rw[this];show(if(!true)=true then(11:Int)else if dpDs (mpDs false true f.decls) 1=true then 9 else 0)=0
 rw[Yfq,hd];rfl
end Go.Sy
end
section
open Go Go.Proofs Go.Ab Go.Rf
set_option linter.unusedSimpArgs false
set_option linter.unusedVariables false
set_option maxRecDepth 100000
namespace Go.Sy
theorem Yiv{α:Type}(c c':Bool)(l:List α):tl c (tl c' l)=tl (c||c') l:=by cases c<;>cases c'<;>rfl
theorem Ykx(p p':Bool)(n:Int):ps p (ps p' n)=ps (p||p') n:=by cases p<;>cases p'<;>rfl
theorem Ymc(p c p' c':Bool):∀r:Nd,mpE p c (mpE p' c' r)=mpE (p||p') (c||c') r/\mpD p c (mpD p' c' r)=mpD (p||p') (c||c') r:=by
 refine Yax fun r hs hd=>?_
 have a:mpEs p c (mpEs p' c' r.subs)=mpEs (p||p') (c||c') r.subs:=by
  rw[Yag,Yag,Yag,List.map_map];exact List.map_congr_left fun x hx=>(hs x hx).1
 have b:mpDs p c (mpDs p' c' r.decls)=mpDs (p||p') (c||c') r.decls:=by
  rw[Yaa,Yaa,Yaa,List.map_map];exact List.map_congr_left fun x hx=>(hd x hx).2
 constructor
 ·rw[Yb7 p' c' r,Yb7 p c,Yb7 (p||p')];simp only[Nd.mk.injEq];exact⟨rfl,rfl,rfl,rfl,rfl,rfl,rfl,Yiv _ _ _,Ykx _ _ _,a,b⟩
 ·rw[Yb8 p' c' r,Yb8 p c,Yb8 (p||p')];simp only[Nd.mk.injEq];exact⟨rfl,rfl,rfl,rfl,rfl,Yiv _ _ _,Yiv _ _ _,Yiv _ _ _,Ykx _ _ _,a,b⟩
theorem Yej(p c p' c':Bool)(l:List Nd):mpDs p c (mpDs p' c' l)=mpDs (p||p') (c||c') l:=by
 rw[Yaa,Yaa,Yaa,List.map_map];exact List.map_congr_left fun x _=>(Ymc p c p' c' x).2
theorem Ymd(p c:Bool):∀r:Nd,(wfE r->wfE (mpE p c r))/\(wfD r->wfD (mpD p c r)):=by
 refine Yax fun r hs hd=>?_
 have a:wfEs r.subs->wfEs (mpEs p c r.subs):=fun h=>by
  rw[Ycs]at h⊢;rw[Yag];intro x hx;obtain⟨y,hy,rfl⟩:=List.mem_map.1 hx;exact(hs y hy).1 (h y hy)
 have b:wfDs r.decls->wfDs (mpDs p c r.decls):=fun h=>by
  rw[Yb1]at h⊢;rw[Yaa];intro x hx;obtain⟨y,hy,rfl⟩:=List.mem_map.1 hx;exact(hd y hy).2 (h y hy)
 refine⟨fun h=>?_,fun h=>?_⟩
 ·rw[Ygt]at h⊢;rw[Yb7];exact⟨h.1,a h.2.1,b h.2.2⟩
 ·rw[Ygu]at h⊢;rw[Yb8];exact⟨a h.1,b h.2⟩
theorem Yh7(p c:Bool){l:List Nd}(h:wfDs l):wfDs (mpDs p c l):=by
 rw[Yb1]at h⊢;rw[Yaa];intro x hx;obtain⟨y,hy,rfl⟩:=List.mem_map.1 hx;exact(Ymd p c y).2 (h y hy)
theorem Yiw{l:List Nd}(ih:∀x∈l,∀y,wfE x->wfE y->(eqE x y=true↔mpE true false x=mpE true false y)):∀{m:List Nd},wfEs l->wfEs m->(eqEs l m=true↔mpEs true false l=mpEs true false m):=by
 induction l with
 |nil=>intro m _ _;cases m<;>simp[eqEs,mpEs]
 |cons x l ih2=>
  intro m h1 h2;cases m with
  |nil=>simp[eqEs,mpEs]
  |cons y m=>
   rw[wfEs]at h1 h2;rw[eqEs,mpEs,mpEs,Bool.and_eq_true,ih x (List.mem_cons_self ..) y h1.1 h2.1,ih2 (fun z hz=>ih z (List.mem_cons_of_mem _ hz)) h1.2 h2.2,List.cons.injEq]
theorem Yfc{l:List Nd}(ih:∀x∈l,∀y,wfD x->wfD y->(eqD x y=true↔mpD true false x=mpD true false y)):∀{m:List Nd},wfDs l->wfDs m->(eqDs l m=true↔mpDs true false l=mpDs true false m):=by
 induction l with
 |nil=>intro m _ _;cases m<;>simp[eqDs,mpDs]
 |cons x l ih2=>
  intro m h1 h2;cases m with
  |nil=>simp[eqDs,mpDs]
  |cons y m=>
   rw[wfDs]at h1 h2;rw[eqDs,mpDs,mpDs,Bool.and_eq_true,ih x (List.mem_cons_self ..) y h1.1 h2.1,ih2 (fun z hz=>ih z (List.mem_cons_of_mem _ hz)) h1.2 h2.2,List.cons.injEq]
theorem Yky:∀r:Nd,(∀y,wfE r->wfE y->(eqE r y=true↔mpE true false r=mpE true false y))/\ ∀y,wfD r->wfD y->(eqD r y=true↔mpD true false r=mpD true false y):=by
 refine Yax fun r hs hd=>?_
 have a:=fun{m}=>Yiw (fun x hx=>(hs x hx).1) (m:=m)
 have b:=fun{m}=>Yfc (fun x hx=>(hd x hx).2) (m:=m)
 refine⟨fun y h1 h2=>?_,fun y h1 h2=>?_⟩
 ·rw[Ygt]at h1 h2;rw[Yek,Yb7,Yb7];simp only[Bool.and_eq_true,Nd.mk.injEq,beq_iff_eq,decide_eq_true_eq,a h1.2.1 h2.2.1,b h1.2.2 h2.2.2,tl,ps,h1.1.1,h1.1.2,h2.1.1,h2.1.2];simp only[Bool.false_eq_true,if_false,if_true,true_and];constructor
  ·rintro⟨⟨⟨⟨⟨⟨⟨a1,a2⟩,a3⟩,a4⟩,a5⟩,a6⟩,a7⟩,a8⟩;exact⟨a1,a3,a2,a4,a5,a6,a7,a8⟩
  ·rintro⟨a1,a3,a2,a4,a5,a6,a7,a8⟩;exact⟨⟨⟨⟨⟨⟨⟨a1,a2⟩,a3⟩,a4⟩,a5⟩,a6⟩,a7⟩,a8⟩
 ·rw[Ygu]at h1 h2;rw[Yel,Yb8,Yb8];simp only[Bool.and_eq_true,Nd.mk.injEq,beq_iff_eq,decide_eq_true_eq,a h1.1 h2.1,b h1.2 h2.2,tl,ps];simp only[Bool.false_eq_true,if_false,if_true,true_and];constructor
  ·rintro⟨⟨⟨⟨⟨⟨⟨⟨⟨a1,a2⟩,a3⟩,a4⟩,a5⟩,a6⟩,a7⟩,a8⟩,a9⟩,a10⟩;exact⟨a1,a2,a3,a4,a5,a6,a7,a8,a9,a10⟩
  ·rintro⟨a1,a2,a3,a4,a5,a6,a7,a8,a9,a10⟩;exact⟨⟨⟨⟨⟨⟨⟨⟨⟨a1,a2⟩,a3⟩,a4⟩,a5⟩,a6⟩,a7⟩,a8⟩,a9⟩,a10⟩
theorem Yf9:∀{l m:List Im},eqIs l m=true↔l.map stI=m.map stI
 |[],[]=>by simp[eqIs]
 |[],_::_=>by simp[eqIs]
 |_::_,[]=>by simp[eqIs]
 |a::l,b::m=>by rw[eqIs,Bool.and_eq_true,Yf9 (l:=l),List.map_cons,List.map_cons,List.cons.injEq];simp[eqI,stI]
theorem Yh8{f g:Fl}(hf:wfF f)(hg:wfF g):eqF f g=true↔Yay f=Yay g:=by
 unfold eqF Yay;simp only[Bool.and_eq_true,beq_iff_eq,decide_eq_true_eq,Yf9,Fl.mk.injEq,Yfc (fun x _=>(Yky x).2) hf hg];constructor
 ·rintro⟨⟨⟨a,b⟩,c⟩,d⟩;exact⟨a,b,c,d⟩
 ·rintro⟨a,b,c,d⟩;exact⟨⟨⟨a,b⟩,c⟩,d⟩
theorem Ykz(l:List Im):(l.map stI).map stI=l.map stI:=by rw[List.map_map];rfl
theorem Yi9(f:Fl):Yay (Yay f)=Yay f:=by
 unfold Yay;simp only[Fl.mk.injEq,Ykz,Yej,Bool.or_self,and_self]
theorem Yk0(f:Fl):Ya5 (Ya5 f)=Ya5 f:=by
 unfold Ya5;simp only[Fl.mk.injEq,Yej,Bool.or_self,and_self]
theorem Yfs(f:Fl):Yay (Ya5 f)=Ya5 (Yay f):=by
 unfold Ya5 Yay;simp only[Fl.mk.injEq,Yej,Bool.or_self,and_self,Bool.or_false,Bool.false_or,Bool.or_true,Bool.true_or]
theorem Yh9{f:Fl}(h:wfF f):wfF (Yay f):=Yh7 true false h
theorem Yfd{f:Fl}(h:wfF f):wfF (Ya5 f):=Yh7 false true h
theorem Ycp{f g:Fl}(h:f=g):(eqF f g&&plF f g)=true:=by subst h;exact Yis f
theorem Yda{α β:Type}{f g:α->List β}:∀{l:List α},(∀x∈l,f x=g x)->l.flatMap f=l.flatMap g
 |[],_=>rfl
 |x::l,h=>by rw[List.flatMap_cons,List.flatMap_cons,h x (List.mem_cons_self ..),Yda fun y hy=>h y (List.mem_cons_of_mem _ hy)]
theorem Yja(p:Bool):∀r:Nd,(comE (mpE p false r)=comE r/\comE (mpE p true r)=[])/\comD (mpD p false r)=comD r/\comD (mpD p true r)=[]:=by
 refine Yax fun r hs hd=>?_
 have a0:Yak (mpEs p false r.subs)=Yak r.subs:=by
  rw[Ya9,Ya9,Yag,List.flatMap_map];exact Yda fun x hx=>(hs x hx).1.1
 have b0:Yac (mpDs p false r.decls)=Yac r.decls:=by
  rw[Yav,Yav,Yaa,List.flatMap_map];exact Yda fun x hx=>(hd x hx).2.1
 have a1:Yak (mpEs p true r.subs)=[]:=by
  rw[Ya9,Yag,List.flatMap_map,List.flatMap_eq_nil_iff];exact fun x hx=>(hs x hx).1.2
 have b1:Yac (mpDs p true r.decls)=[]:=by
  rw[Yav,Yaa,List.flatMap_map,List.flatMap_eq_nil_iff];exact fun x hx=>(hd x hx).2.2
 refine⟨⟨?_,?_⟩,?_,?_⟩
 ·rw[Yc0,Yc0 r,(Ybe p false r).1.2.2.2.2.2.2.1,(Ybe p false r).1.2.2.2.2.2.2.2.1,(Ybe p false r).1.2.2.2.2.2.1,a0,b0];rfl
 ·rw[Yc0,(Ybe p true r).1.2.2.2.2.2.2.1,(Ybe p true r).1.2.2.2.2.2.2.2.1,(Ybe p true r).1.2.2.2.2.2.1,a1,b1];rfl
 ·obtain⟨_,_,_,_,_,_,q6,q7,q8,q9,q10,_⟩:=Ybe p false r;rw[Yc1,Yc1 r,q6,q7,q8,q9,q10,a0,b0];rfl
 ·obtain⟨_,_,_,_,_,_,q6,q7,q8,q9,q10,_⟩:=Ybe p true r;rw[Yc1,q6,q7,q8,q9,q10,a1,b1];rfl
theorem Yft(p:Bool)(l:List Nd):Yac (mpDs p false l)=Yac l:=by
 rw[Yav,Yav,Yaa,List.flatMap_map];exact Yda fun x _=>(Yja p x).2.1
theorem Yfu(p:Bool)(l:List Nd):Yac (mpDs p true l)=[]:=by
 rw[Yav,Yaa,List.flatMap_map,List.flatMap_eq_nil_iff];exact fun x _=>(Yja p x).2.2
theorem Yc6(f:Fl):comF (Ya5 f)=[]:=by unfold comF Ya5;simp only[Yfu,List.append_nil]
theorem Ydy(f:Fl):comF (Yay f)=comF f:=by unfold comF Yay;simp only[Yft]
theorem Yga{α:Type}{l:List α}(h:l=[]):tl false l=tl true l:=by subst h;rfl
theorem Yix(p:Bool):∀r:Nd,(comE r=[]->mpE p false r=mpE p true r)/\(comD r=[]->mpD p false r=mpD p true r):=by
 refine Yax fun r hs hd=>?_
 have a:Yak r.subs=[]->mpEs p false r.subs=mpEs p true r.subs:=fun h=>by
  rw[Ya9,List.flatMap_eq_nil_iff]at h;rw[Yag,Yag];exact List.map_congr_left fun x hx=>(hs x hx).1 (h x hx)
 have b:Yac r.decls=[]->mpDs p false r.decls=mpDs p true r.decls:=fun h=>by
  rw[Yav,List.flatMap_eq_nil_iff]at h;rw[Yaa,Yaa];exact List.map_congr_left fun x hx=>(hd x hx).2 (h x hx)
 refine⟨fun h=>?_,fun h=>?_⟩
 ·rw[Yc0,List.append_eq_nil_iff,List.append_eq_nil_iff]at h;rw[Yb7,Yb7,a h.1.1,b h.1.2,Yga h.2]
 ·rw[Yc1,List.append_eq_nil_iff,List.append_eq_nil_iff,List.append_eq_nil_iff,List.append_eq_nil_iff]at h;obtain⟨⟨⟨⟨h1,h2⟩,h3⟩,h4⟩,h5⟩:=h
  have h6:r.trail=[]:=by
   by_cases ht:r.trail=[]
   ·exact ht
   ·rw[if_neg ht]at h5;cases h5
  rw[Yb8,Yb8,a h2,b h3,Yga h1,Yga h4,Yga h6]
theorem Yiy{f:Fl}(h:wfF f):eqF f (Ya5 f)=decide (comF f=[]):=by
 rw[Bool.eq_iff_iff,Yh8 h (Yfd h),decide_eq_true_eq];constructor
 ·intro e;rw[<-Ydy,e,Ydy,Yc6]
 ·intro e;unfold comF at e;rw[List.append_eq_nil_iff]at e
  have:mpDs true false f.decls=mpDs true true f.decls:=by
   have:=e.1;rw[Yav,List.flatMap_eq_nil_iff]at this;rw[Yaa,Yaa];exact List.map_congr_left fun x hx=>(Yix true x).2 (this x hx)
  unfold Yay Ya5;simp only[Yej,Bool.or_false,Bool.or_true,Bool.false_or,Bool.true_or,this,e.2]
end Go.Sy
end
section
open Go Go.Proofs Go.Ab Go.Rf
set_option linter.unusedSimpArgs false
set_option maxRecDepth 100000
namespace Go.Sy
theorem Ygb(p c:Bool):∀l:List Nd,sizes (mpDs p c l)=sizes l/\sizes (mpEs p c l)=sizes l:=by
 have key:∀r:Nd,size (mpE p c r)=size r/\size (mpD p c r)=size r:=by
  refine Yax fun r hs hd=>?_
  have kE:∀l:List Nd,(∀x∈l,x∈r.subs)->sizes (mpEs p c l)=sizes l:=by
   intro l
   induction l with
   |nil=>intro _;rw[Yag];rfl
   |cons x l ih=>intro h;rw[Yag,List.map_cons,<-Yag,sizes,sizes,ih fun y hy=>h y (List.mem_cons_of_mem _ hy),(hs x (h x (List.mem_cons_self ..))).1]
  have kD:∀l:List Nd,(∀x∈l,x∈r.decls)->sizes (mpDs p c l)=sizes l:=by
   intro l
   induction l with
   |nil=>intro _;rw[Yaa];rfl
   |cons x l ih=>intro h;rw[Yaa,List.map_cons,<-Yaa,sizes,sizes,ih fun y hy=>h y (List.mem_cons_of_mem _ hy),(hd x (h x (List.mem_cons_self ..))).2]
  obtain⟨⟨_,_,_,_,_,_,a7,a8,_⟩,⟨_,_,_,_,_,_,b7,b8,_⟩⟩:=Ybe p c r;rw[size_eq (mpE p c r),size_eq (mpD p c r),size_eq r,a7,a8,b7,b8,kE _ fun _ h=>h,kD _ fun _ h=>h];exact⟨rfl,rfl⟩
 intro l
 induction l with
 |nil=>rw[Yaa,Yag];exact⟨rfl,rfl⟩
 |cons x l ih=>rw[Yaa,List.map_cons,<-Yaa,Yag,List.map_cons,<-Yag,sizes,sizes,sizes,ih.1,ih.2,(key x).1,(key x).2];exact⟨rfl,rfl⟩
theorem Yiz{f:Fl}(hw:wfF f)(h:smF f=true):sizes f.decls<=1000:=by
 have:=(Yi4 hw h).2.2.2;have:=Yhv f.decls;omega
theorem Yk1(p c:Bool):∀r:Nd,All Shr r->All Shr (mpE p c r)/\All Shr (mpD p c r):=by
 refine Yax fun r hs hd hl=>?_
 have L:=hl.here;rw[Yb7,Yb8]
 have a:∀x∈mpEs p c r.subs,All Shr x:=fun x hx=>by
  rw[Yag]at hx;obtain⟨y,hy,rfl⟩:=List.mem_map.1 hx;exact(hs y hy (hl.sub hy)).1
 have b:∀x∈mpDs p c r.decls,All Shr x:=fun x hx=>by
  rw[Yaa]at hx;obtain⟨y,hy,rfl⟩:=List.mem_map.1 hx;exact(hd y hy (hl.dec hy)).2
 refine⟨.mk ⟨?_,?_,Ygm L.2.2.1,L.2.2.2⟩ a b,.mk ⟨?_,?_,Ygm L.2.2.1,Ygm L.2.2.2⟩ a b⟩
 ·show(mpEs p c r.subs).length<=_;rw[Yei];exact L.1
 ·show(mpDs p c r.decls).length<=_;rw[Yc5];exact L.2.1
 ·show(mpEs p c r.subs).length<=_;rw[Yei];exact L.1
 ·show(mpDs p c r.decls).length<=_;rw[Yc5];exact L.2.1
theorem Ygc(p c:Bool){l:List Nd}(h:∀x∈l,All Shr x):∀x∈mpDs p c l,All Shr x:=fun x hx=>by
 rw[Yaa]at hx;obtain⟨y,hy,rfl⟩:=List.mem_map.1 hx;exact(Yk1 p c y (h y hy)).2
theorem Ydz{f:Fl}(h:ShrF f):ShrF (Yay f):=⟨by simpa[Yay]using h.1,by show(mpDs true false f.decls).length<=_;rw[Yc5];exact h.2.1,h.2.2.1,Ygc _ _ h.2.2.2⟩
theorem Yd0{f:Fl}(h:ShrF f):ShrF (Ya5 f):=⟨h.1,by show(mpDs false true f.decls).length<=_;rw[Yc5];exact h.2.1,by simp[Ya5],Ygc _ _ h.2.2.2⟩
theorem c7(f:Fl)(hf:BigF f)(wf:wfF f):Holds Tryz.prog 7 [.agg (Ybp f)] [] (Ret (Yaf true)):=by
 have stop:∀_:Nat->Nat,Holds Tryz.prog 13 [] [] (Ret (Yaf true)):=fun _=>c13
 refine w7 _ ⟨teq rfl,call1 (c12 f hf) ⟨_,rfl,rfl,fun _=>call1 c13 ⟨_,rfl,rfl,rfl,rfl⟩,fun h1=>?_⟩⟩;have h1:=nb0 h1;obtain⟨sf,cf⟩:=Yjw wf h1;have lf:=Ykv hf;have zf:=Yiz wf h1;have zs:sizes (Yay f).decls<=2^40:=by show sizes (mpDs true false f.decls)<=_;rw[(Ygb _ _ _).1];omega
 have zp:sizes (Ya5 f).decls<=2^40:=by show sizes (mpDs false true f.decls)<=_;rw[(Ygb _ _ _).1];omega
 have ws:=Yh9 wf;have wp:=Yfd wf;refine⟨_,fun _=>c28 f sf,_,fun _=>c29 f sf,teq rfl,teq rfl,_,fun _=>c28 _ (Ydz sf),_,fun _=>c30 _ _ (Yce (Yce lf)),fun _=>?_,fun h=>by rw[Ycp (Yi9 f)]at h;cases h⟩;refine⟨_,fun _=>c29 _ (Yd0 sf),_,fun _=>c30 _ _ (Ycf (Ycf lf)),fun _=>?_,fun h=>by rw[Ycp (Yk0 f)]at h;cases h⟩;refine⟨_,fun _=>c28 _ (Yd0 sf),_,fun _=>c29 _ (Ydz sf),_,fun _=>c30 _ _ (Yce (Ycf lf)),fun _=>?_,fun h=>by rw[Ycp (Yfs f)]at h;cases h⟩;have e1:eqF (Yay f) f=true:=(Yh8 ws wf).2 (Yi9 f);refine call1 (c19 _ _ (Yce lf)) ⟨_,rfl,rfl,fun _=>?_,fun h=>by rw[e1]at h;cases h⟩;refine call1 (c31 _ (by rw[Yc6];simp) (Ycf lf)) ⟨_,rfl,rfl,fun h=>by rw[Yc6]at h;simp[txs]at h,fun _=>?_⟩;refine⟨_,fun _=>c14 _ (Yce lf) zs,_,fun _=>c14 f lf (by omega),fun _=>?_,fun h=>by rw[Yh5]at h;simp at h⟩;have e2:=Yiy wf
 have last:∀b,(!(eqF f (Ya5 f)==(tB (((txs (comF f)).length:Int)==(0:Int)))))=b->b=false:=fun b h=>by
  subst h;rw[e2];cases hc:comF f<;>simp[txs];omega
 refine⟨_,fun _=>c14 f lf (by omega),fun h=>?_,fun _=>?_⟩
 ·have h0:verF f=0:=of_teq h;refine⟨_,fun _=>c14 _ (Ycf lf) zp,fun _=>?_,fun h=>by rw[Yh6 f h0]at h;simp at h⟩;refine⟨_,fun _=>c19 f _ lf,call1 (c31 f (by omega) lf) ⟨_,rfl,rfl,fun h=>(by have:=last _ h;cases this),fun _=>call1 c13 ⟨_,rfl,rfl,rfl,rfl⟩⟩⟩
 ·refine⟨_,fun _=>c19 f _ lf,call1 (c31 f (by omega) lf) ⟨_,rfl,rfl,fun h=>(by have:=last _ h;cases this),fun _=>call1 c13 ⟨_,rfl,rfl,rfl,rfl⟩⟩⟩
end Go.Sy
end
section
open Go Go.Proofs Go.Ab Go.Rf Go.ChangeShapes Go.WideShapes Go.ChangeAt Go.Proofs.YtpcnadmaeebhbaaGreatDoor
set_option maxRecDepth 100000
namespace Go.Sy
theorem Yia(os:Os):laidMet Tryz.prog Rows.syntaxLawsRow.laid ((Ydf os).forCall (fun _ _=>0) ⟨#[],#[zF],[]⟩).memory:=
 laidMet_of_run' 8 (by kernel_rfl) (by kernel_rfl)
theorem Yk2(os:Os){H:Type}(en:TypeId×Value->H):∃places,DataW.whole en Tryz.prog ((Ydf os).forCall (fun _ _=>0) ⟨#[],#[zF],[]⟩).memory Tryz.f7.params.toList Rows.syntaxLawsSpec.vars false #[zF].toList 8=some ([dF],[],places):=
 ⟨[],by kernel_rfl⟩
theorem Yjy(os:Os)(started:os.Started)(H:Type)(en:TypeId×Value->H)(F:Stop.Interp):
 ReturnsInHanded {} Tryz.checked os 7 .any ((OpenSpec.ofChange Rows.syntaxLawsSpec).preRow en Tryz.prog Tryz.f7 Rows.syntaxLawsRow.domain false Rows.syntaxLawsRow.laid) (((OpenSpec.ofChange Rows.syntaxLawsSpec).at F).post en Tryz.prog Tryz.f7 false true false false):=by
 obtain⟨places,hx⟩:=Yk2 os en
 refine returnsInHanded_of_row (C:=Tryz.checked) (s:=OpenSpec.ofChange Rows.syntaxLawsSpec) own started (by kernel_rfl) Tryz.func7
  (witness_row_at (enc:=en) (C:=Tryz.checked) false (Ydf os) #[zF] rfl (by kernel_rfl) (by kernel_rfl) (by kernel_rfl)
   (OpenSpec.preRow_of_cond 8 hx (by kernel_rfl) (fun k hk=>by cases hk) (by kernel_rfl) (Yia os))) ?_
 intro W base args ds gs before hval0 hW _ _ hsz0 hL _ _;have hval:∀(j:Nat) t v,Tryz.f7.params[j]? =some t->args[j]? =some v->Value.okWide Tryz.prog W .any base t v:=hval0;have hW':DataW.Whole en Tryz.prog Tryz.f7.params.toList Rows.syntaxLawsSpec.vars false W args.toList ds gs before:=hW;obtain⟨p,q,hA0,hV,rfl,hfz,hnd⟩:=hW;have hA:DataW.TrodAll en Tryz.prog W 0 (fun _=>true) true Tryz.f7.params.toList args.toList ds p:=hA0;have hsz:(DataW.weightsEach Tryz.prog (Tryz.f7.params.toList++[]) (ds++gs)).all (· <=reachBytes)=true:=hsz0;rw[Tryz.params7]at hA hval hsz;obtain⟨v0,vs0,d0,ds0,p0,q0,hargs,rfl,rfl,h0,r0⟩:=trodAll_cons hA;obtain⟨rfl,rfl,rfl⟩:=trodAll_nil r0;obtain rfl:args= #[v0]:=by cases args;simp_all
 obtain⟨a0,k0,g0,e0⟩:=Ylo (hval 0 26 v0 rfl rfl) h0 (Ykf hsz (i:=0) rfl rfl);refine(Yfi Tryz.func7 rfl rfl (Holds.out (c7 a0 g0 e0) (w:=W) (cargs:= #[v0]) ⟨k0,trivial⟩)).mono fun e W' ⟨cv,g',he,hc,hb⟩=>?_
 have hc:cv=.bool true:=by cases hc;rfl
 subst hc;exact⟨_,he,Yif (s:=Rows.syntaxLawsSpec) rfl hW' rfl rfl lay (by kernel_rfl) hb⟩
theorem syntaxLaws_holds:Rows.SyntaxLawsSaid:=
 OpenClaim.holds_of_cond 7 Tryz.f7 rfl rfl rfl rfl rfl rfl rfl ⟨rfl,rfl,rfl,rfl,rfl⟩ rfl rfl rfl rfl rfl (by kernel_rfl) Tryz.func7 (by kernel_rfl)
  (of_decide_eq_true (by kernel_rfl)) (by unfold Func.isWrapper;first|(rw[if_pos (by decide+kernel)];kernel_rfl)|(rw[if_neg (by decide+kernel)];exact⟨rfl,rfl⟩))
  (fun os started H en _ F=>by rw[OpenClaim.pre_eq_preRow];exact Yjy os started H en F)
theorem plain7(f:FuncId)(fn:Func)(hf:Tryz.pinned.checked.prog.funcNamed "configlang/configlanglaw25.SyntaxLaws" =some f)(hfn:Tryz.pinned.checked.prog.funcs[f]? =some fn):
 true=Tryz.pinned.checked.prog.looks []/\ ∀(j:Nat) t,fn.params[j]? =some t->Tryz.pinned.checked.prog.wantsStandIn t=false:=by
 obtain rfl:f=7:=Option.some.inj ((show Tryz.prog.funcNamed "configlang/configlanglaw25.SyntaxLaws" =some 7 by kernel_rfl).symm.trans hf)|>.symm;obtain rfl:fn=Tryz.f7:=(Option.some.inj (Tryz.func7.symm.trans hfn)).symm;refine⟨by kernel_rfl,fun j t ht=>?_⟩;rw[Tryz.params7]at ht;have hm:t∈[26]:=by simpa using Array.mem_of_getElem? ht
 have hall:([26].all fun u=>!Tryz.prog.wantsStandIn u)=true:=by kernel_rfl
 exact(show Tryz.prog.wantsStandIn t=false by simpa using List.all_eq_true.1 hall t hm)
end Go.Sy
namespace Go.Proofs.YtpcnadmaeebhbaaGreatDoor
theorem syntaxLaws_proved:Rows.SyntaxLawsCardSaid:=
 Claim7.holds_tied_plain_at .later [] _ _ _ _ Go.Sy.syntaxLaws_holds (fun _ h=>by cases h) (by kernel_rfl) (fun _ h=>by cases h) syntaxLaws_row_tie rfl ⟨rfl,rfl⟩ (by kernel_rfl) rfl Go.Sy.plain7 (by kernel_rfl)
end Go.Proofs.YtpcnadmaeebhbaaGreatDoor
end
