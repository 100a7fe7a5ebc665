/- Proved: the given card SyntaxEquivalenceCardSaid, without conditions. -/
import Derived.Test.YtpcnadmaeebhbaaGreatDoorJaj
set_option linter.unusedVariables false
set_option linter.unusedSimpArgs false
section
open Go Go.Proofs Go.Ab Go.Rf
set_option maxRecDepth 100000
namespace Go.Rx
theorem Ydd:∀(n:Nat)(neg:Bool)(p:Nat->Bool)(t:List UInt8),t.length<n->setL n neg p t≠none
 |0,_,_,_,h=>by omega
 |n+1,neg,p,t,h=>by
  unfold setL;have h1:=Ycu 0 t;cases e1:Ybs 0 t with
  |bad q=>simp
  |ok lo t1=>
   rw[e1]at h1;dsimp only;have h2:=Yfw lo t1;cases e2:hiR lo t1 with
   |bad q=>simp
   |ok hi t3=>
    rw[e2]at h2;dsimp only;split
    ·simp
    ·refine Ydd n neg _ t3 ?_;have:=h1.1;have:=List.IsSuffix.length_le h2;omega
theorem Yg8(n:Nat)(t:List UInt8)(h:t.length<n):setR n t≠none:=by
 unfold setR;split
 ·exact Ydd _ _ _ _ (by simp;omega)
 ·split
  ·simp
  ·exact Ydd _ _ _ _ h
theorem Yep:∀(n:Nat)(r:Rx)(t:List UInt8),t.length<n->opsL n r t≠none
 |0,_,_,h=>by omega
 |n+1,r,t,h=>by
  unfold opsL;cases e:opX (hd t) r with
  |none=>simp
  |some r'=>
   have:=Yct (Ykh e);exact Yep n r' t.tail (by omega)
theorem Yih:∀n,(∀t,5*t.length+4<=n->alts n t≠none)/\(∀l t,5*t.length+4<=n->altL n l t≠none)/\(∀t,5*t.length+3<=n->seqs n t≠none)/\(∀l t,5*t.length+3<=n->seqL n l t≠none)/\
 (∀t,5*t.length+2<=n->Yb2 n t≠none)/\(∀t,5*t.length+1<=n->atom n t≠none):=by
 intro n
 induction n with
 |zero=>exact⟨fun t h=>by omega,fun l t h=>by omega,fun t h=>by omega,fun l t h=>by omega,fun t h=>by omega,fun t h=>by omega⟩
 |succ n ih=>
  obtain⟨ih1,ih2,ih3,ih4,ih5,ih6⟩:=ih;refine⟨fun t h=>?_,fun l t h=>?_,fun t h=>?_,fun l t h=>?_,fun t h=>?_,fun t h=>?_⟩
  ·unfold alts;cases e:seqs n t with
   |none=>exact absurd e (ih3 t (by omega))
   |some res=>cases res with
    |bad q=>simp
    |ok r t1=>have:=((Yby n).2.2.1 _ _ e).1;exact ih2 _ _ (by omega)
  ·unfold altL;split
   ·rename_i hc;have ht:=Yct (show hd t≠0 by omega);cases e:seqs n t.tail with
    |none=>exact absurd e (ih3 t.tail (by omega))
    |some res=>cases res with
     |bad q=>simp
     |ok r t1=>have:=((Yby n).2.2.1 _ _ e).1;exact ih2 _ _ (by omega)
   ·simp
  ·unfold seqs;cases e:Yb2 n t with
   |none=>exact absurd e (ih5 t (by omega))
   |some res=>cases res with
    |bad q=>simp
    |ok r t1=>have:=((Yby n).2.2.2.2.1 _ _ e).1;exact ih4 _ _ (by omega)
  ·unfold seqL;split
   ·cases e:Yb2 n t with
    |none=>exact absurd e (ih5 t (by omega))
    |some res=>cases res with
     |bad q=>simp
     |ok r t1=>have:=((Yby n).2.2.2.2.1 _ _ e).1;exact ih4 _ _ (by omega)
   ·simp
  ·unfold Yb2;cases e:atom n t with
   |none=>exact absurd e (ih6 t (by omega))
   |some res=>cases res with
    |bad q=>simp
    |ok r t1=>have:=((Yby n).2.2.2.2.2 _ _ e).1;exact Yep _ _ _ (by omega)
  ·unfold atom;have ht:hd t≠0->t.tail.length<t.length:=Yct;split
   ·rename_i hc;have ht:=ht (by omega);split
    ·simp
    ·cases e:alts n t.tail with
     |none=>exact absurd e (ih1 t.tail (by omega))
     |some res=>cases res<;>simp
   ·split
    ·rename_i hc;have ht:=ht (by omega);exact Yg8 _ _ (by omega)
    ·split
     ·simp
     ·split
      ·cases clsV (hd t.tail)with
       |some p=>simp
       |none=>dsimp only;cases escR 0 t.tail<;>simp
      ·split<;>simp
def Yde(t:List UInt8):Nat:=5*t.length+4
theorem Yg9(t:List UInt8):∃res,alts (Yde t) t=some res:=by
 have:=(Yih (Yde t)).1 t (Nat.le_refl _);cases h:alts (Yde t) t with
 |none=>exact absurd h this
 |some r=>exact⟨r,rfl⟩
def parseV(s:List UInt8):Rx×Int×Int:=
 if 1000<s.length then(mk0 0 [],2,0)else match alts (Yde s) s with
  |some (.ok r t)=>if t=[]then(if chk 1 r=9 then(mk0 0 [],9,0)else(r,0,0))else(mk0 0 [],8,(s.length:Int)-t.length)
  |some (.bad t)=>(mk0 0 [],8,(s.length:Int)-t.length)
  |none=>(mk0 0 [],0,0)
def pairA(x:Rx×Int×Int):A:=.tup [(true,enc x.1),(true,[.lit (.int .i64 x.2.1),.lit (.int .i64 x.2.2)])]
theorem Yb3{B:Nat}{k:Int}{l:List Rx}:lens B (mk0 k l)↔l.length<=B/\ ∀x∈l,lens B x:=Ycs
theorem Yca{B:Nat}(p:Nat->Bool):lens B (setX p):=Ycs.2 ⟨Nat.zero_le _,fun _ h=>by cases h⟩
theorem Ydt{B:Nat}{k:Int}{l:List Rx}(h:l.length<=B)(hl:∀x∈l,lens B x):lens B (Yf7 k l):=by
 unfold Yf7;split
 ·exact hl _ (by simp)
 ·exact Yb3.2 ⟨h,hl⟩
def Res.All{α:Type}(P:α->Prop):Res α->Prop|.ok a _=>P a|.bad _=>True
theorem Ydf{B:Nat}:∀(n:Nat)(neg:Bool)(p:Nat->Bool)(t:List UInt8)(r:Res Rx),setL n neg p t=some r->r.All (lens B)
 |0,_,_,_,_,h=>by simp[setL]at h
 |n+1,neg,p,t,r,h=>by
  unfold setL at h;split at h
  ·cases h;trivial
  ·split at h
   ·cases h;trivial
   ·split at h
    ·cases h;show lens B _;exact Yca _
    ·exact Ydf n _ _ _ _ h
theorem Yeq{B:Nat}{r:Rx}(hB:2<=B)(h:lens B r):lens B (Yg1 r):=Yb3.2 ⟨by simp;omega,by simpa using h⟩
theorem Yii{B c:Nat}{r r':Rx}(hB:2<=B)(h:lens B r)(e:opX c r=some r'):lens B r':=by
 unfold opX at e;have he:lens B (mk0 1 []):=Yb3.2 ⟨Nat.zero_le _,by simp⟩
 repeat' split at e
 all_goals first
  |(cases e;exact Yeq hB h)
  |(cases e;exact Yb3.2 ⟨by simpa using hB,by simp;exact⟨h,Yeq hB h⟩⟩)
  |(cases e;exact Yb3.2 ⟨by simpa using hB,by simp;exact⟨h,he⟩⟩)
  |cases e
theorem Yer{B:Nat}(hB:2<=B):∀(n:Nat)(r:Rx)(t:List UInt8)(o:Res Rx),opsL n r t=some o->lens B r->o.All (lens B)
 |0,_,_,_,h,_=>by simp[opsL]at h
 |n+1,r,t,o,h,hr=>by
  unfold opsL at h;split at h
  ·rename_i r' e;exact Yer hB n r' _ _ h (Yii hB hr e)
  ·cases h;exact hr
theorem Yij(B:Nat)(hB:2<=B):∀(n:Nat),(∀t r,alts n t=some r->t.length<=B->r.All (lens B))/\(∀l t r,altL n l t=some r->l.length+t.length<=B->(∀x∈l,lens B x)->r.All (lens B))/\(∀t r,seqs n t=some r->t.length<=B->r.All (lens B))/\
 (∀l t r,seqL n l t=some r->l.length+t.length<=B->(∀x∈l,lens B x)->r.All (lens B))/\
 (∀t r,Yb2 n t=some r->t.length<=B->r.All (lens B))/\(∀t r,atom n t=some r->t.length<=B->r.All (lens B)):=by
 intro n
 induction n with
 |zero=>exact⟨fun t r h=>by simp[alts]at h,fun l t r h=>by simp[altL]at h,fun t r h=>by simp[seqs]at h,fun l t r h=>by simp[seqL]at h,fun t r h=>by simp[Yb2]at h,fun t r h=>by simp[atom]at h⟩
 |succ n ih=>
  obtain⟨ih1,ih2,ih3,ih4,ih5,ih6⟩:=ih;refine⟨fun t r h hl=>?_,fun l t r h hl hx=>?_,fun t r h hl=>?_,fun l t r h hl hx=>?_,fun t r h hl=>?_,fun t r h hl=>?_⟩
  ·unfold alts at h;split at h
   ·cases h
   ·cases h;trivial
   ·rename_i hq;have h1:=ih3 _ _ hq hl;have h2:=((Yby n).2.2.1 _ _ hq).1;exact ih2 _ _ _ h (by simp;omega) (fun x hx=>by rw[List.mem_singleton.1 hx];exact h1)
  ·unfold altL at h;split at h
   ·rename_i hc;have h0:=Yct (show hd t≠0 by omega);split at h
    ·cases h
    ·cases h;trivial
    ·rename_i hq;have h1:=ih3 _ _ hq (by omega);have h2:=((Yby n).2.2.1 _ _ hq).1;refine ih2 _ _ _ h (by simp;omega) fun x hx'=>?_
     rcases List.mem_append.1 hx' with hx'|hx'
     ·exact hx x hx'
     ·rw[List.mem_singleton.1 hx'];exact h1
   ·cases h;exact Ydt (by omega) hx
  ·unfold seqs at h;split at h
   ·cases h
   ·cases h;trivial
   ·rename_i hq;have h1:=ih5 _ _ hq hl;have h2:=((Yby n).2.2.2.2.1 _ _ hq).1;exact ih4 _ _ _ h (by simp;omega) (fun x hx=>by rw[List.mem_singleton.1 hx];exact h1)
  ·unfold seqL at h;split at h
   ·split at h
    ·cases h
    ·cases h;trivial
    ·rename_i hq;have h1:=ih5 _ _ hq (by omega);have h2:=((Yby n).2.2.2.2.1 _ _ hq).1;refine ih4 _ _ _ h (by simp;omega) fun x hx'=>?_
     rcases List.mem_append.1 hx' with hx'|hx'
     ·exact hx x hx'
     ·rw[List.mem_singleton.1 hx'];exact h1
   ·cases h;exact Ydt (by omega) hx
  ·unfold Yb2 at h;split at h
   ·cases h
   ·cases h;trivial
   ·rename_i hq;exact Yer hB _ _ _ _ h (ih6 _ _ hq hl)
  ·have hT:t.tail.length<=B:=by simp;omega
   unfold atom at h;split at h
   ·split at h
    ·cases h;show lens B (mk0 1 []);exact Yb3.2 ⟨Nat.zero_le _,by simp⟩
    ·split at h
     ·cases h
     ·cases h;trivial
     ·rename_i hq;cases h;have h1:=ih1 _ _ hq hT;unfold Yds;split
      ·exact h1
      ·trivial
   ·split at h
    ·unfold setR at h;split at h
     ·exact Ydf _ _ _ _ _ h
     ·split at h
      ·cases h;show lens B (mk0 1 []);exact Yb3.2 ⟨Nat.zero_le _,by simp⟩
      ·exact Ydf _ _ _ _ _ h
    ·split at h
     ·cases h;show lens B _;exact Yca _
     ·split at h
      ·split at h
       ·cases h;show lens B _;exact Yca _
       ·split at h
        ·cases h;trivial
        ·cases h;show lens B _;exact Yca _
      ·split at h
       ·cases h;trivial
       ·cases h;show lens B _;exact Yca _
theorem Yha{n:Nat}{t t':List UInt8}{r:Rx}(h:alts n t=some (.ok r t')):lens (t.length+2) r:=(Yij (t.length+2) (by omega) n).1 t _ h (by omega)
theorem at0{s:List UInt8}(h:s.length<=1048576):At s s 0:=⟨List.suffix_refl _,by omega,h⟩
theorem Yf9{s:List UInt8}(h:1000<s.length):parseV s=(mk0 0 [],2,0):=by unfold parseV;rw[if_pos h]
theorem Yhb{s t:List UInt8}{i:Int}(h:¬1000<s.length)(hr:alts (Yde s) s=some (.bad t))(hi:At s t i):parseV s=(mk0 0 [],8,i):=by
 unfold parseV;rw[if_neg h,hr];have:=hi.pos;have:(s.length:Int)-t.length=i:=by omega
 simp[this]
theorem Yga{s t:List UInt8}{r:Rx}{i:Int}(h:¬1000<s.length)(hr:alts (Yde s) s=some (.ok r t))(hi:At s t i)(ht:t≠[]):parseV s=(mk0 0 [],8,i):=by
 unfold parseV;rw[if_neg h,hr];have:=hi.pos;have:(s.length:Int)-t.length=i:=by omega
 simp[this,ht]
theorem Yik{s:List UInt8}{r:Rx}(h:¬1000<s.length)(hr:alts (Yde s) s=some (.ok r [])):parseV s=if chk 1 r=9 then(mk0 0 [],9,0)else(r,0,0):=by
 unfold parseV;rw[if_neg h,hr];simp
end Go.Rx
end
section
open Go Go.Proofs Go.Ab Go.Rf
set_option maxRecDepth 100000
namespace Go.Rx
theorem Ylq{α:Type}{l:List α}(h:l.length=4):∃a b c d,l=[a,b,c,d]:=by
 match l,h with
 |[a,b,c,d],_=>exact⟨a,b,c,d,rfl⟩
def Yes(s:List UInt8):Out->Prop:=fun o=>o=.ret (pairA (parseV s))
theorem Yjh(r:Rx):enc r=[(enc r).getD 0 D0,(enc r).getD 1 D0,(enc r).getD 2 D0,(enc r).getD 3 D0,(enc r).getD 4 D0,(enc r).getD 5 D0]:=(Yeo r).symm
theorem c19(s:List UInt8):Holds Tryz.prog 112 [A.d (.lit (Zco s))] [] (Ret (pairA (parseV s))):=by
 have key:Holds Tryz.prog 112 [A.d (D.lit (Zco s))] [] (fun o H=>H=[]/\Yes s o):=by
  refine w19p _ rfl s ⟨fun hl=>⟨fun _=>?_,fun h=>absurd rfl h⟩,fun hl=>⟨fun h=>(by cases h),fun _=>⟨_,rfl,fun qs hlen hn=>?_⟩⟩⟩
  ·have hl:=of_tlt hl;unfold Yes;rw[Yf9 (by omega)];rfl
  ·have hl:=of_flt hl;have hs:¬1000<s.length:=by omega
   have h0:At s s 0:=at0 (by omega);obtain⟨res,hr⟩:=Yg9 s;obtain⟨q0,q1,q2,q3,rfl⟩:=Ylq hlen;simp only[List.nodup_cons,List.mem_cons,List.not_mem_nil,or_false,not_or,List.nodup_nil,and_true,not_false_eq_true]at hn;obtain⟨⟨h01,h02,h03⟩,⟨h12,h13⟩,h23⟩:=hn
   have failz:∀(i j:Int),parseV s=(mk0 0 [],8,i)->midR Tryz.prog 126 3 [(1,6),(2,2)] (Yes s) [q0,q1,q2,q3] (.pan (Ybr i)) [(Ref.up q0,[A.ptr (Ref.up q3) 0]),(Ref.up q1,[A.d (.lit (.int .i64 0)),A.d (.lit (.int .u64 0)),A.d (.lit (.int .u64 0)),A.d (.lit (.int .u64 0)),A.d (.lit (.int .u64 0)),A.zs []]),(Ref.up q2,[A.d (.lit (.int .i64 0)),A.d (.lit (.int .i64 0))]),(Ref.up q3,[A.d (.lit (Zco s)),A.d (.lit (.int .i64 j))])]:=fun i j hp=>
    ⟨_,fun H=>H=_,w36z _ rfl _ _ _ _ _ (D.lit .nilIface) _ _ s j i q0 q1 q2 q3 h01 h02 h12 h03 h13 h23 rfl,rfl,fun H2 hR=>by subst hR;exact⟨_,rfl,by unfold Yes;rw[hp];rfl⟩⟩
   have faild:∀(i j:Int)(a b c d e f:D),parseV s=(mk0 0 [],8,i)->midR Tryz.prog 126 3 [(1,6),(2,2)] (Yes s) [q0,q1,q2,q3] (.pan (Ybr i)) [(Ref.up q0,[A.ptr (Ref.up q3) 0]),(Ref.up q1,[A.d a,A.d b,A.d c,A.d d,A.d e,A.d f]),(Ref.up q2,[A.d (.lit (.int .i64 0)),A.d (.lit (.int .i64 0))]),(Ref.up q3,[A.d (.lit (Zco s)),A.d (.lit (.int .i64 j))])]:=fun i j a b c d e f hp=>
    ⟨_,fun H=>H=_,w36f _ rfl _ _ _ _ _ _ _ _ s j i q0 q1 q2 q3 h01 h02 h12 h03 h13 h23 rfl,rfl,fun H2 hR=>by subst hR;exact⟨_,rfl,by unfold Yes;rw[hp];rfl⟩⟩
   have fine:∀(j:Int)(a b c d e f g h:D),pairA (parseV s)=.tup [(true,[a,b,c,d,e,f]),(true,[g,h])]->midR Tryz.prog 126 3 [(1,6),(2,2)] (Yes s) [q0,q1,q2,q3] (.ret (.tup [])) [(Ref.up q0,[A.ptr (Ref.up q3) 0]),(Ref.up q1,[A.d a,A.d b,A.d c,A.d d,A.d e,A.d f]),(Ref.up q2,[A.d g,A.d h]),(Ref.up q3,[A.d (.lit (Zco s)),A.d (.lit (.int .i64 j))])]:=fun j a b c d e f g h hp=>
    ⟨_,fun H=>H=_,w36n _ rfl _ _ _ _ _ _ _ _ s j 0 q0 q1 q2 q3 h01 h02 h12 h03 h13 h23 rfl,rfl,fun H2 hR=>by subst hR;exact⟨_,rfl,by unfold Yes;rw[hp];rfl⟩⟩
   refine w19q s 0 0 0 0 0 0 0 s 0 q0 q1 q2 q3 h01 h02 h12 h03 h13 h23 ?_;refine Yce (k37 _ (Ref.up q3) s s 0 res hr h0) (fun v t i e hi=>?_) (fun t i j e hi=>?_)
   ·obtain⟨r,f1,rfl⟩:=Ybl e;subst f1;refine⟨_,_,_,rfl,rfl,teq6 r,fun hf=>?_,fun hf=>?_⟩
    ·have ht:t≠[]:=hi.more (of_tlt hf);exact Ycd c38 ⟨_,_,rfl,faild i i _ _ _ _ _ _ (Yga hs hr hi ht)⟩
    ·have ht:t=[]:=hi.end_ (of_flt hf);subst ht;have hp:=Yik hs hr;have hb:lens (2^40) r:=Yeg (by omega) _ r (Nat.le_refl _) (Yha hr);refine call1 (c15 r hb) ⟨_,rfl,rfl,fun h9=>?_,fun h9=>?_⟩
     ·rw[if_pos (of_teq h9)]at hp;exact fine i _ _ _ _ _ _ _ _ (by rw[hp];rfl)
     ·rw[if_neg (of_feq h9)]at hp;exact fine i _ _ _ _ _ _ _ _ (by rw[hp];show A.tup [(true,enc r),_]=_;rw[Yjh r];rfl)
   ·have f1:=Ybj e;subst f1;exact⟨_,_,rfl,failz i j (Yhb hs hr hi)⟩
 exact key.mono fun o H' h=>⟨h.2,h.1⟩
end Go.Rx
end
section
open Go Go.Proofs Go.Ab Go.Rf
set_option linter.unusedSimpArgs false
set_option linter.unusedVariables false
set_option maxRecDepth 100000
namespace Go.Sy
theorem Yb4{a b:Bool}(h:a=b):Ret (Yae b) (.ret (Yae a)) []:=by subst h;exact⟨rfl,rfl⟩
def letV(x:Int):Bool:=(decide (97<=x)&&decide (x<=122))||(decide (65<=x)&&decide (x<=90))
def chV(x:Int):Bool:=letV x||(x==95||(decide (48<=x)&&decide (x<=57)))
def Yet(t:Tx):Bool:=(!t.isEmpty&&letV (Zwc t 0))&&(List.range t.length).all fun i=>chV (Zwc t (i:Nat))
def cutV(s:Tx):Tx:=if decide (0<s.length)&&(Zwc s 0==35||Zwc s 0==95)then gSub s 1 s.length else s
def KW:List Tx:=[[110,117,108,108],[116,114,117,101],[102,97,108,115,101],[98,111,111,108],[105,110,116],[110,117,109,98,101,114],[115,116,114,105,110,103],[108,101,116],[105,102],[102,111,114],[105,110],[112,97,99,107,97,103,101],[105,109,112,111,114,116]]
def idV(s:Tx):Bool:=(decide (s.length<=32)&&!decide (s∈KW))&&Yet (cutV s)
theorem c93(x:Int):Holds Tryz.prog 93 [.d (.lit (.int .u8 x))] [] (Ret (Yae (letV x))):=w93 x (by simp only[Zwb];exact⟨rfl,rfl⟩)
theorem Ykj{x:Int}(h:((((!letV x)&&(!(tB (x==95))))&&((tB (decide (x<48)))||(tB (decide (57<x))))))=true):chV x=false:=by
 unfold chV;revert h;cases letV x
 ·simp only[Zwb];intro h;simp at h⊢;omega
 ·simp
theorem Yiw{x:Int}(h:((((!letV x)&&(!(tB (x==95))))&&((tB (decide (x<48)))||(tB (decide (57<x))))))=false):chV x=true:=by
 unfold chV;revert h;cases letV x
 ·simp only[Zwb];intro h;simp at h⊢;by_cases hx:x=95
  ·exact .inl hx
  ·have:=h hx;exact .inr (by omega)
 ·simp
theorem Yhc{t:Tx}{i:Nat}(hi:i<t.length)(h:chV (Zwc t (i:Nat))=false):Yet t=false:=by
 unfold Yet;rw[Bool.and_eq_false_iff];right;rw[List.all_eq_false];exact⟨i,List.mem_range.2 hi,by rw[h];simp⟩
theorem Yfz{t:Tx}(hne:t≠[])(h:letV (Zwc t 0)=true)(ha:∀i<t.length,chV (Zwc t (i:Nat))=true):Yet t=true:=by
 unfold Yet;rw[h,List.all_eq_true.2 fun i hi=>ha i (List.mem_range.1 hi)];cases t with
 |nil=>exact absurd rfl hne
 |cons=>rfl
theorem c48(s:Tx):Holds Tryz.prog 48 [strA s] [] (Ret (Yae (idV s))):=by
 refine w48 s ⟨fun h=>?_,fun h=>?_⟩
 ·have hl:s.length<=32:=by have:=nb1 h;simp at this;omega
  refine call1 (c71 s KW (by decide)) ⟨_,rfl,rfl,fun hk=>?_,fun hk=>?_⟩
  ·exact Yb4 (by unfold idV;rw[hk];simp)
  ·have hi:idV s=Yet (cutV s):=by unfold idV;rw[hk,decide_eq_true hl];rfl
   refine⟨by by_cases h0:0<s.length<;>simp[h0],by by_cases h0:0<s.length<;>simp[h0],fun h1=>?_,fun h1=>?_⟩
   ·have hc:cutV s=gSub s 1 s.length:=by unfold cutV;rw[if_pos (by simpa using h1)]
    have h0:0<s.length:=by simp at h1;omega
    rw[hc]at hi;have hg:(gSub s 1 (s.length:Int)).length<=32:=by simp[gSub];omega
    have hid:=hi;refine⟨tle (by omega),tle (by omega),by by_cases h2:(gSub s 1 (s.length:Int)).length=0<;>simp[h2]<;>omega,fun h2=>?_,fun h2=>?_⟩
    ·have hne:gSub s 1 (s.length:Int)≠[]:=fun e=>by rw[e]at h2;simp at h2
     refine call1 (c93 _) ⟨_,rfl,rfl,fun h3=>?_,fun h3=>?_⟩
     ·exact Yb4 (by rw[hid];unfold Yet;rw[nb1 h3];simp)
     ·have h3:=nb0 h3;refine⟨fun x=>∃i:Nat,x=i/\i<=(gSub s 1 (s.length:Int)).length/\ ∀j<i,chV (Zwc (gSub s 1 (s.length:Int)) (j:Nat))=true,fun x=>(gSub s 1 (s.length:Int)).length-x.toNat,⟨0,rfl,Nat.zero_le _,fun j hj=>absurd hj (Nat.not_lt_zero j)⟩,?_,trivial⟩;rintro x ⟨i,rfl,hi,hr⟩;refine⟨fun hc=>?_,fun hc=>?_⟩
      ·have k1:i<(gSub s 1 (s.length:Int)).length:=by have:=of_tlt hc;omega
       refine⟨tle (by omega),call1 (c93 _) ⟨_,rfl,rfl,fun h4=>?_,fun h4=>⟨tle (by omega),tle (by omega),⟨i+1,rfl,k1,fun j hj=>?_⟩,dec k1⟩⟩⟩
       ·refine Yb4 ?_;rw[hid];exact(Yhc k1 (Ykj h4)).symm
       ·rcases Nat.lt_succ_iff_lt_or_eq.1 hj with h5|rfl
        ·exact hr j h5
        ·exact Yiw h4
      ·have k1:(gSub s 1 (s.length:Int)).length<=i:=by have:=of_flt hc;omega
       refine Yb4 ?_;rw[hid];exact(Yfz hne h3 fun j hj=>hr j (by omega)).symm
    ·refine Yb4 ?_;rw[hid];have:gSub s 1 (s.length:Int)=[]:=List.length_eq_zero_iff.1 (by simpa using h2);rw[this];rfl
   ·have hc:cutV s=s:=by unfold cutV;rw[if_neg (by intro e;rw[show((tB (decide ((0:Int)<(s.length:Int))))&&((tB ((Zwc s 0)==35))||(tB ((Zwc s 0)==95))))=true by simpa using e]at h1;cases h1)]
    rw[hc]at hi;have hid:=hi;refine⟨by by_cases h2:s.length=0<;>simp[h2]<;>omega,fun h2=>?_,fun h2=>?_⟩
    ·have hne:s≠[]:=fun e=>by rw[e]at h2;simp at h2
     refine call1 (c93 _) ⟨_,rfl,rfl,fun h3=>?_,fun h3=>?_⟩
     ·exact Yb4 (by rw[hid];unfold Yet;rw[nb1 h3];simp)
     ·have h3:=nb0 h3;refine⟨fun x=>∃i:Nat,x=i/\i<=(s).length/\ ∀j<i,chV (Zwc (s) (j:Nat))=true,fun x=>(s).length-x.toNat,⟨0,rfl,Nat.zero_le _,fun j hj=>absurd hj (Nat.not_lt_zero j)⟩,?_,trivial⟩;rintro x ⟨i,rfl,hi,hr⟩;refine⟨fun hc=>?_,fun hc=>?_⟩
      ·have k1:i<(s).length:=by have:=of_tlt hc;omega
       refine⟨tle (by omega),call1 (c93 _) ⟨_,rfl,rfl,fun h4=>?_,fun h4=>⟨tle (by omega),tle (by omega),⟨i+1,rfl,k1,fun j hj=>?_⟩,dec k1⟩⟩⟩
       ·refine Yb4 ?_;rw[hid];exact(Yhc k1 (Ykj h4)).symm
       ·rcases Nat.lt_succ_iff_lt_or_eq.1 hj with h5|rfl
        ·exact hr j h5
        ·exact Yiw h4
      ·have k1:(s).length<=i:=by have:=of_flt hc;omega
       refine Yb4 ?_;rw[hid];exact(Yfz hne h3 fun j hj=>hr j (by omega)).symm
    ·refine Yb4 ?_;rw[hid];have:s=[]:=List.length_eq_zero_iff.1 (by simpa using h2);rw[this];rfl
 ·exact Yb4 (by have:=nb0 h;simp at this;unfold idV;rw[decide_eq_false (by omega:¬s.length<=32)];rfl)
def tyW:List Tx:=[[110,117,108,108],[98,111,111,108],[105,110,116],[110,117,109,98,101,114],[115,116,114,105,110,103]]
theorem Yji:Holds Tryz.prog 145 [strA [110,117,108,108,32,98,111,111,108,32,105,110,116,32,110,117,109,98,101,114,32,115,116,114,105,110,103],strA [32]] [] (Ret (slA (txs tyW))):=(Yat (m:=(145,[.d (Go.Sy.s [110,117,108,108,32,98,111,111,108,32,105,110,116,32,110,117,109,98,101,114,32,115,116,114,105,110,103]),.d (Go.Sy.s [32])],.d (Go.Sy.l (txs tyW)))) (by kernel_rfl)).2 (fun _=>.own 0 0) (by simp)
def bdW:List Tx:=[[60],[60,61],[62],[62,61],[33,61],[61,126],[33,126]]
theorem Yjj:Holds Tryz.prog 145 [strA [60,32,60,61,32,62,32,62,61,32,33,61,32,61,126,32,33,126],strA [32]] [] (Ret (slA (txs bdW))):=(Yat (m:=(145,[.d (Go.Sy.s [60,32,60,61,32,62,32,62,61,32,33,61,32,61,126,32,33,126]),.d (Go.Sy.s [32])],.d (Go.Sy.l (txs bdW)))) (by kernel_rfl)).2 (fun _=>.own 0 0) (by simp)
def unW:List Tx:=[[45],[33]]
theorem Yjk:Holds Tryz.prog 145 [strA [45,32,33],strA [32]] [] (Ret (slA (txs unW))):=(Yat (m:=(145,[.d (Go.Sy.s [45,32,33]),.d (Go.Sy.s [32])],.d (Go.Sy.l (txs unW)))) (by kernel_rfl)).2 (fun _=>.own 0 0) (by simp)
def biW:List Tx:=[[43],[45],[42],[47],[37],[61,61],[33,61],[60],[60,61],[62],[62,61],[38,38],[124,124]]
theorem Yjl:Holds Tryz.prog 145 [strA [43,32,45,32,42,32,47,32,37,32,61,61,32,33,61,32,60,32,60,61,32,62,32,62,61,32,38,38,32,124,124],strA [32]] [] (Ret (slA (txs biW))):=(Yat (m:=(145,[.d (Go.Sy.s [43,32,45,32,42,32,47,32,37,32,61,61,32,33,61,32,60,32,60,61,32,62,32,62,61,32,38,38,32,124,124]),.d (Go.Sy.s [32])],.d (Go.Sy.l (txs biW)))) (by kernel_rfl)).2 (fun _=>.own 0 0) (by simp)
theorem c132(s all:Tx)(set:List Tx)(hc:Holds Tryz.prog 145 [strA all,strA [32]] [] (Ret (slA (txs set))))(hn:[]∉set)(hl:set.length<=2^50):Holds Tryz.prog 132 [strA s,strA all] [] (Ret (Yae (decide (s∈set)))):=by
 refine w132 s all ⟨fun h=>call1 hc ⟨_,rfl,rfl,call1 (c71 s set hl) ⟨_,rfl,rfl,rfl,rfl⟩⟩,fun h=>?_⟩;have:s=[]:=Yba (nb0 h);subst this;exact Yb4 (by simp[hn])
def lnV(s:Tx):Bool:=decide ((10:UInt8)∈s)
def lnsV(l:List Tx):Bool:=l.all fun s=>!lnV s
theorem Ylr(s:Tx):Holds Tryz.prog 125 [strA s,strA [10]] [] (fun o H=>∃n:Int,o=.ret (intA n)/\H=[]/\(0<=n↔(10:UInt8)∈s)):=by
 refine Ykw s ⟨fun h=>?_,fun h=>?_⟩
 ·have:s=[10]:=(Yba h).symm;exact⟨0,rfl,rfl,by rw[this];simp⟩
 ·refine call1 (v:=intA (Go.Rx.idxV s 10)) (Go.Rx.c94 s 10) ⟨_,rfl,rfl,_,rfl,rfl,?_⟩;rw[Go.Rx.idxV_nonneg s 10 (by decide),List.any_eq_true]
  exact⟨fun⟨b,hb,he⟩=>by
   have he:b.toNat=10:=by simpa using he
   have:b=10:=UInt8.toNat_inj.1 he;rw[<-this];exact hb,fun hb=>⟨10,hb,rfl⟩⟩
theorem Yls(s:Tx):Holds Tryz.prog 111 [strA s,strA [10]] [] (fun o H=>∃n:Int,o=.ret (intA n)/\H=[]/\(0<=n↔(10:UInt8)∈s)):=
 Ykv s fun _=>⟨_,Ylr s,fun v H' ⟨n,e1,e2,e3⟩=>⟨n,Out.ret.inj e1,e2,n,rfl,rfl,e3⟩,fun u H' ⟨n,e1,_⟩=>by cases e1⟩
theorem c96(s:Tx):Holds Tryz.prog 96 [strA s,strA [10]] [] (Ret (Yae (lnV s))):=
 w96 s [10] fun _=>⟨_,Yls s,fun v H' ⟨n,e1,e2,e3⟩=>⟨n,Out.ret.inj e1,e2,Yb4 (by unfold lnV;simp[e3])⟩,fun u H' ⟨n,e1,_⟩=>by cases e1⟩
theorem c95(s:Tx):Holds Tryz.prog 95 [strA s] [] (Ret (Yae (lnV s))):=w95 s (call1 (c96 s) ⟨_,rfl,rfl,rfl,rfl⟩)
theorem c110(l:List Tx)(hl:l.length<=2^50):Holds Tryz.prog 110 [slA (txs l),.fn 95 []] [] (fun o H=>∃n:Int,o=.ret (intA n)/\H=[]/\(0<=n↔∃s∈l,lnV s=true)):=by
 refine w110 (txs l) ⟨fun x=>∃i:Nat,x=i/\i<=l.length/\ ∀j (h:j<l.length),j<i->lnV l[j]=false,fun x=>l.length-x.toNat,⟨0,rfl,Nat.zero_le _,fun j _ h=>absurd h (Nat.not_lt_zero j)⟩,?_,trivial⟩;rintro x ⟨i,rfl,hi,hr⟩;refine⟨fun hc=>?_,fun hc=>?_⟩
 ·have k1:i<l.length:=by have:=of_tlt hc;simp at this;omega
  have g:=getT k1;rw[g.2];refine⟨tle (by omega),teq (by rw[gT1 k1];rfl),g.1,call1 (c95 _) ⟨_,rfl,rfl,fun h=>⟨i,rfl,rfl,by simp;exact⟨_,List.getElem_mem k1,h⟩⟩,fun h=>⟨tle (by omega),tle (by omega),⟨i+1,rfl,k1,fun j hj h1=>?_⟩,dec k1⟩⟩⟩;rcases Nat.lt_succ_iff_lt_or_eq.1 h1 with h5|rfl
  ·exact hr j hj h5
  ·exact h
 ·have k1:l.length<=i:=by have:=of_flt hc;simp at this;omega
  refine⟨-1,rfl,rfl,⟨fun h=>by omega,fun⟨s,hs,h⟩=>?_⟩⟩;obtain⟨j,hj,rfl⟩:=List.getElem_of_mem hs;rw[hr j hj (by omega)]at h;cases h
theorem c94(l:List Tx)(hl:l.length<=2^50):Holds Tryz.prog 94 [slA (txs l),.fn 95 []] [] (Ret (Yae (!lnsV l))):=
 w94 (txs l) fun _=>⟨_,c110 l hl,fun v H' ⟨n,e1,e2,e3⟩=>⟨n,Out.ret.inj e1,e2,Yb4 (by
  unfold lnsV;rw[Bool.eq_iff_iff];simp[e3])⟩,fun u H' ⟨n,e1,_⟩=>by cases e1⟩
theorem c49(l:List Tx)(hl:l.length<=2^50):Holds Tryz.prog 49 [slA (txs l)] [] (Ret (Yae (lnsV l))):=w49 (txs l) (call1 (c94 l hl) ⟨_,rfl,rfl,Yb4 (by simp)⟩)
def bls(l:List Bool):List (List D):=l.map fun b=>[.lit (.bool b)]
abbrev BC(q:Ref)(w d:Bool):List (Ref×List A):=[(.up q,[Yae w,Yae d])]
theorem gB{l:List Bool}{i:Nat}(h:i<l.length):gAt (bls l) (i:Int)=[.lit (.bool l[i])]:=by simp[gAt,bls,List.getD,h]
theorem c109(l:List Bool)(hl:l.length<=2^50):Holds Tryz.prog 109 [slA (bls l),Yae false] [] (fun o H=>∃n:Int,o=.ret (intA n)/\H=[]/\(0<=n↔false∈l)):=by
 have hbl:(bls l).length=l.length:=by simp[bls]
 refine w109 (bls l) false ⟨fun x=>∃i:Nat,x=i/\i<=l.length/\ ∀j (h:j<l.length),j<i->l[j]=true,fun x=>l.length-x.toNat,⟨0,rfl,Nat.zero_le _,fun j _ h=>absurd h (Nat.not_lt_zero j)⟩,?_,trivial⟩;rintro x ⟨i,rfl,hi,hr⟩;rw[hbl];refine⟨fun hc=>?_,fun hc=>?_⟩
 ·have k1:i<l.length:=by have:=of_tlt hc;omega
  rw[gB k1]
  refine⟨tle (by omega),teq rfl,rfl,fun h=>⟨i,rfl,rfl,by simp;have h:false=l[i]:=by simpa using h
                                                         rw[h];exact List.getElem_mem k1⟩,fun h=>⟨tle (by omega),tle (by omega),⟨i+1,rfl,k1,fun j hj h1=>?_⟩,dec k1⟩⟩
  rcases Nat.lt_succ_iff_lt_or_eq.1 h1 with h5|rfl
  ·exact hr j hj h5
  ·cases hb:l[j]with
   |true=>rfl
   |false=>simp[hb]at h
 ·have k1:l.length<=i:=by have:=of_flt hc;omega
  refine⟨-1,rfl,rfl,⟨fun h=>by omega,fun hs=>?_⟩⟩;obtain⟨j,hj,e⟩:=List.getElem_of_mem hs;rw[hr j hj (by omega)]at e;cases e
theorem c92(l:List Bool)(hl:l.length<=2^50):Holds Tryz.prog 92 [slA (bls l),Yae false] [] (Ret (Yae (!l.all id))):=
 w92 (bls l) false fun _=>⟨_,c109 l hl,fun v H' ⟨n,e1,e2,e3⟩=>⟨n,Out.ret.inj e1,e2,Yb4 (by
  rw[Bool.eq_iff_iff];simp[e3])⟩,fun u H' ⟨n,e1,_⟩=>by cases e1⟩
theorem c47(q:Ref)(w d:Bool)(l:List Bool)(hl:l.length<=2^50):Holds Tryz.prog 47 [.ptr (.up q) 0,slA (bls l)] (BC q w d) (RB (BC q (w||!l.all id) d)):=by
 refine w47 w d (bls l) q ⟨fun h=>call1 (c92 l hl) ⟨_,rfl,rfl,?_⟩,fun h=>?_⟩
 ·have:w=false:=nb1 h;subst this;exact⟨rfl,rfl⟩
 ·have:w=true:=nb0 h;subst this;exact⟨rfl,rfl⟩
theorem Yam{f:FuncId}{args:List A}{K0:List (Ref×List A)}{r:Ref}{w d:Bool}(hc:Holds Tryz.prog f args K0 (RB [(r,[Yae w,Yae d])])){K:Bool->Bool->Prop}{QP:Value->List (Ref×List A)->Prop}(h:K w d):
 ∀_:Nat->Nat,∃R':Out->List (Ref×List A)->Prop,Holds Tryz.prog f args K0 R'/\(∀v H',R' (.ret v) H'-> ∃x y,v=.tup []/\H'=[(r,[Yae x,Yae y])]/\K x y)/\(∀u H',R' (.pan u) H'->QP u H'):=
 fun _=>⟨_,hc,fun v H' e=>by obtain⟨e1,e2⟩:=e;cases e1;exact⟨w,d,rfl,e2,h⟩,fun u H' e=>by cases e.1⟩
def difV(a b:Tx):Bool:=idV a&&(idV b&&!(a==b))
def nonV(a b:Tx):Bool:=a.isEmpty&&b.isEmpty
theorem c113(a b:Tx):Holds Tryz.prog 113 [.agg [dS a,dS b]] [] (Ret (Yae (difV a b))):=by
 refine w113 _ ?_;simp only[List.getD_cons_zero,List.getD_cons_succ,Yak,Yad,Bool.or_true,true_and];refine⟨teq rfl,call1 (c48 a) ⟨idV a,rfl,rfl,fun h=>call1 (c48 b) ⟨idV b,rfl,rfl,Yb4 ?_⟩,fun h=>Yb4 ?_⟩⟩
 ·unfold difV;rw[h];simp
 ·unfold difV;rw[h];rfl
theorem c114(a b:Tx):Holds Tryz.prog 114 [.agg [dS a,dS b]] [] (Ret (Yae (nonV a b))):=by
 refine w114 _ ?_;simp only[List.getD_cons_zero,List.getD_cons_succ,Yak,Yad,true_and];exact⟨teq rfl,Yb4 (by unfold nonV;simp)⟩
def fixV(n:Int):Bool:=decide (-1000000000000000<=n)&&decide (n<=1000000000000000)
theorem c120(n:Int):Holds Tryz.prog 120 [intA n] [] (Ret (Yae (fixV n))):=w120 n (Yb4 (by unfold fixV;simp))
theorem c51(q:Ref)(w d:Bool):Holds Tryz.prog 51 [.ptr (.up q) 0] (BC q w d) (RetB (intA (if w then 11 else if d then 9 else 0)) (BC q w d)):=
 w51 w d q ⟨fun h=>by subst h;exact⟨rfl,rfl⟩,fun h=>by subst h;exact⟨fun h=>by subst h;exact⟨rfl,rfl⟩,fun h=>by subst h;exact⟨rfl,rfl⟩⟩⟩
end Go.Sy
end
section
open Go Go.Proofs Go.Ab Go.Rf
set_option linter.unusedSimpArgs false
set_option linter.unusedVariables false
set_option maxRecDepth 100000
namespace Go.Sy
theorem Ya6{q:Ref}{a b d:Bool}(h:a=b):RB (BC q b d) (.ret (.tup [])) (BC q a d):=by subst h;exact⟨rfl,rfl⟩
theorem Yb6{w a b:Bool}(h:a=b):(w||!a)=(w||!b):=by rw[h]
def Ya9(k num n:Int):Bool:=
 if k=10\/k=21 then true else if k=5 then decide (1<=n)else if k=9\/k=11\/k=18\/k=19 then n==1 else if k=12\/k=16\/k=20 then n==2
 else if k=15 then(n==2||n==3)else if k=17 then decide (2<=n)else if k=14 then decide (gAnd .i64 num 1<=n)else n==0
theorem c117(r:Nd)(q:Ref)(w d:Bool):Holds Tryz.prog 117 [.ptr (.up q) 0,.agg (encE r)] (BC q w d) (RB (BC q (w||!Ya9 r.kind r.num r.subs.length) d)):=by
 refine w117 w d (encE r) q ?_;simp only[Yal,e0,e1,e2,e3,e4,e5,e6,e7,e8,isK_int,Yad,isK_slc,dint_int,Yak,dlst_slc,true_and,Yaf,Yag,Yan];generalize r.kind=k;generalize r.num=num;generalize(r.subs.length:Int)=n;refine⟨teq rfl,?_⟩;refine⟨fun h=>?_,fun h=>?_⟩
 ·obtain rfl:k=10:=of_teq h;exact Ya6 (by simp[Ya9])
 ·have h0:=of_feq h;refine⟨fun h=>?_,fun h=>?_⟩
  ·obtain rfl:k=21:=of_teq h;exact Ya6 (by simp[Ya9])
  ·have h1:=of_feq h;refine⟨fun h=>?_,fun h=>?_⟩
   ·obtain rfl:k=5:=of_teq h;exact Yam (c47 _ _ _ [_] (by simp)) (Ya6 (Yb6 (by simp[Ya9])))
   ·have h2:=of_feq h;refine⟨fun h=>?_,fun h=>?_⟩
    ·obtain rfl:k=9:=of_teq h;exact Yam (c47 _ _ _ [_] (by simp)) (Ya6 (Yb6 (by simp[Ya9])))
    ·have h3:=of_feq h;refine⟨fun h=>?_,fun h=>?_⟩
     ·obtain rfl:k=11:=of_teq h;exact Yam (c47 _ _ _ [_] (by simp)) (Ya6 (Yb6 (by simp[Ya9])))
     ·have h4:=of_feq h;refine⟨fun h=>?_,fun h=>?_⟩
      ·obtain rfl:k=18:=of_teq h;exact Yam (c47 _ _ _ [_] (by simp)) (Ya6 (Yb6 (by simp[Ya9])))
      ·have h5:=of_feq h;refine⟨fun h=>?_,fun h=>?_⟩
       ·obtain rfl:k=19:=of_teq h;exact Yam (c47 _ _ _ [_] (by simp)) (Ya6 (Yb6 (by simp[Ya9])))
       ·have h6:=of_feq h;refine⟨fun h=>?_,fun h=>?_⟩
        ·obtain rfl:k=12:=of_teq h;exact Yam (c47 _ _ _ [_] (by simp)) (Ya6 (Yb6 (by simp[Ya9])))
        ·have h7:=of_feq h;refine⟨fun h=>?_,fun h=>?_⟩
         ·obtain rfl:k=16:=of_teq h;exact Yam (c47 _ _ _ [_] (by simp)) (Ya6 (Yb6 (by simp[Ya9])))
         ·have h8:=of_feq h;refine⟨fun h=>?_,fun h=>?_⟩
          ·obtain rfl:k=20:=of_teq h;exact Yam (c47 _ _ _ [_] (by simp)) (Ya6 (Yb6 (by simp[Ya9])))
          ·have h9:=of_feq h;refine⟨fun h=>?_,fun h=>?_⟩
           ·obtain rfl:k=15:=of_teq h;exact Yam (c47 _ _ _ [_] (by simp)) (Ya6 (Yb6 (by simp[Ya9])))
           ·have h10:=of_feq h;refine⟨fun h=>?_,fun h=>?_⟩
            ·obtain rfl:k=17:=of_teq h;exact Yam (c47 _ _ _ [_] (by simp)) (Ya6 (Yb6 (by simp[Ya9])))
            ·have h11:=of_feq h;refine⟨fun h=>?_,fun h=>?_⟩
             ·obtain rfl:k=14:=of_teq h;exact Yam (c47 _ _ _ [_] (by simp)) (Ya6 (Yb6 (by simp[Ya9])))
             ·have h12:=of_feq h;exact Yam (c47 _ _ _ [_] (by simp)) (Ya6 (Yb6 (by simp[Ya9,h0,h1,h2,h3,h4,h5,h6,h7,h8,h9,h10,h11,h12])))
def Ybz(k:Int)(t:Tx):Bool:=
 if k=10\/k=4\/k=11 then true else if k=8 then decide (t∈tyW)else if k=9 then decide (t∈bdW)else if k=19 then decide (t∈unW)else if k=20 then decide (t∈biW)
 else if k=21 then idV t else t.isEmpty
theorem c118(r:Nd)(q:Ref)(w d:Bool):Holds Tryz.prog 118 [.ptr (.up q) 0,.agg (encE r)] (BC q w d) (RB (BC q (w||!Ybz r.kind r.text) d)):=by
 refine w118 w d (encE r) q ?_;simp only[Yal,e0,e1,e2,e3,e4,e5,e6,e7,e8,isK_int,Yad,isK_slc,dint_int,Yak,dlst_slc,true_and,Yaf,Yag,Yan];generalize r.kind=k;generalize r.text=t;refine⟨teq rfl,?_⟩;refine⟨fun h=>?_,fun h=>?_⟩
 ·obtain rfl:k=10:=of_teq h;exact Ya6 (by simp[Ybz])
 ·have h0:=of_feq h;refine⟨fun h=>?_,fun h=>?_⟩
  ·obtain rfl:k=4:=of_teq h;exact Ya6 (by simp[Ybz])
  ·have h1:=of_feq h;refine⟨fun h=>?_,fun h=>?_⟩
   ·obtain rfl:k=11:=of_teq h;exact Ya6 (by simp[Ybz])
   ·have h2:=of_feq h;refine⟨fun h=>?_,fun h=>?_⟩
    ·obtain rfl:k=8:=of_teq h;exact call1 (c132 t _ tyW Yji (by decide) (by decide)) ⟨_,rfl,rfl,Yam (c47 _ _ _ [_] (by simp)) (Ya6 (Yb6 (by simp[Ybz])))⟩
    ·have h3:=of_feq h;refine⟨fun h=>?_,fun h=>?_⟩
     ·obtain rfl:k=9:=of_teq h;exact call1 (c132 t _ bdW Yjj (by decide) (by decide)) ⟨_,rfl,rfl,Yam (c47 _ _ _ [_] (by simp)) (Ya6 (Yb6 (by simp[Ybz])))⟩
     ·have h4:=of_feq h;refine⟨fun h=>?_,fun h=>?_⟩
      ·obtain rfl:k=19:=of_teq h;exact call1 (c132 t _ unW Yjk (by decide) (by decide)) ⟨_,rfl,rfl,Yam (c47 _ _ _ [_] (by simp)) (Ya6 (Yb6 (by simp[Ybz])))⟩
      ·have h5:=of_feq h;refine⟨fun h=>?_,fun h=>?_⟩
       ·obtain rfl:k=20:=of_teq h;exact call1 (c132 t _ biW Yjl (by decide) (by decide)) ⟨_,rfl,rfl,Yam (c47 _ _ _ [_] (by simp)) (Ya6 (Yb6 (by simp[Ybz])))⟩
       ·have h6:=of_feq h;refine⟨fun h=>?_,fun h=>?_⟩
        ·obtain rfl:k=21:=of_teq h;exact call1 (c48 t) ⟨_,rfl,rfl,Yam (c47 _ _ _ [_] (by simp)) (Ya6 (Yb6 (by simp[Ybz])))⟩
        ·have h7:=of_feq h;exact Yam (c47 _ _ _ [_] (by simp)) (Ya6 (Yb6 (by simp[Ybz,h0,h1,h2,h3,h4,h5,h6,h7])))
def refW:List Tx:=[[102,105,101,108,100],[108,111,111,112],[112,97,99,107,97,103,101],[117,110,107,110,111,119,110]]
def Yea(t a b:Tx)(num n:Int):Bool:=
 idV t&&(if a=[]then nonV a b&&(num==0&&n==0)else if a=LET then n==1&&(b.isEmpty&&decide (0<=num))else if a∈refW then n==0&&(b.isEmpty&&decide (0<=num))else false)
theorem Ydg{w a b c:Bool}(h:c=(a&&b)):(w||!a||!b)=(w||!c):=by rw[h,Bool.not_and,Bool.or_assoc]
theorem c119(r:Nd)(q:Ref)(w d:Bool):Holds Tryz.prog 119 [.ptr (.up q) 0,.agg (encE r)] (BC q w d) (RB (BC q (w||!Yea r.text r.n0 r.n1 r.num r.subs.length) d)):=by
 refine w119 w d (encE r) q ?_;simp only[Yal,e0,e1,e2,e3,e4,e5,e6,e7,e8,isK_int,Yad,isK_slc,dint_int,Yak,dlst_slc,true_and,Yaf,Yag,Yan];generalize r.text=t;generalize r.n0=a;generalize r.n1=b;generalize r.num=num;generalize(r.subs.length:Int)=n;refine⟨teq rfl,call1 (c48 t) ⟨_,rfl,rfl,Yam (c47 _ _ _ [_] (by simp)) ?_⟩⟩;refine⟨fun h=>?_,fun h=>?_⟩
 ·obtain rfl:a=[]:=Yba h;exact⟨_,fun _=>c114 _ _,Yam (c47 _ _ _ [_,_,_] (by simp)) (Ya6 (by simp only[List.all_cons,List.all_nil,Bool.and_true,id];exact Ydg (by simp[Yea])))⟩
 ·have h0:=Ybo h;refine⟨fun h=>?_,fun h=>?_⟩
  ·obtain rfl:a=[108,101,116]:=Yba h;exact Yam (c47 _ _ _ [_,_,_] (by simp)) (Ya6 (by simp only[List.all_cons,List.all_nil,Bool.and_true,id];exact Ydg (by simp[Yea,LET,refW])))
  ·have h1:=Ybo h;refine⟨fun h=>?_,fun h=>?_⟩
   ·obtain rfl:a=[102,105,101,108,100]:=Yba h;exact Yam (c47 _ _ _ [_,_,_] (by simp)) (Ya6 (by simp only[List.all_cons,List.all_nil,Bool.and_true,id];exact Ydg (by simp[Yea,LET,refW])))
   ·have h2:=Ybo h;refine⟨fun h=>?_,fun h=>?_⟩
    ·obtain rfl:a=[108,111,111,112]:=Yba h;exact Yam (c47 _ _ _ [_,_,_] (by simp)) (Ya6 (by simp only[List.all_cons,List.all_nil,Bool.and_true,id];exact Ydg (by simp[Yea,LET,refW])))
    ·have h3:=Ybo h;refine⟨fun h=>?_,fun h=>?_⟩
     ·obtain rfl:a=[112,97,99,107,97,103,101]:=Yba h;exact Yam (c47 _ _ _ [_,_,_] (by simp)) (Ya6 (by simp only[List.all_cons,List.all_nil,Bool.and_true,id];exact Ydg (by simp[Yea,LET,refW])))
     ·have h4:=Ybo h;refine⟨fun h=>?_,fun h=>?_⟩
      ·obtain rfl:a=[117,110,107,110,111,119,110]:=Yba h;exact Yam (c47 _ _ _ [_,_,_] (by simp)) (Ya6 (by simp only[List.all_cons,List.all_nil,Bool.and_true,id];exact Ydg (by simp[Yea,LET,refW])))
      ·have h5:=Ybo h;exact Yam (c47 _ _ _ [_] (by simp)) (Ya6 (by simp only[List.all_cons,List.all_nil,Bool.and_true,id];exact Ydg (by simp[Yea,LET,refW,h0,h1,h2,h3,h4,h5])))
end Go.Sy
end
section
open Go Go.Proofs Go.Ab Go.Rf
set_option linter.unusedSimpArgs false
set_option linter.unusedVariables false
set_option maxRecDepth 100000
namespace Go.Sy
abbrev posV(cj io il:Bool)(lv:Int):List D:=[.lit (.bool cj),.lit (.bool io),.lit (.bool il),.lit (.int .i64 lv)]
def Yff(k num:Int):Bool:=if k=2\/k=14 then num==0||num==1 else if k=3 then decide (0<=num)&&fixV num else num==0
def Yjm(k:Int)(cj io il:Bool):Bool:=((io||!(k==18))&&(il||!(k==15)))&&((cj||!(k==13))&&(!cj||!(k==22)))
def Yeb(r:Nd)(cj io il:Bool):Bool:=
 ((((decide (1<=r.kind)&&decide (r.kind<=22))&&Ya9 r.kind r.num r.subs.length)&&Ybz r.kind r.text)&&(((r.kind==13||r.kind==22)||((r.decls.length:Int)+(r.tail.length:Int)==0))&&lnsV r.tail))&&
   (if r.kind=10 then Yea r.text r.n0 r.n1 r.num r.subs.length else(Yff r.kind r.num&&(if r.kind=15 then difV r.n0 r.n1 else nonV r.n0 r.n1))&&Yjm r.kind cj io il)
theorem c102(r:Nd)(q:Ref)(w d cj io il:Bool)(lv:Int)(h1:r.decls.length<=2^50)(h2:r.tail.length<=2^50):
 Holds Tryz.prog 102 [.ptr (.up q) 0,.agg (encE r),.agg (posV cj io il lv)] (BC q w d) (RB (BC q (w||!Yeb r cj io il) d)):=by
 have key:∀a b c e f g:Bool,(w||!a||!b||!c||!(e&&f)||!g)=(w||!((((a&&b)&&c)&&(e&&f))&&g)):=by intros a b c e f g;cases w<;>cases a<;>cases b<;>cases c<;>cases e<;>cases f<;>cases g<;>rfl
 refine w102 w d (encE r) (posV cj io il lv) q ?_;simp only[Yal,e0,e1,e2,e3,e4,e5,e6,e7,e8,isK_int,Yad,isK_slc,dint_int,Yak,dlst_slc,true_and,Yaf,Yag,Yan,Bool.or_true];refine⟨teq rfl,teq rfl,Yam (c47 _ _ _ [_] (by simp)) (Yam (c117 r _ _ _) (Yam (c118 r _ _ _) ⟨by rw[tle (by omega),Bool.or_true],by rw[tle (by omega),Bool.or_true],_,fun _=>c49 _ h2,Yam (c47 _ _ _ [_,_] (by simp)) ?_⟩))⟩;refine⟨fun _ x y=>y=d/\x=(w||!(decide (1<=r.kind)&&decide (r.kind<=22))||!Ya9 r.kind r.num r.subs.length||!Ybz r.kind r.text||!(((r.kind==13||r.kind==22)||((r.decls.length:Int)+(r.tail.length:Int)==0))&&lnsV r.tail)||!Yff r.kind r.num)/\r.kind≠10,⟨fun hk=>?_,fun hk=>⟨fun hk2=>?_,fun hk2=>⟨fun hk3=>?_,fun hk3=>⟨fun hk4=>?_,fun hk4=>?_⟩⟩⟩⟩,?_,trivial⟩
 ·have hk:=of_teq hk;refine Yam (c119 r _ _ _) (Ya6 ?_);simp only[List.all_cons,List.all_nil,Bool.and_true,id,Zwb];rw[key,Yeb,if_pos hk]
 ·have hk:=of_feq hk;have hk2:=of_teq hk2;refine Yam (c47 _ _ _ [_] (by simp)) ⟨rfl,?_,hk⟩;simp only[List.all_cons,List.all_nil,Bool.and_true,id,Zwb,Yff,if_pos (Or.inl hk2)]
 ·have hk:=of_feq hk;have hk2:=of_feq hk2;have hk3:=of_teq hk3;refine Yam (c47 _ _ _ [_] (by simp)) ⟨rfl,?_,hk⟩;simp only[List.all_cons,List.all_nil,Bool.and_true,id,Zwb,Yff,if_pos (Or.inr hk3)]
 ·have hk:=of_feq hk;have hk2:=of_feq hk2;have hk3:=of_feq hk3;have hk4:=of_teq hk4;refine⟨_,fun _=>c120 _,Yam (c47 _ _ _ [_,_] (by simp)) ⟨rfl,?_,hk⟩⟩;simp only[List.all_cons,List.all_nil,Bool.and_true,id,Zwb,Yff,if_neg (fun e:r.kind=2\/r.kind=14=>e.elim hk2 hk3),if_pos hk4]
 ·have hk:=of_feq hk;have hk2:=of_feq hk2;have hk3:=of_feq hk3;have hk4:=of_feq hk4;refine Yam (c47 _ _ _ [_] (by simp)) ⟨rfl,?_,hk⟩;simp only[List.all_cons,List.all_nil,Bool.and_true,id,Zwb,Yff,if_neg (fun e:r.kind=2\/r.kind=14=>e.elim hk2 hk3),if_neg hk4]
 ·rintro _ x y ⟨rfl,hx,hk⟩;refine⟨fun _ z y'=>y'=y/\z=(x||!(if r.kind=15 then difV r.n0 r.n1 else nonV r.n0 r.n1)),⟨fun h=>?_,fun h=>?_⟩,?_,trivial⟩
  ·refine call1 (c113 _ _) ⟨_,rfl,rfl,Yam (c47 _ _ _ [_] (by simp)) ⟨rfl,?_⟩⟩;rw[if_pos (of_teq h)];simp
  ·refine call1 (c114 _ _) ⟨_,rfl,rfl,Yam (c47 _ _ _ [_] (by simp)) ⟨rfl,?_⟩⟩;rw[if_neg (of_feq h)];simp
  ·rintro _ z y' ⟨rfl,hz⟩;refine⟨rfl,rfl,Yam (c47 _ _ _ [_,_] (by simp)) ⟨rfl,Yam (c47 _ _ _ [_,_] (by simp)) (Ya6 ?_)⟩⟩;simp only[List.all_cons,List.all_nil,Bool.and_true,id,Zwb];have e:=key (decide (1<=r.kind)&&decide (r.kind<=22)) (Ya9 r.kind r.num r.subs.length) (Ybz r.kind r.text) ((r.kind==13||r.kind==22)||((r.decls.length:Int)+(r.tail.length:Int)==0)) (lnsV r.tail) ((Yff r.kind r.num&&(if r.kind=15 then difV r.n0 r.n1 else nonV r.n0 r.n1))&&Yjm r.kind cj io il)
   rw[Yeb,if_neg hk,<-e,hz,hx,Yjm];simp only[Bool.not_and,Bool.or_assoc];rfl
end Go.Sy
end
section
open Go Go.Proofs Go.Ab Go.Rf
set_option linter.unusedSimpArgs false
set_option linter.unusedVariables false
set_option maxRecDepth 100000
namespace Go.Sy
def Yfg(k:Int)(t:Tx)(sc:Bool):Bool:=if k=1 then true else if k=2 then(Go.Rx.parseV t).2.1==0 else if k=4 then sc&&idV t else t.isEmpty&&(sc||!(k==8))
def nSub(k:Int):Int:=if k=7 then 2 else if k=8 then 0 else 1
def Yeu(r:Nd)(sc:Bool):Bool:=
 (((decide (1<=r.kind)&&decide (r.kind<=8))&&(lnsV r.lead&&(lnsV r.tail&&(lnsV [r.trail]&&((r.kind==5||r.kind==6)||((r.decls.length:Int)+(r.tail.length:Int)==0))))))&&
   (if r.kind=1 then decide (1<=r.num)&&decide (r.num<=3)else r.num==0))&&(Yfg r.kind r.text sc&&((if r.kind=6 then difV r.n0 r.n1 else nonV r.n0 r.n1)&&((r.subs.length:Int)==nSub r.kind)))
def ownK(k:Int):Bool:=((k==1||k==2)||k==3)||k==4
mutual
def okE:Nd->Bool->Bool->Bool->Bool
 |.mk k n t a b tr le ta p s d,cj,io,il=>(Yeb (.mk k n t a b tr le ta p s d) cj io il&&okEs s ((k==16&&cj)||k==10) (k==17) (k==14) (k==14&&n==0))&&okDs d (k==13)
def okEs:List Nd->Bool->Bool->Bool->Bool->Bool
 |[],_,_,_,_=>true
 |x::l,cj,io,il,il2=>okE x cj io (if l.isEmpty then il2 else il)&&okEs l cj io il il2
def okD:Nd->Bool->Bool
 |.mk k n t a b tr le ta p s d,sc=>(Yeu (.mk k n t a b tr le ta p s d) sc&&okFs s (sc&&ownK k))&&okDs d false
def okFs:List Nd->Bool->Bool
 |[],_=>true
 |x::l,cj=>okE x cj false false&&okFs l false
def okDs:List Nd->Bool->Bool
 |[],_=>true
 |x::l,sc=>okD x sc&&okDs l sc
end
mutual
def dpE:Nd->Int->Bool
 |.mk _ _ _ _ _ _ _ _ _ s d,lv=>(decide (16<lv)||dpEs s (lv+1))||dpDs d (lv+1)
def dpEs:List Nd->Int->Bool
 |[],_=>false
 |x::l,lv=>dpE x lv||dpEs l lv
def dpDs:List Nd->Int->Bool
 |[],_=>false
 |x::l,lv=>dpE x lv||dpDs l lv
end
theorem Yhd(r:Nd)(cj io il:Bool):okE r cj io il=((Yeb r cj io il&&okEs r.subs ((r.kind==16&&cj)||r.kind==10) (r.kind==17) (r.kind==14) (r.kind==14&&r.num==0))&&okDs r.decls (r.kind==13)):=by cases r;rw[okE];rfl
theorem Yhe(r:Nd)(sc:Bool):okD r sc=((Yeu r sc&&okFs r.subs (sc&&ownK r.kind))&&okDs r.decls false):=by cases r;rw[okD];rfl
theorem Yev(r:Nd)(lv:Int):dpE r lv=((decide (16<lv)||dpEs r.subs (lv+1))||dpDs r.decls (lv+1)):=by cases r;rw[dpE];rfl
theorem Yhf{l:List Nd}{i:Nat}(cj io il il2:Bool)(h:i<l.length):okEs (l.drop i) cj io il il2=(okE l[i] cj io (if i+1<l.length then il else il2)&&okEs (l.drop (i+1)) cj io il il2):=by
 rw[List.drop_eq_getElem_cons h,okEs]
 congr 2
 by_cases h1:i+1<l.length
 ·rw[if_pos h1,if_neg (by simp;omega)]
 ·rw[if_neg h1,if_pos (by simp;omega)]
theorem Yhg{l:List Nd}{i:Nat}(sc:Bool)(h:i<l.length):okDs (l.drop i) sc=(okD l[i] sc&&okDs (l.drop (i+1)) sc):=by rw[List.drop_eq_getElem_cons h,okDs]
theorem Yhh{l:List Nd}{i:Nat}(cj:Bool)(h:i<l.length):okFs (l.drop i) (cj&&(i==0))=(okE l[i] (cj&&(i==0)) false false&&okFs (l.drop (i+1)) (cj&&(i+1==0))):=by
 rw[List.drop_eq_getElem_cons h,okFs];simp
theorem Yew{l:List Nd}{i:Nat}(lv:Int)(h:i<l.length):dpEs (l.drop i) lv=(dpE l[i] lv||dpEs (l.drop (i+1)) lv):=by rw[List.drop_eq_getElem_cons h,dpEs]
theorem Yhi{l:List Nd}{i:Nat}(lv:Int)(h:i<l.length):dpDs (l.drop i) lv=(dpE l[i] lv||dpDs (l.drop (i+1)) lv):=by rw[List.drop_eq_getElem_cons h,dpDs]
abbrev H58(r:Nd):Prop:=∀(q:Ref)(w d cj io il:Bool)(lv:Int),0<=lv->lv+size r<=2^50->
 Holds Tryz.prog 58 [.ptr (.up q) 0,.agg (encE r),.agg (posV cj io il lv)] (BC q w d) (RB (BC q (w||!okE r cj io il) (d||dpE r lv)))
abbrev H97(r:Nd):Prop:=∀(q:Ref)(w d sc:Bool)(lv:Int),0<=lv->lv+size r<=2^50->
 Holds Tryz.prog 97 [.ptr (.up q) 0,.agg (encD r),Yae sc,intA lv] (BC q w d) (RB (BC q (w||!okD r sc) (d||dpE r lv)))
abbrev H50(l:List Nd):Prop:=∀(q:Ref)(w d sc:Bool)(lv:Int),0<=lv->lv+sizes l<=2^50->
 Holds Tryz.prog 50 [.ptr (.up q) 0,slA (Yai l),Yae sc,intA lv] (BC q w d) (RB (BC q (w||!okDs l sc) (d||dpDs l lv)))
theorem Yhj{q:Ref}{a b c d:Bool}(h:a=b)(h2:c=d):RB (BC q b d) (.ret (.tup [])) (BC q a c):=by subst h;subst h2;exact⟨rfl,rfl⟩
theorem c50(l:List Nd)(ih:∀x∈l,H97 x):H50 l:=by
 intro q w d sc lv h0 hb;have hll:=Ydb l;refine w50 w d (Yai l) sc lv q ⟨fun x y z=>∃i:Nat,x=i/\i<=l.length/\(y||!okDs (l.drop i) sc)=(w||!okDs l sc)/\(z||dpDs (l.drop i) lv)=(d||dpDs l lv),fun x _ _=>l.length-x.toNat,⟨0,rfl,Nat.zero_le _,rfl,rfl⟩,?_,trivial⟩;rintro x y z ⟨i,rfl,hi,hy,hz⟩;rw[Yag];refine⟨fun hc=>?_,fun hc=>?_⟩
 ·have k1:i<l.length:=by have:=of_tlt hc;omega
  have hm:=List.getElem_mem k1;have hsz:=Ybw hm;rw[Ycf rfl k1];refine⟨tle (by omega),teq (by simp),Yam (ih _ hm _ y z sc lv h0 (by omega)) ⟨tle (by omega),tle (by omega),⟨i+1,rfl,k1,?_,?_⟩,dec k1⟩⟩
  ·rw[<-hy,Yhg sc k1,Bool.not_and,Bool.or_assoc]
  ·rw[<-hz,Yhi lv k1,Bool.or_assoc]
 ·have k1:l.length<=i:=by have:=of_flt hc;omega
  rw[List.drop_eq_nil_of_le k1]at hy hz;exact Yhj (by rw[<-hy];simp[okDs]) (by rw[<-hz];simp[dpDs])
theorem c58(r:Nd)(h1:r.decls.length<=2^50)(h2:r.tail.length<=2^50)(ihs:∀x∈r.subs,H58 x)(ihd:H50 r.decls):H58 r:=by
 intro q w d cj io il lv h0 hb;have hz:=size_eq r;have hsl:=Ydb r.subs;have hE:=Yhd r cj io il;have hP:=Yev r lv;refine w58 w d (encE r) (posV cj io il lv) q ?_;simp only[Yal,e0,e1,e2,e3,e4,e5,e6,e7,e8,isK_int,Yad,isK_slc,dint_int,Yak,dlst_slc,true_and,Yaf,Yag,Yan,Bool.or_true];refine⟨teq rfl,teq rfl,fun _ y=>y=(d||decide (16<lv)),⟨rfl,fun h=>?_,fun h=>?_⟩,?_,trivial⟩
 ·have h:16<lv:=of_tlt h;simp[h]
 ·have h:¬16<lv:=by have:lv<=16:=of_flt h;omega
  simp[h]
 ·rintro _ y rfl;refine Yam (c102 r _ _ _ cj io il lv h1 h2) ?_;refine⟨fun x y z=>∃i:Nat,x=i/\i<=r.subs.length/\(y||!okEs (r.subs.drop i) ((r.kind==16&&cj)||r.kind==10) (r.kind==17) (r.kind==14) (r.kind==14&&r.num==0))=(w||!(Yeb r cj io il&&okEs r.subs ((r.kind==16&&cj)||r.kind==10) (r.kind==17) (r.kind==14) (r.kind==14&&r.num==0)))/\(z||dpEs (r.subs.drop i) (lv+1))=(d||(decide (16<lv)||dpEs r.subs (lv+1))),fun x _ _=>r.subs.length-x.toNat,⟨0,rfl,Nat.zero_le _,by rw[Bool.not_and,<-Bool.or_assoc];rfl,by rw[<-Bool.or_assoc];rfl⟩,?_,trivial⟩;rintro x y z ⟨i,rfl,hi,hy,hz2⟩;refine⟨fun hc=>?_,fun hc=>?_⟩
  ·have k1:i<r.subs.length:=by have:=of_tlt hc;omega
   have hm:=List.getElem_mem k1;have hsz:=Ybw hm;rw[Ybd rfl k1];refine⟨tle (by omega),teq (by simp),by simp,by rw[tle (by omega),Bool.or_true],by rw[tle (by omega),Bool.or_true],rfl,tle (by simp;omega),tle (by simp;omega),?_⟩;refine Yam (ihs _ hm _ y z _ _ _ (lv+1) (by omega) (by omega)) ⟨tle (by omega),tle (by omega),⟨i+1,rfl,k1,?_,?_⟩,dec k1⟩
   ·rw[<-hy,Yhf _ _ _ _ k1,Bool.not_and,Bool.or_assoc]
    have e:(tB (r.kind==14)&&(tB (r.num==0)||tB (decide ((i:Int)+1<(r.subs.length:Int)))))=(if i+1<r.subs.length then r.kind==14 else(r.kind==14&&r.num==0)):=by
     by_cases hlt:i+1<r.subs.length
     ·have:(i:Int)+1<r.subs.length:=by omega
      simp[hlt,this]
     ·have:¬(i:Int)+1<r.subs.length:=by omega
      simp[hlt,this]
    rw[e];simp only[Zwb];rfl
   ·rw[<-hz2,Yew _ k1,Bool.or_assoc]
  ·have k1:r.subs.length<=i:=by have:=of_flt hc;omega
   rw[List.drop_eq_nil_of_le k1]at hy hz2;rw[okEs,Bool.not_true,Bool.or_false]at hy;rw[dpEs,Bool.or_false]at hz2;refine⟨rfl,tle (by simp;omega),tle (by simp;omega),Yam (ihd _ y z _ (lv+1) (by omega) (by omega)) (Yhj ?_ ?_)⟩
   ·rw[hE,hy];simp only[Zwb,Bool.not_and,Bool.or_assoc]
   ·rw[hP,hz2];simp only[Bool.or_assoc]
end Go.Sy
end
section
open Go Go.Proofs Go.Ab Go.Rf
set_option linter.unusedSimpArgs false
set_option linter.unusedVariables false
set_option maxRecDepth 100000
namespace Go.Sy
theorem c97(r:Nd)(hlm:Lim r)(ihs:∀x∈r.subs,H58 x)(ihd:H50 r.decls):H97 r:=by
 intro q w d sc lv h0 hb;obtain⟨l1,l2,l3,l4⟩:=hlm;have hz:=size_eq r;have hsl:=Ydb r.subs;have hE:=Yhe r sc;have hP:=Yev r lv;have cat:∀A B P L N S:Bool,(w||!A||!B||!P||!L||!N||!S)=(w||!(((A&&B)&&P)&&(L&&(N&&S)))):=by intros A B P L N S;cases w<;>cases A<;>cases B<;>cases P<;>cases L<;>cases N<;>cases S<;>rfl
 refine w97 w d (encD r) sc lv q ?_;simp only[Yao,d0,d1,d2,d3,d4,d5,d6,d7,d8,d9,d10,isK_int,Yad,isK_slc,dint_int,Yak,dlst_slc,true_and,Yaf,Yag,Yan,Bool.or_true];refine⟨teq rfl,fun _ y=>y=(d||decide (16<lv)),⟨fun h=>?_,fun h=>?_⟩,?_,trivial⟩
 ·have h:16<lv:=of_tlt h;simp[h]
 ·have h:¬16<lv:=by have:lv<=16:=of_flt h;omega
  simp[h]
 rintro _ y rfl;refine Yam (c47 _ _ _ [_] (by simp)) ⟨_,fun _=>c49 _ l4,_,fun _=>c49 _ l3,_,fun _=>c49 [r.trail] (by simp),by rw[tle (by omega),Bool.or_true],by rw[tle (by omega),Bool.or_true],Yam (c47 _ _ _ [_,_,_,_] (by simp)) ?_⟩;obtain⟨W1,hW1⟩:∃W1,(w||!(decide (1<=r.kind)&&decide (r.kind<=8))||!(lnsV r.lead&&(lnsV r.tail&&(lnsV [r.trail]&&((r.kind==5||r.kind==6)||((r.decls.length:Int)+(r.tail.length:Int)==0))))))=W1:=⟨_,rfl⟩
 have eW:((w||!([tB (decide (1<=r.kind))&&tB (decide (r.kind<=8))].all id))||!([lnsV r.lead,lnsV r.tail,lnsV [r.trail],(tB (r.kind==5)||tB (r.kind==6))||tB ((r.decls.length:Int)+(r.tail.length:Int)==0)].all id))=W1:=by
  rw[<-hW1];simp only[List.all_cons,List.all_nil,Bool.and_true,id,Zwb]
 rw[eW];refine⟨fun _ x z=>z=(d||decide (16<lv))/\x=(W1||!(if r.kind=1 then decide (1<=r.num)&&decide (r.num<=3)else r.num==0)),⟨fun hk=>?_,fun hk=>?_⟩,?_,trivial⟩
 ·refine Yam (c47 _ _ _ [_] (by simp)) ⟨rfl,?_⟩;rw[if_pos (by simpa using hk)];simp
 ·refine Yam (c47 _ _ _ [_] (by simp)) ⟨rfl,?_⟩;rw[if_neg (by simpa using hk)];simp
 rintro _ x2 z ⟨rfl,hx2⟩;refine⟨fun _ x z=>z=(d||decide (16<lv))/\x=(x2||!Yfg r.kind r.text sc),⟨fun hk=>?_,fun hk=>⟨fun hk2=>?_,fun hk2=>⟨fun hk4=>?_,fun hk4=>?_⟩⟩⟩,?_,trivial⟩
 ·have hk:r.kind=1:=by simpa using hk
  exact⟨rfl,by simp[Yfg,hk]⟩
 ·have hk:¬r.kind=1:=by simpa using hk
  have hk2:r.kind=2:=by simpa using hk2
  refine call1 (v:=Go.Rx.pairA (Go.Rx.parseV r.text)) (Go.Rx.c19 r.text) ⟨_,_,rfl,rfl,teq (by simp),teq rfl,rfl,Yam (c47 _ _ _ [_] (by simp)) ⟨rfl,?_⟩⟩;simp[Yfg,hk2]
 ·have hk:¬r.kind=1:=by simpa using hk
  have hk2:¬r.kind=2:=by simpa using hk2
  have hk4:r.kind=4:=by simpa using hk4
  refine call1 (c48 r.text) ⟨_,rfl,rfl,Yam (c47 _ _ _ [_,_] (by simp)) ⟨rfl,?_⟩⟩;simp[Yfg,hk4]
 ·have hk:¬r.kind=1:=by simpa using hk
  have hk2:¬r.kind=2:=by simpa using hk2
  have hk4:¬r.kind=4:=by simpa using hk4
  refine Yam (c47 _ _ _ [_,_] (by simp)) ⟨rfl,?_⟩;simp[Yfg,hk,hk2,hk4]
 rintro _ x3 z ⟨rfl,hx3⟩;refine⟨fun _ _ x z=>z=(d||decide (16<lv))/\x=(x3||!(if r.kind=6 then difV r.n0 r.n1 else nonV r.n0 r.n1)),⟨fun hk=>?_,fun hk=>?_⟩,?_,trivial⟩
 ·refine call1 (c113 _ _) ⟨_,rfl,rfl,Yam (c47 _ _ _ [_] (by simp)) ⟨rfl,?_⟩⟩;rw[if_pos (by simpa using hk)];simp
 ·refine call1 (c114 _ _) ⟨_,rfl,rfl,Yam (c47 _ _ _ [_] (by simp)) ⟨rfl,?_⟩⟩;rw[if_neg (by simpa using hk)];simp
 rintro _ _ x4 z ⟨rfl,hx4⟩;refine⟨fun n _=>n=nSub r.kind,⟨fun hk=>?_,fun hk=>⟨fun hk2=>?_,fun hk2=>?_⟩⟩,?_,trivial⟩
 ·have hk:r.kind=7:=by simpa using hk
  simp[nSub,hk]
 ·have hk:¬r.kind=7:=by simpa using hk
  have hk2:r.kind=8:=by simpa using hk2
  simp[nSub,hk2]
 ·have hk:¬r.kind=7:=by simpa using hk
  have hk2:¬r.kind=8:=by simpa using hk2
  simp[nSub,hk,hk2]
 rintro n _ rfl
 have e5:(x4||!([tB ((r.subs.length:Int)==nSub r.kind)].all id))=(w||!Yeu r sc):=by
  simp only[List.all_cons,List.all_nil,Bool.and_true,id,Zwb];rw[hx4,hx3,hx2,<-hW1,cat,show(((((decide (1<=r.kind)&&decide (r.kind<=8))&&(lnsV r.lead&&(lnsV r.tail&&(lnsV [r.trail]&&((r.kind==5||r.kind==6)||((r.decls.length:Int)+(r.tail.length:Int)==0))))))&&(if r.kind=1 then decide (1<=r.num)&&decide (r.num<=3)else r.num==0))&&(Yfg r.kind r.text sc&&((if r.kind=6 then difV r.n0 r.n1 else nonV r.n0 r.n1)&&((r.subs.length:Int)==nSub r.kind)))))=Yeu r sc from rfl]
 refine Yam (c47 _ _ _ [_] (by simp)) ?_;rw[e5];refine⟨fun x y z=>∃i:Nat,x=i/\i<=r.subs.length/\(y||!okFs (r.subs.drop i) ((sc&&ownK r.kind)&&(i==0)))=(w||!(Yeu r sc&&okFs r.subs (sc&&ownK r.kind)))/\(z||dpEs (r.subs.drop i) (lv+1))=(d||(decide (16<lv)||dpEs r.subs (lv+1))),fun x _ _=>r.subs.length-x.toNat,⟨0,rfl,Nat.zero_le _,by rw[Bool.not_and,<-Bool.or_assoc];simp,by rw[<-Bool.or_assoc];rfl⟩,?_,trivial⟩;rintro x y z ⟨i,rfl,hi,hy,hz2⟩;refine⟨fun hc=>?_,fun hc=>?_⟩
 ·have k1:i<r.subs.length:=by have:=of_tlt hc;omega
  have hm:=List.getElem_mem k1;have hsz:=Ybw hm;rw[Ybd rfl k1];refine⟨tle (by omega),teq (by simp),tle (by omega),tle (by omega),Yam (ihs _ hm _ y z _ _ _ (lv+1) (by omega) (by omega)) ⟨tle (by omega),tle (by omega),⟨i+1,rfl,k1,?_,?_⟩,dec k1⟩⟩
  ·rw[<-hy,Yhh _ k1,Bool.not_and,Bool.or_assoc];have e:(((i:Int)==0):Bool)=(i==0):=by rw[Bool.eq_iff_iff];simp
   rw[show(tB ((i:Int)==0))=(i==0) by rw[Zwb];exact e];simp only[Zwb];rfl
  ·rw[<-hz2,Yew _ k1,Bool.or_assoc]
 ·have k1:r.subs.length<=i:=by have:=of_flt hc;omega
  rw[List.drop_eq_nil_of_le k1]at hy hz2;rw[okFs,Bool.not_true,Bool.or_false]at hy;rw[dpEs,Bool.or_false]at hz2;refine⟨tle (by omega),tle (by omega),Yam (ihd _ y z _ (lv+1) (by omega) (by omega)) (Yhj ?_ ?_)⟩
  ·rw[hE,hy];simp only[Bool.not_and,Bool.or_assoc]
  ·rw[hP,hz2];simp only[Bool.or_assoc]
end Go.Sy
end
section
open Go Go.Proofs Go.Ab Go.Rf
set_option linter.unusedSimpArgs false
set_option linter.unusedVariables false
set_option maxRecDepth 100000
namespace Go.Sy
def verV(ok dp:Bool):Int:=if(!ok)=true then 11 else if dp=true then 9 else 0
theorem Ylt{a b:Int}(h:a=b):Ret (intA b) (.ret (intA a)) []:=by subst h;exact⟨rfl,rfl⟩
theorem Ylu:∀r:Nd,Lm r->H58 r/\H97 r:=by
 refine Ya0 fun r hs hd hl=>?_
 have ihs:∀x∈r.subs,H58 x:=fun x hx=>(hs x hx (hl.sub hx)).1
 have ihd:H50 r.decls:=c50 r.decls fun x hx=>(hd x hx (hl.dec hx)).2
 exact⟨c58 r hl.here.2.1 hl.here.2.2.1 ihs ihd,c97 r hl.here ihs ihd⟩
def okFl(f:Fl):Bool:=(((f.pkg.isEmpty||idV f.pkg)&&lnsV f.tail)&&f.imps.all fun i=>idV i.name)&&okDs f.decls true
def verF(f:Fl):Int:=verV (okFl f) (dpDs f.decls 1)
theorem c14(f:Fl)(hl:LmF f)(hz:sizes f.decls<=2^40):Holds Tryz.prog 14 [.agg (Ybi f)] [] (Ret (intA (verF f))):=by
 obtain⟨⟨l1,l2,l3⟩,hd⟩:=hl;have hD:H50 f.decls:=c50 f.decls fun x hx=>(Ylu x (hd x hx)).2
 refine w14 (Ybi f) ?_;simp only[Yaw,f0,f1,f2,f3,Yad,isK_slc,Yak,dlst_slc,true_and,Ybe];refine⟨_,⟨teq rfl,trivial⟩,fun _=>⟨fun hp=>⟨_,fun _=>c48 _,_,fun _=>c49 _ l3,fun ν=>Yam (c47 (.own 7 (ν 7)) _ _ [_,_] (by simp)) ?_ ν⟩,fun hp=>⟨_,fun _=>c49 _ l3,fun ν=>Yam (c47 (.own 7 (ν 7)) _ _ [_,_] (by simp)) ?_ ν⟩⟩,trivial⟩
 all_goals
  obtain⟨W,hW⟩:∃W,(!((f.pkg.isEmpty||idV f.pkg)&&lnsV f.tail))=W:=⟨_,rfl⟩
  first
   |have eW:(false||!([idV f.pkg,lnsV f.tail].all id))=W:=by
     rw[<-hW];have:f.pkg.isEmpty=false:=by simpa using hp
     simp[this]
    rw[eW]
   |have eW:(false||!([true,lnsV f.tail].all id))=W:=by
     rw[<-hW];have:f.pkg.isEmpty=true:=by simpa using hp
     simp[this]
    rw[eW]
  refine⟨fun x y z=>∃i:Nat,x=i/\i<=f.imps.length/\(y||!((f.imps.drop i).all fun i=>idV i.name))=(W||!(f.imps.all fun i=>idV i.name))/\z=false,fun x _ _=>f.imps.length-x.toNat,⟨0,rfl,Nat.zero_le _,rfl,rfl⟩,?_,trivial⟩;rintro x y z ⟨i,rfl,hi,hy,rfl⟩;refine⟨fun hc=>?_,fun hc=>?_⟩
  ·have k1:i<f.imps.length:=by have:=of_tlt hc;omega
   rw[Ydi rfl k1];refine⟨tle (by omega),teq rfl,rfl,call1 (c48 _) ⟨_,rfl,rfl,fun ν=>Yam (c47 (.own 7 (ν 7)) _ _ [_] (by simp)) ⟨tle (by omega),tle (by omega),⟨i+1,rfl,k1,?_,rfl⟩,dec k1⟩ ν⟩⟩;rw[<-hy,List.drop_eq_getElem_cons k1];simp only[i0,Yak,List.all_cons,List.all_nil,Bool.and_true,id,Bool.not_and,Bool.or_assoc]
  ·have k1:f.imps.length<=i:=by have:=of_flt hc;omega
   rw[List.drop_eq_nil_of_le k1]at hy;have hy:y=(W||!(f.imps.all fun i=>idV i.name)):=by rw[<-hy];simp
   refine fun ν=>Yam (hD (.own 7 (ν 7)) y false true 1 (by omega) (by omega)) (fun ν=>callB (c51 (.own 7 (ν 7)) _ _) ⟨_,_,_,rfl,rfl,Ylt ?_⟩ ν) ν
   rw[verF,okFl,verV,hy,<-hW];simp only[Bool.not_and,Bool.false_or]
theorem Ykk:∀r:Nd,(size r:Int)<=wE r/\(size r:Int)<=wD r:=by
 refine Ya0 fun r hs hd=>?_
 have kE:∀l:List Nd,(∀x∈l,x∈r.subs)->(sizes l:Int)<=wEs l:=by
  intro l
  induction l with
  |nil=>intro _;simp[sizes,wEs]
  |cons x l ih=>
   intro h;have:=ih fun y hy=>h y (List.mem_cons_of_mem _ hy)
   have:=(hs x (h x (List.mem_cons_self ..))).1;rw[sizes,wEs];push_cast;omega
 have kD:∀l:List Nd,(∀x∈l,x∈r.decls)->(sizes l:Int)<=wDs l:=by
  intro l
  induction l with
  |nil=>intro _;simp[sizes,wDs]
  |cons x l ih=>
   intro h;have:=ih fun y hy=>h y (List.mem_cons_of_mem _ hy)
   have:=(hd x (h x (List.mem_cons_self ..))).2;rw[sizes,wDs];push_cast;omega
 have a:=kE r.subs fun _ h=>h
 have b:=kD r.decls fun _ h=>h
 have o:=Ydy r;rw[Ygf,Ygg,size_eq];omega
theorem Yhk:∀l:List Nd,(sizes l:Int)<=wDs l
 |[]=>by simp[sizes,wDs]
 |x::l=>by
  have:=Yhk l;have:=(Ykk x).2;rw[sizes,wDs];push_cast;omega
end Go.Sy
end
section
open Go Go.Proofs Go.Ab Go.Rf
set_option linter.unusedSimpArgs false
set_option maxRecDepth 100000
namespace Go.Sy
theorem Yb5{l m:List Nd}(h:eqEs l m=true):l.length=m.length:=by
 by_cases e:l.length=m.length
 ·exact e
 ·rw[Ydv e]at h;cases h
theorem Yfh{l m:List Nd}(h:eqDs l m=true):l.length=m.length:=by
 by_cases e:l.length=m.length
 ·exact e
 ·rw[Yc0 e]at h;cases h
theorem Yfi{l m:List Im}(h:eqIs l m=true):l.length=m.length:=by
 by_cases e:l.length=m.length
 ·exact e
 ·rw[Yc1 e]at h;cases h
theorem Yex{x y:Nd}(h:eqE x y=true):(x.kind=y.kind/\x.text=y.text/\x.num=y.num/\x.n0=y.n0/\x.n1=y.n1)/\x.tail=y.tail/\eqEs x.subs y.subs=true/\eqDs x.decls y.decls=true:=by
 rw[Yec]at h;simp only[Bool.and_eq_true,beq_iff_eq,decide_eq_true_eq]at h;exact⟨⟨h.1.1.1.1.1.1.1,h.1.1.1.1.1.1.2,h.1.1.1.1.1.2,h.1.1.1.1.2,h.1.1.1.2⟩,h.1.1.2,h.1.2,h.2⟩
theorem Yey{x y:Nd}(h:eqD x y=true):(x.kind=y.kind/\x.num=y.num/\x.text=y.text/\x.n0=y.n0/\x.n1=y.n1)/\x.trail=y.trail/\x.lead=y.lead/\x.tail=y.tail/\eqEs x.subs y.subs=true/\eqDs x.decls y.decls=true:=by
 rw[Yed]at h;simp only[Bool.and_eq_true,beq_iff_eq,decide_eq_true_eq]at h;exact⟨⟨h.1.1.1.1.1.1.1.1.1,h.1.1.1.1.1.1.1.1.2,h.1.1.1.1.1.1.1.2,h.1.1.1.1.1.1.2,h.1.1.1.1.1.2⟩,h.1.1.1.1.2,h.1.1.1.2,h.1.1.2,h.1.2,h.2⟩
theorem c66(l m:List Nd)(hl:l.length<=2^50)(hlm:∀x∈l,Lim x)(ih:∀x∈l,(∀m,Holds Tryz.prog 66 [slA (Yai x.decls),slA (Yai m)] [] (Ret (Yae (eqDs x.decls m))))/\
 ∀e∈x.subs,∀y,Holds Tryz.prog 22 [.agg (encE e),.agg (encE y)] [] (Ret (Yae (eqE e y)))):
 Holds Tryz.prog 66 [slA (Yai l),slA (Yai m)] [] (Ret (Yae (eqDs l m))):=by
 refine w66 _ _ ⟨fun h=>?_,fun h=>?_⟩
 ·exact⟨by rw[Yc0 (by simp at h;omega)],rfl⟩
 ·have hlen:l.length=m.length:=by simp at h;omega
  refine⟨fun x=>∃i:Nat,x=i/\i<=l.length/\eqDs (l.drop i) (m.drop i)=eqDs l m,fun x=>l.length-x.toNat,⟨0,rfl,Nat.zero_le _,rfl⟩,?_,trivial⟩;rintro x ⟨i,rfl,hi,hr⟩;refine⟨fun hc=>?_,fun hc=>?_⟩
  ·have h1:i<l.length:=by have:=of_tlt hc;simp at this;omega
   have h2:i<m.length:=by omega
   rw[Yaa h1,Yaa h2,eqDs]at hr;have hx:=List.getElem_mem h1;have l1:=hlm _ hx;have ihx:=ih _ hx;rw[Ycf rfl h1,Ycf rfl h2];generalize l[i]=a at hr l1 ihx;generalize m[i]=b at hr;have no:eqD a b=false->Ret (Yae (eqDs l m)) (.ret (Yae false)) []:=fun h=>⟨by rw[<-hr,h];rfl,rfl⟩
   simp only[Yao,d0,d1,d2,d3,d4,d5,d6,d7,d8,d9,d10,isK_int,Yad,isK_slc,dint_int,Yak,dlst_slc,Bool.or_true,true_and];refine⟨tle (by omega),tlt (by simp;omega),teq rfl,teq rfl,fun hn=>no ?_,fun hn=>?_⟩
   ·cases he:eqD a b with
    |false=>rfl
    |true=>
     exfalso;obtain⟨⟨p1,p2,p3,p4,p5⟩,p6,_,_,p7,_⟩:=Yey he;have:=Yb5 p7;simp[p1,p2,p3,p4,p5,p6,this]at hn
   ·have hn':((a.kind=b.kind/\a.num=b.num/\a.text=b.text/\a.n0=b.n0/\a.n1=b.n1)/\a.trail=b.trail)/\a.subs.length=b.subs.length:=by
     simp only[Zwb,Bool.or_eq_false_iff,Bool.not_eq_false',Bool.and_eq_true,beq_iff_eq,Yaf]at hn;obtain⟨⟨⟨⟨⟨q1,q2⟩,q3⟩,q4⟩,q5⟩,q6⟩:=hn;exact⟨⟨⟨q1,q2,q3,q4.1,q4.2⟩,q5⟩,by omega⟩
    obtain⟨⟨⟨q1,q2,q3,q4,q4'⟩,q5⟩,q6⟩:=hn';have hed:eqD a b=(decide (a.lead=b.lead)&&decide (a.tail=b.tail)&&eqEs a.subs b.subs&&eqDs a.decls b.decls):=by rw[Yed,q1,q2,q3,q4,q4',q5];simp
    rw[hed]at no hr;refine call1 (c23 _ _ (Nat.le_trans l1.2.2.2 (by omega))) ⟨_,rfl,rfl,fun h3=>?_,fun h3=>no (by simp[h3])⟩;refine call1 (c23 _ _ (Nat.le_trans l1.2.2.1 (by omega))) ⟨_,rfl,rfl,fun h4=>?_,fun h4=>no (by simp[h4])⟩;refine call1 (ihx.1 b.decls) ⟨_,rfl,rfl,fun h5=>no (by rw[nb1 h5];simp),fun h5=>?_⟩;have h5:eqDs a.decls b.decls=true:=by simpa using h5
    refine⟨fun x=>∃j:Nat,x=j/\j<=a.subs.length/\eqEs (a.subs.drop j) (b.subs.drop j)=eqEs a.subs b.subs,fun x=>a.subs.length-x.toNat,⟨0,rfl,Nat.zero_le _,rfl⟩,?_,trivial⟩;rintro x ⟨j,rfl,hj,hrj⟩;refine⟨fun hcj=>?_,fun hcj=>?_⟩
    ·have k1:j<a.subs.length:=by have:=of_tlt hcj;simp at this;omega
     have k2:j<b.subs.length:=by omega
     rw[Yaa k1,Yaa k2,eqEs]at hrj;rw[Ybd rfl k1,Ybd rfl k2];refine⟨tle (by omega),teq (by simp),tlt (by simp;omega),teq (by simp),call1 (ihx.2 _ (List.getElem_mem k1) _) ⟨_,rfl,rfl,fun hn=>?_,fun hn=>⟨tle (by omega),tle (by have:=l1.1;omega),⟨j+1,rfl,k1,?_⟩,dec k1⟩⟩⟩
     ·have hn:eqE a.subs[j] b.subs[j]=false:=by simpa using hn
      exact no (by rw[<-hrj,hn];simp)
     ·have hn:eqE a.subs[j] b.subs[j]=true:=by simpa using hn
      rw[<-hrj,hn];rfl
    ·have k1:a.subs.length<=j:=by have:=of_flt hcj;simp at this;omega
     rw[Yac k1,Yac (by omega)]at hrj;have h6:eqEs a.subs b.subs=true:=by rw[<-hrj];simp[eqEs]
     exact⟨tle (by omega),tle (by omega),⟨i+1,rfl,h1,by rw[<-hr,h3,h4,h5,h6];rfl⟩,dec h1⟩
  ·have h1:l.length<=i:=by have:=of_flt hc;simp at this;omega
   rw[Yac h1,Yac (by omega)]at hr;exact⟨by rw[<-hr];simp[eqDs],rfl⟩
theorem Ylv:∀(r:Nd),Lm r->(∀y,Holds Tryz.prog 22 [.agg (encE r),.agg (encE y)] [] (Ret (Yae (eqE r y))))/\(∀m,Holds Tryz.prog 66 [slA (Yai r.decls),slA (Yai m)] [] (Ret (Yae (eqDs r.decls m))))/\
 ∀e∈r.subs,∀y,Holds Tryz.prog 22 [.agg (encE e),.agg (encE y)] [] (Ret (Yae (eqE e y))):=by
 refine Ya0 fun r hs hd hl=>?_
 have l1:=hl.here;have ihs:∀e∈r.subs,∀y,Holds Tryz.prog 22 [.agg (encE e),.agg (encE y)] [] (Ret (Yae (eqE e y))):=fun x hx=>(hs x hx (hl.sub hx)).1
 have ihd:∀m,Holds Tryz.prog 66 [slA (Yai r.decls),slA (Yai m)] [] (Ret (Yae (eqDs r.decls m))):=fun m=>
  c66 r.decls m l1.2.1 (fun x hx=>(hl.dec hx).here) fun x hx=>(hd x hx (hl.dec hx)).2
 refine⟨fun y=>?_,ihd,ihs⟩;have no:eqE r y=false->Ret (Yae (eqE r y)) (.ret (Yae false)) []:=fun h=>⟨by rw[h],rfl⟩
 refine w22 (encE r) (encE y) ?_;simp only[Yal,e0,e1,e2,e3,e4,e5,e6,e7,e8,isK_int,Yad,isK_slc,dint_int,Yak,dlst_slc,Bool.or_true,true_and];refine⟨teq rfl,teq rfl,fun hn=>?_,fun hn=>no ?_⟩
 ·have hn':(r.kind=y.kind/\r.text=y.text/\r.num=y.num/\r.n0=y.n0/\r.n1=y.n1)/\r.subs.length=y.subs.length:=by
   simp only[Zwb,Bool.or_eq_false_iff,Bool.not_eq_true',Bool.not_eq_false',Bool.and_eq_true,beq_iff_eq,Yaf]at hn;obtain⟨⟨⟨⟨q1,q2⟩,q3⟩,q4⟩,q6⟩:=hn;exact⟨⟨q1,q2,q3,q4.1,q4.2⟩,by omega⟩
  obtain⟨⟨q1,q2,q3,q4,q4'⟩,q6⟩:=hn';have hee:eqE r y=(decide (r.tail=y.tail)&&eqEs r.subs y.subs&&eqDs r.decls y.decls):=by rw[Yec,q1,q2,q3,q4,q4'];simp
  rw[hee]at no⊢;refine call1 (c23 _ _ (Nat.le_trans l1.2.2.1 (by omega))) ⟨_,rfl,rfl,fun h3=>no (by rw[nb1 h3];rfl),fun h3=>?_⟩;have h3:decide (r.tail=y.tail)=true:=by simpa using h3
  refine⟨fun x=>∃j:Nat,x=j/\j<=r.subs.length/\eqEs (r.subs.drop j) (y.subs.drop j)=eqEs r.subs y.subs,fun x=>r.subs.length-x.toNat,⟨0,rfl,Nat.zero_le _,rfl⟩,?_,trivial⟩;rintro x ⟨j,rfl,hj,hrj⟩;refine⟨fun hcj=>?_,fun hcj=>?_⟩
  ·have k1:j<r.subs.length:=by have:=of_tlt hcj;simp at this;omega
   have k2:j<y.subs.length:=by omega
   rw[Yaa k1,Yaa k2,eqEs]at hrj;rw[Ybd rfl k1,Ybd rfl k2];refine⟨tle (by omega),teq (by simp),tlt (by simp;omega),teq (by simp),call1 (ihs _ (List.getElem_mem k1) _) ⟨_,rfl,rfl,fun hn=>?_,fun hn=>⟨tle (by omega),tle (by have:=l1.1;omega),⟨j+1,rfl,k1,?_⟩,dec k1⟩⟩⟩
   ·have hn:eqE r.subs[j] y.subs[j]=false:=by simpa using hn
    exact no (by rw[<-hrj,hn];simp)
   ·have hn:eqE r.subs[j] y.subs[j]=true:=by simpa using hn
    rw[<-hrj,hn];rfl
  ·have k1:r.subs.length<=j:=by have:=of_flt hcj;simp at this;omega
   rw[Yac k1,Yac (by omega)]at hrj;have h6:eqEs r.subs y.subs=true:=by rw[<-hrj];simp[eqEs]
   exact call1 (ihd y.decls) ⟨_,rfl,rfl,by rw[h3,h6];simp,rfl⟩
 ·cases he:eqE r y with
  |false=>rfl
  |true=>
   exfalso;obtain⟨⟨p1,p2,p3,p4,p5⟩,_,p7,_⟩:=Yex he;have:=Yb5 p7;simp[p1,p2,p3,p4,p5,this]at hn
theorem c66'(l m:List Nd)(hl:l.length<=2^50)(h:∀x∈l,Lm x):Holds Tryz.prog 66 [slA (Yai l),slA (Yai m)] [] (Ret (Yae (eqDs l m))):=
 c66 l m hl (fun x hx=>(h x hx).here) fun x hx=>(Ylv x (h x hx)).2
theorem Yfj:∀{l m:List Nd}{i:Nat}(h:eqEs l m=true)(h1:i<l.length)(h2:i<m.length),eqE l[i] m[i]=true
 |a::l,b::m,0,h,_,_=>by rw[eqEs,Bool.and_eq_true]at h;exact h.1
 |a::l,b::m,i+1,h,h1,h2=>by rw[eqEs,Bool.and_eq_true]at h;exact Yfj h.2 (by simpa using h1) (by simpa using h2)
theorem Yhl:∀{l m:List Nd}{i:Nat}(h:eqDs l m=true)(h1:i<l.length)(h2:i<m.length),eqD l[i] m[i]=true
 |a::l,b::m,0,h,_,_=>by rw[eqDs,Bool.and_eq_true]at h;exact h.1
 |a::l,b::m,i+1,h,h1,h2=>by rw[eqDs,Bool.and_eq_true]at h;exact Yhl h.2 (by simpa using h1) (by simpa using h2)
mutual
def plE:Nd->Nd->Bool
 |.mk _ _ _ _ _ _ _ _ p s d,y=>plEs s y.subs&&(p==y.pos&&plDs d y.decls)
def plEs:List Nd->List Nd->Bool
 |a::l,b::m=>plE a b&&plEs l m
 |_,_=>true
def plD:Nd->Nd->Bool
 |.mk _ _ _ _ _ _ _ _ p s d,y=>p==y.pos&&(plDs d y.decls&&plEs s y.subs)
def plDs:List Nd->List Nd->Bool
 |a::l,b::m=>plD a b&&plDs l m
 |_,_=>true
end
theorem Yix(x y:Nd):plE x y=(plEs x.subs y.subs&&(x.pos==y.pos&&plDs x.decls y.decls)):=by cases x;rw[plE];rfl
theorem Yiy(x y:Nd):plD x y=(x.pos==y.pos&&(plDs x.decls y.decls&&plEs x.subs y.subs)):=by cases x;rw[plD];rfl
theorem c84(l m:List Nd)(hl:l.length<=2^50)(hlm:∀x∈l,Lim x)(he:eqDs l m=true)(ih:∀x∈l,(∀m,eqDs x.decls m=true->Holds Tryz.prog 84 [slA (Yai x.decls),slA (Yai m)] [] (Ret (Yae (plDs x.decls m))))/\
 ∀e∈x.subs,∀y,eqE e y=true->Holds Tryz.prog 89 [.agg (encE e),.agg (encE y)] [] (Ret (Yae (plE e y)))):
 Holds Tryz.prog 84 [slA (Yai l),slA (Yai m)] [] (Ret (Yae (plDs l m))):=by
 have hlen:=Yfh he;refine w84 _ _ ⟨fun x=>∃i:Nat,x=i/\i<=l.length/\plDs (l.drop i) (m.drop i)=plDs l m,fun x=>l.length-x.toNat,⟨0,rfl,Nat.zero_le _,rfl⟩,?_,trivial⟩;rintro x ⟨i,rfl,hi,hr⟩;refine⟨fun hc=>?_,fun hc=>?_⟩
 ·have h1:i<l.length:=by have:=of_tlt hc;simp at this;omega
  have h2:i<m.length:=by omega
  rw[Yaa h1,Yaa h2,plDs]at hr;have hx:=List.getElem_mem h1;have l1:=hlm _ hx;have ihx:=ih _ hx;have hab:=Yhl he h1 h2;rw[Ycf rfl h1,Ycf rfl h2];generalize l[i]=a at hr l1 ihx hab;generalize m[i]=b at hr hab;have no:plD a b=false->Ret (Yae (plDs l m)) (.ret (Yae false)) []:=fun h=>⟨by rw[<-hr,h];rfl,rfl⟩
  obtain⟨_,_,_,_,p7,p8⟩:=Yey hab;have q6:=Yb5 p7;rw[Yiy]at no hr;simp only[Yao,d0,d1,d2,d3,d4,d5,d6,d7,d8,d9,d10,isK_int,Yad,isK_slc,dint_int,Yak,dlst_slc,Bool.or_true,true_and];refine⟨tle (by omega),teq rfl,tle (by omega),tlt (by simp;omega),teq rfl,tle (by omega),by simp,by simp,fun hn=>?_,fun hn=>no (by rw[Zwb]at hn;rw[hn];rfl)⟩;rw[Zwb]at hn;refine call1 (ihx.1 b.decls p8) ⟨_,rfl,rfl,fun h5=>no (by rw[nb1 h5];simp),fun h5=>?_⟩;refine⟨tle (by omega),fun x=>∃j:Nat,x=j/\j<=a.subs.length/\plEs (a.subs.drop j) (b.subs.drop j)=plEs a.subs b.subs,fun x=>a.subs.length-x.toNat,⟨0,rfl,Nat.zero_le _,rfl⟩,?_,trivial⟩;rintro x ⟨j,rfl,hj,hrj⟩;refine⟨fun hcj=>?_,fun hcj=>?_⟩
  ·have k1:j<a.subs.length:=by have:=of_tlt hcj;simp at this;omega
   have k2:j<b.subs.length:=by omega
   rw[Yaa k1,Yaa k2,plEs]at hrj;rw[Ybd rfl k1,Ybd rfl k2];refine⟨tle (by omega),teq (by simp),tle (by omega),tlt (by simp;omega),teq (by simp),call1 (ihx.2 _ (List.getElem_mem k1) _ (Yfj p7 k1 k2)) ⟨_,rfl,rfl,fun hn=>no (by rw[<-hrj,nb1 hn];simp),fun hn=>⟨tle (by omega),tle (by have:=l1.1;omega),⟨j+1,rfl,k1,by rw[<-hrj,nb0 hn];rfl⟩,dec k1⟩⟩⟩
  ·have k1:a.subs.length<=j:=by have:=of_flt hcj;simp at this;omega
   rw[Yac k1,Yac (by omega)]at hrj;have h6:plEs a.subs b.subs=true:=by rw[<-hrj];simp[plEs]
   exact⟨tle (by omega),tle (by omega),⟨i+1,rfl,h1,by rw[<-hr,hn,nb0 h5,h6];rfl⟩,dec h1⟩
 ·have h1:l.length<=i:=by have:=of_flt hc;simp at this;omega
  rw[Yac h1,Yac (by omega)]at hr;exact⟨by rw[<-hr];simp[plDs],rfl⟩
theorem Ylw:∀(r:Nd),Lm r->(∀y,eqE r y=true->Holds Tryz.prog 89 [.agg (encE r),.agg (encE y)] [] (Ret (Yae (plE r y))))/\(∀m,eqDs r.decls m=true->Holds Tryz.prog 84 [slA (Yai r.decls),slA (Yai m)] [] (Ret (Yae (plDs r.decls m))))/\
 ∀e∈r.subs,∀y,eqE e y=true->Holds Tryz.prog 89 [.agg (encE e),.agg (encE y)] [] (Ret (Yae (plE e y))):=by
 refine Ya0 fun r hs hd hl=>?_
 have l1:=hl.here;have ihs:∀e∈r.subs,∀y,eqE e y=true->Holds Tryz.prog 89 [.agg (encE e),.agg (encE y)] [] (Ret (Yae (plE e y))):=fun x hx=>(hs x hx (hl.sub hx)).1
 have ihd:∀m,eqDs r.decls m=true->Holds Tryz.prog 84 [slA (Yai r.decls),slA (Yai m)] [] (Ret (Yae (plDs r.decls m))):=fun m hm=>
  c84 r.decls m l1.2.1 (fun x hx=>(hl.dec hx).here) hm fun x hx=>(hd x hx (hl.dec hx)).2
 refine⟨fun y hy=>?_,ihd,ihs⟩;obtain⟨_,_,p7,p8⟩:=Yex hy;have q6:=Yb5 p7;have no:plE r y=false->Ret (Yae (plE r y)) (.ret (Yae false)) []:=fun h=>⟨by rw[h],rfl⟩
 rw[Yix]at no⊢;refine w89 (encE r) (encE y) ?_;simp only[Yal,e0,e1,e2,e3,e4,e5,e6,e7,e8,isK_int,Yad,isK_slc,dint_int,Yak,dlst_slc,Bool.or_true,true_and];refine⟨teq rfl,teq rfl,fun x=>∃j:Nat,x=j/\j<=r.subs.length/\plEs (r.subs.drop j) (y.subs.drop j)=plEs r.subs y.subs,fun x=>r.subs.length-x.toNat,⟨0,rfl,Nat.zero_le _,rfl⟩,?_,trivial⟩;rintro x ⟨j,rfl,hj,hrj⟩;refine⟨fun hcj=>?_,fun hcj=>⟨fun hn=>?_,fun hn=>no (by rw[Zwb]at hn;rw[hn];simp)⟩⟩
 ·have k1:j<r.subs.length:=by have:=of_tlt hcj;simp at this;omega
  have k2:j<y.subs.length:=by omega
  rw[Yaa k1,Yaa k2,plEs]at hrj;rw[Ybd rfl k1,Ybd rfl k2];refine⟨tle (by omega),teq (by simp),tlt (by simp;omega),teq (by simp),call1 (ihs _ (List.getElem_mem k1) _ (Yfj p7 k1 k2)) ⟨_,rfl,rfl,fun hn=>no (by rw[<-hrj,nb1 hn];rfl),fun hn=>⟨tle (by omega),tle (by have:=l1.1;omega),⟨j+1,rfl,k1,by rw[<-hrj,nb0 hn];rfl⟩,dec k1⟩⟩⟩
 ·have k1:r.subs.length<=j:=by have:=of_flt hcj;simp at this;omega
  rw[Yac k1,Yac (by omega)]at hrj;have h6:plEs r.subs y.subs=true:=by rw[<-hrj];simp[plEs]
  rw[Zwb]at hn;exact call1 (ihd y.decls p8) ⟨_,rfl,rfl,by rw[h6,hn];rfl,rfl⟩
theorem c20(f g:Fl)(h:LmF f):Holds Tryz.prog 20 [.agg (Ybi f),.agg (Ybi g)] [] (Ret (Yae (eqF f g))):=by
 have no:eqF f g=false->Ret (Yae (eqF f g)) (.ret (Yae false)) []:=fun h=>⟨by rw[h],rfl⟩
 unfold eqF at no⊢;refine w20 _ _ ?_;simp only[Yaw,f0,f1,f2,f3,Yad,isK_slc,Yak,dlst_slc,Bool.or_true,true_and];refine⟨teq rfl,teq rfl,fun hn=>?_,fun hn=>no ?_⟩
 ·have hn':f.pkg=g.pkg/\f.imps.length=g.imps.length:=by
   simp only[Zwb,Bool.or_eq_false_iff,Bool.not_eq_true',Bool.not_eq_false',beq_iff_eq,Ybe]at hn;exact⟨hn.1,by omega⟩
  obtain⟨q1,q2⟩:=hn';refine call1 (c23 _ _ (Nat.le_trans h.1.2.2 (by omega))) ⟨_,rfl,rfl,fun h3=>no (by rw[nb1 h3];simp),fun h3=>?_⟩;refine⟨fun x=>∃j:Nat,x=j/\j<=f.imps.length/\eqIs (f.imps.drop j) (g.imps.drop j)=eqIs f.imps g.imps,fun x=>f.imps.length-x.toNat,⟨0,rfl,Nat.zero_le _,rfl⟩,?_,trivial⟩;rintro x ⟨j,rfl,hj,hrj⟩;refine⟨fun hcj=>?_,fun hcj=>?_⟩
  ·have k1:j<f.imps.length:=by have:=of_tlt hcj;simp at this;omega
   have k2:j<g.imps.length:=by omega
   rw[Yaa k1,Yaa k2,eqIs]at hrj;have g1:=Ydi (x:=(j:Int)) rfl k1;have g2:=Ydi (x:=(j:Int)) rfl k2;simp only[g1,g2,f1,dlst_slc,Ybb,i0,i1,i2,isK_int,Yad,Yak,dint_int,Bool.or_true,true_and];have e:eqI f.imps[j] g.imps[j]=(f.imps[j].name==g.imps[j].name&&f.imps[j].path==g.imps[j].path):=rfl;refine⟨tle (by omega),teq rfl,tle (by omega),tlt (by simp;omega),teq rfl,tle (by omega),by simp,by simp,fun hn=>no ?_,fun hn=>⟨tle (by omega),tle (by have:=h.1.1;omega),⟨j+1,rfl,k1,?_⟩,dec k1⟩⟩
   ·have:eqI f.imps[j] g.imps[j]=false:=by
     rw[e];simp only[Zwb,Bool.or_eq_true,Bool.not_eq_true']at hn;rcases hn with hn|hn<;>simp only[hn,Bool.false_and,Bool.and_false]
    rw[<-hrj,this];simp
   ·have:eqI f.imps[j] g.imps[j]=true:=by
     rw[e];simp only[Zwb,Bool.or_eq_false_iff,Bool.not_eq_false']at hn;rw[hn.1,hn.2];rfl
    rw[<-hrj,this];rfl
  ·have k1:f.imps.length<=j:=by have:=of_flt hcj;simp at this;omega
   rw[Yac k1,Yac (by omega)]at hrj;have h6:eqIs f.imps g.imps=true:=by rw[<-hrj];simp[eqIs]
   exact call1 (c66' _ _ h.1.2.1 h.2) ⟨_,rfl,rfl,by rw[h6,q1,nb0 h3];simp,rfl⟩
 ·simp only[Zwb,Bool.or_eq_true,Bool.not_eq_false',Bool.not_eq_true',beq_eq_false_iff_ne,Ybe]at hn;rcases hn with hn|hn
  ·simp[hn]
  ·rw[Yc1 (by omega)];simp
def plI(a b:Im):Bool:=a.pos==b.pos
def plIs:List Im->List Im->Bool
 |a::l,b::m=>plI a b&&plIs l m
 |_,_=>true
def plF(f g:Fl):Bool:=plIs f.imps g.imps&&plDs f.decls g.decls
theorem Yhm:∀{l m:List Im}{i:Nat}(h:eqIs l m=true)(h1:i<l.length)(h2:i<m.length),eqI l[i] m[i]=true
 |a::l,b::m,0,h,_,_=>by rw[eqIs,Bool.and_eq_true]at h;exact h.1
 |a::l,b::m,i+1,h,h1,h2=>by rw[eqIs,Bool.and_eq_true]at h;exact Yhm h.2 (by simpa using h1) (by simpa using h2)
theorem c30(f g:Fl)(h:LmF f):Holds Tryz.prog 30 [.agg (Ybi f),.agg (Ybi g)] [] (Ret (Yae (eqF f g&&plF f g))):=by
 have no:plF f g=false->Ret (Yae (eqF f g&&plF f g)) (.ret (Yae false)) []:=fun h=>⟨by rw[h];simp,rfl⟩
 refine w30 _ _ ?_;simp only[Yaw,f0,f1,f2,f3,Yad,isK_slc,Yak,dlst_slc,Bool.or_true,true_and];refine⟨teq rfl,teq rfl,call1 (c20 f g h) ⟨_,rfl,rfl,fun h1=>⟨by rw[nb1 h1];rfl,rfl⟩,fun h1=>?_⟩⟩;have h1:=nb0 h1;have h1':=h1;unfold eqF at h1';simp only[Bool.and_eq_true]at h1';have hI:=h1'.1.1.2;have hD:=h1'.1.2;have q2:=Yfi hI;unfold plF at no⊢;refine⟨fun x=>∃j:Nat,x=j/\j<=f.imps.length/\plIs (f.imps.drop j) (g.imps.drop j)=plIs f.imps g.imps,fun x=>f.imps.length-x.toNat,⟨0,rfl,Nat.zero_le _,rfl⟩,?_,trivial⟩;rintro x ⟨j,rfl,hj,hrj⟩;refine⟨fun hcj=>?_,fun hcj=>?_⟩
 ·have k1:j<f.imps.length:=by have:=of_tlt hcj;simp at this;omega
  have k2:j<g.imps.length:=by omega
  rw[Yaa k1,Yaa k2,plIs]at hrj;have g1:=Ydi (x:=(j:Int)) rfl k1;have g2:=Ydi (x:=(j:Int)) rfl k2;have hab:=Yhm hI k1 k2;unfold eqI at hab;simp only[Bool.and_eq_true,beq_iff_eq]at hab;simp only[g1,g2,Ybb,i0,i1,i2,isK_int,Yad,Yak,dint_int,Bool.or_true,true_and,hab.1,hab.2];refine⟨tle (by omega),teq rfl,tlt (by simp;omega),teq rfl,fun hn=>no ?_,fun hn=>⟨tle (by omega),tle (by have:=h.1.1;omega),⟨j+1,rfl,k1,?_⟩,dec k1⟩⟩
  ·have:plI f.imps[j] g.imps[j]=false:=by simpa[plI]using hn
   rw[<-hrj,this];rfl
  ·have:plI f.imps[j] g.imps[j]=true:=by simpa[plI]using hn
   rw[<-hrj,this];rfl
 ·have k1:f.imps.length<=j:=by have:=of_flt hcj;simp at this;omega
  rw[Yac k1,Yac (by omega)]at hrj;have h6:plIs f.imps g.imps=true:=by rw[<-hrj];simp[plIs]
  refine call1 (c84 _ _ h.1.2.1 (fun x hx=>(h.2 x hx).here) hD fun x hx=>(Ylw x (h.2 x hx)).2) ⟨_,rfl,rfl,by rw[h6,h1];rfl,rfl⟩
end Go.Sy
end
section
open Go Go.Proofs Go.Ab Go.Rf
set_option linter.unusedSimpArgs false
set_option maxRecDepth 100000
namespace Go.Sy
theorem Yez:∀{l:List Nd},(∀x∈l,eqE x x=true)->eqEs l l=true
 |[],_=>by rw[eqEs]
 |x::l,h=>by rw[eqEs,h x (List.mem_cons_self ..),Yez fun y hy=>h y (List.mem_cons_of_mem _ hy)];rfl
theorem Ycy:∀{l:List Nd},(∀x∈l,eqD x x=true)->eqDs l l=true
 |[],_=>by rw[eqDs]
 |x::l,h=>by rw[eqDs,h x (List.mem_cons_self ..),Ycy fun y hy=>h y (List.mem_cons_of_mem _ hy)];rfl
theorem Ye0:∀{l:List Nd},(∀x∈l,plE x x=true)->plEs l l=true
 |[],_=>by rw[plEs];simp
 |x::l,h=>by rw[plEs,h x (List.mem_cons_self ..),Ye0 fun y hy=>h y (List.mem_cons_of_mem _ hy)];rfl
theorem Ycz:∀{l:List Nd},(∀x∈l,plD x x=true)->plDs l l=true
 |[],_=>by rw[plDs];simp
 |x::l,h=>by rw[plDs,h x (List.mem_cons_self ..),Ycz fun y hy=>h y (List.mem_cons_of_mem _ hy)];rfl
theorem Yhn:∀r:Nd,(eqE r r=true/\eqD r r=true)/\plE r r=true/\plD r r=true:=by
 refine Ya0 fun r hs hd=>?_
 have a:=Yez fun x hx=>(hs x hx).1.1
 have b:=Ycy fun x hx=>(hd x hx).1.2
 have c:=Ye0 fun x hx=>(hs x hx).2.1
 have d:=Ycz fun x hx=>(hd x hx).2.2
 rw[Yec,Yed,Yix,Yiy,a,b,c,d];simp
theorem Yho(l:List Nd):eqDs l l=true:=Ycy fun x _=>(Yhn x).1.2
theorem Yhp(l:List Nd):plDs l l=true:=Ycz fun x _=>(Yhn x).2.2
theorem Ye1:∀l:List Im,eqIs l l=true
 |[]=>by rw[eqIs]
 |x::l=>by rw[eqIs,Ye1 l];simp[eqI]
theorem Ye2:∀l:List Im,plIs l l=true
 |[]=>by rw[plIs];simp
 |x::l=>by rw[plIs,Ye2 l];simp[plI]
theorem Yil(f:Fl):(eqF f f&&plF f f)=true:=by
 unfold eqF plF;rw[Yho,Yhp,Ye1,Ye2];simp
theorem Yjn{α:Type}{c:Bool}{l:List α}{n:Nat}(h:l.length<=n):(tl c l).length<=n:=Nat.le_trans (Yb9 c l) h
theorem Ye3(p c:Bool)(l:List Nd):(mpEs p c l).length=l.length/\(mpDs p c l).length=l.length:=by rw[Yap,Yah];simp
theorem Ykl(p c:Bool):∀r:Nd,Lm r->Lm (mpE p c r)/\Lm (mpD p c r):=by
 refine Ya0 fun r hs hd hl=>?_
 have L:=hl.here;have m:=Ye3 p c;rw[Ycn,Yco];refine⟨.mk ⟨?_,?_,?_,?_⟩ (fun x hx=>?_) fun x hx=>?_,.mk ⟨?_,?_,?_,?_⟩ (fun x hx=>?_) fun x hx=>?_⟩
 ·show(mpEs p c r.subs).length<=_;rw[(m _).1];exact L.1
 ·show(mpDs p c r.decls).length<=_;rw[(m _).2];exact L.2.1
 ·exact Yjn L.2.2.1
 ·exact L.2.2.2
 ·have hx:x∈mpEs p c r.subs:=hx;rw[Yap]at hx;obtain⟨y,hy,rfl⟩:=List.mem_map.1 hx;exact(hs y hy (hl.sub hy)).1
 ·have hx:x∈mpDs p c r.decls:=hx;rw[Yah]at hx;obtain⟨y,hy,rfl⟩:=List.mem_map.1 hx;exact(hd y hy (hl.dec hy)).2
 ·show(mpEs p c r.subs).length<=_;rw[(m _).1];exact L.1
 ·show(mpDs p c r.decls).length<=_;rw[(m _).2];exact L.2.1
 ·exact Yjn L.2.2.1
 ·exact Yjn L.2.2.2
 ·have hx:x∈mpEs p c r.subs:=hx;rw[Yap]at hx;obtain⟨y,hy,rfl⟩:=List.mem_map.1 hx;exact(hs y hy (hl.sub hy)).1
 ·have hx:x∈mpDs p c r.decls:=hx;rw[Yah]at hx;obtain⟨y,hy,rfl⟩:=List.mem_map.1 hx;exact(hd y hy (hl.dec hy)).2
theorem Yhq(p c:Bool){l:List Nd}(h:∀x∈l,Lm x):∀x∈mpDs p c l,Lm x:=fun x hx=>by
 rw[Yah]at hx;obtain⟨y,hy,rfl⟩:=List.mem_map.1 hx;exact(Ykl p c y (h y hy)).2
theorem Yhr{f:Fl}(h:LmF f):LmF (Yau f):=⟨⟨by simpa[Yau]using h.1.1,by show(mpDs true false f.decls).length<=_;rw[(Ye3 _ _ _).2];exact h.1.2.1,h.1.2.2⟩,Yhq _ _ h.2⟩
theorem Yhs{f:Fl}(h:LmF f):LmF (Ycr f):=⟨⟨h.1.1,by show(mpDs false true f.decls).length<=_;rw[(Ye3 _ _ _).2];exact h.1.2.1,by simp[Ycr]⟩,Yhq _ _ h.2⟩
theorem Yiz{f:Fl}(h:BigF f):LmF f:=⟨h.1,fun x hx=>Ylb (h.2.2.2.2 x hx)⟩
theorem Ylx:∀r:Nd,((comE r).length:Int)<=wE r/\((comD r).length:Int)<=wD r:=by
 refine Ya0 fun r hs hd=>?_
 have kE:∀l:List Nd,(∀x∈l,x∈r.subs)->((Yaj l).length:Int)<=wEs l:=by
  intro l
  induction l with
  |nil=>intro _;simp[Yaj,wEs]
  |cons x l ih=>
   intro h;have:=ih fun y hy=>h y (List.mem_cons_of_mem _ hy)
   have:=(hs x (h x (List.mem_cons_self ..))).1;rw[Yaj,wEs,List.length_append];push_cast;omega
 have kD:∀l:List Nd,(∀x∈l,x∈r.decls)->((Yab l).length:Int)<=wDs l:=by
  intro l
  induction l with
  |nil=>intro _;simp[Yab,wDs]
  |cons x l ih=>
   intro h;have:=ih fun y hy=>h y (List.mem_cons_of_mem _ hy)
   have:=(hd x (h x (List.mem_cons_self ..))).2;rw[Yab,wDs,List.length_append];push_cast;omega
 have a:=kE r.subs fun _ h=>h
 have b:=kD r.decls fun _ h=>h
 have o:=Ydy r;have e1:=congrArg List.length (Yc9 r);have e2:=congrArg List.length (Yda r);have e3:(if r.trail=[]then[]else[r.trail]).length<=1:=by split<;>simp
 simp only[List.length_append]at e1 e2;rw[Ygf,Ygg];omega
theorem Yht:∀l:List Nd,((Yab l).length:Int)<=wDs l
 |[]=>by simp[Yab,wDs]
 |x::l=>by
  have:=Yht l;have:=(Ylx x).2;rw[Yab,wDs,List.length_append];push_cast;omega
theorem Yhu{f:Fl}(hw:wfF f)(h:smF f=true):ShrF f/\(comF f).length<=200:=by
 obtain⟨h1,h2,h3,h4⟩:=Yiu hw h;have a:=Yht f.decls;have b:=(Ycw (l:=f.decls) fun x _=>(Yf3 x).2).1;refine⟨⟨by omega,by omega,by omega,fun x hx=>Yj9 (h3 x hx)⟩,?_⟩;unfold comF;rw[List.length_append];omega
end Go.Sy
end
section
open Go Go.Proofs Go.Ab Go.Rf
set_option linter.unusedSimpArgs false
set_option linter.unusedVariables false
set_option maxRecDepth 100000
namespace Go.Sy
theorem Ybk(p c:Bool)(r:Nd):((mpE p c r).kind=r.kind/\(mpE p c r).num=r.num/\(mpE p c r).text=r.text/\(mpE p c r).n0=r.n0/\(mpE p c r).n1=r.n1/\(mpE p c r).tail=tl c r.tail/\(mpE p c r).subs=mpEs p c r.subs/\(mpE p c r).decls=mpDs p c r.decls/\(mpE p c r).pos=ps p r.pos)/\
 ((mpD p c r).kind=r.kind/\(mpD p c r).num=r.num/\(mpD p c r).text=r.text/\(mpD p c r).n0=r.n0/\(mpD p c r).n1=r.n1/\(mpD p c r).tail=tl c r.tail/\(mpD p c r).subs=mpEs p c r.subs/\(mpD p c r).decls=mpDs p c r.decls/\(mpD p c r).lead=tl c r.lead/\(mpD p c r).trail=tl c r.trail/\(mpD p c r).pos=ps p r.pos):=by
 rw[Ycn,Yco];exact⟨⟨rfl,rfl,rfl,rfl,rfl,rfl,rfl,rfl,rfl⟩,rfl,rfl,rfl,rfl,rfl,rfl,rfl,rfl,rfl,rfl,rfl⟩
theorem Yhv(p c:Bool)(l:List Nd):(mpEs p c l).length=l.length:=(Ye3 p c l).1
theorem Yhw(p c:Bool)(l:List Nd):(mpDs p c l).length=l.length:=(Ye3 p c l).2
theorem Ykm(p c:Bool)(l:List Nd):(mpEs p c l).isEmpty=l.isEmpty:=by rw[Yap];cases l<;>rfl
theorem Yly(p c:Bool):∀r:Nd,∀lv,dpE (mpE p c r) lv=dpE r lv/\dpE (mpD p c r) lv=dpE r lv:=by
 refine Ya0 fun r hs hd lv=>?_
 have kE:∀(l:List Nd)(lv:Int),(∀x∈l,x∈r.subs)->dpEs (mpEs p c l) lv=dpEs l lv:=by
  intro l lv
  induction l with
  |nil=>intro _;rw[Yap];rfl
  |cons x l ih=>intro h;rw[Yap,List.map_cons,<-Yap,dpEs,dpEs,ih fun y hy=>h y (List.mem_cons_of_mem _ hy),(hs x (h x (List.mem_cons_self ..)) lv).1]
 have kD:∀(l:List Nd)(lv:Int),(∀x∈l,x∈r.decls)->dpDs (mpDs p c l) lv=dpDs l lv:=by
  intro l lv
  induction l with
  |nil=>intro _;rw[Yah];rfl
  |cons x l ih=>intro h;rw[Yah,List.map_cons,<-Yah,dpDs,dpDs,ih fun y hy=>h y (List.mem_cons_of_mem _ hy),(hd x (h x (List.mem_cons_self ..)) lv).2]
 obtain⟨⟨_,_,_,_,_,_,a7,a8,_⟩,⟨_,_,_,_,_,_,b7,b8,_⟩⟩:=Ybk p c r;rw[Yev (mpE p c r),Yev (mpD p c r),Yev r,a7,a8,b7,b8,kE _ _ fun _ h=>h,kD _ _ fun _ h=>h];exact⟨rfl,rfl⟩
theorem Yhx(p c:Bool):∀(l:List Nd)(lv:Int),dpDs (mpDs p c l) lv=dpDs l lv
 |[],_=>by rw[Yah];rfl
 |x::l,lv=>by rw[Yah,List.map_cons,<-Yah,dpDs,dpDs,Yhx p c l lv,(Yly p c x lv).2]
def Le(c a b:Bool):Prop:=if c then(a=true->b=true)else a=b
theorem Le.rfl{c a:Bool}:Le c a a:=by unfold Le;split;exact id;rfl
theorem Le.and{c a b a' b':Bool}(h:Le c a a')(h':Le c b b'):Le c (a&&b) (a'&&b'):=by
 unfold Le at*;cases c<;>simp_all
theorem Yhy(c:Bool)(l:List Tx):Le c (lnsV l) (lnsV (tl c l)):=by cases c;exact Le.rfl;unfold Le tl lnsV;simp
theorem Yjo(c:Bool)(s:Tx):Le c (lnsV [s]) (lnsV [tl c s]):=by cases c;exact Le.rfl;unfold Le tl lnsV lnV;simp
theorem Yhz(c x:Bool)(l:List Tx)(n:Int)(h0:0<=n):Le c (x||(n+(l.length:Int)==0)) (x||(n+((tl c l).length:Int)==0)):=by
 cases c
 ·exact Le.rfl
 ·unfold Le tl;cases x
  ·simp;intro h;omega
  ·simp
theorem Yim(p c:Bool)(r:Nd)(cj io il:Bool):Le c (Yeb r cj io il) (Yeb (mpE p c r) cj io il):=by
 obtain⟨⟨a1,a2,a3,a4,a5,a6,a7,a8,a9⟩,_⟩:=Ybk p c r;unfold Yeb;rw[a1,a2,a3,a4,a5,a6,a7,a8,Yhv,Yhw];exact((Le.rfl).and ((Yhz c _ _ _ (by omega)).and (Yhy c _))).and Le.rfl
theorem Yin(p c:Bool)(r:Nd)(sc:Bool):Le c (Yeu r sc) (Yeu (mpD p c r) sc):=by
 obtain⟨_,a1,a2,a3,a4,a5,a6,a7,a8,a9,a10,a11⟩:=Ybk p c r;unfold Yeu;rw[a1,a2,a3,a4,a5,a6,a7,a8,a9,a10,Yhv,Yhw];exact(((Le.rfl).and ((Yhy c _).and ((Yhy c _).and ((Yjo c _).and (Yhz c _ _ _ (by omega)))))).and Le.rfl).and Le.rfl
theorem Ylz(p c:Bool):∀r:Nd,(∀cj io il,Le c (okE r cj io il) (okE (mpE p c r) cj io il))/\ ∀sc,Le c (okD r sc) (okD (mpD p c r) sc):=by
 refine Ya0 fun r hs hd=>?_
 have kE:∀(l:List Nd),(∀x∈l,x∈r.subs)-> ∀cj io il il2,Le c (okEs l cj io il il2) (okEs (mpEs p c l) cj io il il2):=by
  intro l
  induction l with
  |nil=>intro _ cj io il il2;rw[Yap];exact Le.rfl
  |cons x l ih=>
   intro h cj io il il2;rw[Yap,List.map_cons,<-Yap,okEs,okEs,Ykm];exact((hs x (h x (List.mem_cons_self ..))).1 _ _ _).and (ih (fun y hy=>h y (List.mem_cons_of_mem _ hy)) _ _ _ _)
 have kF:∀(l:List Nd),(∀x∈l,x∈r.subs)-> ∀cj,Le c (okFs l cj) (okFs (mpEs p c l) cj):=by
  intro l
  induction l with
  |nil=>intro _ cj;rw[Yap];exact Le.rfl
  |cons x l ih=>
   intro h cj;rw[Yap,List.map_cons,<-Yap,okFs,okFs];exact((hs x (h x (List.mem_cons_self ..))).1 _ _ _).and (ih (fun y hy=>h y (List.mem_cons_of_mem _ hy)) _)
 have kD:∀(l:List Nd),(∀x∈l,x∈r.decls)-> ∀sc,Le c (okDs l sc) (okDs (mpDs p c l) sc):=by
  intro l
  induction l with
  |nil=>intro _ sc;rw[Yah];exact Le.rfl
  |cons x l ih=>
   intro h sc;rw[Yah,List.map_cons,<-Yah,okDs,okDs];exact((hd x (h x (List.mem_cons_self ..))).2 _).and (ih (fun y hy=>h y (List.mem_cons_of_mem _ hy)) _)
 obtain⟨⟨a1,a2,a3,a4,a5,a6,a7,a8,a9⟩,b1,b2,b3,b4,b5,b6,b7,b8,b9,b10,b11⟩:=Ybk p c r;refine⟨fun cj io il=>?_,fun sc=>?_⟩
 ·rw[Yhd r,Yhd (mpE p c r),a1,a2,a7,a8];exact((Yim p c r cj io il).and (kE _ (fun _ h=>h) _ _ _ _)).and (kD _ (fun _ h=>h) _)
 ·rw[Yhe r,Yhe (mpD p c r),b1,b7,b8];exact((Yin p c r sc).and (kF _ (fun _ h=>h) _)).and (kD _ (fun _ h=>h) _)
theorem Yh0(p c:Bool):∀(l:List Nd)(sc:Bool),Le c (okDs l sc) (okDs (mpDs p c l) sc)
 |[],sc=>by rw[Yah];exact Le.rfl
 |x::l,sc=>by rw[Yah,List.map_cons,<-Yah,okDs,okDs];exact((Ylz p c x).2 sc).and (Yh0 p c l sc)
theorem Ye4(f:Fl):verF (Yau f)=verF f:=by
 have h:=Yh0 true false f.decls true;unfold Le at h;have h:okDs f.decls true=okDs (mpDs true false f.decls) true:=by simpa using h
 unfold verF okFl Yau;simp only[Yhx,<-h,List.all_map];rfl
end Go.Sy
end
section
open Go Go.Proofs Go.Ab Go.Rf
set_option linter.unusedSimpArgs false
set_option linter.unusedVariables false
set_option maxRecDepth 100000
namespace Go.Sy
theorem Yio{α:Type}(c c':Bool)(l:List α):tl c (tl c' l)=tl (c||c') l:=by cases c<;>cases c'<;>rfl
theorem Ykn(p p':Bool)(n:Int):ps p (ps p' n)=ps (p||p') n:=by cases p<;>cases p'<;>rfl
theorem Yl0(p c p' c':Bool):∀r:Nd,mpE p c (mpE p' c' r)=mpE (p||p') (c||c') r/\mpD p c (mpD p' c' r)=mpD (p||p') (c||c') r:=by
 refine Ya0 fun r hs hd=>?_
 have a:mpEs p c (mpEs p' c' r.subs)=mpEs (p||p') (c||c') r.subs:=by
  rw[Yap,Yap,Yap,List.map_map];exact List.map_congr_left fun x hx=>(hs x hx).1
 have b:mpDs p c (mpDs p' c' r.decls)=mpDs (p||p') (c||c') r.decls:=by
  rw[Yah,Yah,Yah,List.map_map];exact List.map_congr_left fun x hx=>(hd x hx).2
 constructor
 ·rw[Ycn p' c' r,Ycn p c,Ycn (p||p')];simp only[Nd.mk.injEq];exact⟨rfl,rfl,rfl,rfl,rfl,rfl,rfl,Yio _ _ _,Ykn _ _ _,a,b⟩
 ·rw[Yco p' c' r,Yco p c,Yco (p||p')];simp only[Nd.mk.injEq];exact⟨rfl,rfl,rfl,rfl,rfl,Yio _ _ _,Yio _ _ _,Yio _ _ _,Ykn _ _ _,a,b⟩
theorem Yh1(p c p' c':Bool)(l:List Nd):mpDs p c (mpDs p' c' l)=mpDs (p||p') (c||c') l:=by
 rw[Yah,Yah,Yah,List.map_map];exact List.map_congr_left fun x _=>(Yl0 p c p' c' x).2
theorem Yl1(p c:Bool):∀r:Nd,(wfE r->wfE (mpE p c r))/\(wfD r->wfD (mpD p c r)):=by
 refine Ya0 fun r hs hd=>?_
 have a:wfEs r.subs->wfEs (mpEs p c r.subs):=fun h=>by
  rw[Ycm]at h⊢;rw[Yap];intro x hx;obtain⟨y,hy,rfl⟩:=List.mem_map.1 hx;exact(hs y hy).1 (h y hy)
 have b:wfDs r.decls->wfDs (mpDs p c r.decls):=fun h=>by
  rw[Yb0]at h⊢;rw[Yah];intro x hx;obtain⟨y,hy,rfl⟩:=List.mem_map.1 hx;exact(hd y hy).2 (h y hy)
 refine⟨fun h=>?_,fun h=>?_⟩
 ·rw[Ygh]at h⊢;rw[Ycn];exact⟨h.1,a h.2.1,b h.2.2⟩
 ·rw[Ygi]at h⊢;rw[Yco];exact⟨a h.1,b h.2⟩
theorem Yh2(p c:Bool){l:List Nd}(h:wfDs l):wfDs (mpDs p c l):=by
 rw[Yb0]at h⊢;rw[Yah];intro x hx;obtain⟨y,hy,rfl⟩:=List.mem_map.1 hx;exact(Yl1 p c y).2 (h y hy)
theorem Yip{l:List Nd}(ih:∀x∈l,∀y,wfE x->wfE y->(eqE x y=true↔mpE true false x=mpE true false y)):∀{m:List Nd},wfEs l->wfEs m->(eqEs l m=true↔mpEs true false l=mpEs true false m):=by
 induction l with
 |nil=>intro m _ _;cases m<;>simp[eqEs,mpEs]
 |cons x l ih2=>
  intro m h1 h2;cases m with
  |nil=>simp[eqEs,mpEs]
  |cons y m=>
   rw[wfEs]at h1 h2;rw[eqEs,mpEs,mpEs,Bool.and_eq_true,ih x (List.mem_cons_self ..) y h1.1 h2.1,ih2 (fun z hz=>ih z (List.mem_cons_of_mem _ hz)) h1.2 h2.2,List.cons.injEq]
theorem Ye5{l:List Nd}(ih:∀x∈l,∀y,wfD x->wfD y->(eqD x y=true↔mpD true false x=mpD true false y)):∀{m:List Nd},wfDs l->wfDs m->(eqDs l m=true↔mpDs true false l=mpDs true false m):=by
 induction l with
 |nil=>intro m _ _;cases m<;>simp[eqDs,mpDs]
 |cons x l ih2=>
  intro m h1 h2;cases m with
  |nil=>simp[eqDs,mpDs]
  |cons y m=>
   rw[wfDs]at h1 h2;rw[eqDs,mpDs,mpDs,Bool.and_eq_true,ih x (List.mem_cons_self ..) y h1.1 h2.1,ih2 (fun z hz=>ih z (List.mem_cons_of_mem _ hz)) h1.2 h2.2,List.cons.injEq]
theorem Yko:∀r:Nd,(∀y,wfE r->wfE y->(eqE r y=true↔mpE true false r=mpE true false y))/\ ∀y,wfD r->wfD y->(eqD r y=true↔mpD true false r=mpD true false y):=by
 refine Ya0 fun r hs hd=>?_
 have a:=fun{m}=>Yip (fun x hx=>(hs x hx).1) (m:=m)
 have b:=fun{m}=>Ye5 (fun x hx=>(hd x hx).2) (m:=m)
 refine⟨fun y h1 h2=>?_,fun y h1 h2=>?_⟩
 ·rw[Ygh]at h1 h2;rw[Yec,Ycn,Ycn];simp only[Bool.and_eq_true,Nd.mk.injEq,beq_iff_eq,decide_eq_true_eq,a h1.2.1 h2.2.1,b h1.2.2 h2.2.2,tl,ps,h1.1.1,h1.1.2,h2.1.1,h2.1.2];simp only[Bool.false_eq_true,if_false,if_true,true_and];constructor
  ·rintro⟨⟨⟨⟨⟨⟨⟨a1,a2⟩,a3⟩,a4⟩,a5⟩,a6⟩,a7⟩,a8⟩;exact⟨a1,a3,a2,a4,a5,a6,a7,a8⟩
  ·rintro⟨a1,a3,a2,a4,a5,a6,a7,a8⟩;exact⟨⟨⟨⟨⟨⟨⟨a1,a2⟩,a3⟩,a4⟩,a5⟩,a6⟩,a7⟩,a8⟩
 ·rw[Ygi]at h1 h2;rw[Yed,Yco,Yco];simp only[Bool.and_eq_true,Nd.mk.injEq,beq_iff_eq,decide_eq_true_eq,a h1.1 h2.1,b h1.2 h2.2,tl,ps];simp only[Bool.false_eq_true,if_false,if_true,true_and];constructor
  ·rintro⟨⟨⟨⟨⟨⟨⟨⟨⟨a1,a2⟩,a3⟩,a4⟩,a5⟩,a6⟩,a7⟩,a8⟩,a9⟩,a10⟩;exact⟨a1,a2,a3,a4,a5,a6,a7,a8,a9,a10⟩
  ·rintro⟨a1,a2,a3,a4,a5,a6,a7,a8,a9,a10⟩;exact⟨⟨⟨⟨⟨⟨⟨⟨⟨a1,a2⟩,a3⟩,a4⟩,a5⟩,a6⟩,a7⟩,a8⟩,a9⟩,a10⟩
theorem Yf0:∀{l m:List Im},eqIs l m=true↔l.map stI=m.map stI
 |[],[]=>by simp[eqIs]
 |[],_::_=>by simp[eqIs]
 |_::_,[]=>by simp[eqIs]
 |a::l,b::m=>by rw[eqIs,Bool.and_eq_true,Yf0 (l:=l),List.map_cons,List.map_cons,List.cons.injEq];simp[eqI,stI]
theorem Yjp{f g:Fl}(hf:wfF f)(hg:wfF g):eqF f g=true↔Yau f=Yau g:=by
 unfold eqF Yau;simp only[Bool.and_eq_true,beq_iff_eq,decide_eq_true_eq,Yf0,Fl.mk.injEq,Ye5 (fun x _=>(Yko x).2) hf hg];constructor
 ·rintro⟨⟨⟨a,b⟩,c⟩,d⟩;exact⟨a,b,c,d⟩
 ·rintro⟨a,b,c,d⟩;exact⟨⟨⟨a,b⟩,c⟩,d⟩
theorem Ykp(l:List Im):(l.map stI).map stI=l.map stI:=by rw[List.map_map];rfl
theorem Yi0(f:Fl):Yau (Yau f)=Yau f:=by
 unfold Yau;simp only[Fl.mk.injEq,Ykp,Yh1,Bool.or_self,and_self]
theorem Ydh(f:Fl):Yau (Ycr f)=Ycr (Yau f):=by
 unfold Ycr Yau;simp only[Fl.mk.injEq,Yh1,Bool.or_self,and_self,Bool.or_false,Bool.false_or,Bool.or_true,Bool.true_or]
theorem Ye6{f:Fl}(h:wfF f):wfF (Yau f):=Yh2 true false h
theorem Ye7{f:Fl}(h:wfF f):wfF (Ycr f):=Yh2 false true h
theorem Yfk{f g:Fl}(h:f=g):(eqF f g&&plF f g)=true:=by subst h;exact Yil f
theorem Yc3{α β:Type}{f g:α->List β}:∀{l:List α},(∀x∈l,f x=g x)->l.flatMap f=l.flatMap g
 |[],_=>rfl
 |x::l,h=>by rw[List.flatMap_cons,List.flatMap_cons,h x (List.mem_cons_self ..),Yc3 fun y hy=>h y (List.mem_cons_of_mem _ hy)]
theorem Ykq(p:Bool):∀r:Nd,(comE (mpE p false r)=comE r/\comE (mpE p true r)=[])/\comD (mpD p false r)=comD r/\comD (mpD p true r)=[]:=by
 refine Ya0 fun r hs hd=>?_
 have a0:Yaj (mpEs p false r.subs)=Yaj r.subs:=by
  rw[Ybf,Ybf,Yap,List.flatMap_map];exact Yc3 fun x hx=>(hs x hx).1.1
 have b0:Yab (mpDs p false r.decls)=Yab r.decls:=by
  rw[Ya5,Ya5,Yah,List.flatMap_map];exact Yc3 fun x hx=>(hd x hx).2.1
 have a1:Yaj (mpEs p true r.subs)=[]:=by
  rw[Ybf,Yap,List.flatMap_map,List.flatMap_eq_nil_iff];exact fun x hx=>(hs x hx).1.2
 have b1:Yab (mpDs p true r.decls)=[]:=by
  rw[Ya5,Yah,List.flatMap_map,List.flatMap_eq_nil_iff];exact fun x hx=>(hd x hx).2.2
 refine⟨⟨?_,?_⟩,?_,?_⟩
 ·rw[Yc9,Yc9 r,(Ybk p false r).1.2.2.2.2.2.2.1,(Ybk p false r).1.2.2.2.2.2.2.2.1,(Ybk p false r).1.2.2.2.2.2.1,a0,b0];rfl
 ·rw[Yc9,(Ybk p true r).1.2.2.2.2.2.2.1,(Ybk p true r).1.2.2.2.2.2.2.2.1,(Ybk p true r).1.2.2.2.2.2.1,a1,b1];rfl
 ·obtain⟨_,_,_,_,_,_,q6,q7,q8,q9,q10,_⟩:=Ybk p false r;rw[Yda,Yda r,q6,q7,q8,q9,q10,a0,b0];rfl
 ·obtain⟨_,_,_,_,_,_,q6,q7,q8,q9,q10,_⟩:=Ybk p true r;rw[Yda,q6,q7,q8,q9,q10,a1,b1];rfl
theorem Yfl(p:Bool)(l:List Nd):Yab (mpDs p false l)=Yab l:=by
 rw[Ya5,Ya5,Yah,List.flatMap_map];exact Yc3 fun x _=>(Ykq p x).2.1
theorem Ydu(f:Fl):comF (Yau f)=comF f:=by unfold comF Yau;simp only[Yfl]
end Go.Sy
end
section
open Go Go.Proofs Go.Ab Go.Rf
set_option linter.unusedSimpArgs false
set_option maxRecDepth 100000
namespace Go.Sy
theorem Yf1{f:Fl}(hw:wfF f)(h:smF f=true):sizes f.decls<=1000:=by
 have:=(Yiu hw h).2.2.2;have:=Yhk f.decls;omega
end Go.Sy
end
section
open Go Go.Proofs Go.Ab Go.Rf
set_option linter.unusedSimpArgs false
set_option maxRecDepth 100000
namespace Go.Sy
theorem c8(f g h:Fl)(bf:BigF f)(wf:wfF f)(bg:BigF g)(wg:wfF g)(bh:BigF h)(wh:wfF h):Holds Tryz.prog 8 [.agg (Ybi f),.agg (Ybi g),.agg (Ybi h)] [] (Ret (Yae true)):=by
 refine w8 _ _ _ ⟨teq rfl,teq rfl,teq rfl,call1 (c12 f bf) ⟨_,rfl,rfl,fun h1=>?_,fun _=>call1 c13 ⟨_,rfl,rfl,rfl,rfl⟩⟩⟩;refine call1 (c12 g bg) ⟨_,rfl,rfl,fun h2=>?_,fun _=>call1 c13 ⟨_,rfl,rfl,rfl,rfl⟩⟩;refine call1 (c12 h bh) ⟨_,rfl,rfl,fun _=>call1 c13 ⟨_,rfl,rfl,rfl,rfl⟩,fun h3=>?_⟩;obtain⟨sf,cf⟩:=Yhu wf h1;obtain⟨sg,cg⟩:=Yhu wg h2;have lf:=Yiz bf;have lg:=Yiz bg;have zf:=Yf1 wf h1;have zg:=Yf1 wg h2;have E:=fun{a b}(x:wfF a)(y:wfF b)=>Yjp x y
 refine⟨_,fun _=>c19 f g lf,_,fun _=>c19 g h lg,call1 (c19 f h lf) ⟨_,rfl,rfl,_,fun _=>c19 f f lf,fun _=>?_,fun h=>by rw[(E wf wf).2 rfl]at h;cases h⟩⟩;have sym:eqF g f=eqF f g:=by rw[Bool.eq_iff_iff,E wg wf,E wf wg];exact eq_comm
 have tr:((!((!(eqF f g==eqF g f))||((eqF f g&&eqF g h)&&(!eqF f h))))=true):=by
  rw[sym];cases h4:eqF f g with
  |false=>simp
  |true=>cases h5:eqF g h with
   |false=>simp
   |true=>rw[(E wf wh).2 (((E wf wg).1 h4).trans ((E wg wh).1 h5))];rfl
 refine⟨_,fun _=>c19 g f lg,fun _=>?_,fun h=>by rw[tr]at h;cases h⟩
 have pl:(eqF (Yau f) (Yau g)&&plF (Yau f) (Yau g))=eqF f g:=by
  cases h4:eqF f g with
  |true=>exact Yfk ((E wf wg).1 h4)
  |false=>
   have:eqF (Yau f) (Yau g)=false:=by
    cases h5:eqF (Yau f) (Yau g)with
    |false=>rfl
    |true=>
     have:=(E (Ye6 wf) (Ye6 wg)).1 h5;rw[Yi0,Yi0]at this;rw[(E wf wg).2 this]at h4;cases h4
   rw[this];rfl
 refine⟨_,fun _=>c28 f sf,_,fun _=>c28 g sg,_,fun _=>c30 _ _ (Yhr lf),fun h=>by rw[pl]at h;simp at h,fun _=>⟨fun hx=>?_,fun _=>call1 c13 ⟨_,rfl,rfl,rfl,rfl⟩⟩⟩;have es:=(E wf wg).1 hx;have ev:verF f=verF g:=by rw[<-Ye4 f,es,Ye4]
 have ec:comF f=comF g:=by rw[<-Ydu f,es,Ydu]
 have ep:eqF (Ycr f) (Ycr g)=true:=(E (Ye7 wf) (Ye7 wg)).2 (by rw[Ydh,Ydh,es]);refine⟨_,fun _=>c14 f lf (by omega),_,fun _=>c14 g lg (by omega),fun _=>?_,fun h=>by rw[ev]at h;simp at h⟩;refine⟨_,fun _=>c31 f (by omega) lf,_,fun _=>c31 g (by omega) lg,_,fun _=>c23 _ _ (by omega),fun _=>?_,fun h=>by rw[decide_eq_true ec]at h;cases h⟩;refine⟨_,fun _=>c29 f sf,call1 (c29 g sg) ⟨_,rfl,rfl,call1 (c19 _ _ (Yhs lf)) ⟨_,rfl,rfl,fun _=>call1 c13 ⟨_,rfl,rfl,rfl,rfl⟩,fun h=>by rw[ep]at h;cases h⟩⟩⟩
end Go.Sy
end
section
open Go Go.Proofs Go.Ab Go.Rf Go.ChangeShapes Go.WideShapes Go.ChangeAt Go.Proofs.YtpcnadmaeebhbaaGreatDoor
set_option maxRecDepth 100000
namespace Go.Sy
theorem Yh3(os:Os):laidMet Tryz.prog Rows.syntaxEquivalenceRow.laid ((Yc8 os).forCall (fun _ _=>0) ⟨#[],#[zF,zF,zF],[]⟩).memory:=
 laidMet_of_run' 8 (by kernel_rfl) (by kernel_rfl)
theorem Ykr(os:Os){H:Type}(en:TypeId×Value->H):∃places,DataW.whole en Tryz.prog ((Yc8 os).forCall (fun _ _=>0) ⟨#[],#[zF,zF,zF],[]⟩).memory Tryz.f8.params.toList Rows.syntaxEquivalenceSpec.vars false #[zF,zF,zF].toList 8=some ([dF,dF,dF],[],places):=
 ⟨[],by kernel_rfl⟩
theorem Yjq(os:Os)(started:os.Started)(H:Type)(en:TypeId×Value->H)(F:Stop.Interp):
 ReturnsInHanded {} Tryz.checked os 8 .any ((OpenSpec.ofChange Rows.syntaxEquivalenceSpec).preRow en Tryz.prog Tryz.f8 Rows.syntaxEquivalenceRow.domain false Rows.syntaxEquivalenceRow.laid) (((OpenSpec.ofChange Rows.syntaxEquivalenceSpec).at F).post en Tryz.prog Tryz.f8 false true false false):=by
 obtain⟨places,hx⟩:=Ykr os en
 refine returnsInHanded_of_row (C:=Tryz.checked) (s:=OpenSpec.ofChange Rows.syntaxEquivalenceSpec) own started (by kernel_rfl) Tryz.func8
  (witness_row_at (enc:=en) (C:=Tryz.checked) false (Yc8 os) #[zF,zF,zF] rfl (by kernel_rfl) (by kernel_rfl) (by kernel_rfl)
   (OpenSpec.preRow_of_cond 8 hx (by kernel_rfl) (fun k hk=>by cases hk) (by kernel_rfl) (Yh3 os))) ?_
 intro W base args ds gs before hval0 hW _ _ hsz0 hL _ _;have hval:∀(j:Nat) t v,Tryz.f8.params[j]? =some t->args[j]? =some v->Value.okWide Tryz.prog W .any base t v:=hval0;have hW':DataW.Whole en Tryz.prog Tryz.f8.params.toList Rows.syntaxEquivalenceSpec.vars false W args.toList ds gs before:=hW;obtain⟨p,q,hA0,hV,rfl,hfz,hnd⟩:=hW;have hA:DataW.TrodAll en Tryz.prog W 0 (fun _=>true) true Tryz.f8.params.toList args.toList ds p:=hA0;have hsz:(DataW.weightsEach Tryz.prog (Tryz.f8.params.toList++[]) (ds++gs)).all (· <=reachBytes)=true:=hsz0;rw[Tryz.params8]at hA hval hsz;obtain⟨v0,vs0,d0,ds0,p0,q0,hargs,rfl,rfl,h0,r0⟩:=trodAll_cons hA;obtain⟨v1,vs1,d1,ds1,p1,q1,rfl,rfl,rfl,h1,r1⟩:=trodAll_cons r0;obtain⟨v2,vs2,d2,ds2,p2,q2,rfl,rfl,rfl,h2,r2⟩:=trodAll_cons r1;obtain⟨rfl,rfl,rfl⟩:=trodAll_nil r2;obtain rfl:args= #[v0,v1,v2]:=by cases args;simp_all
 obtain⟨a0,k0,g0,e0⟩:=Yja (hval 0 26 v0 rfl rfl) h0 (Ygs hsz (i:=0) rfl rfl);obtain⟨a1,k1,g1,e1⟩:=Yja (hval 1 26 v1 rfl rfl) h1 (Ygs hsz (i:=1) rfl rfl);obtain⟨a2,k2,g2,e2⟩:=Yja (hval 2 26 v2 rfl rfl) h2 (Ygs hsz (i:=2) rfl rfl);refine(Yfc Tryz.func8 rfl rfl (Holds.out (c8 a0 a1 a2 g0 e0 g1 e1 g2 e2) (w:=W) (cargs:= #[v0,v1,v2]) ⟨k0,k1,k2,trivial⟩)).mono fun e W' ⟨cv,g',he,hc,hb⟩=>?_
 have hc:cv=.bool true:=by cases hc;rfl
 subst hc;exact⟨_,he,Yh8 (s:=Rows.syntaxEquivalenceSpec) rfl hW' rfl rfl lay (by kernel_rfl) hb⟩
theorem syntaxEquivalence_holds:Rows.SyntaxEquivalenceSaid:=
 OpenClaim.holds_of_cond 8 Tryz.f8 rfl rfl rfl rfl rfl rfl rfl ⟨rfl,rfl,rfl,rfl,rfl⟩ rfl rfl rfl rfl rfl (by kernel_rfl) Tryz.func8 (by kernel_rfl)
  (of_decide_eq_true (by kernel_rfl)) (by unfold Func.isWrapper;first|(rw[if_pos (by decide+kernel)];kernel_rfl)|(rw[if_neg (by decide+kernel)];exact⟨rfl,rfl⟩))
  (fun os started H en _ F=>by rw[OpenClaim.pre_eq_preRow];exact Yjq os started H en F)
theorem plain8(f:FuncId)(fn:Func)(hf:Tryz.pinned.checked.prog.funcNamed "configlang/configlanglaw25.SyntaxEquivalence" =some f)(hfn:Tryz.pinned.checked.prog.funcs[f]? =some fn):
 true=Tryz.pinned.checked.prog.looks []/\ ∀(j:Nat) t,fn.params[j]? =some t->Tryz.pinned.checked.prog.wantsStandIn t=false:=by
 obtain rfl:f=8:=Option.some.inj ((show Tryz.prog.funcNamed "configlang/configlanglaw25.SyntaxEquivalence" =some 8 by kernel_rfl).symm.trans hf)|>.symm;obtain rfl:fn=Tryz.f8:=(Option.some.inj (Tryz.func8.symm.trans hfn)).symm;refine⟨by kernel_rfl,fun j t ht=>?_⟩;rw[Tryz.params8]at ht;have hm:t∈[26,26,26]:=by simpa using Array.mem_of_getElem? ht
 have hall:([26,26,26].all fun u=>!Tryz.prog.wantsStandIn u)=true:=by kernel_rfl
 exact(show Tryz.prog.wantsStandIn t=false by simpa using List.all_eq_true.1 hall t hm)
end Go.Sy
namespace Go.Proofs.YtpcnadmaeebhbaaGreatDoor
theorem syntaxEquivalence_proved:Rows.SyntaxEquivalenceCardSaid:=
 Claim7.holds_tied_plain_at .later [] _ _ _ _ Go.Sy.syntaxEquivalence_holds (fun _ h=>by cases h) (by kernel_rfl) (fun _ h=>by cases h) syntaxEquivalence_row_tie rfl ⟨rfl,rfl⟩ (by kernel_rfl) rfl Go.Sy.plain8 (by kernel_rfl)
end Go.Proofs.YtpcnadmaeebhbaaGreatDoor
end
