/- Proved: the given card SyntaxLawsCardSaid, without conditions. -/
import Derived.Test.YtpcnadmaeebhbaaGreatDoorJaj
set_option linter.unusedVariables false
set_option linter.unusedSimpArgs false
section
open Go Go.Proofs Go.Ab Go.Rf
set_option maxRecDepth 100000
namespace Go.Rx
theorem Zlv:∀(n:Nat)(neg:Bool)(p:Nat->Bool)(t:List UInt8),t.length<n->setL n neg p t≠none
 |0,_,_,_,h=>by omega
 |n+1,neg,p,t,h=>by
  unfold setL;have h1:=Zi0 0 t;cases e1:Zew 0 t with
  |bad q=>simp
  |ok lo t1=>
   rw[e1]at h1;dsimp only;have h2:=Zui lo t1;cases e2:hiR lo t1 with
   |bad q=>simp
   |ok hi t3=>
    rw[e2]at h2;dsimp only;split
    ·simp
    ·refine Zlv n neg _ t3 ?_;have:=h1.1;have:=List.IsSuffix.length_le h2;omega
theorem Zy0(n:Nat)(t:List UInt8)(h:t.length<n):setR n t≠none:=by
 unfold setR;split
 ·exact Zlv _ _ _ _ (by simp;omega)
 ·split
  ·simp
  ·exact Zlv _ _ _ _ h
theorem Zqn:∀(n:Nat)(r:Rx)(t:List UInt8),t.length<n->opsL n r t≠none
 |0,_,_,h=>by omega
 |n+1,r,t,h=>by
  unfold opsL;cases e:opX (hd t) r with
  |none=>simp
  |some r'=>
   have:=Ziz (Z6j e);exact Zqn n r' t.tail (by omega)
theorem Z1g:∀n,(∀t,5*t.length+4<=n->alts n t≠none)/\(∀l t,5*t.length+4<=n->altL n l t≠none)/\(∀t,5*t.length+3<=n->seqs n t≠none)/\(∀l t,5*t.length+3<=n->seqL n l t≠none)/\
 (∀t,5*t.length+2<=n->Zf1 n t≠none)/\(∀t,5*t.length+1<=n->atom n t≠none):=by
 intro n
 induction n with
 |zero=>exact⟨fun t h=>by omega,fun l t h=>by omega,fun t h=>by omega,fun l t h=>by omega,fun t h=>by omega,fun t h=>by omega⟩
 |succ n ih=>
  obtain⟨ih1,ih2,ih3,ih4,ih5,ih6⟩:=ih;refine⟨fun t h=>?_,fun l t h=>?_,fun t h=>?_,fun l t h=>?_,fun t h=>?_,fun t h=>?_⟩
  ·unfold alts;cases e:seqs n t with
   |none=>exact absurd e (ih3 t (by omega))
   |some res=>cases res with
    |bad q=>simp
    |ok r t1=>have:=((Zfo n).2.2.1 _ _ e).1;exact ih2 _ _ (by omega)
  ·unfold altL;split
   ·rename_i hc;have ht:=Ziz (show hd t≠0 by omega);cases e:seqs n t.tail with
    |none=>exact absurd e (ih3 t.tail (by omega))
    |some res=>cases res with
     |bad q=>simp
     |ok r t1=>have:=((Zfo n).2.2.1 _ _ e).1;exact ih2 _ _ (by omega)
   ·simp
  ·unfold seqs;cases e:Zf1 n t with
   |none=>exact absurd e (ih5 t (by omega))
   |some res=>cases res with
    |bad q=>simp
    |ok r t1=>have:=((Zfo n).2.2.2.2.1 _ _ e).1;exact ih4 _ _ (by omega)
  ·unfold seqL;split
   ·cases e:Zf1 n t with
    |none=>exact absurd e (ih5 t (by omega))
    |some res=>cases res with
     |bad q=>simp
     |ok r t1=>have:=((Zfo n).2.2.2.2.1 _ _ e).1;exact ih4 _ _ (by omega)
   ·simp
  ·unfold Zf1;cases e:atom n t with
   |none=>exact absurd e (ih6 t (by omega))
   |some res=>cases res with
    |bad q=>simp
    |ok r t1=>have:=((Zfo n).2.2.2.2.2 _ _ e).1;exact Zqn _ _ _ (by omega)
  ·unfold atom;have ht:hd t≠0->t.tail.length<t.length:=Ziz;split
   ·rename_i hc;have ht:=ht (by omega);split
    ·simp
    ·cases e:alts n t.tail with
     |none=>exact absurd e (ih1 t.tail (by omega))
     |some res=>cases res<;>simp
   ·split
    ·rename_i hc;have ht:=ht (by omega);exact Zy0 _ _ (by omega)
    ·split
     ·simp
     ·split
      ·cases clsV (hd t.tail)with
       |some p=>simp
       |none=>dsimp only;cases escR 0 t.tail<;>simp
      ·split<;>simp
def Zlw(t:List UInt8):Nat:=5*t.length+4
theorem Zy1(t:List UInt8):∃res,alts (Zlw t) t=some res:=by
 have:=(Z1g (Zlw t)).1 t (Nat.le_refl _);cases h:alts (Zlw t) t with
 |none=>exact absurd h this
 |some r=>exact⟨r,rfl⟩
def parseV(s:List UInt8):Rx×Int×Int:=
 if 1000<s.length then(mk0 0 [],2,0)else match alts (Zlw s) s with
  |some (.ok r t)=>if t=[]then(if chk 1 r=9 then(mk0 0 [],9,0)else(r,0,0))else(mk0 0 [],8,(s.length:Int)-t.length)
  |some (.bad t)=>(mk0 0 [],8,(s.length:Int)-t.length)
  |none=>(mk0 0 [],0,0)
def pairA(x:Rx×Int×Int):A:=.tup [(true,enc x.1),(true,[.lit (.int .i64 x.2.1),.lit (.int .i64 x.2.2)])]
theorem Zf2{B:Nat}{k:Int}{l:List Rx}:lens B (mk0 k l)↔l.length<=B/\ ∀x∈l,lens B x:=Ziy
theorem Zgw{B:Nat}(p:Nat->Bool):lens B (setX p):=Ziy.2 ⟨Nat.zero_le _,fun _ h=>by cases h⟩
theorem Zmz{B:Nat}{k:Int}{l:List Rx}(h:l.length<=B)(hl:∀x∈l,lens B x):lens B (Zvo k l):=by
 unfold Zvo;split
 ·exact hl _ (by simp)
 ·exact Zf2.2 ⟨h,hl⟩
def Res.All{α:Type}(P:α->Prop):Res α->Prop|.ok a _=>P a|.bad _=>True
theorem Zlx{B:Nat}:∀(n:Nat)(neg:Bool)(p:Nat->Bool)(t:List UInt8)(r:Res Rx),setL n neg p t=some r->r.All (lens B)
 |0,_,_,_,_,h=>by simp[setL]at h
 |n+1,neg,p,t,r,h=>by
  unfold setL at h;split at h
  ·cases h;trivial
  ·split at h
   ·cases h;trivial
   ·split at h
    ·cases h;show lens B _;exact Zgw _
    ·exact Zlx n _ _ _ _ h
theorem Zqo{B:Nat}{r:Rx}(hB:2<=B)(h:lens B r):lens B (Zyt r):=Zf2.2 ⟨by simp;omega,by simpa using h⟩
theorem Z1h{B c:Nat}{r r':Rx}(hB:2<=B)(h:lens B r)(e:opX c r=some r'):lens B r':=by
 unfold opX at e;have he:lens B (mk0 1 []):=Zf2.2 ⟨Nat.zero_le _,by simp⟩
 repeat' split at e
 all_goals first
  |(cases e;exact Zqo hB h)
  |(cases e;exact Zf2.2 ⟨by simpa using hB,by simp;exact⟨h,Zqo hB h⟩⟩)
  |(cases e;exact Zf2.2 ⟨by simpa using hB,by simp;exact⟨h,he⟩⟩)
  |cases e
theorem Zqp{B:Nat}(hB:2<=B):∀(n:Nat)(r:Rx)(t:List UInt8)(o:Res Rx),opsL n r t=some o->lens B r->o.All (lens B)
 |0,_,_,_,h,_=>by simp[opsL]at h
 |n+1,r,t,o,h,hr=>by
  unfold opsL at h;split at h
  ·rename_i r' e;exact Zqp hB n r' _ _ h (Z1h hB hr e)
  ·cases h;exact hr
theorem Z1i(B:Nat)(hB:2<=B):∀(n:Nat),(∀t r,alts n t=some r->t.length<=B->r.All (lens B))/\(∀l t r,altL n l t=some r->l.length+t.length<=B->(∀x∈l,lens B x)->r.All (lens B))/\(∀t r,seqs n t=some r->t.length<=B->r.All (lens B))/\
 (∀l t r,seqL n l t=some r->l.length+t.length<=B->(∀x∈l,lens B x)->r.All (lens B))/\
 (∀t r,Zf1 n t=some r->t.length<=B->r.All (lens B))/\(∀t r,atom n t=some r->t.length<=B->r.All (lens B)):=by
 intro n
 induction n with
 |zero=>exact⟨fun t r h=>by simp[alts]at h,fun l t r h=>by simp[altL]at h,fun t r h=>by simp[seqs]at h,fun l t r h=>by simp[seqL]at h,fun t r h=>by simp[Zf1]at h,fun t r h=>by simp[atom]at h⟩
 |succ n ih=>
  obtain⟨ih1,ih2,ih3,ih4,ih5,ih6⟩:=ih;refine⟨fun t r h hl=>?_,fun l t r h hl hx=>?_,fun t r h hl=>?_,fun l t r h hl hx=>?_,fun t r h hl=>?_,fun t r h hl=>?_⟩
  ·unfold alts at h;split at h
   ·cases h
   ·cases h;trivial
   ·rename_i hq;have h1:=ih3 _ _ hq hl;have h2:=((Zfo n).2.2.1 _ _ hq).1;exact ih2 _ _ _ h (by simp;omega) (fun x hx=>by rw[List.mem_singleton.1 hx];exact h1)
  ·unfold altL at h;split at h
   ·rename_i hc;have h0:=Ziz (show hd t≠0 by omega);split at h
    ·cases h
    ·cases h;trivial
    ·rename_i hq;have h1:=ih3 _ _ hq (by omega);have h2:=((Zfo n).2.2.1 _ _ hq).1;refine ih2 _ _ _ h (by simp;omega) fun x hx'=>?_
     rcases List.mem_append.1 hx' with hx'|hx'
     ·exact hx x hx'
     ·rw[List.mem_singleton.1 hx'];exact h1
   ·cases h;exact Zmz (by omega) hx
  ·unfold seqs at h;split at h
   ·cases h
   ·cases h;trivial
   ·rename_i hq;have h1:=ih5 _ _ hq hl;have h2:=((Zfo n).2.2.2.2.1 _ _ hq).1;exact ih4 _ _ _ h (by simp;omega) (fun x hx=>by rw[List.mem_singleton.1 hx];exact h1)
  ·unfold seqL at h;split at h
   ·split at h
    ·cases h
    ·cases h;trivial
    ·rename_i hq;have h1:=ih5 _ _ hq (by omega);have h2:=((Zfo n).2.2.2.2.1 _ _ hq).1;refine ih4 _ _ _ h (by simp;omega) fun x hx'=>?_
     rcases List.mem_append.1 hx' with hx'|hx'
     ·exact hx x hx'
     ·rw[List.mem_singleton.1 hx'];exact h1
   ·cases h;exact Zmz (by omega) hx
  ·unfold Zf1 at h;split at h
   ·cases h
   ·cases h;trivial
   ·rename_i hq;exact Zqp hB _ _ _ _ h (ih6 _ _ hq hl)
  ·have hT:t.tail.length<=B:=by simp;omega
   unfold atom at h;split at h
   ·split at h
    ·cases h;show lens B (mk0 1 []);exact Zf2.2 ⟨Nat.zero_le _,by simp⟩
    ·split at h
     ·cases h
     ·cases h;trivial
     ·rename_i hq;cases h;have h1:=ih1 _ _ hq hT;unfold Zmy;split
      ·exact h1
      ·trivial
   ·split at h
    ·unfold setR at h;split at h
     ·exact Zlx _ _ _ _ _ h
     ·split at h
      ·cases h;show lens B (mk0 1 []);exact Zf2.2 ⟨Nat.zero_le _,by simp⟩
      ·exact Zlx _ _ _ _ _ h
    ·split at h
     ·cases h;show lens B _;exact Zgw _
     ·split at h
      ·split at h
       ·cases h;show lens B _;exact Zgw _
       ·split at h
        ·cases h;trivial
        ·cases h;show lens B _;exact Zgw _
      ·split at h
       ·cases h;trivial
       ·cases h;show lens B _;exact Zgw _
theorem Zy2{n:Nat}{t t':List UInt8}{r:Rx}(h:alts n t=some (.ok r t')):lens (t.length+2) r:=(Z1i (t.length+2) (by omega) n).1 t _ h (by omega)
theorem at0{s:List UInt8}(h:s.length<=1048576):At s s 0:=⟨List.suffix_refl _,by omega,h⟩
theorem Zvq{s:List UInt8}(h:1000<s.length):parseV s=(mk0 0 [],2,0):=by unfold parseV;rw[if_pos h]
theorem Zy3{s t:List UInt8}{i:Int}(h:¬1000<s.length)(hr:alts (Zlw s) s=some (.bad t))(hi:At s t i):parseV s=(mk0 0 [],8,i):=by
 unfold parseV;rw[if_neg h,hr];have:=hi.pos;have:(s.length:Int)-t.length=i:=by omega
 simp[this]
theorem Zvr{s t:List UInt8}{r:Rx}{i:Int}(h:¬1000<s.length)(hr:alts (Zlw s) s=some (.ok r t))(hi:At s t i)(ht:t≠[]):parseV s=(mk0 0 [],8,i):=by
 unfold parseV;rw[if_neg h,hr];have:=hi.pos;have:(s.length:Int)-t.length=i:=by omega
 simp[this,ht]
theorem Z1j{s:List UInt8}{r:Rx}(h:¬1000<s.length)(hr:alts (Zlw s) s=some (.ok r [])):parseV s=if chk 1 r=9 then(mk0 0 [],9,0)else(r,0,0):=by
 unfold parseV;rw[if_neg h,hr];simp
end Go.Rx
end
section
open Go Go.Proofs Go.Ab Go.Rf
set_option maxRecDepth 100000
namespace Go.Rx
theorem Z76{α:Type}{l:List α}(h:l.length=4):∃a b c d,l=[a,b,c,d]:=by
 match l,h with
 |[a,b,c,d],_=>exact⟨a,b,c,d,rfl⟩
def Zqq(s:List UInt8):Out->Prop:=fun o=>o=.ret (pairA (parseV s))
theorem Z4m(r:Rx):enc r=[(enc r).getD 0 D0,(enc r).getD 1 D0,(enc r).getD 2 D0,(enc r).getD 3 D0,(enc r).getD 4 D0,(enc r).getD 5 D0]:=(Zqm r).symm
theorem c19(s:List UInt8):Holds Tryz.prog 112 [A.d (.lit (Zaa s))] [] (Ret (pairA (parseV s))):=by
 have key:Holds Tryz.prog 112 [A.d (D.lit (Zaa s))] [] (fun o H=>H=[]/\Zqq s o):=by
  refine w19p _ rfl s ⟨fun hl=>⟨fun _=>?_,fun h=>absurd rfl h⟩,fun hl=>⟨fun h=>(by cases h),fun _=>⟨_,rfl,fun qs hlen hn=>?_⟩⟩⟩
  ·have hl:=of_tlt hl;unfold Zqq;rw[Zvq (by omega)];rfl
  ·have hl:=of_flt hl;have hs:¬1000<s.length:=by omega
   have h0:At s s 0:=at0 (by omega);obtain⟨res,hr⟩:=Zy1 s;obtain⟨q0,q1,q2,q3,rfl⟩:=Z76 hlen;simp only[List.nodup_cons,List.mem_cons,List.not_mem_nil,or_false,not_or,List.nodup_nil,and_true,not_false_eq_true]at hn;obtain⟨⟨h01,h02,h03⟩,⟨h12,h13⟩,h23⟩:=hn
   have failz:∀(i j:Int),parseV s=(mk0 0 [],8,i)->midR Tryz.prog 126 3 [(1,6),(2,2)] (Zqq s) [q0,q1,q2,q3] (.pan (Zev i)) [(Ref.up q0,[A.ptr (Ref.up q3) 0]),(Ref.up q1,[A.d (.lit (.int .i64 0)),A.d (.lit (.int .u64 0)),A.d (.lit (.int .u64 0)),A.d (.lit (.int .u64 0)),A.d (.lit (.int .u64 0)),A.zs []]),(Ref.up q2,[A.d (.lit (.int .i64 0)),A.d (.lit (.int .i64 0))]),(Ref.up q3,[A.d (.lit (Zaa s)),A.d (.lit (.int .i64 j))])]:=fun i j hp=>
    ⟨_,fun H=>H=_,w36z _ rfl _ _ _ _ _ (D.lit .nilIface) _ _ s j i q0 q1 q2 q3 h01 h02 h12 h03 h13 h23 rfl,rfl,fun H2 hR=>by subst hR;exact⟨_,rfl,by unfold Zqq;rw[hp];rfl⟩⟩
   have faild:∀(i j:Int)(a b c d e f:D),parseV s=(mk0 0 [],8,i)->midR Tryz.prog 126 3 [(1,6),(2,2)] (Zqq s) [q0,q1,q2,q3] (.pan (Zev i)) [(Ref.up q0,[A.ptr (Ref.up q3) 0]),(Ref.up q1,[A.d a,A.d b,A.d c,A.d d,A.d e,A.d f]),(Ref.up q2,[A.d (.lit (.int .i64 0)),A.d (.lit (.int .i64 0))]),(Ref.up q3,[A.d (.lit (Zaa s)),A.d (.lit (.int .i64 j))])]:=fun i j a b c d e f hp=>
    ⟨_,fun H=>H=_,w36f _ rfl _ _ _ _ _ _ _ _ s j i q0 q1 q2 q3 h01 h02 h12 h03 h13 h23 rfl,rfl,fun H2 hR=>by subst hR;exact⟨_,rfl,by unfold Zqq;rw[hp];rfl⟩⟩
   have fine:∀(j:Int)(a b c d e f g h:D),pairA (parseV s)=.tup [(true,[a,b,c,d,e,f]),(true,[g,h])]->midR Tryz.prog 126 3 [(1,6),(2,2)] (Zqq s) [q0,q1,q2,q3] (.ret (.tup [])) [(Ref.up q0,[A.ptr (Ref.up q3) 0]),(Ref.up q1,[A.d a,A.d b,A.d c,A.d d,A.d e,A.d f]),(Ref.up q2,[A.d g,A.d h]),(Ref.up q3,[A.d (.lit (Zaa s)),A.d (.lit (.int .i64 j))])]:=fun j a b c d e f g h hp=>
    ⟨_,fun H=>H=_,w36n _ rfl _ _ _ _ _ _ _ _ s j 0 q0 q1 q2 q3 h01 h02 h12 h03 h13 h23 rfl,rfl,fun H2 hR=>by subst hR;exact⟨_,rfl,by unfold Zqq;rw[hp];rfl⟩⟩
   refine w19q s 0 0 0 0 0 0 0 s 0 q0 q1 q2 q3 h01 h02 h12 h03 h13 h23 ?_;refine Zha (k37 _ (Ref.up q3) s s 0 res hr h0) (fun v t i e hi=>?_) (fun t i j e hi=>?_)
   ·obtain⟨r,f1,rfl⟩:=Zd5 e;subst f1;refine⟨_,_,_,rfl,rfl,teq6 r,fun hf=>?_,fun hf=>?_⟩
    ·have ht:t≠[]:=hi.more (of_tlt hf);exact Zg9 c38 ⟨_,_,rfl,faild i i _ _ _ _ _ _ (Zvr hs hr hi ht)⟩
    ·have ht:t=[]:=hi.end_ (of_flt hf);subst ht;have hp:=Z1j hs hr;have hb:lens (2^40) r:=Zqd (by omega) _ r (Nat.le_refl _) (Zy2 hr);refine call1 (c15 r hb) ⟨_,rfl,rfl,fun h9=>?_,fun h9=>?_⟩
     ·rw[if_pos (of_teq h9)]at hp;exact fine i _ _ _ _ _ _ _ _ (by rw[hp];rfl)
     ·rw[if_neg (of_feq h9)]at hp;exact fine i _ _ _ _ _ _ _ _ (by rw[hp];show A.tup [(true,enc r),_]=_;rw[Z4m r];rfl)
   ·have f1:=Zd0 e;subst f1;exact⟨_,_,rfl,failz i j (Zy3 hs hr hi)⟩
 exact key.mono fun o H' h=>⟨h.2,h.1⟩
end Go.Rx
end
section
open Go Go.Proofs Go.Ab Go.Rf
set_option linter.unusedSimpArgs false
set_option linter.unusedVariables false
set_option maxRecDepth 100000
namespace Go.Sy
theorem Zf3{a b:Bool}(h:a=b):Ret (Zao b) (.ret (Zao a)) []:=by subst h;exact⟨rfl,rfl⟩
def letV(x:Int):Bool:=(decide (97<=x)&&decide (x<=122))||(decide (65<=x)&&decide (x<=90))
def chV(x:Int):Bool:=letV x||(x==95||(decide (48<=x)&&decide (x<=57)))
def Zqr(t:Tx):Bool:=(!t.isEmpty&&letV (Zcb t 0))&&(List.range t.length).all fun i=>chV (Zcb t (i:Nat))
def cutV(s:Tx):Tx:=if decide (0<s.length)&&(Zcb s 0==35||Zcb s 0==95)then gSub s 1 s.length else s
def KW:List Tx:=[[110,117,108,108],[116,114,117,101],[102,97,108,115,101],[98,111,111,108],[105,110,116],[110,117,109,98,101,114],[115,116,114,105,110,103],[108,101,116],[105,102],[102,111,114],[105,110],[112,97,99,107,97,103,101],[105,109,112,111,114,116]]
def idV(s:Tx):Bool:=(decide (s.length<=32)&&!decide (s∈KW))&&Zqr (cutV s)
theorem c93(x:Int):Holds Tryz.prog 93 [.d (.lit (.int .u8 x))] [] (Ret (Zao (letV x))):=w93 x (by simp only[Zbp];exact⟨rfl,rfl⟩)
theorem Z6l{x:Int}(h:((((!letV x)&&(!(tB (x==95))))&&((tB (decide (x<48)))||(tB (decide (57<x))))))=true):chV x=false:=by
 unfold chV;revert h;cases letV x
 ·simp only[Zbp];intro h;simp at h⊢;omega
 ·simp
theorem Z2i{x:Int}(h:((((!letV x)&&(!(tB (x==95))))&&((tB (decide (x<48)))||(tB (decide (57<x))))))=false):chV x=true:=by
 unfold chV;revert h;cases letV x
 ·simp only[Zbp];intro h;simp at h⊢;by_cases hx:x=95
  ·exact .inl hx
  ·have:=h hx;exact .inr (by omega)
 ·simp
theorem Zy4{t:Tx}{i:Nat}(hi:i<t.length)(h:chV (Zcb t (i:Nat))=false):Zqr t=false:=by
 unfold Zqr;rw[Bool.and_eq_false_iff];right;rw[List.all_eq_false];exact⟨i,List.mem_range.2 hi,by rw[h];simp⟩
theorem Zul{t:Tx}(hne:t≠[])(h:letV (Zcb t 0)=true)(ha:∀i<t.length,chV (Zcb t (i:Nat))=true):Zqr t=true:=by
 unfold Zqr;rw[h,List.all_eq_true.2 fun i hi=>ha i (List.mem_range.1 hi)];cases t with
 |nil=>exact absurd rfl hne
 |cons=>rfl
theorem c48(s:Tx):Holds Tryz.prog 48 [strA s] [] (Ret (Zao (idV s))):=by
 refine w48 s ⟨fun h=>?_,fun h=>?_⟩
 ·have hl:s.length<=32:=by have:=nb1 h;simp at this;omega
  refine call1 (c71 s KW (by decide)) ⟨_,rfl,rfl,fun hk=>?_,fun hk=>?_⟩
  ·exact Zf3 (by unfold idV;rw[hk];simp)
  ·have hi:idV s=Zqr (cutV s):=by unfold idV;rw[hk,decide_eq_true hl];rfl
   refine⟨by by_cases h0:0<s.length<;>simp[h0],by by_cases h0:0<s.length<;>simp[h0],fun h1=>?_,fun h1=>?_⟩
   ·have hc:cutV s=gSub s 1 s.length:=by unfold cutV;rw[if_pos (by simpa using h1)]
    have h0:0<s.length:=by simp at h1;omega
    rw[hc]at hi;have hg:(gSub s 1 (s.length:Int)).length<=32:=by simp[gSub];omega
    have hid:=hi;refine⟨tle (by omega),tle (by omega),by by_cases h2:(gSub s 1 (s.length:Int)).length=0<;>simp[h2]<;>omega,fun h2=>?_,fun h2=>?_⟩
    ·have hne:gSub s 1 (s.length:Int)≠[]:=fun e=>by rw[e]at h2;simp at h2
     refine call1 (c93 _) ⟨_,rfl,rfl,fun h3=>?_,fun h3=>?_⟩
     ·exact Zf3 (by rw[hid];unfold Zqr;rw[nb1 h3];simp)
     ·have h3:=nb0 h3;refine⟨fun x=>∃i:Nat,x=i/\i<=(gSub s 1 (s.length:Int)).length/\ ∀j<i,chV (Zcb (gSub s 1 (s.length:Int)) (j:Nat))=true,fun x=>(gSub s 1 (s.length:Int)).length-x.toNat,⟨0,rfl,Nat.zero_le _,fun j hj=>absurd hj (Nat.not_lt_zero j)⟩,?_,trivial⟩;rintro x ⟨i,rfl,hi,hr⟩;refine⟨fun hc=>?_,fun hc=>?_⟩
      ·have k1:i<(gSub s 1 (s.length:Int)).length:=by have:=of_tlt hc;omega
       refine⟨tle (by omega),call1 (c93 _) ⟨_,rfl,rfl,fun h4=>?_,fun h4=>⟨tle (by omega),tle (by omega),⟨i+1,rfl,k1,fun j hj=>?_⟩,dec k1⟩⟩⟩
       ·refine Zf3 ?_;rw[hid];exact(Zy4 k1 (Z6l h4)).symm
       ·rcases Nat.lt_succ_iff_lt_or_eq.1 hj with h5|rfl
        ·exact hr j h5
        ·exact Z2i h4
      ·have k1:(gSub s 1 (s.length:Int)).length<=i:=by have:=of_flt hc;omega
       refine Zf3 ?_;rw[hid];exact(Zul hne h3 fun j hj=>hr j (by omega)).symm
    ·refine Zf3 ?_;rw[hid];have:gSub s 1 (s.length:Int)=[]:=List.length_eq_zero_iff.1 (by simpa using h2);rw[this];rfl
   ·have hc:cutV s=s:=by unfold cutV;rw[if_neg (by intro e;rw[show((tB (decide ((0:Int)<(s.length:Int))))&&((tB ((Zcb s 0)==35))||(tB ((Zcb s 0)==95))))=true by simpa using e]at h1;cases h1)]
    rw[hc]at hi;have hid:=hi;refine⟨by by_cases h2:s.length=0<;>simp[h2]<;>omega,fun h2=>?_,fun h2=>?_⟩
    ·have hne:s≠[]:=fun e=>by rw[e]at h2;simp at h2
     refine call1 (c93 _) ⟨_,rfl,rfl,fun h3=>?_,fun h3=>?_⟩
     ·exact Zf3 (by rw[hid];unfold Zqr;rw[nb1 h3];simp)
     ·have h3:=nb0 h3;refine⟨fun x=>∃i:Nat,x=i/\i<=(s).length/\ ∀j<i,chV (Zcb (s) (j:Nat))=true,fun x=>(s).length-x.toNat,⟨0,rfl,Nat.zero_le _,fun j hj=>absurd hj (Nat.not_lt_zero j)⟩,?_,trivial⟩;rintro x ⟨i,rfl,hi,hr⟩;refine⟨fun hc=>?_,fun hc=>?_⟩
      ·have k1:i<(s).length:=by have:=of_tlt hc;omega
       refine⟨tle (by omega),call1 (c93 _) ⟨_,rfl,rfl,fun h4=>?_,fun h4=>⟨tle (by omega),tle (by omega),⟨i+1,rfl,k1,fun j hj=>?_⟩,dec k1⟩⟩⟩
       ·refine Zf3 ?_;rw[hid];exact(Zy4 k1 (Z6l h4)).symm
       ·rcases Nat.lt_succ_iff_lt_or_eq.1 hj with h5|rfl
        ·exact hr j h5
        ·exact Z2i h4
      ·have k1:(s).length<=i:=by have:=of_flt hc;omega
       refine Zf3 ?_;rw[hid];exact(Zul hne h3 fun j hj=>hr j (by omega)).symm
    ·refine Zf3 ?_;rw[hid];have:s=[]:=List.length_eq_zero_iff.1 (by simpa using h2);rw[this];rfl
 ·exact Zf3 (by have:=nb0 h;simp at this;unfold idV;rw[decide_eq_false (by omega:¬s.length<=32)];rfl)
def tyW:List Tx:=[[110,117,108,108],[98,111,111,108],[105,110,116],[110,117,109,98,101,114],[115,116,114,105,110,103]]
theorem Z4n:Holds Tryz.prog 145 [strA [110,117,108,108,32,98,111,111,108,32,105,110,116,32,110,117,109,98,101,114,32,115,116,114,105,110,103],strA [32]] [] (Ret (slA (txs tyW))):=(Zbt (m:=(145,[.d (Go.Sy.s [110,117,108,108,32,98,111,111,108,32,105,110,116,32,110,117,109,98,101,114,32,115,116,114,105,110,103]),.d (Go.Sy.s [32])],.d (Go.Sy.l (txs tyW)))) (by kernel_rfl)).2 (fun _=>.own 0 0) (by simp)
def bdW:List Tx:=[[60],[60,61],[62],[62,61],[33,61],[61,126],[33,126]]
theorem Z4o:Holds Tryz.prog 145 [strA [60,32,60,61,32,62,32,62,61,32,33,61,32,61,126,32,33,126],strA [32]] [] (Ret (slA (txs bdW))):=(Zbt (m:=(145,[.d (Go.Sy.s [60,32,60,61,32,62,32,62,61,32,33,61,32,61,126,32,33,126]),.d (Go.Sy.s [32])],.d (Go.Sy.l (txs bdW)))) (by kernel_rfl)).2 (fun _=>.own 0 0) (by simp)
def unW:List Tx:=[[45],[33]]
theorem Z4p:Holds Tryz.prog 145 [strA [45,32,33],strA [32]] [] (Ret (slA (txs unW))):=(Zbt (m:=(145,[.d (Go.Sy.s [45,32,33]),.d (Go.Sy.s [32])],.d (Go.Sy.l (txs unW)))) (by kernel_rfl)).2 (fun _=>.own 0 0) (by simp)
def biW:List Tx:=[[43],[45],[42],[47],[37],[61,61],[33,61],[60],[60,61],[62],[62,61],[38,38],[124,124]]
theorem Z4q:Holds Tryz.prog 145 [strA [43,32,45,32,42,32,47,32,37,32,61,61,32,33,61,32,60,32,60,61,32,62,32,62,61,32,38,38,32,124,124],strA [32]] [] (Ret (slA (txs biW))):=(Zbt (m:=(145,[.d (Go.Sy.s [43,32,45,32,42,32,47,32,37,32,61,61,32,33,61,32,60,32,60,61,32,62,32,62,61,32,38,38,32,124,124]),.d (Go.Sy.s [32])],.d (Go.Sy.l (txs biW)))) (by kernel_rfl)).2 (fun _=>.own 0 0) (by simp)
theorem c132(s all:Tx)(set:List Tx)(hc:Holds Tryz.prog 145 [strA all,strA [32]] [] (Ret (slA (txs set))))(hn:[]∉set)(hl:set.length<=2^50):Holds Tryz.prog 132 [strA s,strA all] [] (Ret (Zao (decide (s∈set)))):=by
 refine w132 s all ⟨fun h=>call1 hc ⟨_,rfl,rfl,call1 (c71 s set hl) ⟨_,rfl,rfl,rfl,rfl⟩⟩,fun h=>?_⟩;have:s=[]:=Zdh (nb0 h);subst this;exact Zf3 (by simp[hn])
def lnV(s:Tx):Bool:=decide ((10:UInt8)∈s)
def lnsV(l:List Tx):Bool:=l.all fun s=>!lnV s
theorem Z77(s:Tx):Holds Tryz.prog 125 [strA s,strA [10]] [] (fun o H=>∃n:Int,o=.ret (intA n)/\H=[]/\(0<=n↔(10:UInt8)∈s)):=by
 refine Z7b s ⟨fun h=>?_,fun h=>?_⟩
 ·have:s=[10]:=(Zdh h).symm;exact⟨0,rfl,rfl,by rw[this];simp⟩
 ·refine call1 (v:=intA (Go.Rx.idxV s 10)) (Go.Rx.c94 s 10) ⟨_,rfl,rfl,_,rfl,rfl,?_⟩;rw[Go.Rx.idxV_nonneg s 10 (by decide),List.any_eq_true]
  exact⟨fun⟨b,hb,he⟩=>by
   have he:b.toNat=10:=by simpa using he
   have:b=10:=UInt8.toNat_inj.1 he;rw[<-this];exact hb,fun hb=>⟨10,hb,rfl⟩⟩
theorem Z78(s:Tx):Holds Tryz.prog 111 [strA s,strA [10]] [] (fun o H=>∃n:Int,o=.ret (intA n)/\H=[]/\(0<=n↔(10:UInt8)∈s)):=
 Z7a s fun _=>⟨_,Z77 s,fun v H' ⟨n,e1,e2,e3⟩=>⟨n,Out.ret.inj e1,e2,n,rfl,rfl,e3⟩,fun u H' ⟨n,e1,_⟩=>by cases e1⟩
theorem c96(s:Tx):Holds Tryz.prog 96 [strA s,strA [10]] [] (Ret (Zao (lnV s))):=
 w96 s [10] fun _=>⟨_,Z78 s,fun v H' ⟨n,e1,e2,e3⟩=>⟨n,Out.ret.inj e1,e2,Zf3 (by unfold lnV;simp[e3])⟩,fun u H' ⟨n,e1,_⟩=>by cases e1⟩
theorem c95(s:Tx):Holds Tryz.prog 95 [strA s] [] (Ret (Zao (lnV s))):=w95 s (call1 (c96 s) ⟨_,rfl,rfl,rfl,rfl⟩)
theorem c110(l:List Tx)(hl:l.length<=2^50):Holds Tryz.prog 110 [slA (txs l),.fn 95 []] [] (fun o H=>∃n:Int,o=.ret (intA n)/\H=[]/\(0<=n↔∃s∈l,lnV s=true)):=by
 refine w110 (txs l) ⟨fun x=>∃i:Nat,x=i/\i<=l.length/\ ∀j (h:j<l.length),j<i->lnV l[j]=false,fun x=>l.length-x.toNat,⟨0,rfl,Nat.zero_le _,fun j _ h=>absurd h (Nat.not_lt_zero j)⟩,?_,trivial⟩;rintro x ⟨i,rfl,hi,hr⟩;refine⟨fun hc=>?_,fun hc=>?_⟩
 ·have k1:i<l.length:=by have:=of_tlt hc;simp at this;omega
  have g:=getT k1;rw[g.2];refine⟨tle (by omega),teq (by rw[gT1 k1];rfl),g.1,call1 (c95 _) ⟨_,rfl,rfl,fun h=>⟨i,rfl,rfl,by simp;exact⟨_,List.getElem_mem k1,h⟩⟩,fun h=>⟨tle (by omega),tle (by omega),⟨i+1,rfl,k1,fun j hj h1=>?_⟩,dec k1⟩⟩⟩;rcases Nat.lt_succ_iff_lt_or_eq.1 h1 with h5|rfl
  ·exact hr j hj h5
  ·exact h
 ·have k1:l.length<=i:=by have:=of_flt hc;simp at this;omega
  refine⟨-1,rfl,rfl,⟨fun h=>by omega,fun⟨s,hs,h⟩=>?_⟩⟩;obtain⟨j,hj,rfl⟩:=List.getElem_of_mem hs;rw[hr j hj (by omega)]at h;cases h
theorem c94(l:List Tx)(hl:l.length<=2^50):Holds Tryz.prog 94 [slA (txs l),.fn 95 []] [] (Ret (Zao (!lnsV l))):=
 w94 (txs l) fun _=>⟨_,c110 l hl,fun v H' ⟨n,e1,e2,e3⟩=>⟨n,Out.ret.inj e1,e2,Zf3 (by
  unfold lnsV;rw[Bool.eq_iff_iff];simp[e3])⟩,fun u H' ⟨n,e1,_⟩=>by cases e1⟩
theorem c49(l:List Tx)(hl:l.length<=2^50):Holds Tryz.prog 49 [slA (txs l)] [] (Ret (Zao (lnsV l))):=w49 (txs l) (call1 (c94 l hl) ⟨_,rfl,rfl,Zf3 (by simp)⟩)
def bls(l:List Bool):List (List D):=l.map fun b=>[.lit (.bool b)]
abbrev BC(q:Ref)(w d:Bool):List (Ref×List A):=[(.up q,[Zao w,Zao d])]
theorem gB{l:List Bool}{i:Nat}(h:i<l.length):gAt (bls l) (i:Int)=[.lit (.bool l[i])]:=by simp[gAt,bls,List.getD,h]
theorem c109(l:List Bool)(hl:l.length<=2^50):Holds Tryz.prog 109 [slA (bls l),Zao false] [] (fun o H=>∃n:Int,o=.ret (intA n)/\H=[]/\(0<=n↔false∈l)):=by
 have hbl:(bls l).length=l.length:=by simp[bls]
 refine w109 (bls l) false ⟨fun x=>∃i:Nat,x=i/\i<=l.length/\ ∀j (h:j<l.length),j<i->l[j]=true,fun x=>l.length-x.toNat,⟨0,rfl,Nat.zero_le _,fun j _ h=>absurd h (Nat.not_lt_zero j)⟩,?_,trivial⟩;rintro x ⟨i,rfl,hi,hr⟩;rw[hbl];refine⟨fun hc=>?_,fun hc=>?_⟩
 ·have k1:i<l.length:=by have:=of_tlt hc;omega
  rw[gB k1]
  refine⟨tle (by omega),teq rfl,rfl,fun h=>⟨i,rfl,rfl,by simp;have h:false=l[i]:=by simpa using h
                                                         rw[h];exact List.getElem_mem k1⟩,fun h=>⟨tle (by omega),tle (by omega),⟨i+1,rfl,k1,fun j hj h1=>?_⟩,dec k1⟩⟩
  rcases Nat.lt_succ_iff_lt_or_eq.1 h1 with h5|rfl
  ·exact hr j hj h5
  ·cases hb:l[j]with
   |true=>rfl
   |false=>simp[hb]at h
 ·have k1:l.length<=i:=by have:=of_flt hc;omega
  refine⟨-1,rfl,rfl,⟨fun h=>by omega,fun hs=>?_⟩⟩;obtain⟨j,hj,e⟩:=List.getElem_of_mem hs;rw[hr j hj (by omega)]at e;cases e
theorem c92(l:List Bool)(hl:l.length<=2^50):Holds Tryz.prog 92 [slA (bls l),Zao false] [] (Ret (Zao (!l.all id))):=
 w92 (bls l) false fun _=>⟨_,c109 l hl,fun v H' ⟨n,e1,e2,e3⟩=>⟨n,Out.ret.inj e1,e2,Zf3 (by
  rw[Bool.eq_iff_iff];simp[e3])⟩,fun u H' ⟨n,e1,_⟩=>by cases e1⟩
theorem c47(q:Ref)(w d:Bool)(l:List Bool)(hl:l.length<=2^50):Holds Tryz.prog 47 [.ptr (.up q) 0,slA (bls l)] (BC q w d) (RB (BC q (w||!l.all id) d)):=by
 refine w47 w d (bls l) q ⟨fun h=>call1 (c92 l hl) ⟨_,rfl,rfl,?_⟩,fun h=>?_⟩
 ·have:w=false:=nb1 h;subst this;exact⟨rfl,rfl⟩
 ·have:w=true:=nb0 h;subst this;exact⟨rfl,rfl⟩
theorem Za5{f:FuncId}{args:List A}{K0:List (Ref×List A)}{r:Ref}{w d:Bool}(hc:Holds Tryz.prog f args K0 (RB [(r,[Zao w,Zao d])])){K:Bool->Bool->Prop}{QP:Value->List (Ref×List A)->Prop}(h:K w d):
 ∀_:Nat->Nat,∃R':Out->List (Ref×List A)->Prop,Holds Tryz.prog f args K0 R'/\(∀v H',R' (.ret v) H'-> ∃x y,v=.tup []/\H'=[(r,[Zao x,Zao y])]/\K x y)/\(∀u H',R' (.pan u) H'->QP u H'):=
 fun _=>⟨_,hc,fun v H' e=>by obtain⟨e1,e2⟩:=e;cases e1;exact⟨w,d,rfl,e2,h⟩,fun u H' e=>by cases e.1⟩
def difV(a b:Tx):Bool:=idV a&&(idV b&&!(a==b))
def nonV(a b:Tx):Bool:=a.isEmpty&&b.isEmpty
theorem c113(a b:Tx):Holds Tryz.prog 113 [.agg [dS a,dS b]] [] (Ret (Zao (difV a b))):=by
 refine w113 _ ?_;simp only[List.getD_cons_zero,List.getD_cons_succ,Za2,isK_str,Bool.or_true,true_and];refine⟨teq rfl,call1 (c48 a) ⟨idV a,rfl,rfl,fun h=>call1 (c48 b) ⟨idV b,rfl,rfl,Zf3 ?_⟩,fun h=>Zf3 ?_⟩⟩
 ·unfold difV;rw[h];simp
 ·unfold difV;rw[h];rfl
theorem c114(a b:Tx):Holds Tryz.prog 114 [.agg [dS a,dS b]] [] (Ret (Zao (nonV a b))):=by
 refine w114 _ ?_;simp only[List.getD_cons_zero,List.getD_cons_succ,Za2,isK_str,true_and];exact⟨teq rfl,Zf3 (by unfold nonV;simp)⟩
def fixV(n:Int):Bool:=decide (-1000000000000000<=n)&&decide (n<=1000000000000000)
theorem c120(n:Int):Holds Tryz.prog 120 [intA n] [] (Ret (Zao (fixV n))):=w120 n (Zf3 (by unfold fixV;simp))
theorem c51(q:Ref)(w d:Bool):Holds Tryz.prog 51 [.ptr (.up q) 0] (BC q w d) (RetB (intA (if w then 11 else if d then 9 else 0)) (BC q w d)):=
 w51 w d q ⟨fun h=>by subst h;exact⟨rfl,rfl⟩,fun h=>by subst h;exact⟨fun h=>by subst h;exact⟨rfl,rfl⟩,fun h=>by subst h;exact⟨rfl,rfl⟩⟩⟩
end Go.Sy
end
section
open Go Go.Proofs Go.Ab Go.Rf
set_option linter.unusedSimpArgs false
set_option linter.unusedVariables false
set_option maxRecDepth 100000
namespace Go.Sy
theorem Zcq{q:Ref}{a b d:Bool}(h:a=b):RB (BC q b d) (.ret (.tup [])) (BC q a d):=by subst h;exact⟨rfl,rfl⟩
theorem Zf7{w a b:Bool}(h:a=b):(w||!a)=(w||!b):=by rw[h]
def Zdc(k num n:Int):Bool:=
 if k=10\/k=21 then true else if k=5 then decide (1<=n)else if k=9\/k=11\/k=18\/k=19 then n==1 else if k=12\/k=16\/k=20 then n==2
 else if k=15 then(n==2||n==3)else if k=17 then decide (2<=n)else if k=14 then decide (gAnd .i64 num 1<=n)else n==0
theorem c117(r:Nd)(q:Ref)(w d:Bool):Holds Tryz.prog 117 [.ptr (.up q) 0,.agg (encE r)] (BC q w d) (RB (BC q (w||!Zdc r.kind r.num r.subs.length) d)):=by
 refine w117 w d (encE r) q ?_;simp only[Za4,e0,e1,e2,e3,e4,e5,e6,e7,e8,isK_int,isK_str,isK_slc,dint_int,Za2,dlst_slc,true_and,Zat,Zau,Zba];generalize r.kind=k;generalize r.num=num;generalize(r.subs.length:Int)=n;refine⟨teq rfl,?_⟩;refine⟨fun h=>?_,fun h=>?_⟩
 ·obtain rfl:k=10:=of_teq h;exact Zcq (by simp[Zdc])
 ·have h0:=of_feq h;refine⟨fun h=>?_,fun h=>?_⟩
  ·obtain rfl:k=21:=of_teq h;exact Zcq (by simp[Zdc])
  ·have h1:=of_feq h;refine⟨fun h=>?_,fun h=>?_⟩
   ·obtain rfl:k=5:=of_teq h;exact Za5 (c47 _ _ _ [_] (by simp)) (Zcq (Zf7 (by simp[Zdc])))
   ·have h2:=of_feq h;refine⟨fun h=>?_,fun h=>?_⟩
    ·obtain rfl:k=9:=of_teq h;exact Za5 (c47 _ _ _ [_] (by simp)) (Zcq (Zf7 (by simp[Zdc])))
    ·have h3:=of_feq h;refine⟨fun h=>?_,fun h=>?_⟩
     ·obtain rfl:k=11:=of_teq h;exact Za5 (c47 _ _ _ [_] (by simp)) (Zcq (Zf7 (by simp[Zdc])))
     ·have h4:=of_feq h;refine⟨fun h=>?_,fun h=>?_⟩
      ·obtain rfl:k=18:=of_teq h;exact Za5 (c47 _ _ _ [_] (by simp)) (Zcq (Zf7 (by simp[Zdc])))
      ·have h5:=of_feq h;refine⟨fun h=>?_,fun h=>?_⟩
       ·obtain rfl:k=19:=of_teq h;exact Za5 (c47 _ _ _ [_] (by simp)) (Zcq (Zf7 (by simp[Zdc])))
       ·have h6:=of_feq h;refine⟨fun h=>?_,fun h=>?_⟩
        ·obtain rfl:k=12:=of_teq h;exact Za5 (c47 _ _ _ [_] (by simp)) (Zcq (Zf7 (by simp[Zdc])))
        ·have h7:=of_feq h;refine⟨fun h=>?_,fun h=>?_⟩
         ·obtain rfl:k=16:=of_teq h;exact Za5 (c47 _ _ _ [_] (by simp)) (Zcq (Zf7 (by simp[Zdc])))
         ·have h8:=of_feq h;refine⟨fun h=>?_,fun h=>?_⟩
          ·obtain rfl:k=20:=of_teq h;exact Za5 (c47 _ _ _ [_] (by simp)) (Zcq (Zf7 (by simp[Zdc])))
          ·have h9:=of_feq h;refine⟨fun h=>?_,fun h=>?_⟩
           ·obtain rfl:k=15:=of_teq h;exact Za5 (c47 _ _ _ [_] (by simp)) (Zcq (Zf7 (by simp[Zdc])))
           ·have h10:=of_feq h;refine⟨fun h=>?_,fun h=>?_⟩
            ·obtain rfl:k=17:=of_teq h;exact Za5 (c47 _ _ _ [_] (by simp)) (Zcq (Zf7 (by simp[Zdc])))
            ·have h11:=of_feq h;refine⟨fun h=>?_,fun h=>?_⟩
             ·obtain rfl:k=14:=of_teq h;exact Za5 (c47 _ _ _ [_] (by simp)) (Zcq (Zf7 (by simp[Zdc])))
             ·have h12:=of_feq h;exact Za5 (c47 _ _ _ [_] (by simp)) (Zcq (Zf7 (by simp[Zdc,h0,h1,h2,h3,h4,h5,h6,h7,h8,h9,h10,h11,h12])))
def Zfp(k:Int)(t:Tx):Bool:=
 if k=10\/k=4\/k=11 then true else if k=8 then decide (t∈tyW)else if k=9 then decide (t∈bdW)else if k=19 then decide (t∈unW)else if k=20 then decide (t∈biW)
 else if k=21 then idV t else t.isEmpty
theorem c118(r:Nd)(q:Ref)(w d:Bool):Holds Tryz.prog 118 [.ptr (.up q) 0,.agg (encE r)] (BC q w d) (RB (BC q (w||!Zfp r.kind r.text) d)):=by
 refine w118 w d (encE r) q ?_;simp only[Za4,e0,e1,e2,e3,e4,e5,e6,e7,e8,isK_int,isK_str,isK_slc,dint_int,Za2,dlst_slc,true_and,Zat,Zau,Zba];generalize r.kind=k;generalize r.text=t;refine⟨teq rfl,?_⟩;refine⟨fun h=>?_,fun h=>?_⟩
 ·obtain rfl:k=10:=of_teq h;exact Zcq (by simp[Zfp])
 ·have h0:=of_feq h;refine⟨fun h=>?_,fun h=>?_⟩
  ·obtain rfl:k=4:=of_teq h;exact Zcq (by simp[Zfp])
  ·have h1:=of_feq h;refine⟨fun h=>?_,fun h=>?_⟩
   ·obtain rfl:k=11:=of_teq h;exact Zcq (by simp[Zfp])
   ·have h2:=of_feq h;refine⟨fun h=>?_,fun h=>?_⟩
    ·obtain rfl:k=8:=of_teq h;exact call1 (c132 t _ tyW Z4n (by decide) (by decide)) ⟨_,rfl,rfl,Za5 (c47 _ _ _ [_] (by simp)) (Zcq (Zf7 (by simp[Zfp])))⟩
    ·have h3:=of_feq h;refine⟨fun h=>?_,fun h=>?_⟩
     ·obtain rfl:k=9:=of_teq h;exact call1 (c132 t _ bdW Z4o (by decide) (by decide)) ⟨_,rfl,rfl,Za5 (c47 _ _ _ [_] (by simp)) (Zcq (Zf7 (by simp[Zfp])))⟩
     ·have h4:=of_feq h;refine⟨fun h=>?_,fun h=>?_⟩
      ·obtain rfl:k=19:=of_teq h;exact call1 (c132 t _ unW Z4p (by decide) (by decide)) ⟨_,rfl,rfl,Za5 (c47 _ _ _ [_] (by simp)) (Zcq (Zf7 (by simp[Zfp])))⟩
      ·have h5:=of_feq h;refine⟨fun h=>?_,fun h=>?_⟩
       ·obtain rfl:k=20:=of_teq h;exact call1 (c132 t _ biW Z4q (by decide) (by decide)) ⟨_,rfl,rfl,Za5 (c47 _ _ _ [_] (by simp)) (Zcq (Zf7 (by simp[Zfp])))⟩
       ·have h6:=of_feq h;refine⟨fun h=>?_,fun h=>?_⟩
        ·obtain rfl:k=21:=of_teq h;exact call1 (c48 t) ⟨_,rfl,rfl,Za5 (c47 _ _ _ [_] (by simp)) (Zcq (Zf7 (by simp[Zfp])))⟩
        ·have h7:=of_feq h;exact Za5 (c47 _ _ _ [_] (by simp)) (Zcq (Zf7 (by simp[Zfp,h0,h1,h2,h3,h4,h5,h6,h7])))
def refW:List Tx:=[[102,105,101,108,100],[108,111,111,112],[112,97,99,107,97,103,101],[117,110,107,110,111,119,110]]
def Zod(t a b:Tx)(num n:Int):Bool:=
 idV t&&(if a=[]then nonV a b&&(num==0&&n==0)else if a=LET then n==1&&(b.isEmpty&&decide (0<=num))else if a∈refW then n==0&&(b.isEmpty&&decide (0<=num))else false)
theorem Zly{w a b c:Bool}(h:c=(a&&b)):(w||!a||!b)=(w||!c):=by rw[h,Bool.not_and,Bool.or_assoc]
theorem c119(r:Nd)(q:Ref)(w d:Bool):Holds Tryz.prog 119 [.ptr (.up q) 0,.agg (encE r)] (BC q w d) (RB (BC q (w||!Zod r.text r.n0 r.n1 r.num r.subs.length) d)):=by
 refine w119 w d (encE r) q ?_;simp only[Za4,e0,e1,e2,e3,e4,e5,e6,e7,e8,isK_int,isK_str,isK_slc,dint_int,Za2,dlst_slc,true_and,Zat,Zau,Zba];generalize r.text=t;generalize r.n0=a;generalize r.n1=b;generalize r.num=num;generalize(r.subs.length:Int)=n;refine⟨teq rfl,call1 (c48 t) ⟨_,rfl,rfl,Za5 (c47 _ _ _ [_] (by simp)) ?_⟩⟩;refine⟨fun h=>?_,fun h=>?_⟩
 ·obtain rfl:a=[]:=Zdh h;exact⟨_,fun _=>c114 _ _,Za5 (c47 _ _ _ [_,_,_] (by simp)) (Zcq (by simp only[List.all_cons,List.all_nil,Bool.and_true,id];exact Zly (by simp[Zod])))⟩
 ·have h0:=Zer h;refine⟨fun h=>?_,fun h=>?_⟩
  ·obtain rfl:a=[108,101,116]:=Zdh h;exact Za5 (c47 _ _ _ [_,_,_] (by simp)) (Zcq (by simp only[List.all_cons,List.all_nil,Bool.and_true,id];exact Zly (by simp[Zod,LET,refW])))
  ·have h1:=Zer h;refine⟨fun h=>?_,fun h=>?_⟩
   ·obtain rfl:a=[102,105,101,108,100]:=Zdh h;exact Za5 (c47 _ _ _ [_,_,_] (by simp)) (Zcq (by simp only[List.all_cons,List.all_nil,Bool.and_true,id];exact Zly (by simp[Zod,LET,refW])))
   ·have h2:=Zer h;refine⟨fun h=>?_,fun h=>?_⟩
    ·obtain rfl:a=[108,111,111,112]:=Zdh h;exact Za5 (c47 _ _ _ [_,_,_] (by simp)) (Zcq (by simp only[List.all_cons,List.all_nil,Bool.and_true,id];exact Zly (by simp[Zod,LET,refW])))
    ·have h3:=Zer h;refine⟨fun h=>?_,fun h=>?_⟩
     ·obtain rfl:a=[112,97,99,107,97,103,101]:=Zdh h;exact Za5 (c47 _ _ _ [_,_,_] (by simp)) (Zcq (by simp only[List.all_cons,List.all_nil,Bool.and_true,id];exact Zly (by simp[Zod,LET,refW])))
     ·have h4:=Zer h;refine⟨fun h=>?_,fun h=>?_⟩
      ·obtain rfl:a=[117,110,107,110,111,119,110]:=Zdh h;exact Za5 (c47 _ _ _ [_,_,_] (by simp)) (Zcq (by simp only[List.all_cons,List.all_nil,Bool.and_true,id];exact Zly (by simp[Zod,LET,refW])))
      ·have h5:=Zer h;exact Za5 (c47 _ _ _ [_] (by simp)) (Zcq (by simp only[List.all_cons,List.all_nil,Bool.and_true,id];exact Zly (by simp[Zod,LET,refW,h0,h1,h2,h3,h4,h5])))
end Go.Sy
end
section
open Go Go.Proofs Go.Ab Go.Rf
set_option linter.unusedSimpArgs false
set_option linter.unusedVariables false
set_option maxRecDepth 100000
namespace Go.Sy
abbrev posV(cj io il:Bool)(lv:Int):List D:=[.lit (.bool cj),.lit (.bool io),.lit (.bool il),.lit (.int .i64 lv)]
def Zsh(k num:Int):Bool:=if k=2\/k=14 then num==0||num==1 else if k=3 then decide (0<=num)&&fixV num else num==0
def Z4r(k:Int)(cj io il:Bool):Bool:=((io||!(k==18))&&(il||!(k==15)))&&((cj||!(k==13))&&(!cj||!(k==22)))
def Zoe(r:Nd)(cj io il:Bool):Bool:=
 ((((decide (1<=r.kind)&&decide (r.kind<=22))&&Zdc r.kind r.num r.subs.length)&&Zfp r.kind r.text)&&(((r.kind==13||r.kind==22)||((r.decls.length:Int)+(r.tail.length:Int)==0))&&lnsV r.tail))&&
   (if r.kind=10 then Zod r.text r.n0 r.n1 r.num r.subs.length else(Zsh r.kind r.num&&(if r.kind=15 then difV r.n0 r.n1 else nonV r.n0 r.n1))&&Z4r r.kind cj io il)
theorem c102(r:Nd)(q:Ref)(w d cj io il:Bool)(lv:Int)(h1:r.decls.length<=2^50)(h2:r.tail.length<=2^50):
 Holds Tryz.prog 102 [.ptr (.up q) 0,.agg (encE r),.agg (posV cj io il lv)] (BC q w d) (RB (BC q (w||!Zoe r cj io il) d)):=by
 have key:∀a b c e f g:Bool,(w||!a||!b||!c||!(e&&f)||!g)=(w||!((((a&&b)&&c)&&(e&&f))&&g)):=by intros a b c e f g;cases w<;>cases a<;>cases b<;>cases c<;>cases e<;>cases f<;>cases g<;>rfl
 refine w102 w d (encE r) (posV cj io il lv) q ?_;simp only[Za4,e0,e1,e2,e3,e4,e5,e6,e7,e8,isK_int,isK_str,isK_slc,dint_int,Za2,dlst_slc,true_and,Zat,Zau,Zba,Bool.or_true];refine⟨teq rfl,teq rfl,Za5 (c47 _ _ _ [_] (by simp)) (Za5 (c117 r _ _ _) (Za5 (c118 r _ _ _) ⟨by rw[tle (by omega),Bool.or_true],by rw[tle (by omega),Bool.or_true],_,fun _=>c49 _ h2,Za5 (c47 _ _ _ [_,_] (by simp)) ?_⟩))⟩;refine⟨fun _ x y=>y=d/\x=(w||!(decide (1<=r.kind)&&decide (r.kind<=22))||!Zdc r.kind r.num r.subs.length||!Zfp r.kind r.text||!(((r.kind==13||r.kind==22)||((r.decls.length:Int)+(r.tail.length:Int)==0))&&lnsV r.tail)||!Zsh r.kind r.num)/\r.kind≠10,⟨fun hk=>?_,fun hk=>⟨fun hk2=>?_,fun hk2=>⟨fun hk3=>?_,fun hk3=>⟨fun hk4=>?_,fun hk4=>?_⟩⟩⟩⟩,?_,trivial⟩
 ·have hk:=of_teq hk;refine Za5 (c119 r _ _ _) (Zcq ?_);simp only[List.all_cons,List.all_nil,Bool.and_true,id,Zbp];rw[key,Zoe,if_pos hk]
 ·have hk:=of_feq hk;have hk2:=of_teq hk2;refine Za5 (c47 _ _ _ [_] (by simp)) ⟨rfl,?_,hk⟩;simp only[List.all_cons,List.all_nil,Bool.and_true,id,Zbp,Zsh,if_pos (Or.inl hk2)]
 ·have hk:=of_feq hk;have hk2:=of_feq hk2;have hk3:=of_teq hk3;refine Za5 (c47 _ _ _ [_] (by simp)) ⟨rfl,?_,hk⟩;simp only[List.all_cons,List.all_nil,Bool.and_true,id,Zbp,Zsh,if_pos (Or.inr hk3)]
 ·have hk:=of_feq hk;have hk2:=of_feq hk2;have hk3:=of_feq hk3;have hk4:=of_teq hk4;refine⟨_,fun _=>c120 _,Za5 (c47 _ _ _ [_,_] (by simp)) ⟨rfl,?_,hk⟩⟩;simp only[List.all_cons,List.all_nil,Bool.and_true,id,Zbp,Zsh,if_neg (fun e:r.kind=2\/r.kind=14=>e.elim hk2 hk3),if_pos hk4]
 ·have hk:=of_feq hk;have hk2:=of_feq hk2;have hk3:=of_feq hk3;have hk4:=of_feq hk4;refine Za5 (c47 _ _ _ [_] (by simp)) ⟨rfl,?_,hk⟩;simp only[List.all_cons,List.all_nil,Bool.and_true,id,Zbp,Zsh,if_neg (fun e:r.kind=2\/r.kind=14=>e.elim hk2 hk3),if_neg hk4]
 ·rintro _ x y ⟨rfl,hx,hk⟩;refine⟨fun _ z y'=>y'=y/\z=(x||!(if r.kind=15 then difV r.n0 r.n1 else nonV r.n0 r.n1)),⟨fun h=>?_,fun h=>?_⟩,?_,trivial⟩
  ·refine call1 (c113 _ _) ⟨_,rfl,rfl,Za5 (c47 _ _ _ [_] (by simp)) ⟨rfl,?_⟩⟩;rw[if_pos (of_teq h)];simp
  ·refine call1 (c114 _ _) ⟨_,rfl,rfl,Za5 (c47 _ _ _ [_] (by simp)) ⟨rfl,?_⟩⟩;rw[if_neg (of_feq h)];simp
  ·rintro _ z y' ⟨rfl,hz⟩;refine⟨rfl,rfl,Za5 (c47 _ _ _ [_,_] (by simp)) ⟨rfl,Za5 (c47 _ _ _ [_,_] (by simp)) (Zcq ?_)⟩⟩;simp only[List.all_cons,List.all_nil,Bool.and_true,id,Zbp];have e:=key (decide (1<=r.kind)&&decide (r.kind<=22)) (Zdc r.kind r.num r.subs.length) (Zfp r.kind r.text) ((r.kind==13||r.kind==22)||((r.decls.length:Int)+(r.tail.length:Int)==0)) (lnsV r.tail) ((Zsh r.kind r.num&&(if r.kind=15 then difV r.n0 r.n1 else nonV r.n0 r.n1))&&Z4r r.kind cj io il)
   rw[Zoe,if_neg hk,<-e,hz,hx,Z4r];simp only[Bool.not_and,Bool.or_assoc];rfl
end Go.Sy
end
section
open Go Go.Proofs Go.Ab Go.Rf
set_option linter.unusedSimpArgs false
set_option linter.unusedVariables false
set_option maxRecDepth 100000
namespace Go.Sy
def Zsi(k:Int)(t:Tx)(sc:Bool):Bool:=if k=1 then true else if k=2 then(Go.Rx.parseV t).2.1==0 else if k=4 then sc&&idV t else t.isEmpty&&(sc||!(k==8))
def nSub(k:Int):Int:=if k=7 then 2 else if k=8 then 0 else 1
def Zqs(r:Nd)(sc:Bool):Bool:=
 (((decide (1<=r.kind)&&decide (r.kind<=8))&&(lnsV r.lead&&(lnsV r.tail&&(lnsV [r.trail]&&((r.kind==5||r.kind==6)||((r.decls.length:Int)+(r.tail.length:Int)==0))))))&&
   (if r.kind=1 then decide (1<=r.num)&&decide (r.num<=3)else r.num==0))&&(Zsi r.kind r.text sc&&((if r.kind=6 then difV r.n0 r.n1 else nonV r.n0 r.n1)&&((r.subs.length:Int)==nSub r.kind)))
def ownK(k:Int):Bool:=((k==1||k==2)||k==3)||k==4
mutual
def okE:Nd->Bool->Bool->Bool->Bool
 |.mk k n t a b tr le ta p s d,cj,io,il=>(Zoe (.mk k n t a b tr le ta p s d) cj io il&&okEs s ((k==16&&cj)||k==10) (k==17) (k==14) (k==14&&n==0))&&okDs d (k==13)
def okEs:List Nd->Bool->Bool->Bool->Bool->Bool
 |[],_,_,_,_=>true
 |x::l,cj,io,il,il2=>okE x cj io (if l.isEmpty then il2 else il)&&okEs l cj io il il2
def okD:Nd->Bool->Bool
 |.mk k n t a b tr le ta p s d,sc=>(Zqs (.mk k n t a b tr le ta p s d) sc&&okFs s (sc&&ownK k))&&okDs d false
def okFs:List Nd->Bool->Bool
 |[],_=>true
 |x::l,cj=>okE x cj false false&&okFs l false
def okDs:List Nd->Bool->Bool
 |[],_=>true
 |x::l,sc=>okD x sc&&okDs l sc
end
mutual
def dpE:Nd->Int->Bool
 |.mk _ _ _ _ _ _ _ _ _ s d,lv=>(decide (16<lv)||dpEs s (lv+1))||dpDs d (lv+1)
def dpEs:List Nd->Int->Bool
 |[],_=>false
 |x::l,lv=>dpE x lv||dpEs l lv
def dpDs:List Nd->Int->Bool
 |[],_=>false
 |x::l,lv=>dpE x lv||dpDs l lv
end
theorem Zy5(r:Nd)(cj io il:Bool):okE r cj io il=((Zoe r cj io il&&okEs r.subs ((r.kind==16&&cj)||r.kind==10) (r.kind==17) (r.kind==14) (r.kind==14&&r.num==0))&&okDs r.decls (r.kind==13)):=by cases r;rw[okE];rfl
theorem Zy6(r:Nd)(sc:Bool):okD r sc=((Zqs r sc&&okFs r.subs (sc&&ownK r.kind))&&okDs r.decls false):=by cases r;rw[okD];rfl
theorem Zqt(r:Nd)(lv:Int):dpE r lv=((decide (16<lv)||dpEs r.subs (lv+1))||dpDs r.decls (lv+1)):=by cases r;rw[dpE];rfl
theorem Zy7{l:List Nd}{i:Nat}(cj io il il2:Bool)(h:i<l.length):okEs (l.drop i) cj io il il2=(okE l[i] cj io (if i+1<l.length then il else il2)&&okEs (l.drop (i+1)) cj io il il2):=by
 rw[List.drop_eq_getElem_cons h,okEs]
 congr 2
 by_cases h1:i+1<l.length
 ·rw[if_pos h1,if_neg (by simp;omega)]
 ·rw[if_neg h1,if_pos (by simp;omega)]
theorem Zy8{l:List Nd}{i:Nat}(sc:Bool)(h:i<l.length):okDs (l.drop i) sc=(okD l[i] sc&&okDs (l.drop (i+1)) sc):=by rw[List.drop_eq_getElem_cons h,okDs]
theorem Zy9{l:List Nd}{i:Nat}(cj:Bool)(h:i<l.length):okFs (l.drop i) (cj&&(i==0))=(okE l[i] (cj&&(i==0)) false false&&okFs (l.drop (i+1)) (cj&&(i+1==0))):=by
 rw[List.drop_eq_getElem_cons h,okFs];simp
theorem Zqu{l:List Nd}{i:Nat}(lv:Int)(h:i<l.length):dpEs (l.drop i) lv=(dpE l[i] lv||dpEs (l.drop (i+1)) lv):=by rw[List.drop_eq_getElem_cons h,dpEs]
theorem Zza{l:List Nd}{i:Nat}(lv:Int)(h:i<l.length):dpDs (l.drop i) lv=(dpE l[i] lv||dpDs (l.drop (i+1)) lv):=by rw[List.drop_eq_getElem_cons h,dpDs]
abbrev H58(r:Nd):Prop:=∀(q:Ref)(w d cj io il:Bool)(lv:Int),0<=lv->lv+size r<=2^50->
 Holds Tryz.prog 58 [.ptr (.up q) 0,.agg (encE r),.agg (posV cj io il lv)] (BC q w d) (RB (BC q (w||!okE r cj io il) (d||dpE r lv)))
abbrev H97(r:Nd):Prop:=∀(q:Ref)(w d sc:Bool)(lv:Int),0<=lv->lv+size r<=2^50->
 Holds Tryz.prog 97 [.ptr (.up q) 0,.agg (encD r),Zao sc,intA lv] (BC q w d) (RB (BC q (w||!okD r sc) (d||dpE r lv)))
abbrev H50(l:List Nd):Prop:=∀(q:Ref)(w d sc:Bool)(lv:Int),0<=lv->lv+sizes l<=2^50->
 Holds Tryz.prog 50 [.ptr (.up q) 0,slA (Zav l),Zao sc,intA lv] (BC q w d) (RB (BC q (w||!okDs l sc) (d||dpDs l lv)))
theorem Zzb{q:Ref}{a b c d:Bool}(h:a=b)(h2:c=d):RB (BC q b d) (.ret (.tup [])) (BC q a c):=by subst h;subst h2;exact⟨rfl,rfl⟩
theorem c50(l:List Nd)(ih:∀x∈l,H97 x):H50 l:=by
 intro q w d sc lv h0 hb;have hll:=Zlt l;refine w50 w d (Zav l) sc lv q ⟨fun x y z=>∃i:Nat,x=i/\i<=l.length/\(y||!okDs (l.drop i) sc)=(w||!okDs l sc)/\(z||dpDs (l.drop i) lv)=(d||dpDs l lv),fun x _ _=>l.length-x.toNat,⟨0,rfl,Nat.zero_le _,rfl,rfl⟩,?_,trivial⟩;rintro x y z ⟨i,rfl,hi,hy,hz⟩;rw[Zau];refine⟨fun hc=>?_,fun hc=>?_⟩
 ·have k1:i<l.length:=by have:=of_tlt hc;omega
  have hm:=List.getElem_mem k1;have hsz:=Zfm hm;rw[Zhu rfl k1];refine⟨tle (by omega),teq (by simp),Za5 (ih _ hm _ y z sc lv h0 (by omega)) ⟨tle (by omega),tle (by omega),⟨i+1,rfl,k1,?_,?_⟩,dec k1⟩⟩
  ·rw[<-hy,Zy8 sc k1,Bool.not_and,Bool.or_assoc]
  ·rw[<-hz,Zza lv k1,Bool.or_assoc]
 ·have k1:l.length<=i:=by have:=of_flt hc;omega
  rw[List.drop_eq_nil_of_le k1]at hy hz;exact Zzb (by rw[<-hy];simp[okDs]) (by rw[<-hz];simp[dpDs])
theorem c58(r:Nd)(h1:r.decls.length<=2^50)(h2:r.tail.length<=2^50)(ihs:∀x∈r.subs,H58 x)(ihd:H50 r.decls):H58 r:=by
 intro q w d cj io il lv h0 hb;have hz:=size_eq r;have hsl:=Zlt r.subs;have hE:=Zy5 r cj io il;have hP:=Zqt r lv;refine w58 w d (encE r) (posV cj io il lv) q ?_;simp only[Za4,e0,e1,e2,e3,e4,e5,e6,e7,e8,isK_int,isK_str,isK_slc,dint_int,Za2,dlst_slc,true_and,Zat,Zau,Zba,Bool.or_true];refine⟨teq rfl,teq rfl,fun _ y=>y=(d||decide (16<lv)),⟨rfl,fun h=>?_,fun h=>?_⟩,?_,trivial⟩
 ·have h:16<lv:=of_tlt h;simp[h]
 ·have h:¬16<lv:=by have:lv<=16:=of_flt h;omega
  simp[h]
 ·rintro _ y rfl;refine Za5 (c102 r _ _ _ cj io il lv h1 h2) ?_;refine⟨fun x y z=>∃i:Nat,x=i/\i<=r.subs.length/\(y||!okEs (r.subs.drop i) ((r.kind==16&&cj)||r.kind==10) (r.kind==17) (r.kind==14) (r.kind==14&&r.num==0))=(w||!(Zoe r cj io il&&okEs r.subs ((r.kind==16&&cj)||r.kind==10) (r.kind==17) (r.kind==14) (r.kind==14&&r.num==0)))/\(z||dpEs (r.subs.drop i) (lv+1))=(d||(decide (16<lv)||dpEs r.subs (lv+1))),fun x _ _=>r.subs.length-x.toNat,⟨0,rfl,Nat.zero_le _,by rw[Bool.not_and,<-Bool.or_assoc];rfl,by rw[<-Bool.or_assoc];rfl⟩,?_,trivial⟩;rintro x y z ⟨i,rfl,hi,hy,hz2⟩;refine⟨fun hc=>?_,fun hc=>?_⟩
  ·have k1:i<r.subs.length:=by have:=of_tlt hc;omega
   have hm:=List.getElem_mem k1;have hsz:=Zfm hm;rw[Zdv rfl k1];refine⟨tle (by omega),teq (by simp),by simp,by rw[tle (by omega),Bool.or_true],by rw[tle (by omega),Bool.or_true],rfl,tle (by simp;omega),tle (by simp;omega),?_⟩;refine Za5 (ihs _ hm _ y z _ _ _ (lv+1) (by omega) (by omega)) ⟨tle (by omega),tle (by omega),⟨i+1,rfl,k1,?_,?_⟩,dec k1⟩
   ·rw[<-hy,Zy7 _ _ _ _ k1,Bool.not_and,Bool.or_assoc]
    have e:(tB (r.kind==14)&&(tB (r.num==0)||tB (decide ((i:Int)+1<(r.subs.length:Int)))))=(if i+1<r.subs.length then r.kind==14 else(r.kind==14&&r.num==0)):=by
     by_cases hlt:i+1<r.subs.length
     ·have:(i:Int)+1<r.subs.length:=by omega
      simp[hlt,this]
     ·have:¬(i:Int)+1<r.subs.length:=by omega
      simp[hlt,this]
    rw[e];simp only[Zbp];rfl
   ·rw[<-hz2,Zqu _ k1,Bool.or_assoc]
  ·have k1:r.subs.length<=i:=by have:=of_flt hc;omega
   rw[List.drop_eq_nil_of_le k1]at hy hz2;rw[okEs,Bool.not_true,Bool.or_false]at hy;rw[dpEs,Bool.or_false]at hz2;refine⟨rfl,tle (by simp;omega),tle (by simp;omega),Za5 (ihd _ y z _ (lv+1) (by omega) (by omega)) (Zzb ?_ ?_)⟩
   ·rw[hE,hy];simp only[Zbp,Bool.not_and,Bool.or_assoc]
   ·rw[hP,hz2];simp only[Bool.or_assoc]
end Go.Sy
end
section
open Go Go.Proofs Go.Ab Go.Rf
set_option linter.unusedSimpArgs false
set_option linter.unusedVariables false
set_option maxRecDepth 100000
namespace Go.Sy
theorem c97(r:Nd)(hlm:Lim r)(ihs:∀x∈r.subs,H58 x)(ihd:H50 r.decls):H97 r:=by
 intro q w d sc lv h0 hb;obtain⟨l1,l2,l3,l4⟩:=hlm;have hz:=size_eq r;have hsl:=Zlt r.subs;have hE:=Zy6 r sc;have hP:=Zqt r lv;have cat:∀A B P L N S:Bool,(w||!A||!B||!P||!L||!N||!S)=(w||!(((A&&B)&&P)&&(L&&(N&&S)))):=by intros A B P L N S;cases w<;>cases A<;>cases B<;>cases P<;>cases L<;>cases N<;>cases S<;>rfl
 refine w97 w d (encD r) sc lv q ?_;simp only[Zbb,d0,d1,d2,d3,d4,d5,d6,d7,d8,d9,d10,isK_int,isK_str,isK_slc,dint_int,Za2,dlst_slc,true_and,Zat,Zau,Zba,Bool.or_true];refine⟨teq rfl,fun _ y=>y=(d||decide (16<lv)),⟨fun h=>?_,fun h=>?_⟩,?_,trivial⟩
 ·have h:16<lv:=of_tlt h;simp[h]
 ·have h:¬16<lv:=by have:lv<=16:=of_flt h;omega
  simp[h]
 rintro _ y rfl;refine Za5 (c47 _ _ _ [_] (by simp)) ⟨_,fun _=>c49 _ l4,_,fun _=>c49 _ l3,_,fun _=>c49 [r.trail] (by simp),by rw[tle (by omega),Bool.or_true],by rw[tle (by omega),Bool.or_true],Za5 (c47 _ _ _ [_,_,_,_] (by simp)) ?_⟩;obtain⟨W1,hW1⟩:∃W1,(w||!(decide (1<=r.kind)&&decide (r.kind<=8))||!(lnsV r.lead&&(lnsV r.tail&&(lnsV [r.trail]&&((r.kind==5||r.kind==6)||((r.decls.length:Int)+(r.tail.length:Int)==0))))))=W1:=⟨_,rfl⟩
 have eW:((w||!([tB (decide (1<=r.kind))&&tB (decide (r.kind<=8))].all id))||!([lnsV r.lead,lnsV r.tail,lnsV [r.trail],(tB (r.kind==5)||tB (r.kind==6))||tB ((r.decls.length:Int)+(r.tail.length:Int)==0)].all id))=W1:=by
  rw[<-hW1];simp only[List.all_cons,List.all_nil,Bool.and_true,id,Zbp]
 rw[eW];refine⟨fun _ x z=>z=(d||decide (16<lv))/\x=(W1||!(if r.kind=1 then decide (1<=r.num)&&decide (r.num<=3)else r.num==0)),⟨fun hk=>?_,fun hk=>?_⟩,?_,trivial⟩
 ·refine Za5 (c47 _ _ _ [_] (by simp)) ⟨rfl,?_⟩;rw[if_pos (by simpa using hk)];simp
 ·refine Za5 (c47 _ _ _ [_] (by simp)) ⟨rfl,?_⟩;rw[if_neg (by simpa using hk)];simp
 rintro _ x2 z ⟨rfl,hx2⟩;refine⟨fun _ x z=>z=(d||decide (16<lv))/\x=(x2||!Zsi r.kind r.text sc),⟨fun hk=>?_,fun hk=>⟨fun hk2=>?_,fun hk2=>⟨fun hk4=>?_,fun hk4=>?_⟩⟩⟩,?_,trivial⟩
 ·have hk:r.kind=1:=by simpa using hk
  exact⟨rfl,by simp[Zsi,hk]⟩
 ·have hk:¬r.kind=1:=by simpa using hk
  have hk2:r.kind=2:=by simpa using hk2
  refine call1 (v:=Go.Rx.pairA (Go.Rx.parseV r.text)) (Go.Rx.c19 r.text) ⟨_,_,rfl,rfl,teq (by simp),teq rfl,rfl,Za5 (c47 _ _ _ [_] (by simp)) ⟨rfl,?_⟩⟩;simp[Zsi,hk2]
 ·have hk:¬r.kind=1:=by simpa using hk
  have hk2:¬r.kind=2:=by simpa using hk2
  have hk4:r.kind=4:=by simpa using hk4
  refine call1 (c48 r.text) ⟨_,rfl,rfl,Za5 (c47 _ _ _ [_,_] (by simp)) ⟨rfl,?_⟩⟩;simp[Zsi,hk4]
 ·have hk:¬r.kind=1:=by simpa using hk
  have hk2:¬r.kind=2:=by simpa using hk2
  have hk4:¬r.kind=4:=by simpa using hk4
  refine Za5 (c47 _ _ _ [_,_] (by simp)) ⟨rfl,?_⟩;simp[Zsi,hk,hk2,hk4]
 rintro _ x3 z ⟨rfl,hx3⟩;refine⟨fun _ _ x z=>z=(d||decide (16<lv))/\x=(x3||!(if r.kind=6 then difV r.n0 r.n1 else nonV r.n0 r.n1)),⟨fun hk=>?_,fun hk=>?_⟩,?_,trivial⟩
 ·refine call1 (c113 _ _) ⟨_,rfl,rfl,Za5 (c47 _ _ _ [_] (by simp)) ⟨rfl,?_⟩⟩;rw[if_pos (by simpa using hk)];simp
 ·refine call1 (c114 _ _) ⟨_,rfl,rfl,Za5 (c47 _ _ _ [_] (by simp)) ⟨rfl,?_⟩⟩;rw[if_neg (by simpa using hk)];simp
 rintro _ _ x4 z ⟨rfl,hx4⟩;refine⟨fun n _=>n=nSub r.kind,⟨fun hk=>?_,fun hk=>⟨fun hk2=>?_,fun hk2=>?_⟩⟩,?_,trivial⟩
 ·have hk:r.kind=7:=by simpa using hk
  simp[nSub,hk]
 ·have hk:¬r.kind=7:=by simpa using hk
  have hk2:r.kind=8:=by simpa using hk2
  simp[nSub,hk2]
 ·have hk:¬r.kind=7:=by simpa using hk
  have hk2:¬r.kind=8:=by simpa using hk2
  simp[nSub,hk,hk2]
 rintro n _ rfl
 have e5:(x4||!([tB ((r.subs.length:Int)==nSub r.kind)].all id))=(w||!Zqs r sc):=by
  simp only[List.all_cons,List.all_nil,Bool.and_true,id,Zbp];rw[hx4,hx3,hx2,<-hW1,cat,show(((((decide (1<=r.kind)&&decide (r.kind<=8))&&(lnsV r.lead&&(lnsV r.tail&&(lnsV [r.trail]&&((r.kind==5||r.kind==6)||((r.decls.length:Int)+(r.tail.length:Int)==0))))))&&(if r.kind=1 then decide (1<=r.num)&&decide (r.num<=3)else r.num==0))&&(Zsi r.kind r.text sc&&((if r.kind=6 then difV r.n0 r.n1 else nonV r.n0 r.n1)&&((r.subs.length:Int)==nSub r.kind)))))=Zqs r sc from rfl]
 refine Za5 (c47 _ _ _ [_] (by simp)) ?_;rw[e5];refine⟨fun x y z=>∃i:Nat,x=i/\i<=r.subs.length/\(y||!okFs (r.subs.drop i) ((sc&&ownK r.kind)&&(i==0)))=(w||!(Zqs r sc&&okFs r.subs (sc&&ownK r.kind)))/\(z||dpEs (r.subs.drop i) (lv+1))=(d||(decide (16<lv)||dpEs r.subs (lv+1))),fun x _ _=>r.subs.length-x.toNat,⟨0,rfl,Nat.zero_le _,by rw[Bool.not_and,<-Bool.or_assoc];simp,by rw[<-Bool.or_assoc];rfl⟩,?_,trivial⟩;rintro x y z ⟨i,rfl,hi,hy,hz2⟩;refine⟨fun hc=>?_,fun hc=>?_⟩
 ·have k1:i<r.subs.length:=by have:=of_tlt hc;omega
  have hm:=List.getElem_mem k1;have hsz:=Zfm hm;rw[Zdv rfl k1];refine⟨tle (by omega),teq (by simp),tle (by omega),tle (by omega),Za5 (ihs _ hm _ y z _ _ _ (lv+1) (by omega) (by omega)) ⟨tle (by omega),tle (by omega),⟨i+1,rfl,k1,?_,?_⟩,dec k1⟩⟩
  ·rw[<-hy,Zy9 _ k1,Bool.not_and,Bool.or_assoc];have e:(((i:Int)==0):Bool)=(i==0):=by rw[Bool.eq_iff_iff];simp
   rw[show(tB ((i:Int)==0))=(i==0) by rw[Zbp];exact e];simp only[Zbp];rfl
  ·rw[<-hz2,Zqu _ k1,Bool.or_assoc]
 ·have k1:r.subs.length<=i:=by have:=of_flt hc;omega
  rw[List.drop_eq_nil_of_le k1]at hy hz2;rw[okFs,Bool.not_true,Bool.or_false]at hy;rw[dpEs,Bool.or_false]at hz2;refine⟨tle (by omega),tle (by omega),Za5 (ihd _ y z _ (lv+1) (by omega) (by omega)) (Zzb ?_ ?_)⟩
  ·rw[hE,hy];simp only[Bool.not_and,Bool.or_assoc]
  ·rw[hP,hz2];simp only[Bool.or_assoc]
end Go.Sy
end
section
open Go Go.Proofs Go.Ab Go.Rf
set_option linter.unusedSimpArgs false
set_option linter.unusedVariables false
set_option maxRecDepth 100000
namespace Go.Sy
def verV(ok dp:Bool):Int:=if(!ok)=true then 11 else if dp=true then 9 else 0
theorem Z79{a b:Int}(h:a=b):Ret (intA b) (.ret (intA a)) []:=by subst h;exact⟨rfl,rfl⟩
theorem Z8a:∀r:Nd,Lm r->H58 r/\H97 r:=by
 refine Zb4 fun r hs hd hl=>?_
 have ihs:∀x∈r.subs,H58 x:=fun x hx=>(hs x hx (hl.sub hx)).1
 have ihd:H50 r.decls:=c50 r.decls fun x hx=>(hd x hx (hl.dec hx)).2
 exact⟨c58 r hl.here.2.1 hl.here.2.2.1 ihs ihd,c97 r hl.here ihs ihd⟩
def okFl(f:Fl):Bool:=(((f.pkg.isEmpty||idV f.pkg)&&lnsV f.tail)&&f.imps.all fun i=>idV i.name)&&okDs f.decls true
def verF(f:Fl):Int:=verV (okFl f) (dpDs f.decls 1)
theorem c14(f:Fl)(hl:LmF f)(hz:sizes f.decls<=2^40):Holds Tryz.prog 14 [.agg (Zes f)] [] (Ret (intA (verF f))):=by
 obtain⟨⟨l1,l2,l3⟩,hd⟩:=hl;have hD:H50 f.decls:=c50 f.decls fun x hx=>(Z8a x (hd x hx)).2
 refine w14 (Zes f) ?_;simp only[Zby,f0,f1,f2,f3,isK_str,isK_slc,Za2,dlst_slc,true_and,Zdw];refine⟨_,⟨teq rfl,trivial⟩,fun _=>⟨fun hp=>⟨_,fun _=>c48 _,_,fun _=>c49 _ l3,fun ν=>Za5 (c47 (.own 7 (ν 7)) _ _ [_,_] (by simp)) ?_ ν⟩,fun hp=>⟨_,fun _=>c49 _ l3,fun ν=>Za5 (c47 (.own 7 (ν 7)) _ _ [_,_] (by simp)) ?_ ν⟩⟩,trivial⟩
 all_goals
  obtain⟨W,hW⟩:∃W,(!((f.pkg.isEmpty||idV f.pkg)&&lnsV f.tail))=W:=⟨_,rfl⟩
  first
   |have eW:(false||!([idV f.pkg,lnsV f.tail].all id))=W:=by
    rw[<-hW];have:f.pkg.isEmpty=false:=by simpa using hp
    simp[this]
    rw[eW]
   |have eW:(false||!([true,lnsV f.tail].all id))=W:=by
    rw[<-hW];have:f.pkg.isEmpty=true:=by simpa using hp
    simp[this]
    rw[eW]
  refine⟨fun x y z=>∃i:Nat,x=i/\i<=f.imps.length/\(y||!((f.imps.drop i).all fun i=>idV i.name))=(W||!(f.imps.all fun i=>idV i.name))/\z=false,fun x _ _=>f.imps.length-x.toNat,⟨0,rfl,Nat.zero_le _,rfl,rfl⟩,?_,trivial⟩;rintro x y z ⟨i,rfl,hi,hy,rfl⟩;refine⟨fun hc=>?_,fun hc=>?_⟩
  ·have k1:i<f.imps.length:=by have:=of_tlt hc;omega
   rw[Zl4 rfl k1];refine⟨tle (by omega),teq rfl,rfl,call1 (c48 _) ⟨_,rfl,rfl,fun ν=>Za5 (c47 (.own 7 (ν 7)) _ _ [_] (by simp)) ⟨tle (by omega),tle (by omega),⟨i+1,rfl,k1,?_,rfl⟩,dec k1⟩ ν⟩⟩;rw[<-hy,List.drop_eq_getElem_cons k1];simp only[i0,Za2,List.all_cons,List.all_nil,Bool.and_true,id,Bool.not_and,Bool.or_assoc]
  ·have k1:f.imps.length<=i:=by have:=of_flt hc;omega
   rw[List.drop_eq_nil_of_le k1]at hy;have hy:y=(W||!(f.imps.all fun i=>idV i.name)):=by rw[<-hy];simp
   refine fun ν=>Za5 (hD (.own 7 (ν 7)) y false true 1 (by omega) (by omega)) (fun ν=>callB (c51 (.own 7 (ν 7)) _ _) ⟨_,_,_,rfl,rfl,Z79 ?_⟩ ν) ν
   rw[verF,okFl,verV,hy,<-hW];simp only[Bool.not_and,Bool.false_or]
theorem Z6m:∀r:Nd,(size r:Int)<=wE r/\(size r:Int)<=wD r:=by
 refine Zb4 fun r hs hd=>?_
 have kE:∀l:List Nd,(∀x∈l,x∈r.subs)->(sizes l:Int)<=wEs l:=by
  intro l
  induction l with
  |nil=>intro _;simp[sizes,wEs]
  |cons x l ih=>
   intro h;have:=ih fun y hy=>h y (List.mem_cons_of_mem _ hy)
   have:=(hs x (h x (List.mem_cons_self ..))).1;rw[sizes,wEs];push_cast;omega
 have kD:∀l:List Nd,(∀x∈l,x∈r.decls)->(sizes l:Int)<=wDs l:=by
  intro l
  induction l with
  |nil=>intro _;simp[sizes,wDs]
  |cons x l ih=>
   intro h;have:=ih fun y hy=>h y (List.mem_cons_of_mem _ hy)
   have:=(hd x (h x (List.mem_cons_self ..))).2;rw[sizes,wDs];push_cast;omega
 have a:=kE r.subs fun _ h=>h
 have b:=kD r.decls fun _ h=>h
 have o:=Zn1 r;rw[Zx8,Zx9,size_eq];omega
theorem Zzc:∀l:List Nd,(sizes l:Int)<=wDs l
 |[]=>by simp[sizes,wDs]
 |x::l=>by
  have:=Zzc l;have:=(Z6m x).2;rw[sizes,wDs];push_cast;omega
end Go.Sy
end
section
open Go Go.Proofs Go.Ab Go.Rf
set_option linter.unusedSimpArgs false
set_option maxRecDepth 100000
namespace Go.Sy
theorem Zf4{l m:List Nd}(h:eqEs l m=true):l.length=m.length:=by
 by_cases e:l.length=m.length
 ·exact e
 ·rw[Zny e]at h;cases h
theorem Zsj{l m:List Nd}(h:eqDs l m=true):l.length=m.length:=by
 by_cases e:l.length=m.length
 ·exact e
 ·rw[Zj7 e]at h;cases h
theorem Zsk{l m:List Im}(h:eqIs l m=true):l.length=m.length:=by
 by_cases e:l.length=m.length
 ·exact e
 ·rw[Zj8 e]at h;cases h
theorem Zqv{x y:Nd}(h:eqE x y=true):(x.kind=y.kind/\x.text=y.text/\x.num=y.num/\x.n0=y.n0/\x.n1=y.n1)/\x.tail=y.tail/\eqEs x.subs y.subs=true/\eqDs x.decls y.decls=true:=by
 rw[Zp9]at h;simp only[Bool.and_eq_true,beq_iff_eq,decide_eq_true_eq]at h;exact⟨⟨h.1.1.1.1.1.1.1,h.1.1.1.1.1.1.2,h.1.1.1.1.1.2,h.1.1.1.1.2,h.1.1.1.2⟩,h.1.1.2,h.1.2,h.2⟩
theorem Zqw{x y:Nd}(h:eqD x y=true):(x.kind=y.kind/\x.num=y.num/\x.text=y.text/\x.n0=y.n0/\x.n1=y.n1)/\x.trail=y.trail/\x.lead=y.lead/\x.tail=y.tail/\eqEs x.subs y.subs=true/\eqDs x.decls y.decls=true:=by
 rw[Zqa]at h;simp only[Bool.and_eq_true,beq_iff_eq,decide_eq_true_eq]at h;exact⟨⟨h.1.1.1.1.1.1.1.1.1,h.1.1.1.1.1.1.1.1.2,h.1.1.1.1.1.1.1.2,h.1.1.1.1.1.1.2,h.1.1.1.1.1.2⟩,h.1.1.1.1.2,h.1.1.1.2,h.1.1.2,h.1.2,h.2⟩
theorem c66(l m:List Nd)(hl:l.length<=2^50)(hlm:∀x∈l,Lim x)(ih:∀x∈l,(∀m,Holds Tryz.prog 66 [slA (Zav x.decls),slA (Zav m)] [] (Ret (Zao (eqDs x.decls m))))/\
 ∀e∈x.subs,∀y,Holds Tryz.prog 22 [.agg (encE e),.agg (encE y)] [] (Ret (Zao (eqE e y)))):
 Holds Tryz.prog 66 [slA (Zav l),slA (Zav m)] [] (Ret (Zao (eqDs l m))):=by
 refine w66 _ _ ⟨fun h=>?_,fun h=>?_⟩
 ·exact⟨by rw[Zj7 (by simp at h;omega)],rfl⟩
 ·have hlen:l.length=m.length:=by simp at h;omega
  refine⟨fun x=>∃i:Nat,x=i/\i<=l.length/\eqDs (l.drop i) (m.drop i)=eqDs l m,fun x=>l.length-x.toNat,⟨0,rfl,Nat.zero_le _,rfl⟩,?_,trivial⟩;rintro x ⟨i,rfl,hi,hr⟩;refine⟨fun hc=>?_,fun hc=>?_⟩
  ·have h1:i<l.length:=by have:=of_tlt hc;simp at this;omega
   have h2:i<m.length:=by omega
   rw[Zaj h1,Zaj h2,eqDs]at hr;have hx:=List.getElem_mem h1;have l1:=hlm _ hx;have ihx:=ih _ hx;rw[Zhu rfl h1,Zhu rfl h2];generalize l[i]=a at hr l1 ihx;generalize m[i]=b at hr;have no:eqD a b=false->Ret (Zao (eqDs l m)) (.ret (Zao false)) []:=fun h=>⟨by rw[<-hr,h];rfl,rfl⟩
   simp only[Zbb,d0,d1,d2,d3,d4,d5,d6,d7,d8,d9,d10,isK_int,isK_str,isK_slc,dint_int,Za2,dlst_slc,Bool.or_true,true_and];refine⟨tle (by omega),tlt (by simp;omega),teq rfl,teq rfl,fun hn=>no ?_,fun hn=>?_⟩
   ·cases he:eqD a b with
    |false=>rfl
    |true=>
     exfalso;obtain⟨⟨p1,p2,p3,p4,p5⟩,p6,_,_,p7,_⟩:=Zqw he;have:=Zf4 p7;simp[p1,p2,p3,p4,p5,p6,this]at hn
   ·have hn':((a.kind=b.kind/\a.num=b.num/\a.text=b.text/\a.n0=b.n0/\a.n1=b.n1)/\a.trail=b.trail)/\a.subs.length=b.subs.length:=by
     simp only[Zbp,Bool.or_eq_false_iff,Bool.not_eq_false',Bool.and_eq_true,beq_iff_eq,Zat]at hn;obtain⟨⟨⟨⟨⟨q1,q2⟩,q3⟩,q4⟩,q5⟩,q6⟩:=hn;exact⟨⟨⟨q1,q2,q3,q4.1,q4.2⟩,q5⟩,by omega⟩
    obtain⟨⟨⟨q1,q2,q3,q4,q4'⟩,q5⟩,q6⟩:=hn';have hed:eqD a b=(decide (a.lead=b.lead)&&decide (a.tail=b.tail)&&eqEs a.subs b.subs&&eqDs a.decls b.decls):=by rw[Zqa,q1,q2,q3,q4,q4',q5];simp
    rw[hed]at no hr;refine call1 (c23 _ _ (Nat.le_trans l1.2.2.2 (by omega))) ⟨_,rfl,rfl,fun h3=>?_,fun h3=>no (by simp[h3])⟩;refine call1 (c23 _ _ (Nat.le_trans l1.2.2.1 (by omega))) ⟨_,rfl,rfl,fun h4=>?_,fun h4=>no (by simp[h4])⟩;refine call1 (ihx.1 b.decls) ⟨_,rfl,rfl,fun h5=>no (by rw[nb1 h5];simp),fun h5=>?_⟩;have h5:eqDs a.decls b.decls=true:=by simpa using h5
    refine⟨fun x=>∃j:Nat,x=j/\j<=a.subs.length/\eqEs (a.subs.drop j) (b.subs.drop j)=eqEs a.subs b.subs,fun x=>a.subs.length-x.toNat,⟨0,rfl,Nat.zero_le _,rfl⟩,?_,trivial⟩;rintro x ⟨j,rfl,hj,hrj⟩;refine⟨fun hcj=>?_,fun hcj=>?_⟩
    ·have k1:j<a.subs.length:=by have:=of_tlt hcj;simp at this;omega
     have k2:j<b.subs.length:=by omega
     rw[Zaj k1,Zaj k2,eqEs]at hrj;rw[Zdv rfl k1,Zdv rfl k2];refine⟨tle (by omega),teq (by simp),tlt (by simp;omega),teq (by simp),call1 (ihx.2 _ (List.getElem_mem k1) _) ⟨_,rfl,rfl,fun hn=>?_,fun hn=>⟨tle (by omega),tle (by have:=l1.1;omega),⟨j+1,rfl,k1,?_⟩,dec k1⟩⟩⟩
     ·have hn:eqE a.subs[j] b.subs[j]=false:=by simpa using hn
      exact no (by rw[<-hrj,hn];simp)
     ·have hn:eqE a.subs[j] b.subs[j]=true:=by simpa using hn
      rw[<-hrj,hn];rfl
    ·have k1:a.subs.length<=j:=by have:=of_flt hcj;simp at this;omega
     rw[Zan k1,Zan (by omega)]at hrj;have h6:eqEs a.subs b.subs=true:=by rw[<-hrj];simp[eqEs]
     exact⟨tle (by omega),tle (by omega),⟨i+1,rfl,h1,by rw[<-hr,h3,h4,h5,h6];rfl⟩,dec h1⟩
  ·have h1:l.length<=i:=by have:=of_flt hc;simp at this;omega
   rw[Zan h1,Zan (by omega)]at hr;exact⟨by rw[<-hr];simp[eqDs],rfl⟩
theorem Z8b:∀(r:Nd),Lm r->(∀y,Holds Tryz.prog 22 [.agg (encE r),.agg (encE y)] [] (Ret (Zao (eqE r y))))/\(∀m,Holds Tryz.prog 66 [slA (Zav r.decls),slA (Zav m)] [] (Ret (Zao (eqDs r.decls m))))/\
 ∀e∈r.subs,∀y,Holds Tryz.prog 22 [.agg (encE e),.agg (encE y)] [] (Ret (Zao (eqE e y))):=by
 refine Zb4 fun r hs hd hl=>?_
 have l1:=hl.here;have ihs:∀e∈r.subs,∀y,Holds Tryz.prog 22 [.agg (encE e),.agg (encE y)] [] (Ret (Zao (eqE e y))):=fun x hx=>(hs x hx (hl.sub hx)).1
 have ihd:∀m,Holds Tryz.prog 66 [slA (Zav r.decls),slA (Zav m)] [] (Ret (Zao (eqDs r.decls m))):=fun m=>
  c66 r.decls m l1.2.1 (fun x hx=>(hl.dec hx).here) fun x hx=>(hd x hx (hl.dec hx)).2
 refine⟨fun y=>?_,ihd,ihs⟩;have no:eqE r y=false->Ret (Zao (eqE r y)) (.ret (Zao false)) []:=fun h=>⟨by rw[h],rfl⟩
 refine w22 (encE r) (encE y) ?_;simp only[Za4,e0,e1,e2,e3,e4,e5,e6,e7,e8,isK_int,isK_str,isK_slc,dint_int,Za2,dlst_slc,Bool.or_true,true_and];refine⟨teq rfl,teq rfl,fun hn=>?_,fun hn=>no ?_⟩
 ·have hn':(r.kind=y.kind/\r.text=y.text/\r.num=y.num/\r.n0=y.n0/\r.n1=y.n1)/\r.subs.length=y.subs.length:=by
   simp only[Zbp,Bool.or_eq_false_iff,Bool.not_eq_true',Bool.not_eq_false',Bool.and_eq_true,beq_iff_eq,Zat]at hn;obtain⟨⟨⟨⟨q1,q2⟩,q3⟩,q4⟩,q6⟩:=hn;exact⟨⟨q1,q2,q3,q4.1,q4.2⟩,by omega⟩
  obtain⟨⟨q1,q2,q3,q4,q4'⟩,q6⟩:=hn';have hee:eqE r y=(decide (r.tail=y.tail)&&eqEs r.subs y.subs&&eqDs r.decls y.decls):=by rw[Zp9,q1,q2,q3,q4,q4'];simp
  rw[hee]at no⊢;refine call1 (c23 _ _ (Nat.le_trans l1.2.2.1 (by omega))) ⟨_,rfl,rfl,fun h3=>no (by rw[nb1 h3];rfl),fun h3=>?_⟩;have h3:decide (r.tail=y.tail)=true:=by simpa using h3
  refine⟨fun x=>∃j:Nat,x=j/\j<=r.subs.length/\eqEs (r.subs.drop j) (y.subs.drop j)=eqEs r.subs y.subs,fun x=>r.subs.length-x.toNat,⟨0,rfl,Nat.zero_le _,rfl⟩,?_,trivial⟩;rintro x ⟨j,rfl,hj,hrj⟩;refine⟨fun hcj=>?_,fun hcj=>?_⟩
  ·have k1:j<r.subs.length:=by have:=of_tlt hcj;simp at this;omega
   have k2:j<y.subs.length:=by omega
   rw[Zaj k1,Zaj k2,eqEs]at hrj;rw[Zdv rfl k1,Zdv rfl k2];refine⟨tle (by omega),teq (by simp),tlt (by simp;omega),teq (by simp),call1 (ihs _ (List.getElem_mem k1) _) ⟨_,rfl,rfl,fun hn=>?_,fun hn=>⟨tle (by omega),tle (by have:=l1.1;omega),⟨j+1,rfl,k1,?_⟩,dec k1⟩⟩⟩
   ·have hn:eqE r.subs[j] y.subs[j]=false:=by simpa using hn
    exact no (by rw[<-hrj,hn];simp)
   ·have hn:eqE r.subs[j] y.subs[j]=true:=by simpa using hn
    rw[<-hrj,hn];rfl
  ·have k1:r.subs.length<=j:=by have:=of_flt hcj;simp at this;omega
   rw[Zan k1,Zan (by omega)]at hrj;have h6:eqEs r.subs y.subs=true:=by rw[<-hrj];simp[eqEs]
   exact call1 (ihd y.decls) ⟨_,rfl,rfl,by rw[h3,h6];simp,rfl⟩
 ·cases he:eqE r y with
  |false=>rfl
  |true=>
   exfalso;obtain⟨⟨p1,p2,p3,p4,p5⟩,_,p7,_⟩:=Zqv he;have:=Zf4 p7;simp[p1,p2,p3,p4,p5,this]at hn
theorem c66'(l m:List Nd)(hl:l.length<=2^50)(h:∀x∈l,Lm x):Holds Tryz.prog 66 [slA (Zav l),slA (Zav m)] [] (Ret (Zao (eqDs l m))):=
 c66 l m hl (fun x hx=>(h x hx).here) fun x hx=>(Z8b x (h x hx)).2
theorem Zsl:∀{l m:List Nd}{i:Nat}(h:eqEs l m=true)(h1:i<l.length)(h2:i<m.length),eqE l[i] m[i]=true
 |a::l,b::m,0,h,_,_=>by rw[eqEs,Bool.and_eq_true]at h;exact h.1
 |a::l,b::m,i+1,h,h1,h2=>by rw[eqEs,Bool.and_eq_true]at h;exact Zsl h.2 (by simpa using h1) (by simpa using h2)
theorem Zzd:∀{l m:List Nd}{i:Nat}(h:eqDs l m=true)(h1:i<l.length)(h2:i<m.length),eqD l[i] m[i]=true
 |a::l,b::m,0,h,_,_=>by rw[eqDs,Bool.and_eq_true]at h;exact h.1
 |a::l,b::m,i+1,h,h1,h2=>by rw[eqDs,Bool.and_eq_true]at h;exact Zzd h.2 (by simpa using h1) (by simpa using h2)
mutual
def plE:Nd->Nd->Bool
 |.mk _ _ _ _ _ _ _ _ p s d,y=>plEs s y.subs&&(p==y.pos&&plDs d y.decls)
def plEs:List Nd->List Nd->Bool
 |a::l,b::m=>plE a b&&plEs l m
 |_,_=>true
def plD:Nd->Nd->Bool
 |.mk _ _ _ _ _ _ _ _ p s d,y=>p==y.pos&&(plDs d y.decls&&plEs s y.subs)
def plDs:List Nd->List Nd->Bool
 |a::l,b::m=>plD a b&&plDs l m
 |_,_=>true
end
theorem Z2j(x y:Nd):plE x y=(plEs x.subs y.subs&&(x.pos==y.pos&&plDs x.decls y.decls)):=by cases x;rw[plE];rfl
theorem Z2k(x y:Nd):plD x y=(x.pos==y.pos&&(plDs x.decls y.decls&&plEs x.subs y.subs)):=by cases x;rw[plD];rfl
theorem c84(l m:List Nd)(hl:l.length<=2^50)(hlm:∀x∈l,Lim x)(he:eqDs l m=true)(ih:∀x∈l,(∀m,eqDs x.decls m=true->Holds Tryz.prog 84 [slA (Zav x.decls),slA (Zav m)] [] (Ret (Zao (plDs x.decls m))))/\
 ∀e∈x.subs,∀y,eqE e y=true->Holds Tryz.prog 89 [.agg (encE e),.agg (encE y)] [] (Ret (Zao (plE e y)))):
 Holds Tryz.prog 84 [slA (Zav l),slA (Zav m)] [] (Ret (Zao (plDs l m))):=by
 have hlen:=Zsj he;refine w84 _ _ ⟨fun x=>∃i:Nat,x=i/\i<=l.length/\plDs (l.drop i) (m.drop i)=plDs l m,fun x=>l.length-x.toNat,⟨0,rfl,Nat.zero_le _,rfl⟩,?_,trivial⟩;rintro x ⟨i,rfl,hi,hr⟩;refine⟨fun hc=>?_,fun hc=>?_⟩
 ·have h1:i<l.length:=by have:=of_tlt hc;simp at this;omega
  have h2:i<m.length:=by omega
  rw[Zaj h1,Zaj h2,plDs]at hr;have hx:=List.getElem_mem h1;have l1:=hlm _ hx;have ihx:=ih _ hx;have hab:=Zzd he h1 h2;rw[Zhu rfl h1,Zhu rfl h2];generalize l[i]=a at hr l1 ihx hab;generalize m[i]=b at hr hab;have no:plD a b=false->Ret (Zao (plDs l m)) (.ret (Zao false)) []:=fun h=>⟨by rw[<-hr,h];rfl,rfl⟩
  obtain⟨_,_,_,_,p7,p8⟩:=Zqw hab;have q6:=Zf4 p7;rw[Z2k]at no hr;simp only[Zbb,d0,d1,d2,d3,d4,d5,d6,d7,d8,d9,d10,isK_int,isK_str,isK_slc,dint_int,Za2,dlst_slc,Bool.or_true,true_and];refine⟨tle (by omega),teq rfl,tle (by omega),tlt (by simp;omega),teq rfl,tle (by omega),by simp,by simp,fun hn=>?_,fun hn=>no (by rw[Zbp]at hn;rw[hn];rfl)⟩;rw[Zbp]at hn;refine call1 (ihx.1 b.decls p8) ⟨_,rfl,rfl,fun h5=>no (by rw[nb1 h5];simp),fun h5=>?_⟩;refine⟨tle (by omega),fun x=>∃j:Nat,x=j/\j<=a.subs.length/\plEs (a.subs.drop j) (b.subs.drop j)=plEs a.subs b.subs,fun x=>a.subs.length-x.toNat,⟨0,rfl,Nat.zero_le _,rfl⟩,?_,trivial⟩;rintro x ⟨j,rfl,hj,hrj⟩;refine⟨fun hcj=>?_,fun hcj=>?_⟩
  ·have k1:j<a.subs.length:=by have:=of_tlt hcj;simp at this;omega
   have k2:j<b.subs.length:=by omega
   rw[Zaj k1,Zaj k2,plEs]at hrj;rw[Zdv rfl k1,Zdv rfl k2];refine⟨tle (by omega),teq (by simp),tle (by omega),tlt (by simp;omega),teq (by simp),call1 (ihx.2 _ (List.getElem_mem k1) _ (Zsl p7 k1 k2)) ⟨_,rfl,rfl,fun hn=>no (by rw[<-hrj,nb1 hn];simp),fun hn=>⟨tle (by omega),tle (by have:=l1.1;omega),⟨j+1,rfl,k1,by rw[<-hrj,nb0 hn];rfl⟩,dec k1⟩⟩⟩
  ·have k1:a.subs.length<=j:=by have:=of_flt hcj;simp at this;omega
   rw[Zan k1,Zan (by omega)]at hrj;have h6:plEs a.subs b.subs=true:=by rw[<-hrj];simp[plEs]
   exact⟨tle (by omega),tle (by omega),⟨i+1,rfl,h1,by rw[<-hr,hn,nb0 h5,h6];rfl⟩,dec h1⟩
 ·have h1:l.length<=i:=by have:=of_flt hc;simp at this;omega
  rw[Zan h1,Zan (by omega)]at hr;exact⟨by rw[<-hr];simp[plDs],rfl⟩
theorem Z8c:∀(r:Nd),Lm r->(∀y,eqE r y=true->Holds Tryz.prog 89 [.agg (encE r),.agg (encE y)] [] (Ret (Zao (plE r y))))/\(∀m,eqDs r.decls m=true->Holds Tryz.prog 84 [slA (Zav r.decls),slA (Zav m)] [] (Ret (Zao (plDs r.decls m))))/\
 ∀e∈r.subs,∀y,eqE e y=true->Holds Tryz.prog 89 [.agg (encE e),.agg (encE y)] [] (Ret (Zao (plE e y))):=by
 refine Zb4 fun r hs hd hl=>?_
 have l1:=hl.here;have ihs:∀e∈r.subs,∀y,eqE e y=true->Holds Tryz.prog 89 [.agg (encE e),.agg (encE y)] [] (Ret (Zao (plE e y))):=fun x hx=>(hs x hx (hl.sub hx)).1
 have ihd:∀m,eqDs r.decls m=true->Holds Tryz.prog 84 [slA (Zav r.decls),slA (Zav m)] [] (Ret (Zao (plDs r.decls m))):=fun m hm=>
  c84 r.decls m l1.2.1 (fun x hx=>(hl.dec hx).here) hm fun x hx=>(hd x hx (hl.dec hx)).2
 refine⟨fun y hy=>?_,ihd,ihs⟩;obtain⟨_,_,p7,p8⟩:=Zqv hy;have q6:=Zf4 p7;have no:plE r y=false->Ret (Zao (plE r y)) (.ret (Zao false)) []:=fun h=>⟨by rw[h],rfl⟩
 rw[Z2j]at no⊢;refine w89 (encE r) (encE y) ?_;simp only[Za4,e0,e1,e2,e3,e4,e5,e6,e7,e8,isK_int,isK_str,isK_slc,dint_int,Za2,dlst_slc,Bool.or_true,true_and];refine⟨teq rfl,teq rfl,fun x=>∃j:Nat,x=j/\j<=r.subs.length/\plEs (r.subs.drop j) (y.subs.drop j)=plEs r.subs y.subs,fun x=>r.subs.length-x.toNat,⟨0,rfl,Nat.zero_le _,rfl⟩,?_,trivial⟩;rintro x ⟨j,rfl,hj,hrj⟩;refine⟨fun hcj=>?_,fun hcj=>⟨fun hn=>?_,fun hn=>no (by rw[Zbp]at hn;rw[hn];simp)⟩⟩
 ·have k1:j<r.subs.length:=by have:=of_tlt hcj;simp at this;omega
  have k2:j<y.subs.length:=by omega
  rw[Zaj k1,Zaj k2,plEs]at hrj;rw[Zdv rfl k1,Zdv rfl k2];refine⟨tle (by omega),teq (by simp),tlt (by simp;omega),teq (by simp),call1 (ihs _ (List.getElem_mem k1) _ (Zsl p7 k1 k2)) ⟨_,rfl,rfl,fun hn=>no (by rw[<-hrj,nb1 hn];rfl),fun hn=>⟨tle (by omega),tle (by have:=l1.1;omega),⟨j+1,rfl,k1,by rw[<-hrj,nb0 hn];rfl⟩,dec k1⟩⟩⟩
 ·have k1:r.subs.length<=j:=by have:=of_flt hcj;simp at this;omega
  rw[Zan k1,Zan (by omega)]at hrj;have h6:plEs r.subs y.subs=true:=by rw[<-hrj];simp[plEs]
  rw[Zbp]at hn;exact call1 (ihd y.decls p8) ⟨_,rfl,rfl,by rw[h6,hn];rfl,rfl⟩
theorem c20(f g:Fl)(h:LmF f):Holds Tryz.prog 20 [.agg (Zes f),.agg (Zes g)] [] (Ret (Zao (eqF f g))):=by
 have no:eqF f g=false->Ret (Zao (eqF f g)) (.ret (Zao false)) []:=fun h=>⟨by rw[h],rfl⟩
 unfold eqF at no⊢;refine w20 _ _ ?_;simp only[Zby,f0,f1,f2,f3,isK_str,isK_slc,Za2,dlst_slc,Bool.or_true,true_and];refine⟨teq rfl,teq rfl,fun hn=>?_,fun hn=>no ?_⟩
 ·have hn':f.pkg=g.pkg/\f.imps.length=g.imps.length:=by
   simp only[Zbp,Bool.or_eq_false_iff,Bool.not_eq_true',Bool.not_eq_false',beq_iff_eq,Zdw]at hn;exact⟨hn.1,by omega⟩
  obtain⟨q1,q2⟩:=hn';refine call1 (c23 _ _ (Nat.le_trans h.1.2.2 (by omega))) ⟨_,rfl,rfl,fun h3=>no (by rw[nb1 h3];simp),fun h3=>?_⟩;refine⟨fun x=>∃j:Nat,x=j/\j<=f.imps.length/\eqIs (f.imps.drop j) (g.imps.drop j)=eqIs f.imps g.imps,fun x=>f.imps.length-x.toNat,⟨0,rfl,Nat.zero_le _,rfl⟩,?_,trivial⟩;rintro x ⟨j,rfl,hj,hrj⟩;refine⟨fun hcj=>?_,fun hcj=>?_⟩
  ·have k1:j<f.imps.length:=by have:=of_tlt hcj;simp at this;omega
   have k2:j<g.imps.length:=by omega
   rw[Zaj k1,Zaj k2,eqIs]at hrj;have g1:=Zl4 (x:=(j:Int)) rfl k1;have g2:=Zl4 (x:=(j:Int)) rfl k2;simp only[g1,g2,f1,dlst_slc,Zdi,i0,i1,i2,isK_int,isK_str,Za2,dint_int,Bool.or_true,true_and];have e:eqI f.imps[j] g.imps[j]=(f.imps[j].name==g.imps[j].name&&f.imps[j].path==g.imps[j].path):=rfl;refine⟨tle (by omega),teq rfl,tle (by omega),tlt (by simp;omega),teq rfl,tle (by omega),by simp,by simp,fun hn=>no ?_,fun hn=>⟨tle (by omega),tle (by have:=h.1.1;omega),⟨j+1,rfl,k1,?_⟩,dec k1⟩⟩
   ·have:eqI f.imps[j] g.imps[j]=false:=by
     rw[e];simp only[Zbp,Bool.or_eq_true,Bool.not_eq_true']at hn;rcases hn with hn|hn<;>simp only[hn,Bool.false_and,Bool.and_false]
    rw[<-hrj,this];simp
   ·have:eqI f.imps[j] g.imps[j]=true:=by
     rw[e];simp only[Zbp,Bool.or_eq_false_iff,Bool.not_eq_false']at hn;rw[hn.1,hn.2];rfl
    rw[<-hrj,this];rfl
  ·have k1:f.imps.length<=j:=by have:=of_flt hcj;simp at this;omega
   rw[Zan k1,Zan (by omega)]at hrj;have h6:eqIs f.imps g.imps=true:=by rw[<-hrj];simp[eqIs]
   exact call1 (c66' _ _ h.1.2.1 h.2) ⟨_,rfl,rfl,by rw[h6,q1,nb0 h3];simp,rfl⟩
 ·simp only[Zbp,Bool.or_eq_true,Bool.not_eq_false',Bool.not_eq_true',beq_eq_false_iff_ne,Zdw]at hn;rcases hn with hn|hn
  ·simp[hn]
  ·rw[Zj8 (by omega)];simp
def plI(a b:Im):Bool:=a.pos==b.pos
def plIs:List Im->List Im->Bool
 |a::l,b::m=>plI a b&&plIs l m
 |_,_=>true
def plF(f g:Fl):Bool:=plIs f.imps g.imps&&plDs f.decls g.decls
theorem Zze:∀{l m:List Im}{i:Nat}(h:eqIs l m=true)(h1:i<l.length)(h2:i<m.length),eqI l[i] m[i]=true
 |a::l,b::m,0,h,_,_=>by rw[eqIs,Bool.and_eq_true]at h;exact h.1
 |a::l,b::m,i+1,h,h1,h2=>by rw[eqIs,Bool.and_eq_true]at h;exact Zze h.2 (by simpa using h1) (by simpa using h2)
theorem c30(f g:Fl)(h:LmF f):Holds Tryz.prog 30 [.agg (Zes f),.agg (Zes g)] [] (Ret (Zao (eqF f g&&plF f g))):=by
 have no:plF f g=false->Ret (Zao (eqF f g&&plF f g)) (.ret (Zao false)) []:=fun h=>⟨by rw[h];simp,rfl⟩
 refine w30 _ _ ?_;simp only[Zby,f0,f1,f2,f3,isK_str,isK_slc,Za2,dlst_slc,Bool.or_true,true_and];refine⟨teq rfl,teq rfl,call1 (c20 f g h) ⟨_,rfl,rfl,fun h1=>⟨by rw[nb1 h1];rfl,rfl⟩,fun h1=>?_⟩⟩;have h1:=nb0 h1;have h1':=h1;unfold eqF at h1';simp only[Bool.and_eq_true]at h1';have hI:=h1'.1.1.2;have hD:=h1'.1.2;have q2:=Zsk hI;unfold plF at no⊢;refine⟨fun x=>∃j:Nat,x=j/\j<=f.imps.length/\plIs (f.imps.drop j) (g.imps.drop j)=plIs f.imps g.imps,fun x=>f.imps.length-x.toNat,⟨0,rfl,Nat.zero_le _,rfl⟩,?_,trivial⟩;rintro x ⟨j,rfl,hj,hrj⟩;refine⟨fun hcj=>?_,fun hcj=>?_⟩
 ·have k1:j<f.imps.length:=by have:=of_tlt hcj;simp at this;omega
  have k2:j<g.imps.length:=by omega
  rw[Zaj k1,Zaj k2,plIs]at hrj;have g1:=Zl4 (x:=(j:Int)) rfl k1;have g2:=Zl4 (x:=(j:Int)) rfl k2;have hab:=Zze hI k1 k2;unfold eqI at hab;simp only[Bool.and_eq_true,beq_iff_eq]at hab;simp only[g1,g2,Zdi,i0,i1,i2,isK_int,isK_str,Za2,dint_int,Bool.or_true,true_and,hab.1,hab.2];refine⟨tle (by omega),teq rfl,tlt (by simp;omega),teq rfl,fun hn=>no ?_,fun hn=>⟨tle (by omega),tle (by have:=h.1.1;omega),⟨j+1,rfl,k1,?_⟩,dec k1⟩⟩
  ·have:plI f.imps[j] g.imps[j]=false:=by simpa[plI]using hn
   rw[<-hrj,this];rfl
  ·have:plI f.imps[j] g.imps[j]=true:=by simpa[plI]using hn
   rw[<-hrj,this];rfl
 ·have k1:f.imps.length<=j:=by have:=of_flt hcj;simp at this;omega
  rw[Zan k1,Zan (by omega)]at hrj;have h6:plIs f.imps g.imps=true:=by rw[<-hrj];simp[plIs]
  refine call1 (c84 _ _ h.1.2.1 (fun x hx=>(h.2 x hx).here) hD fun x hx=>(Z8c x (h.2 x hx)).2) ⟨_,rfl,rfl,by rw[h6,h1];rfl,rfl⟩
end Go.Sy
end
section
open Go Go.Proofs Go.Ab Go.Rf
set_option linter.unusedSimpArgs false
set_option maxRecDepth 100000
namespace Go.Sy
theorem Zqx:∀{l:List Nd},(∀x∈l,eqE x x=true)->eqEs l l=true
 |[],_=>by rw[eqEs]
 |x::l,h=>by rw[eqEs,h x (List.mem_cons_self ..),Zqx fun y hy=>h y (List.mem_cons_of_mem _ hy)];rfl
theorem Zjl:∀{l:List Nd},(∀x∈l,eqD x x=true)->eqDs l l=true
 |[],_=>by rw[eqDs]
 |x::l,h=>by rw[eqDs,h x (List.mem_cons_self ..),Zjl fun y hy=>h y (List.mem_cons_of_mem _ hy)];rfl
theorem Zqy:∀{l:List Nd},(∀x∈l,plE x x=true)->plEs l l=true
 |[],_=>by rw[plEs];simp
 |x::l,h=>by rw[plEs,h x (List.mem_cons_self ..),Zqy fun y hy=>h y (List.mem_cons_of_mem _ hy)];rfl
theorem Zjm:∀{l:List Nd},(∀x∈l,plD x x=true)->plDs l l=true
 |[],_=>by rw[plDs];simp
 |x::l,h=>by rw[plDs,h x (List.mem_cons_self ..),Zjm fun y hy=>h y (List.mem_cons_of_mem _ hy)];rfl
theorem Zzf:∀r:Nd,(eqE r r=true/\eqD r r=true)/\plE r r=true/\plD r r=true:=by
 refine Zb4 fun r hs hd=>?_
 have a:=Zqx fun x hx=>(hs x hx).1.1
 have b:=Zjl fun x hx=>(hd x hx).1.2
 have c:=Zqy fun x hx=>(hs x hx).2.1
 have d:=Zjm fun x hx=>(hd x hx).2.2
 rw[Zp9,Zqa,Z2j,Z2k,a,b,c,d];simp
theorem Zzg(l:List Nd):eqDs l l=true:=Zjl fun x _=>(Zzf x).1.2
theorem Zzh(l:List Nd):plDs l l=true:=Zjm fun x _=>(Zzf x).2.2
theorem Zqz:∀l:List Im,eqIs l l=true
 |[]=>by rw[eqIs]
 |x::l=>by rw[eqIs,Zqz l];simp[eqI]
theorem Zq0:∀l:List Im,plIs l l=true
 |[]=>by rw[plIs];simp
 |x::l=>by rw[plIs,Zq0 l];simp[plI]
theorem Z1k(f:Fl):(eqF f f&&plF f f)=true:=by
 unfold eqF plF;rw[Zzg,Zzh,Zqz,Zq0];simp
theorem Zvs{α:Type}{c:Bool}{l:List α}{n:Nat}(h:l.length<=n):(tl c l).length<=n:=Nat.le_trans (Zgv c l) h
theorem Zq1(p c:Bool)(l:List Nd):(mpEs p c l).length=l.length/\(mpDs p c l).length=l.length:=by rw[Zas,Zae];simp
theorem Z6n(p c:Bool):∀r:Nd,Lm r->Lm (mpE p c r)/\Lm (mpD p c r):=by
 refine Zb4 fun r hs hd hl=>?_
 have L:=hl.here;have m:=Zq1 p c;rw[Zf5,Zf6];refine⟨.mk ⟨?_,?_,?_,?_⟩ (fun x hx=>?_) fun x hx=>?_,.mk ⟨?_,?_,?_,?_⟩ (fun x hx=>?_) fun x hx=>?_⟩
 ·show(mpEs p c r.subs).length<=_;rw[(m _).1];exact L.1
 ·show(mpDs p c r.decls).length<=_;rw[(m _).2];exact L.2.1
 ·exact Zvs L.2.2.1
 ·exact L.2.2.2
 ·have hx:x∈mpEs p c r.subs:=hx;rw[Zas]at hx;obtain⟨y,hy,rfl⟩:=List.mem_map.1 hx;exact(hs y hy (hl.sub hy)).1
 ·have hx:x∈mpDs p c r.decls:=hx;rw[Zae]at hx;obtain⟨y,hy,rfl⟩:=List.mem_map.1 hx;exact(hd y hy (hl.dec hy)).2
 ·show(mpEs p c r.subs).length<=_;rw[(m _).1];exact L.1
 ·show(mpDs p c r.decls).length<=_;rw[(m _).2];exact L.2.1
 ·exact Zvs L.2.2.1
 ·exact Zvs L.2.2.2
 ·have hx:x∈mpEs p c r.subs:=hx;rw[Zas]at hx;obtain⟨y,hy,rfl⟩:=List.mem_map.1 hx;exact(hs y hy (hl.sub hy)).1
 ·have hx:x∈mpDs p c r.decls:=hx;rw[Zae]at hx;obtain⟨y,hy,rfl⟩:=List.mem_map.1 hx;exact(hd y hy (hl.dec hy)).2
theorem Zzi(p c:Bool){l:List Nd}(h:∀x∈l,Lm x):∀x∈mpDs p c l,Lm x:=fun x hx=>by
 rw[Zae]at hx;obtain⟨y,hy,rfl⟩:=List.mem_map.1 hx;exact(Z6n p c y (h y hy)).2
theorem Zgx{f:Fl}(h:LmF f):LmF (Zb5 f):=⟨⟨by simpa[Zb5]using h.1.1,by show(mpDs true false f.decls).length<=_;rw[(Zq1 _ _ _).2];exact h.1.2.1,h.1.2.2⟩,Zzi _ _ h.2⟩
theorem Zgy{f:Fl}(h:LmF f):LmF (Zcj f):=⟨⟨h.1.1,by show(mpDs false true f.decls).length<=_;rw[(Zq1 _ _ _).2];exact h.1.2.1,by simp[Zcj]⟩,Zzi _ _ h.2⟩
theorem Z6o{f:Fl}(h:BigF f):LmF f:=⟨h.1,fun x hx=>Z7q (h.2.2.2.2 x hx)⟩
theorem Z8d:∀r:Nd,((comE r).length:Int)<=wE r/\((comD r).length:Int)<=wD r:=by
 refine Zb4 fun r hs hd=>?_
 have kE:∀l:List Nd,(∀x∈l,x∈r.subs)->((Zay l).length:Int)<=wEs l:=by
  intro l
  induction l with
  |nil=>intro _;simp[Zay,wEs]
  |cons x l ih=>
   intro h;have:=ih fun y hy=>h y (List.mem_cons_of_mem _ hy)
   have:=(hs x (h x (List.mem_cons_self ..))).1;rw[Zay,wEs,List.length_append];push_cast;omega
 have kD:∀l:List Nd,(∀x∈l,x∈r.decls)->((Zam l).length:Int)<=wDs l:=by
  intro l
  induction l with
  |nil=>intro _;simp[Zam,wDs]
  |cons x l ih=>
   intro h;have:=ih fun y hy=>h y (List.mem_cons_of_mem _ hy)
   have:=(hd x (h x (List.mem_cons_self ..))).2;rw[Zam,wDs,List.length_append];push_cast;omega
 have a:=kE r.subs fun _ h=>h
 have b:=kD r.decls fun _ h=>h
 have o:=Zn1 r;have e1:=congrArg List.length (Zji r);have e2:=congrArg List.length (Zjj r);have e3:(if r.trail=[]then[]else[r.trail]).length<=1:=by split<;>simp
 simp only[List.length_append]at e1 e2;rw[Zx8,Zx9];omega
theorem Zzj:∀l:List Nd,((Zam l).length:Int)<=wDs l
 |[]=>by simp[Zam,wDs]
 |x::l=>by
  have:=Zzj l;have:=(Z8d x).2;rw[Zam,wDs,List.length_append];push_cast;omega
theorem Z4s{f:Fl}(hw:wfF f)(h:smF f=true):ShrF f/\(comF f).length<=200:=by
 obtain⟨h1,h2,h3,h4⟩:=Z2e hw h;have a:=Zzj f.decls;have b:=(Zjh (l:=f.decls) fun x _=>(Zvl x).2).1;refine⟨⟨by omega,by omega,by omega,fun x hx=>Z6d (h3 x hx)⟩,?_⟩;unfold comF;rw[List.length_append];omega
end Go.Sy
end
section
open Go Go.Proofs Go.Ab Go.Rf
set_option linter.unusedSimpArgs false
set_option linter.unusedVariables false
set_option maxRecDepth 100000
namespace Go.Sy
theorem Zdj(p c:Bool)(r:Nd):((mpE p c r).kind=r.kind/\(mpE p c r).num=r.num/\(mpE p c r).text=r.text/\(mpE p c r).n0=r.n0/\(mpE p c r).n1=r.n1/\(mpE p c r).tail=tl c r.tail/\(mpE p c r).subs=mpEs p c r.subs/\(mpE p c r).decls=mpDs p c r.decls/\(mpE p c r).pos=ps p r.pos)/\
 ((mpD p c r).kind=r.kind/\(mpD p c r).num=r.num/\(mpD p c r).text=r.text/\(mpD p c r).n0=r.n0/\(mpD p c r).n1=r.n1/\(mpD p c r).tail=tl c r.tail/\(mpD p c r).subs=mpEs p c r.subs/\(mpD p c r).decls=mpDs p c r.decls/\(mpD p c r).lead=tl c r.lead/\(mpD p c r).trail=tl c r.trail/\(mpD p c r).pos=ps p r.pos):=by
 rw[Zf5,Zf6];exact⟨⟨rfl,rfl,rfl,rfl,rfl,rfl,rfl,rfl,rfl⟩,rfl,rfl,rfl,rfl,rfl,rfl,rfl,rfl,rfl,rfl,rfl⟩
theorem Zof(p c:Bool)(l:List Nd):(mpEs p c l).length=l.length:=(Zq1 p c l).1
theorem Zjn(p c:Bool)(l:List Nd):(mpDs p c l).length=l.length:=(Zq1 p c l).2
theorem Z6p(p c:Bool)(l:List Nd):(mpEs p c l).isEmpty=l.isEmpty:=by rw[Zas];cases l<;>rfl
theorem Z8e(p c:Bool):∀r:Nd,∀lv,dpE (mpE p c r) lv=dpE r lv/\dpE (mpD p c r) lv=dpE r lv:=by
 refine Zb4 fun r hs hd lv=>?_
 have kE:∀(l:List Nd)(lv:Int),(∀x∈l,x∈r.subs)->dpEs (mpEs p c l) lv=dpEs l lv:=by
  intro l lv
  induction l with
  |nil=>intro _;rw[Zas];rfl
  |cons x l ih=>intro h;rw[Zas,List.map_cons,<-Zas,dpEs,dpEs,ih fun y hy=>h y (List.mem_cons_of_mem _ hy),(hs x (h x (List.mem_cons_self ..)) lv).1]
 have kD:∀(l:List Nd)(lv:Int),(∀x∈l,x∈r.decls)->dpDs (mpDs p c l) lv=dpDs l lv:=by
  intro l lv
  induction l with
  |nil=>intro _;rw[Zae];rfl
  |cons x l ih=>intro h;rw[Zae,List.map_cons,<-Zae,dpDs,dpDs,ih fun y hy=>h y (List.mem_cons_of_mem _ hy),(hd x (h x (List.mem_cons_self ..)) lv).2]
 obtain⟨⟨_,_,_,_,_,_,a7,a8,_⟩,⟨_,_,_,_,_,_,b7,b8,_⟩⟩:=Zdj p c r;rw[Zqt (mpE p c r),Zqt (mpD p c r),Zqt r,a7,a8,b7,b8,kE _ _ fun _ h=>h,kD _ _ fun _ h=>h];exact⟨rfl,rfl⟩
theorem Zsm(p c:Bool):∀(l:List Nd)(lv:Int),dpDs (mpDs p c l) lv=dpDs l lv
 |[],_=>by rw[Zae];rfl
 |x::l,lv=>by rw[Zae,List.map_cons,<-Zae,dpDs,dpDs,Zsm p c l lv,(Z8e p c x lv).2]
def Le(c a b:Bool):Prop:=if c then(a=true->b=true)else a=b
theorem Le.rfl{c a:Bool}:Le c a a:=by unfold Le;split;exact id;rfl
theorem Le.and{c a b a' b':Bool}(h:Le c a a')(h':Le c b b'):Le c (a&&b) (a'&&b'):=by
 unfold Le at*;cases c<;>simp_all
theorem Zzk(c:Bool)(l:List Tx):Le c (lnsV l) (lnsV (tl c l)):=by cases c;exact Le.rfl;unfold Le tl lnsV;simp
theorem Z4t(c:Bool)(s:Tx):Le c (lnsV [s]) (lnsV [tl c s]):=by cases c;exact Le.rfl;unfold Le tl lnsV lnV;simp
theorem Zzl(c x:Bool)(l:List Tx)(n:Int)(h0:0<=n):Le c (x||(n+(l.length:Int)==0)) (x||(n+((tl c l).length:Int)==0)):=by
 cases c
 ·exact Le.rfl
 ·unfold Le tl;cases x
  ·simp;intro h;omega
  ·simp
theorem Z1l(p c:Bool)(r:Nd)(cj io il:Bool):Le c (Zoe r cj io il) (Zoe (mpE p c r) cj io il):=by
 obtain⟨⟨a1,a2,a3,a4,a5,a6,a7,a8,a9⟩,_⟩:=Zdj p c r;unfold Zoe;rw[a1,a2,a3,a4,a5,a6,a7,a8,Zof,Zjn];exact((Le.rfl).and ((Zzl c _ _ _ (by omega)).and (Zzk c _))).and Le.rfl
theorem Z1m(p c:Bool)(r:Nd)(sc:Bool):Le c (Zqs r sc) (Zqs (mpD p c r) sc):=by
 obtain⟨_,a1,a2,a3,a4,a5,a6,a7,a8,a9,a10,a11⟩:=Zdj p c r;unfold Zqs;rw[a1,a2,a3,a4,a5,a6,a7,a8,a9,a10,Zof,Zjn];exact(((Le.rfl).and ((Zzk c _).and ((Zzk c _).and ((Z4t c _).and (Zzl c _ _ _ (by omega)))))).and Le.rfl).and Le.rfl
theorem Z8f(p c:Bool):∀r:Nd,(∀cj io il,Le c (okE r cj io il) (okE (mpE p c r) cj io il))/\ ∀sc,Le c (okD r sc) (okD (mpD p c r) sc):=by
 refine Zb4 fun r hs hd=>?_
 have kE:∀(l:List Nd),(∀x∈l,x∈r.subs)-> ∀cj io il il2,Le c (okEs l cj io il il2) (okEs (mpEs p c l) cj io il il2):=by
  intro l
  induction l with
  |nil=>intro _ cj io il il2;rw[Zas];exact Le.rfl
  |cons x l ih=>
   intro h cj io il il2;rw[Zas,List.map_cons,<-Zas,okEs,okEs,Z6p];exact((hs x (h x (List.mem_cons_self ..))).1 _ _ _).and (ih (fun y hy=>h y (List.mem_cons_of_mem _ hy)) _ _ _ _)
 have kF:∀(l:List Nd),(∀x∈l,x∈r.subs)-> ∀cj,Le c (okFs l cj) (okFs (mpEs p c l) cj):=by
  intro l
  induction l with
  |nil=>intro _ cj;rw[Zas];exact Le.rfl
  |cons x l ih=>
   intro h cj;rw[Zas,List.map_cons,<-Zas,okFs,okFs];exact((hs x (h x (List.mem_cons_self ..))).1 _ _ _).and (ih (fun y hy=>h y (List.mem_cons_of_mem _ hy)) _)
 have kD:∀(l:List Nd),(∀x∈l,x∈r.decls)-> ∀sc,Le c (okDs l sc) (okDs (mpDs p c l) sc):=by
  intro l
  induction l with
  |nil=>intro _ sc;rw[Zae];exact Le.rfl
  |cons x l ih=>
   intro h sc;rw[Zae,List.map_cons,<-Zae,okDs,okDs];exact((hd x (h x (List.mem_cons_self ..))).2 _).and (ih (fun y hy=>h y (List.mem_cons_of_mem _ hy)) _)
 obtain⟨⟨a1,a2,a3,a4,a5,a6,a7,a8,a9⟩,b1,b2,b3,b4,b5,b6,b7,b8,b9,b10,b11⟩:=Zdj p c r;refine⟨fun cj io il=>?_,fun sc=>?_⟩
 ·rw[Zy5 r,Zy5 (mpE p c r),a1,a2,a7,a8];exact((Z1l p c r cj io il).and (kE _ (fun _ h=>h) _ _ _ _)).and (kD _ (fun _ h=>h) _)
 ·rw[Zy6 r,Zy6 (mpD p c r),b1,b7,b8];exact((Z1m p c r sc).and (kF _ (fun _ h=>h) _)).and (kD _ (fun _ h=>h) _)
theorem Zsn(p c:Bool):∀(l:List Nd)(sc:Bool),Le c (okDs l sc) (okDs (mpDs p c l) sc)
 |[],sc=>by rw[Zae];exact Le.rfl
 |x::l,sc=>by rw[Zae,List.map_cons,<-Zae,okDs,okDs];exact((Z8f p c x).2 sc).and (Zsn p c l sc)
theorem Zzm(f:Fl):verF (Zb5 f)=verF f:=by
 have h:=Zsn true false f.decls true;unfold Le at h;have h:okDs f.decls true=okDs (mpDs true false f.decls) true:=by simpa using h
 unfold verF okFl Zb5;simp only[Zsm,<-h,List.all_map];rfl
theorem Zzn(f:Fl)(h:verF f=0):verF (Zcj f)=0:=by
 have h2:=Zsn false true f.decls true;unfold Le at h2;have h2:okDs f.decls true=true->okDs (mpDs false true f.decls) true=true:=by simpa using h2
 unfold verF verV at*
 have hok:okFl f=true:=by
  cases hk:okFl f with
  |true=>rfl
  |false=>rw[hk]at h;simp at h
 have hd:dpDs f.decls 1=false:=by
  cases hk:dpDs f.decls 1 with
  |false=>rfl
  |true=>rw[hok,hk]at h;simp at h
 have:okFl (Zcj f)=true:=by
  unfold okFl Zcj at*;simp only[Bool.and_eq_true]at hok⊢;exact⟨⟨⟨hok.1.1.1,by simp[lnsV]⟩,hok.1.2⟩,h2 hok.2⟩
 rw[this];show(if(!true)=true then(11:Int)else if dpDs (mpDs false true f.decls) 1=true then 9 else 0)=0
 rw[Zsm,hd];rfl
end Go.Sy
end
section
open Go Go.Proofs Go.Ab Go.Rf
set_option linter.unusedSimpArgs false
set_option linter.unusedVariables false
set_option maxRecDepth 100000
namespace Go.Sy
theorem Z1n{α:Type}(c c':Bool)(l:List α):tl c (tl c' l)=tl (c||c') l:=by cases c<;>cases c'<;>rfl
theorem Z6q(p p':Bool)(n:Int):ps p (ps p' n)=ps (p||p') n:=by cases p<;>cases p'<;>rfl
theorem Z8g(p c p' c':Bool):∀r:Nd,mpE p c (mpE p' c' r)=mpE (p||p') (c||c') r/\mpD p c (mpD p' c' r)=mpD (p||p') (c||c') r:=by
 refine Zb4 fun r hs hd=>?_
 have a:mpEs p c (mpEs p' c' r.subs)=mpEs (p||p') (c||c') r.subs:=by
  rw[Zas,Zas,Zas,List.map_map];exact List.map_congr_left fun x hx=>(hs x hx).1
 have b:mpDs p c (mpDs p' c' r.decls)=mpDs (p||p') (c||c') r.decls:=by
  rw[Zae,Zae,Zae,List.map_map];exact List.map_congr_left fun x hx=>(hd x hx).2
 constructor
 ·rw[Zf5 p' c' r,Zf5 p c,Zf5 (p||p')];simp only[Nd.mk.injEq];exact⟨rfl,rfl,rfl,rfl,rfl,rfl,rfl,Z1n _ _ _,Z6q _ _ _,a,b⟩
 ·rw[Zf6 p' c' r,Zf6 p c,Zf6 (p||p')];simp only[Nd.mk.injEq];exact⟨rfl,rfl,rfl,rfl,rfl,Z1n _ _ _,Z1n _ _ _,Z1n _ _ _,Z6q _ _ _,a,b⟩
theorem Zog(p c p' c':Bool)(l:List Nd):mpDs p c (mpDs p' c' l)=mpDs (p||p') (c||c') l:=by
 rw[Zae,Zae,Zae,List.map_map];exact List.map_congr_left fun x _=>(Z8g p c p' c' x).2
theorem Z8h(p c:Bool):∀r:Nd,(wfE r->wfE (mpE p c r))/\(wfD r->wfD (mpD p c r)):=by
 refine Zb4 fun r hs hd=>?_
 have a:wfEs r.subs->wfEs (mpEs p c r.subs):=fun h=>by
  rw[Ziv]at h⊢;rw[Zas];intro x hx;obtain⟨y,hy,rfl⟩:=List.mem_map.1 hx;exact(hs y hy).1 (h y hy)
 have b:wfDs r.decls->wfDs (mpDs p c r.decls):=fun h=>by
  rw[Zfz]at h⊢;rw[Zae];intro x hx;obtain⟨y,hy,rfl⟩:=List.mem_map.1 hx;exact(hd y hy).2 (h y hy)
 refine⟨fun h=>?_,fun h=>?_⟩
 ·rw[Zya]at h⊢;rw[Zf5];exact⟨h.1,a h.2.1,b h.2.2⟩
 ·rw[Zyb]at h⊢;rw[Zf6];exact⟨a h.1,b h.2⟩
theorem Zzo(p c:Bool){l:List Nd}(h:wfDs l):wfDs (mpDs p c l):=by
 rw[Zfz]at h⊢;rw[Zae];intro x hx;obtain⟨y,hy,rfl⟩:=List.mem_map.1 hx;exact(Z8h p c y).2 (h y hy)
theorem Z1o{l:List Nd}(ih:∀x∈l,∀y,wfE x->wfE y->(eqE x y=true↔mpE true false x=mpE true false y)):∀{m:List Nd},wfEs l->wfEs m->(eqEs l m=true↔mpEs true false l=mpEs true false m):=by
 induction l with
 |nil=>intro m _ _;cases m<;>simp[eqEs,mpEs]
 |cons x l ih2=>
  intro m h1 h2;cases m with
  |nil=>simp[eqEs,mpEs]
  |cons y m=>
   rw[wfEs]at h1 h2;rw[eqEs,mpEs,mpEs,Bool.and_eq_true,ih x (List.mem_cons_self ..) y h1.1 h2.1,ih2 (fun z hz=>ih z (List.mem_cons_of_mem _ hz)) h1.2 h2.2,List.cons.injEq]
theorem Zq2{l:List Nd}(ih:∀x∈l,∀y,wfD x->wfD y->(eqD x y=true↔mpD true false x=mpD true false y)):∀{m:List Nd},wfDs l->wfDs m->(eqDs l m=true↔mpDs true false l=mpDs true false m):=by
 induction l with
 |nil=>intro m _ _;cases m<;>simp[eqDs,mpDs]
 |cons x l ih2=>
  intro m h1 h2;cases m with
  |nil=>simp[eqDs,mpDs]
  |cons y m=>
   rw[wfDs]at h1 h2;rw[eqDs,mpDs,mpDs,Bool.and_eq_true,ih x (List.mem_cons_self ..) y h1.1 h2.1,ih2 (fun z hz=>ih z (List.mem_cons_of_mem _ hz)) h1.2 h2.2,List.cons.injEq]
theorem Z6r:∀r:Nd,(∀y,wfE r->wfE y->(eqE r y=true↔mpE true false r=mpE true false y))/\ ∀y,wfD r->wfD y->(eqD r y=true↔mpD true false r=mpD true false y):=by
 refine Zb4 fun r hs hd=>?_
 have a:=fun{m}=>Z1o (fun x hx=>(hs x hx).1) (m:=m)
 have b:=fun{m}=>Zq2 (fun x hx=>(hd x hx).2) (m:=m)
 refine⟨fun y h1 h2=>?_,fun y h1 h2=>?_⟩
 ·rw[Zya]at h1 h2;rw[Zp9,Zf5,Zf5];simp only[Bool.and_eq_true,Nd.mk.injEq,beq_iff_eq,decide_eq_true_eq,a h1.2.1 h2.2.1,b h1.2.2 h2.2.2,tl,ps,h1.1.1,h1.1.2,h2.1.1,h2.1.2];simp only[Bool.false_eq_true,if_false,if_true,true_and];constructor
  ·rintro⟨⟨⟨⟨⟨⟨⟨a1,a2⟩,a3⟩,a4⟩,a5⟩,a6⟩,a7⟩,a8⟩;exact⟨a1,a3,a2,a4,a5,a6,a7,a8⟩
  ·rintro⟨a1,a3,a2,a4,a5,a6,a7,a8⟩;exact⟨⟨⟨⟨⟨⟨⟨a1,a2⟩,a3⟩,a4⟩,a5⟩,a6⟩,a7⟩,a8⟩
 ·rw[Zyb]at h1 h2;rw[Zqa,Zf6,Zf6];simp only[Bool.and_eq_true,Nd.mk.injEq,beq_iff_eq,decide_eq_true_eq,a h1.1 h2.1,b h1.2 h2.2,tl,ps];simp only[Bool.false_eq_true,if_false,if_true,true_and];constructor
  ·rintro⟨⟨⟨⟨⟨⟨⟨⟨⟨a1,a2⟩,a3⟩,a4⟩,a5⟩,a6⟩,a7⟩,a8⟩,a9⟩,a10⟩;exact⟨a1,a2,a3,a4,a5,a6,a7,a8,a9,a10⟩
  ·rintro⟨a1,a2,a3,a4,a5,a6,a7,a8,a9,a10⟩;exact⟨⟨⟨⟨⟨⟨⟨⟨⟨a1,a2⟩,a3⟩,a4⟩,a5⟩,a6⟩,a7⟩,a8⟩,a9⟩,a10⟩
theorem Zum:∀{l m:List Im},eqIs l m=true↔l.map stI=m.map stI
 |[],[]=>by simp[eqIs]
 |[],_::_=>by simp[eqIs]
 |_::_,[]=>by simp[eqIs]
 |a::l,b::m=>by rw[eqIs,Bool.and_eq_true,Zum (l:=l),List.map_cons,List.map_cons,List.cons.injEq];simp[eqI,stI]
theorem Zzp{f g:Fl}(hf:wfF f)(hg:wfF g):eqF f g=true↔Zb5 f=Zb5 g:=by
 unfold eqF Zb5;simp only[Bool.and_eq_true,beq_iff_eq,decide_eq_true_eq,Zum,Fl.mk.injEq,Zq2 (fun x _=>(Z6r x).2) hf hg];constructor
 ·rintro⟨⟨⟨a,b⟩,c⟩,d⟩;exact⟨a,b,c,d⟩
 ·rintro⟨a,b,c,d⟩;exact⟨⟨⟨a,b⟩,c⟩,d⟩
theorem Z6s(l:List Im):(l.map stI).map stI=l.map stI:=by rw[List.map_map];rfl
theorem Z2l(f:Fl):Zb5 (Zb5 f)=Zb5 f:=by
 unfold Zb5;simp only[Fl.mk.injEq,Z6s,Zog,Bool.or_self,and_self]
theorem Z6t(f:Fl):Zcj (Zcj f)=Zcj f:=by
 unfold Zcj;simp only[Fl.mk.injEq,Zog,Bool.or_self,and_self]
theorem Zso(f:Fl):Zb5 (Zcj f)=Zcj (Zb5 f):=by
 unfold Zcj Zb5;simp only[Fl.mk.injEq,Zog,Bool.or_self,and_self,Bool.or_false,Bool.false_or,Bool.or_true,Bool.true_or]
theorem Zzq{f:Fl}(h:wfF f):wfF (Zb5 f):=Zzo true false h
theorem Zq3{f:Fl}(h:wfF f):wfF (Zcj f):=Zzo false true h
theorem Zhz{f g:Fl}(h:f=g):(eqF f g&&plF f g)=true:=by subst h;exact Z1k f
theorem Zka{α β:Type}{f g:α->List β}:∀{l:List α},(∀x∈l,f x=g x)->l.flatMap f=l.flatMap g
 |[],_=>rfl
 |x::l,h=>by rw[List.flatMap_cons,List.flatMap_cons,h x (List.mem_cons_self ..),Zka fun y hy=>h y (List.mem_cons_of_mem _ hy)]
theorem Z2m(p:Bool):∀r:Nd,(comE (mpE p false r)=comE r/\comE (mpE p true r)=[])/\comD (mpD p false r)=comD r/\comD (mpD p true r)=[]:=by
 refine Zb4 fun r hs hd=>?_
 have a0:Zay (mpEs p false r.subs)=Zay r.subs:=by
  rw[Zc6,Zc6,Zas,List.flatMap_map];exact Zka fun x hx=>(hs x hx).1.1
 have b0:Zam (mpDs p false r.decls)=Zam r.decls:=by
  rw[Zbw,Zbw,Zae,List.flatMap_map];exact Zka fun x hx=>(hd x hx).2.1
 have a1:Zay (mpEs p true r.subs)=[]:=by
  rw[Zc6,Zas,List.flatMap_map,List.flatMap_eq_nil_iff];exact fun x hx=>(hs x hx).1.2
 have b1:Zam (mpDs p true r.decls)=[]:=by
  rw[Zbw,Zae,List.flatMap_map,List.flatMap_eq_nil_iff];exact fun x hx=>(hd x hx).2.2
 refine⟨⟨?_,?_⟩,?_,?_⟩
 ·rw[Zji,Zji r,(Zdj p false r).1.2.2.2.2.2.2.1,(Zdj p false r).1.2.2.2.2.2.2.2.1,(Zdj p false r).1.2.2.2.2.2.1,a0,b0];rfl
 ·rw[Zji,(Zdj p true r).1.2.2.2.2.2.2.1,(Zdj p true r).1.2.2.2.2.2.2.2.1,(Zdj p true r).1.2.2.2.2.2.1,a1,b1];rfl
 ·obtain⟨_,_,_,_,_,_,q6,q7,q8,q9,q10,_⟩:=Zdj p false r;rw[Zjj,Zjj r,q6,q7,q8,q9,q10,a0,b0];rfl
 ·obtain⟨_,_,_,_,_,_,q6,q7,q8,q9,q10,_⟩:=Zdj p true r;rw[Zjj,q6,q7,q8,q9,q10,a1,b1];rfl
theorem Zsp(p:Bool)(l:List Nd):Zam (mpDs p false l)=Zam l:=by
 rw[Zbw,Zbw,Zae,List.flatMap_map];exact Zka fun x _=>(Z2m p x).2.1
theorem Zsq(p:Bool)(l:List Nd):Zam (mpDs p true l)=[]:=by
 rw[Zbw,Zae,List.flatMap_map,List.flatMap_eq_nil_iff];exact fun x _=>(Z2m p x).2.2
theorem Zjo(f:Fl):comF (Zcj f)=[]:=by unfold comF Zcj;simp only[Zsq,List.append_nil]
theorem Zm0(f:Fl):comF (Zb5 f)=comF f:=by unfold comF Zb5;simp only[Zsp]
theorem Zun{α:Type}{l:List α}(h:l=[]):tl false l=tl true l:=by subst h;rfl
theorem Z1p(p:Bool):∀r:Nd,(comE r=[]->mpE p false r=mpE p true r)/\(comD r=[]->mpD p false r=mpD p true r):=by
 refine Zb4 fun r hs hd=>?_
 have a:Zay r.subs=[]->mpEs p false r.subs=mpEs p true r.subs:=fun h=>by
  rw[Zc6,List.flatMap_eq_nil_iff]at h;rw[Zas,Zas];exact List.map_congr_left fun x hx=>(hs x hx).1 (h x hx)
 have b:Zam r.decls=[]->mpDs p false r.decls=mpDs p true r.decls:=fun h=>by
  rw[Zbw,List.flatMap_eq_nil_iff]at h;rw[Zae,Zae];exact List.map_congr_left fun x hx=>(hd x hx).2 (h x hx)
 refine⟨fun h=>?_,fun h=>?_⟩
 ·rw[Zji,List.append_eq_nil_iff,List.append_eq_nil_iff]at h;rw[Zf5,Zf5,a h.1.1,b h.1.2,Zun h.2]
 ·rw[Zjj,List.append_eq_nil_iff,List.append_eq_nil_iff,List.append_eq_nil_iff,List.append_eq_nil_iff]at h;obtain⟨⟨⟨⟨h1,h2⟩,h3⟩,h4⟩,h5⟩:=h
  have h6:r.trail=[]:=by
   by_cases ht:r.trail=[]
   ·exact ht
   ·rw[if_neg ht]at h5;cases h5
  rw[Zf6,Zf6,a h2,b h3,Zun h1,Zun h4,Zun h6]
theorem Z1q{f:Fl}(h:wfF f):eqF f (Zcj f)=decide (comF f=[]):=by
 rw[Bool.eq_iff_iff,Zzp h (Zq3 h),decide_eq_true_eq];constructor
 ·intro e;rw[<-Zm0,e,Zm0,Zjo]
 ·intro e;unfold comF at e;rw[List.append_eq_nil_iff]at e
  have:mpDs true false f.decls=mpDs true true f.decls:=by
   have:=e.1;rw[Zbw,List.flatMap_eq_nil_iff]at this;rw[Zae,Zae];exact List.map_congr_left fun x hx=>(Z1p true x).2 (this x hx)
  unfold Zb5 Zcj;simp only[Zog,Bool.or_false,Bool.or_true,Bool.false_or,Bool.true_or,this,e.2]
end Go.Sy
end
section
open Go Go.Proofs Go.Ab Go.Rf
set_option linter.unusedSimpArgs false
set_option maxRecDepth 100000
namespace Go.Sy
theorem Zuo(p c:Bool):∀l:List Nd,sizes (mpDs p c l)=sizes l/\sizes (mpEs p c l)=sizes l:=by
 have key:∀r:Nd,size (mpE p c r)=size r/\size (mpD p c r)=size r:=by
  refine Zb4 fun r hs hd=>?_
  have kE:∀l:List Nd,(∀x∈l,x∈r.subs)->sizes (mpEs p c l)=sizes l:=by
   intro l
   induction l with
   |nil=>intro _;rw[Zas];rfl
   |cons x l ih=>intro h;rw[Zas,List.map_cons,<-Zas,sizes,sizes,ih fun y hy=>h y (List.mem_cons_of_mem _ hy),(hs x (h x (List.mem_cons_self ..))).1]
  have kD:∀l:List Nd,(∀x∈l,x∈r.decls)->sizes (mpDs p c l)=sizes l:=by
   intro l
   induction l with
   |nil=>intro _;rw[Zae];rfl
   |cons x l ih=>intro h;rw[Zae,List.map_cons,<-Zae,sizes,sizes,ih fun y hy=>h y (List.mem_cons_of_mem _ hy),(hd x (h x (List.mem_cons_self ..))).2]
  obtain⟨⟨_,_,_,_,_,_,a7,a8,_⟩,⟨_,_,_,_,_,_,b7,b8,_⟩⟩:=Zdj p c r;rw[size_eq (mpE p c r),size_eq (mpD p c r),size_eq r,a7,a8,b7,b8,kE _ fun _ h=>h,kD _ fun _ h=>h];exact⟨rfl,rfl⟩
 intro l
 induction l with
 |nil=>rw[Zae,Zas];exact⟨rfl,rfl⟩
 |cons x l ih=>rw[Zae,List.map_cons,<-Zae,Zas,List.map_cons,<-Zas,sizes,sizes,sizes,ih.1,ih.2,(key x).1,(key x).2];exact⟨rfl,rfl⟩
theorem Z1r{f:Fl}(hw:wfF f)(h:smF f=true):sizes f.decls<=1000:=by
 have:=(Z2e hw h).2.2.2;have:=Zzc f.decls;omega
theorem Z6u(p c:Bool):∀r:Nd,All Shr r->All Shr (mpE p c r)/\All Shr (mpD p c r):=by
 refine Zb4 fun r hs hd hl=>?_
 have L:=hl.here;rw[Zf5,Zf6]
 have a:∀x∈mpEs p c r.subs,All Shr x:=fun x hx=>by
  rw[Zas]at hx;obtain⟨y,hy,rfl⟩:=List.mem_map.1 hx;exact(hs y hy (hl.sub hy)).1
 have b:∀x∈mpDs p c r.decls,All Shr x:=fun x hx=>by
  rw[Zae]at hx;obtain⟨y,hy,rfl⟩:=List.mem_map.1 hx;exact(hd y hy (hl.dec hy)).2
 refine⟨.mk ⟨?_,?_,Zvs L.2.2.1,L.2.2.2⟩ a b,.mk ⟨?_,?_,Zvs L.2.2.1,Zvs L.2.2.2⟩ a b⟩
 ·show(mpEs p c r.subs).length<=_;rw[Zof];exact L.1
 ·show(mpDs p c r.decls).length<=_;rw[Zjn];exact L.2.1
 ·show(mpEs p c r.subs).length<=_;rw[Zof];exact L.1
 ·show(mpDs p c r.decls).length<=_;rw[Zjn];exact L.2.1
theorem Zup(p c:Bool){l:List Nd}(h:∀x∈l,All Shr x):∀x∈mpDs p c l,All Shr x:=fun x hx=>by
 rw[Zae]at hx;obtain⟨y,hy,rfl⟩:=List.mem_map.1 hx;exact(Z6u p c y (h y hy)).2
theorem Zm1{f:Fl}(h:ShrF f):ShrF (Zb5 f):=⟨by simpa[Zb5]using h.1,by show(mpDs true false f.decls).length<=_;rw[Zjn];exact h.2.1,h.2.2.1,Zup _ _ h.2.2.2⟩
theorem Zm2{f:Fl}(h:ShrF f):ShrF (Zcj f):=⟨h.1,by show(mpDs false true f.decls).length<=_;rw[Zjn];exact h.2.1,by simp[Zcj],Zup _ _ h.2.2.2⟩
theorem c7(f:Fl)(hf:BigF f)(wf:wfF f):Holds Tryz.prog 7 [.agg (Zes f)] [] (Ret (Zao true)):=by
 have stop:∀_:Nat->Nat,Holds Tryz.prog 13 [] [] (Ret (Zao true)):=fun _=>c13
 refine w7 _ ⟨teq rfl,call1 (c12 f hf) ⟨_,rfl,rfl,fun _=>call1 c13 ⟨_,rfl,rfl,rfl,rfl⟩,fun h1=>?_⟩⟩;have h1:=nb0 h1;obtain⟨sf,cf⟩:=Z4s wf h1;have lf:=Z6o hf;have zf:=Z1r wf h1;have zs:sizes (Zb5 f).decls<=2^40:=by show sizes (mpDs true false f.decls)<=_;rw[(Zuo _ _ _).1];omega
 have zp:sizes (Zcj f).decls<=2^40:=by show sizes (mpDs false true f.decls)<=_;rw[(Zuo _ _ _).1];omega
 have ws:=Zzq wf;have wp:=Zq3 wf;refine⟨_,fun _=>c28 f sf,_,fun _=>c29 f sf,teq rfl,teq rfl,_,fun _=>c28 _ (Zm1 sf),_,fun _=>c30 _ _ (Zgx (Zgx lf)),fun _=>?_,fun h=>by rw[Zhz (Z2l f)]at h;cases h⟩;refine⟨_,fun _=>c29 _ (Zm2 sf),_,fun _=>c30 _ _ (Zgy (Zgy lf)),fun _=>?_,fun h=>by rw[Zhz (Z6t f)]at h;cases h⟩;refine⟨_,fun _=>c28 _ (Zm2 sf),_,fun _=>c29 _ (Zm1 sf),_,fun _=>c30 _ _ (Zgx (Zgy lf)),fun _=>?_,fun h=>by rw[Zhz (Zso f)]at h;cases h⟩;have e1:eqF (Zb5 f) f=true:=(Zzp ws wf).2 (Z2l f);refine call1 (c19 _ _ (Zgx lf)) ⟨_,rfl,rfl,fun _=>?_,fun h=>by rw[e1]at h;cases h⟩;refine call1 (c31 _ (by rw[Zjo];simp) (Zgy lf)) ⟨_,rfl,rfl,fun h=>by rw[Zjo]at h;simp[txs]at h,fun _=>?_⟩;refine⟨_,fun _=>c14 _ (Zgx lf) zs,_,fun _=>c14 f lf (by omega),fun _=>?_,fun h=>by rw[Zzm]at h;simp at h⟩;have e2:=Z1q wf
 have last:∀b,(!(eqF f (Zcj f)==(tB (((txs (comF f)).length:Int)==(0:Int)))))=b->b=false:=fun b h=>by
  subst h;rw[e2];cases hc:comF f<;>simp[txs];omega
 refine⟨_,fun _=>c14 f lf (by omega),fun h=>?_,fun _=>?_⟩
 ·have h0:verF f=0:=of_teq h;refine⟨_,fun _=>c14 _ (Zgy lf) zp,fun _=>?_,fun h=>by rw[Zzn f h0]at h;simp at h⟩;refine⟨_,fun _=>c19 f _ lf,call1 (c31 f (by omega) lf) ⟨_,rfl,rfl,fun h=>(by have:=last _ h;cases this),fun _=>call1 c13 ⟨_,rfl,rfl,rfl,rfl⟩⟩⟩
 ·refine⟨_,fun _=>c19 f _ lf,call1 (c31 f (by omega) lf) ⟨_,rfl,rfl,fun h=>(by have:=last _ h;cases this),fun _=>call1 c13 ⟨_,rfl,rfl,rfl,rfl⟩⟩⟩
end Go.Sy
end
section
open Go Go.Proofs Go.Ab Go.Rf Go.ChangeShapes Go.WideShapes Go.ChangeAt Go.Proofs.YtpcnadmaeebhbaaGreatDoor
set_option maxRecDepth 100000
namespace Go.Sy
theorem Zzr(os:Os):laidMet Tryz.prog Rows.syntaxLawsRow.laid ((Zls os).forCall (fun _ _=>0) ⟨#[],#[zF],[]⟩).memory:=
 laidMet_of_run' 8 (by kernel_rfl) (by kernel_rfl)
theorem Z6v(os:Os){H:Type}(en:TypeId×Value->H):∃places,DataW.whole en Tryz.prog ((Zls os).forCall (fun _ _=>0) ⟨#[],#[zF],[]⟩).memory Tryz.f7.params.toList Rows.syntaxLawsSpec.vars false #[zF].toList 8=some ([dF],[],places):=
 ⟨[],by kernel_rfl⟩
theorem Z4u(os:Os)(started:os.Started)(H:Type)(en:TypeId×Value->H)(F:Stop.Interp):
 ReturnsInHanded {} Tryz.checked os 7 .any ((OpenSpec.ofChange Rows.syntaxLawsSpec).preRow en Tryz.prog Tryz.f7 Rows.syntaxLawsRow.domain false Rows.syntaxLawsRow.laid) (((OpenSpec.ofChange Rows.syntaxLawsSpec).at F).post en Tryz.prog Tryz.f7 false true false false):=by
 obtain⟨places,hx⟩:=Z6v os en
 refine returnsInHanded_of_row (C:=Tryz.checked) (s:=OpenSpec.ofChange Rows.syntaxLawsSpec) own started (by kernel_rfl) Tryz.func7
  (witness_row_at (enc:=en) (C:=Tryz.checked) false (Zls os) #[zF] rfl (by kernel_rfl) (by kernel_rfl) (by kernel_rfl)
   (OpenSpec.preRow_of_cond 8 hx (by kernel_rfl) (fun k hk=>by cases hk) (by kernel_rfl) (Zzr os))) ?_
 intro W base args ds gs before hval0 hW _ _ hsz0 hL _ _;have hval:∀(j:Nat) t v,Tryz.f7.params[j]?=some t->args[j]?=some v->Value.okWide Tryz.prog W .any base t v:=hval0;have hW':DataW.Whole en Tryz.prog Tryz.f7.params.toList Rows.syntaxLawsSpec.vars false W args.toList ds gs before:=hW;obtain⟨p,q,hA0,hV,rfl,hfz,hnd⟩:=hW;have hA:DataW.TrodAll en Tryz.prog W 0 (fun _=>true) true Tryz.f7.params.toList args.toList ds p:=hA0;have hsz:(DataW.weightsEach Tryz.prog (Tryz.f7.params.toList++[]) (ds++gs)).all (· <=reachBytes)=true:=hsz0;rw[Tryz.params7]at hA hval hsz;obtain⟨v0,vs0,d0,ds0,p0,q0,hargs,rfl,rfl,h0,r0⟩:=trodAll_cons hA;obtain⟨rfl,rfl,rfl⟩:=trodAll_nil r0;obtain rfl:args= #[v0]:=by cases args;simp_all
 obtain⟨a0,k0,g0,e0⟩:=Z7s (hval 0 26 v0 rfl rfl) h0 (Z6a hsz (i:=0) rfl rfl);refine(Zsf Tryz.func7 rfl rfl (Holds.out (c7 a0 g0 e0) (w:=W) (cargs:= #[v0]) ⟨k0,trivial⟩)).mono fun e W' ⟨cv,g',he,hc,hb⟩=>?_
 have hc:cv=.bool true:=by cases hc;rfl
 subst hc;exact⟨_,he,Z06 (s:=Rows.syntaxLawsSpec) rfl hW' rfl rfl lay (by kernel_rfl) hb⟩
theorem syntaxLaws_holds:Rows.SyntaxLawsSaid:=
 OpenClaim.holds_of_cond 7 Tryz.f7 rfl rfl rfl rfl rfl rfl rfl ⟨rfl,rfl,rfl,rfl,rfl⟩ rfl rfl rfl rfl rfl (by kernel_rfl) Tryz.func7 (by kernel_rfl)
  (of_decide_eq_true (by kernel_rfl)) (by unfold Func.isWrapper;first|(rw[if_pos (by decide+kernel)];kernel_rfl)|(rw[if_neg (by decide+kernel)];exact⟨rfl,rfl⟩))
  (fun os started H en _ F=>by rw[OpenClaim.pre_eq_preRow];exact Z4u os started H en F)
theorem plain7(f:FuncId)(fn:Func)(hf:Tryz.pinned.checked.prog.funcNamed "configlang/configlanglaw25.SyntaxLaws" =some f)(hfn:Tryz.pinned.checked.prog.funcs[f]?=some fn):
 true=Tryz.pinned.checked.prog.looks []/\ ∀(j:Nat) t,fn.params[j]?=some t->Tryz.pinned.checked.prog.wantsStandIn t=false:=by
 obtain rfl:f=7:=Option.some.inj ((show Tryz.prog.funcNamed "configlang/configlanglaw25.SyntaxLaws" =some 7 by kernel_rfl).symm.trans hf)|>.symm;obtain rfl:fn=Tryz.f7:=(Option.some.inj (Tryz.func7.symm.trans hfn)).symm;refine⟨by kernel_rfl,fun j t ht=>?_⟩;rw[Tryz.params7]at ht;have hm:t∈[26]:=by simpa using Array.mem_of_getElem? ht
 have hall:([26].all fun u=>!Tryz.prog.wantsStandIn u)=true:=by kernel_rfl
 exact(show Tryz.prog.wantsStandIn t=false by simpa using List.all_eq_true.1 hall t hm)
end Go.Sy
namespace Go.Proofs.YtpcnadmaeebhbaaGreatDoor
theorem syntaxLaws_proved:Rows.SyntaxLawsCardSaid:=
 Claim7.holds_tied_plain_at .later [] _ _ _ _ Go.Sy.syntaxLaws_holds (fun _ h=>by cases h) (by kernel_rfl) (fun _ h=>by cases h) syntaxLaws_row_tie rfl ⟨rfl,rfl⟩ (by kernel_rfl) rfl Go.Sy.plain7 (by kernel_rfl)
end Go.Proofs.YtpcnadmaeebhbaaGreatDoor
end
