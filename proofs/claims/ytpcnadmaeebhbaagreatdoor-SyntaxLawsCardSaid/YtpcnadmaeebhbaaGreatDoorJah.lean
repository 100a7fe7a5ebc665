/- Part 8 of the proof: SyB, SyW. -/
import Derived.Test.YtpcnadmaeebhbaaGreatDoorJag
set_option linter.unusedVariables false
set_option linter.unusedSimpArgs false
section
open Go Go.Ab Go.Rf
set_option linter.unusedSimpArgs false
namespace Go.Sy
abbrev Tx:=List UInt8
inductive Nd where
 |mk (kind num:Int) (text n0 n1 trail:Tx) (lead tail:List Tx) (pos:Int) (subs decls:List Nd)
@[reducible] def dI (n:Int):D:=.lit (.int .i64 n)
@[reducible] def dS (s:Tx):D:=.lit (Zco s)
def txs(l:List Tx):List (List D):=l.map fun s=>[dS s]
mutual
def encE:Nd->List D
 |.mk k n t a b _ _ ta p s d=>[dI k,dS t,dI n,dS a,dS b,.slc (Ya1 s),.slc (Yaj d),.slc (txs ta),dI p]
def Ya1:List Nd->List (List D)
 |[]=>[]
 |r::l=>encE r::Ya1 l
def encD:Nd->List D
 |.mk k n t a b tr le ta p s d=>[dI k,dI n,dS t,dS a,dS b,.slc (Ya1 s),.slc (Yaj d),.slc (txs ta),.slc (txs le),dS tr,dI p]
def Yaj:List Nd->List (List D)
 |[]=>[]
 |r::l=>encD r::Yaj l
end
mutual
def size:Nd->Nat
 |.mk _ _ _ _ _ _ _ _ _ s d=>1+sizes s+sizes d
def sizes:List Nd->Nat
 |[]=>0
 |r::l=>size r+sizes l
end
namespace Nd
def kind:Nd->Int|mk k _ _ _ _ _ _ _ _ _ _=>k
def num:Nd->Int|mk _ n _ _ _ _ _ _ _ _ _=>n
def text:Nd->Tx|mk _ _ t _ _ _ _ _ _ _ _=>t
def n0:Nd->Tx|mk _ _ _ a _ _ _ _ _ _ _=>a
def n1:Nd->Tx|mk _ _ _ _ b _ _ _ _ _ _=>b
def trail:Nd->Tx|mk _ _ _ _ _ t _ _ _ _ _=>t
def lead:Nd->List Tx|mk _ _ _ _ _ _ l _ _ _ _=>l
def tail:Nd->List Tx|mk _ _ _ _ _ _ _ t _ _ _=>t
def pos:Nd->Int|mk _ _ _ _ _ _ _ _ p _ _=>p
def subs:Nd->List Nd|mk _ _ _ _ _ _ _ _ _ s _=>s
def decls:Nd->List Nd|mk _ _ _ _ _ _ _ _ _ _ d=>d
end Nd
theorem Ybv(r:Nd):encE r=[dI r.kind,dS r.text,dI r.num,dS r.n0,dS r.n1,.slc (Ya1 r.subs),.slc (Yaj r.decls),.slc (txs r.tail),dI r.pos]:=by cases r;simp[encE,Nd.kind,Nd.text,Nd.num,Nd.n0,Nd.n1,Nd.subs,Nd.decls,Nd.tail,Nd.pos]
theorem Ybj(r:Nd):encD r=[dI r.kind,dI r.num,dS r.text,dS r.n0,dS r.n1,.slc (Ya1 r.subs),.slc (Yaj r.decls),.slc (txs r.tail),.slc (txs r.lead),dS r.trail,dI r.pos]:=by cases r;simp[encD,Nd.kind,Nd.text,Nd.num,Nd.n0,Nd.n1,Nd.subs,Nd.decls,Nd.tail,Nd.pos,Nd.lead,Nd.trail]
@[simp] theorem Yah:∀l,(Ya1 l).length=l.length
  |[]=>rfl
  |r::l=>by simp[Ya1,Yah l]
@[simp] theorem Yai:∀l,(Yaj l).length=l.length
  |[]=>rfl
  |r::l=>by simp[Yaj,Yai l]
theorem Yca:∀l,Ya1 l=l.map encE
 |[]=>rfl
 |r::l=>by simp[Ya1,Yca l]
theorem Ycb:∀l,Yaj l=l.map encD
 |[]=>rfl
 |r::l=>by simp[Yaj,Ycb l]
@[simp] theorem Yi0 (l m:List Nd):Ya1 l++Ya1 m=Ya1 (l++m):=by simp[Yca]
@[simp] theorem Yi1 (l m:List Nd):Yaj l++Yaj m=Yaj (l++m):=by simp[Ycb]
@[simp] theorem Yao (l:List Tx):(txs l).length=l.length:=by simp[txs]
@[simp] theorem Ygd (l m:List Tx):txs l++txs m=txs (l++m):=by simp[txs]
@[simp] theorem Yam (r:Nd):(encE r).length=9:=by rw[Ybv];rfl
@[simp] theorem Yap (r:Nd):(encD r).length=11:=by rw[Ybj];rfl
@[simp] theorem e0 (r:Nd):(encE r).getD 0 D0=dI r.kind:=by rw[Ybv];rfl
@[simp] theorem e1 (r:Nd):(encE r).getD 1 D0=dS r.text:=by rw[Ybv];rfl
@[simp] theorem e2 (r:Nd):(encE r).getD 2 D0=dI r.num:=by rw[Ybv];rfl
@[simp] theorem e3 (r:Nd):(encE r).getD 3 D0=dS r.n0:=by rw[Ybv];rfl
@[simp] theorem e4 (r:Nd):(encE r).getD 4 D0=dS r.n1:=by rw[Ybv];rfl
@[simp] theorem e5 (r:Nd):(encE r).getD 5 D0=.slc (Ya1 r.subs):=by rw[Ybv];rfl
@[simp] theorem e6 (r:Nd):(encE r).getD 6 D0=.slc (Yaj r.decls):=by rw[Ybv];rfl
@[simp] theorem e7 (r:Nd):(encE r).getD 7 D0=.slc (txs r.tail):=by rw[Ybv];rfl
@[simp] theorem e8 (r:Nd):(encE r).getD 8 D0=dI r.pos:=by rw[Ybv];rfl
@[simp] theorem d0 (r:Nd):(encD r).getD 0 D0=dI r.kind:=by rw[Ybj];rfl
@[simp] theorem d1 (r:Nd):(encD r).getD 1 D0=dI r.num:=by rw[Ybj];rfl
@[simp] theorem d2 (r:Nd):(encD r).getD 2 D0=dS r.text:=by rw[Ybj];rfl
@[simp] theorem d3 (r:Nd):(encD r).getD 3 D0=dS r.n0:=by rw[Ybj];rfl
@[simp] theorem d4 (r:Nd):(encD r).getD 4 D0=dS r.n1:=by rw[Ybj];rfl
@[simp] theorem d5 (r:Nd):(encD r).getD 5 D0=.slc (Ya1 r.subs):=by rw[Ybj];rfl
@[simp] theorem d6 (r:Nd):(encD r).getD 6 D0=.slc (Yaj r.decls):=by rw[Ybj];rfl
@[simp] theorem d7 (r:Nd):(encD r).getD 7 D0=.slc (txs r.tail):=by rw[Ybj];rfl
@[simp] theorem d8 (r:Nd):(encD r).getD 8 D0=.slc (txs r.lead):=by rw[Ybj];rfl
@[simp] theorem d9 (r:Nd):(encD r).getD 9 D0=dS r.trail:=by rw[Ybj];rfl
@[simp] theorem d10 (r:Nd):(encD r).getD 10 D0=dI r.pos:=by rw[Ybj];rfl
theorem Ybg{l:List Nd}{i:Nat}{x:Int}(hx:x=i)(h:i<l.length):gAt (Ya1 l) x=encE l[i]:=by
 subst hx;simp[gAt,Yca,List.getD,h]
theorem Yck{l:List Nd}{i:Nat}{x:Int}(hx:x=i)(h:i<l.length):gAt (Yaj l) x=encD l[i]:=by
 subst hx;simp[gAt,Ycb,List.getD,h]
theorem Yjz{l:List Tx}{i:Nat}{x:Int}(hx:x=i)(h:i<l.length):gAt (txs l) x=[dS l[i]]:=by
 subst hx;simp[gAt,txs,List.getD,h]
@[simp] theorem isK_int (k:IntKind) (n:Int):Rf.isK (.int k) (.lit (.int k n))=true:=by simp[Rf.isK]
@[simp] theorem isK_bool (b:Bool):Rf.isK .bool (.lit (.bool b))=true:=rfl
@[simp] theorem isK_slc (l:List (List D)):Rf.isK .slc (.slc l)=true:=rfl
@[simp] theorem Yae (l:Tx):Rf.isK .str (.lit (Zco l))=true:=rfl
@[simp] theorem dint_int (k:IntKind) (n:Int):Rf.dint (.lit (.int k n))=n:=rfl
@[simp] theorem dbool_bool (b:Bool):Rf.dbool (.lit (.bool b))=b:=rfl
@[simp] theorem dlst_slc (l:List (List D)):Rf.dlst (.slc l)=l:=rfl
theorem size_eq(r:Nd):size r=1+sizes r.subs+sizes r.decls:=by cases r;rfl
theorem size_pos(r:Nd):1<=size r:=by rw[size_eq];omega
theorem Ybx{r:Nd}:∀{l:List Nd},r∈l->size r<=sizes l
 |x::l,h=>by
  simp only[List.mem_cons]at h;rcases h with rfl|h
  ·simp[sizes]
  ·have:=Ybx h;simp[sizes];omega
theorem size_sub{r x:Nd}(h:x∈r.subs):size x<size r:=by have:=Ybx h;rw[size_eq r];omega
theorem Yib{r x:Nd}(h:x∈r.decls):size x<size r:=by have:=Ybx h;rw[size_eq r];omega
theorem Yax{p:Nd->Prop}(h:∀r,(∀x∈r.subs,p x)->(∀x∈r.decls,p x)->p r):∀r,p r:=by
 have key:∀(n:Nat)(r:Nd),size r<=n->p r:=by
  intro n
  induction n with
  |zero=>intro r hr;have:=size_pos r;omega
  |succ n ih=>exact fun r hr=>h r (fun x hx=>ih x (by have:=size_sub hx;omega)) fun x hx=>ih x (by have:=Yib hx;omega)
 exact fun r=>key _ r (Nat.le_refl _)
inductive All (p:Nd->Prop):Nd->Prop
 |mk {r:Nd}:p r->(∀x∈r.subs,All p x)->(∀x∈r.decls,All p x)->All p r
theorem All.here{p:Nd->Prop}{r:Nd}(h:All p r):p r:=by cases h;assumption
theorem All.sub{p:Nd->Prop}{r x:Nd}(h:All p r)(hx:x∈r.subs):All p x:=by cases h with|mk _ h2 _=>exact h2 x hx
theorem All.dec{p:Nd->Prop}{r x:Nd}(h:All p r)(hx:x∈r.decls):All p x:=by cases h with|mk _ _ h2=>exact h2 x hx
theorem All.mono{p q:Nd->Prop}(h:∀r,p r->q r){r:Nd}(hr:All p r):All q r:=by
 induction hr with
 |mk h1 _ _ h4 h5=>exact .mk (h _ h1) h4 h5
end Go.Sy
end
section
open Go Go.Ab Go.Rf
set_option linter.unusedSimpArgs false
namespace Go.Sy
def Ret(v:A):Out->List (Ref×List A)->Prop:=fun o H=>o=.ret v/\H=[]
@[simp] theorem ret_iff {v u:A} {H:List (Ref×List A)}:Ret v (.ret u) H↔u=v/\H=[]:=by simp[Ret]
@[simp] theorem pan_iff {v:A} {u:Value} {H:List (Ref×List A)}:Ret v (.pan u) H↔False:=by simp[Ret]
theorem call1{P:Program}{f:Nat}{args:List A}{v:A}(hc:Holds P f args [] (Ret v)){Q1:A->List (Ref×List A)->Prop}{Q2:Value->List (Ref×List A)->Prop}(h:Q1 v []):
 ∀_:Nat->Nat,∃R':Out->List (Ref×List A)->Prop,Holds P f args [] R'/\(∀v H',R' (.ret v) H'->Q1 v H')/\(∀u H',R' (.pan u) H'->Q2 u H'):=
 fun _=>⟨_,hc,fun v' H' e=>by obtain⟨e1,rfl⟩:=e;cases e1;exact h,fun u H' e=>by cases e.1⟩
def RetB(v:A)(K:List (Ref×List A)):Out->List (Ref×List A)->Prop:=fun o H=>o=.ret v/\H=K
theorem callB{P:Program}{f:Nat}{args:List A}{K0 K:List (Ref×List A)}{v:A}(hc:Holds P f args K0 (RetB v K)){Q1:A->List (Ref×List A)->Prop}{Q2:Value->List (Ref×List A)->Prop}(h:Q1 v K):
 ∀_:Nat->Nat,∃R':Out->List (Ref×List A)->Prop,Holds P f args K0 R'/\(∀v H',R' (.ret v) H'->Q1 v H')/\(∀u H',R' (.pan u) H'->Q2 u H'):=
 fun _=>⟨_,hc,fun v' H' e=>by obtain⟨e1,rfl⟩:=e;cases e1;exact h,fun u H' e=>by cases e.1⟩
theorem tle{a b:Int}(h:a<=b):(tB (decide (a<=b)))=true:=by simp[h]
theorem tlt{a b:Int}(h:a<b):(tB (decide (a<b)))=true:=by simp[h]
theorem teq{a b:Int}(h:a=b):(tB (a==b))=true:=by simp[h]
theorem of_tle{a b:Int}(h:(tB (decide (a<=b)))=true):a<=b:=by simpa using h
theorem of_tlt{a b:Int}(h:(tB (decide (a<b)))=true):a<b:=by simpa using h
theorem of_teq{a b:Int}(h:(tB (a==b))=true):a=b:=by simpa using h
theorem of_fle{a b:Int}(h:(tB (decide (a<=b)))=false):b<a:=by simpa using h
theorem of_flt{a b:Int}(h:(tB (decide (a<b)))=false):b<=a:=by simpa using h
theorem of_feq{a b:Int}(h:(tB (a==b))=false):a≠b:=by simpa using h
theorem Ybc{a b:Tx}(h:(tB (a==b))=true):a=b:=by simpa using h
theorem Ybo{a b:Tx}(h:(tB (a==b))=false):a≠b:=by simpa using h
@[simp] theorem Yal (l:Tx):Rf.dstr (.lit (Zco l))=l:=by simp[Rf.dstr,Zco]
@[reducible] def intA (n:Int):A:=.d (.lit (.int .i64 n))
@[reducible] def Yaf (b:Bool):A:=.d (.lit (.bool b))
@[reducible] def strA (s:Tx):A:=.d (.lit (Zco s))
@[reducible] def slA (l:List (List D)):A:=.d (.slc l)
theorem Yab{α:Type}{l:List α}{i:Nat}(h:i<l.length):l.drop i=l[i]::l.drop (i+1):=List.drop_eq_getElem_cons h
theorem Yad{α:Type}{l:List α}{i:Nat}(h:l.length<=i):l.drop i=[]:=List.drop_eq_nil_of_le h
theorem gT0{l:List Tx}{i:Nat}(h:i<l.length):(gAt (txs l) (i:Int)).getD 0 D0=dS l[i]:=by rw[Yjz rfl h];rfl
theorem gT1{l:List Tx}{i:Nat}(h:i<l.length):(gAt (txs l) (i:Int)).length=1:=by rw[Yjz rfl h];rfl
theorem dec{n i:Nat}(h:i<n):n-((i:Int)+1).toNat<n-(i:Int).toNat:=by omega
theorem nb1{b:Bool}(h:(!b)=true):b=false:=by simpa using h
theorem nb0{b:Bool}(h:(!b)=false):b=true:=by simpa using h
theorem Ybu(l:List Tx):Zwd 1 (txs l)=true:=by simp[Zwd,txs]
def Lim(r:Nd):Prop:=r.subs.length<=2^50/\r.decls.length<=2^50/\r.tail.length<=2^50/\r.lead.length<=2^50
abbrev Lm(r:Nd):Prop:=All Lim r
end Go.Sy
end
