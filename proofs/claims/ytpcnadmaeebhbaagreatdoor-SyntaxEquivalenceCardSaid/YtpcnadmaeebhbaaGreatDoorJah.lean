/- Part 8 of the proof: SyB, SyW. -/
import Derived.Test.YtpcnadmaeebhbaaGreatDoorJag
set_option linter.unusedVariables false
set_option linter.unusedSimpArgs false
section
open Go Go.Ab Go.Rf
set_option linter.unusedSimpArgs false
namespace Go.Sy
abbrev Tx:=List UInt8
inductive Nd where
 |mk (kind num:Int) (text n0 n1 trail:Tx) (lead tail:List Tx) (pos:Int) (subs decls:List Nd)
@[reducible] def dI (n:Int):D:=.lit (.int .i64 n)
@[reducible] def dS (s:Tx):D:=.lit (Zco s)
def txs(l:List Tx):List (List D):=l.map fun s=>[dS s]
mutual
def encE:Nd->List D
 |.mk k n t a b _ _ ta p s d=>[dI k,dS t,dI n,dS a,dS b,.slc (Yaz s),.slc (Yai d),.slc (txs ta),dI p]
def Yaz:List Nd->List (List D)
 |[]=>[]
 |r::l=>encE r::Yaz l
def encD:Nd->List D
 |.mk k n t a b tr le ta p s d=>[dI k,dI n,dS t,dS a,dS b,.slc (Yaz s),.slc (Yai d),.slc (txs ta),.slc (txs le),dS tr,dI p]
def Yai:List Nd->List (List D)
 |[]=>[]
 |r::l=>encD r::Yai l
end
mutual
def size:Nd->Nat
 |.mk _ _ _ _ _ _ _ _ _ s d=>1+sizes s+sizes d
def sizes:List Nd->Nat
 |[]=>0
 |r::l=>size r+sizes l
end
namespace Nd
def kind:Nd->Int|mk k _ _ _ _ _ _ _ _ _ _=>k
def num:Nd->Int|mk _ n _ _ _ _ _ _ _ _ _=>n
def text:Nd->Tx|mk _ _ t _ _ _ _ _ _ _ _=>t
def n0:Nd->Tx|mk _ _ _ a _ _ _ _ _ _ _=>a
def n1:Nd->Tx|mk _ _ _ _ b _ _ _ _ _ _=>b
def trail:Nd->Tx|mk _ _ _ _ _ t _ _ _ _ _=>t
def lead:Nd->List Tx|mk _ _ _ _ _ _ l _ _ _ _=>l
def tail:Nd->List Tx|mk _ _ _ _ _ _ _ t _ _ _=>t
def pos:Nd->Int|mk _ _ _ _ _ _ _ _ p _ _=>p
def subs:Nd->List Nd|mk _ _ _ _ _ _ _ _ _ s _=>s
def decls:Nd->List Nd|mk _ _ _ _ _ _ _ _ _ _ d=>d
end Nd
theorem Ybu(r:Nd):encE r=[dI r.kind,dS r.text,dI r.num,dS r.n0,dS r.n1,.slc (Yaz r.subs),.slc (Yai r.decls),.slc (txs r.tail),dI r.pos]:=by cases r;simp[encE,Nd.kind,Nd.text,Nd.num,Nd.n0,Nd.n1,Nd.subs,Nd.decls,Nd.tail,Nd.pos]
theorem Ybh(r:Nd):encD r=[dI r.kind,dI r.num,dS r.text,dS r.n0,dS r.n1,.slc (Yaz r.subs),.slc (Yai r.decls),.slc (txs r.tail),.slc (txs r.lead),dS r.trail,dI r.pos]:=by cases r;simp[encD,Nd.kind,Nd.text,Nd.num,Nd.n0,Nd.n1,Nd.subs,Nd.decls,Nd.tail,Nd.pos,Nd.lead,Nd.trail]
@[simp] theorem Yaf:∀l,(Yaz l).length=l.length
  |[]=>rfl
  |r::l=>by simp[Yaz,Yaf l]
@[simp] theorem Yag:∀l,(Yai l).length=l.length
  |[]=>rfl
  |r::l=>by simp[Yai,Yag l]
theorem Yb7:∀l,Yaz l=l.map encE
 |[]=>rfl
 |r::l=>by simp[Yaz,Yb7 l]
theorem Yb8:∀l,Yai l=l.map encD
 |[]=>rfl
 |r::l=>by simp[Yai,Yb8 l]
@[simp] theorem Yiq (l m:List Nd):Yaz l++Yaz m=Yaz (l++m):=by simp[Yb7]
@[simp] theorem Yir (l m:List Nd):Yai l++Yai m=Yai (l++m):=by simp[Yb8]
@[simp] theorem Yan (l:List Tx):(txs l).length=l.length:=by simp[txs]
@[simp] theorem Yf2 (l m:List Tx):txs l++txs m=txs (l++m):=by simp[txs]
@[simp] theorem Yal (r:Nd):(encE r).length=9:=by rw[Ybu];rfl
@[simp] theorem Yao (r:Nd):(encD r).length=11:=by rw[Ybh];rfl
@[simp] theorem e0 (r:Nd):(encE r).getD 0 D0=dI r.kind:=by rw[Ybu];rfl
@[simp] theorem e1 (r:Nd):(encE r).getD 1 D0=dS r.text:=by rw[Ybu];rfl
@[simp] theorem e2 (r:Nd):(encE r).getD 2 D0=dI r.num:=by rw[Ybu];rfl
@[simp] theorem e3 (r:Nd):(encE r).getD 3 D0=dS r.n0:=by rw[Ybu];rfl
@[simp] theorem e4 (r:Nd):(encE r).getD 4 D0=dS r.n1:=by rw[Ybu];rfl
@[simp] theorem e5 (r:Nd):(encE r).getD 5 D0=.slc (Yaz r.subs):=by rw[Ybu];rfl
@[simp] theorem e6 (r:Nd):(encE r).getD 6 D0=.slc (Yai r.decls):=by rw[Ybu];rfl
@[simp] theorem e7 (r:Nd):(encE r).getD 7 D0=.slc (txs r.tail):=by rw[Ybu];rfl
@[simp] theorem e8 (r:Nd):(encE r).getD 8 D0=dI r.pos:=by rw[Ybu];rfl
@[simp] theorem d0 (r:Nd):(encD r).getD 0 D0=dI r.kind:=by rw[Ybh];rfl
@[simp] theorem d1 (r:Nd):(encD r).getD 1 D0=dI r.num:=by rw[Ybh];rfl
@[simp] theorem d2 (r:Nd):(encD r).getD 2 D0=dS r.text:=by rw[Ybh];rfl
@[simp] theorem d3 (r:Nd):(encD r).getD 3 D0=dS r.n0:=by rw[Ybh];rfl
@[simp] theorem d4 (r:Nd):(encD r).getD 4 D0=dS r.n1:=by rw[Ybh];rfl
@[simp] theorem d5 (r:Nd):(encD r).getD 5 D0=.slc (Yaz r.subs):=by rw[Ybh];rfl
@[simp] theorem d6 (r:Nd):(encD r).getD 6 D0=.slc (Yai r.decls):=by rw[Ybh];rfl
@[simp] theorem d7 (r:Nd):(encD r).getD 7 D0=.slc (txs r.tail):=by rw[Ybh];rfl
@[simp] theorem d8 (r:Nd):(encD r).getD 8 D0=.slc (txs r.lead):=by rw[Ybh];rfl
@[simp] theorem d9 (r:Nd):(encD r).getD 9 D0=dS r.trail:=by rw[Ybh];rfl
@[simp] theorem d10 (r:Nd):(encD r).getD 10 D0=dI r.pos:=by rw[Ybh];rfl
theorem Ybd{l:List Nd}{i:Nat}{x:Int}(hx:x=i)(h:i<l.length):gAt (Yaz l) x=encE l[i]:=by
 subst hx;simp[gAt,Yb7,List.getD,h]
theorem Ycf{l:List Nd}{i:Nat}{x:Int}(hx:x=i)(h:i<l.length):gAt (Yai l) x=encD l[i]:=by
 subst hx;simp[gAt,Yb8,List.getD,h]
theorem Yjr{l:List Tx}{i:Nat}{x:Int}(hx:x=i)(h:i<l.length):gAt (txs l) x=[dS l[i]]:=by
 subst hx;simp[gAt,txs,List.getD,h]
@[simp] theorem isK_int (k:IntKind) (n:Int):Rf.isK (.int k) (.lit (.int k n))=true:=by simp[Rf.isK]
@[simp] theorem isK_bool (b:Bool):Rf.isK .bool (.lit (.bool b))=true:=rfl
@[simp] theorem isK_slc (l:List (List D)):Rf.isK .slc (.slc l)=true:=rfl
@[simp] theorem Yad (l:Tx):Rf.isK .str (.lit (Zco l))=true:=rfl
@[simp] theorem dint_int (k:IntKind) (n:Int):Rf.dint (.lit (.int k n))=n:=rfl
@[simp] theorem dbool_bool (b:Bool):Rf.dbool (.lit (.bool b))=b:=rfl
@[simp] theorem dlst_slc (l:List (List D)):Rf.dlst (.slc l)=l:=rfl
theorem size_eq(r:Nd):size r=1+sizes r.subs+sizes r.decls:=by cases r;rfl
theorem size_pos(r:Nd):1<=size r:=by rw[size_eq];omega
theorem Ybw{r:Nd}:∀{l:List Nd},r∈l->size r<=sizes l
 |x::l,h=>by
  simp only[List.mem_cons]at h;rcases h with rfl|h
  ·simp[sizes]
  ·have:=Ybw h;simp[sizes];omega
theorem size_sub{r x:Nd}(h:x∈r.subs):size x<size r:=by have:=Ybw h;rw[size_eq r];omega
theorem Yh4{r x:Nd}(h:x∈r.decls):size x<size r:=by have:=Ybw h;rw[size_eq r];omega
theorem Ya0{p:Nd->Prop}(h:∀r,(∀x∈r.subs,p x)->(∀x∈r.decls,p x)->p r):∀r,p r:=by
 have key:∀(n:Nat)(r:Nd),size r<=n->p r:=by
  intro n
  induction n with
  |zero=>intro r hr;have:=size_pos r;omega
  |succ n ih=>exact fun r hr=>h r (fun x hx=>ih x (by have:=size_sub hx;omega)) fun x hx=>ih x (by have:=Yh4 hx;omega)
 exact fun r=>key _ r (Nat.le_refl _)
inductive All (p:Nd->Prop):Nd->Prop
 |mk {r:Nd}:p r->(∀x∈r.subs,All p x)->(∀x∈r.decls,All p x)->All p r
theorem All.here{p:Nd->Prop}{r:Nd}(h:All p r):p r:=by cases h;assumption
theorem All.sub{p:Nd->Prop}{r x:Nd}(h:All p r)(hx:x∈r.subs):All p x:=by cases h with|mk _ h2 _=>exact h2 x hx
theorem All.dec{p:Nd->Prop}{r x:Nd}(h:All p r)(hx:x∈r.decls):All p x:=by cases h with|mk _ _ h2=>exact h2 x hx
theorem All.mono{p q:Nd->Prop}(h:∀r,p r->q r){r:Nd}(hr:All p r):All q r:=by
 induction hr with
 |mk h1 _ _ h4 h5=>exact .mk (h _ h1) h4 h5
end Go.Sy
end
section
open Go Go.Ab Go.Rf
set_option linter.unusedSimpArgs false
namespace Go.Sy
def Ret(v:A):Out->List (Ref×List A)->Prop:=fun o H=>o=.ret v/\H=[]
@[simp] theorem ret_iff {v u:A} {H:List (Ref×List A)}:Ret v (.ret u) H↔u=v/\H=[]:=by simp[Ret]
@[simp] theorem pan_iff {v:A} {u:Value} {H:List (Ref×List A)}:Ret v (.pan u) H↔False:=by simp[Ret]
theorem call1{P:Program}{f:Nat}{args:List A}{v:A}(hc:Holds P f args [] (Ret v)){Q1:A->List (Ref×List A)->Prop}{Q2:Value->List (Ref×List A)->Prop}(h:Q1 v []):
 ∀_:Nat->Nat,∃R':Out->List (Ref×List A)->Prop,Holds P f args [] R'/\(∀v H',R' (.ret v) H'->Q1 v H')/\(∀u H',R' (.pan u) H'->Q2 u H'):=
 fun _=>⟨_,hc,fun v' H' e=>by obtain⟨e1,rfl⟩:=e;cases e1;exact h,fun u H' e=>by cases e.1⟩
def RetB(v:A)(K:List (Ref×List A)):Out->List (Ref×List A)->Prop:=fun o H=>o=.ret v/\H=K
theorem callB{P:Program}{f:Nat}{args:List A}{K0 K:List (Ref×List A)}{v:A}(hc:Holds P f args K0 (RetB v K)){Q1:A->List (Ref×List A)->Prop}{Q2:Value->List (Ref×List A)->Prop}(h:Q1 v K):
 ∀_:Nat->Nat,∃R':Out->List (Ref×List A)->Prop,Holds P f args K0 R'/\(∀v H',R' (.ret v) H'->Q1 v H')/\(∀u H',R' (.pan u) H'->Q2 u H'):=
 fun _=>⟨_,hc,fun v' H' e=>by obtain⟨e1,rfl⟩:=e;cases e1;exact h,fun u H' e=>by cases e.1⟩
theorem tle{a b:Int}(h:a<=b):(tB (decide (a<=b)))=true:=by simp[h]
theorem tlt{a b:Int}(h:a<b):(tB (decide (a<b)))=true:=by simp[h]
theorem teq{a b:Int}(h:a=b):(tB (a==b))=true:=by simp[h]
theorem of_tle{a b:Int}(h:(tB (decide (a<=b)))=true):a<=b:=by simpa using h
theorem of_tlt{a b:Int}(h:(tB (decide (a<b)))=true):a<b:=by simpa using h
theorem of_teq{a b:Int}(h:(tB (a==b))=true):a=b:=by simpa using h
theorem of_fle{a b:Int}(h:(tB (decide (a<=b)))=false):b<a:=by simpa using h
theorem of_flt{a b:Int}(h:(tB (decide (a<b)))=false):b<=a:=by simpa using h
theorem of_feq{a b:Int}(h:(tB (a==b))=false):a≠b:=by simpa using h
theorem Yba{a b:Tx}(h:(tB (a==b))=true):a=b:=by simpa using h
theorem Ybo{a b:Tx}(h:(tB (a==b))=false):a≠b:=by simpa using h
@[simp] theorem Yak (l:Tx):Rf.dstr (.lit (Zco l))=l:=by simp[Rf.dstr,Zco]
@[reducible] def intA (n:Int):A:=.d (.lit (.int .i64 n))
@[reducible] def Yae (b:Bool):A:=.d (.lit (.bool b))
@[reducible] def strA (s:Tx):A:=.d (.lit (Zco s))
@[reducible] def slA (l:List (List D)):A:=.d (.slc l)
theorem Yaa{α:Type}{l:List α}{i:Nat}(h:i<l.length):l.drop i=l[i]::l.drop (i+1):=List.drop_eq_getElem_cons h
theorem Yac{α:Type}{l:List α}{i:Nat}(h:l.length<=i):l.drop i=[]:=List.drop_eq_nil_of_le h
theorem gT0{l:List Tx}{i:Nat}(h:i<l.length):(gAt (txs l) (i:Int)).getD 0 D0=dS l[i]:=by rw[Yjr rfl h];rfl
theorem gT1{l:List Tx}{i:Nat}(h:i<l.length):(gAt (txs l) (i:Int)).length=1:=by rw[Yjr rfl h];rfl
theorem dec{n i:Nat}(h:i<n):n-((i:Int)+1).toNat<n-(i:Int).toNat:=by omega
theorem nb1{b:Bool}(h:(!b)=true):b=false:=by simpa using h
theorem nb0{b:Bool}(h:(!b)=false):b=true:=by simpa using h
theorem Ybt(l:List Tx):Zwd 1 (txs l)=true:=by simp[Zwd,txs]
def Lim(r:Nd):Prop:=r.subs.length<=2^50/\r.decls.length<=2^50/\r.tail.length<=2^50/\r.lead.length<=2^50
abbrev Lm(r:Nd):Prop:=All Lim r
end Go.Sy
end
