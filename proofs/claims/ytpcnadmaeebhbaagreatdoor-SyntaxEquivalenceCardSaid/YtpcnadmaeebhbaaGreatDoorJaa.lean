/- Part 1 of the proof: AbRep, AbRel, AbHeap, AbEval, AbSteps, AbSteps2, AbOps1, AbOps2, AbOps3, AbOps4, AbOps5, AbOps6, AbOps7, AbOps8, AbOps9, AbOps10, AbOps11, AbMaster, AbOp, AbCall. -/
import Derived.Orders
import Derived.Below
import Derived.Laws.StructEq
import Derived.Laws.Entries
import Derived.Laws.Tables
import Derived.Laws.Append
import Derived.ChangeKeysEq
import Derived.Laws.Slices
import Derived.Laws.Build
import Derived.Laws.BytesString
set_option linter.unusedVariables false
set_option linter.unusedSimpArgs false
section
namespace Go.Ab
inductive D where
 |lit (v:Value)
 |slc (es:List (List D))
inductive Ref where
 |own (t n:Nat)
 |up (r:Ref)
inductive A where
 |any
 |d (x:D)
 |agg (l:List D)
 |tup (l:List (Bool×List D))
 |ptr (r:Ref) (off:Nat)
 |elp (l:List D)
 |own (sz:Nat) (es nw:List (List D))
 |zs (es:List (List D))
 |als (t n:Nat)
 |opt (t n sz i j:Nat)
 |fn (f:FuncId) (caps:List Ref)
 |ags (pre:List D) (sz:Nat) (es nw:List (List D)) (post:List D)
def A.isOwn:A->Bool
 |.own _ _ _=>true
 |.ags _ _ _ _ _=>true
 |_=>false
inductive Place where
 |slot (t:Nat)
 |cell (r:Ref) (j:Nat)
 |res
structure Gh where
 Pr:Nat->Nat->Prop
 ow:Place->Nat
 bx:Ref->Nat
 U:Ref->Prop
def isCell:Value->Bool
 |.agg _|.tuple _=>false
 |_=>true
inductive RepD (w:World) (Pr:Nat->Nat->Prop):D->Value->Prop
 |lit (v:Value) (h:isCell v=true):RepD w Pr (.lit v) v
 |emp (a:Option Addr) (c:Nat):RepD w Pr (.slc []) (.slice a 0 c)
 |slc (es:List (List D)) (sz b off cap:Nat) (vs:Nat->Value) (h0:0<sz) (hl:∀e∈es,e.length=sz) (hc:es.length<=cap)
   (hv:∀k,k<es.length*sz->w.cell? ⟨b,off+k,none⟩=some (vs k))
   (hp:∀k,k<es.length*sz->Pr b (off+k))
   (hr:∀i j (hi:i<es.length) (hj:j<es[i].length),RepD w Pr es[i][j] (vs (i*sz+j))):
   RepD w Pr (.slc es) (.slice (some ⟨b,off,none⟩) es.length cap)
theorem RepD.mono{w w':World}{Pr Pr':Nat->Nat->Prop}(hc:∀b o,Pr b o->w'.cell? ⟨b,o,none⟩=w.cell? ⟨b,o,none⟩)(hp:∀b o,Pr b o->Pr' b o)
 {x:D} {v:Value} (h:RepD w Pr x v):RepD w' Pr' x v:=by
 induction h with
 |lit v h=>exact .lit v h
 |emp a c=>exact .emp a c
 |slc es sz b off cap vs h0 hl hcap hv hpr _ ih=>
  exact .slc es sz b off cap vs h0 hl hcap (fun k hk=>by rw[hc _ _ (hpr k hk)];exact hv k hk) (fun k hk=>hp _ _ (hpr k hk)) ih
theorem RepD.isCell{w:World}{Pr:Nat->Nat->Prop}{x:D}{v:Value}(h:RepD w Pr x v):isCell v=true:=by
 cases h with
 |lit v h=>exact h
 |emp a c=>rfl
 |slc=>rfl
def Row(w:World)(b:Nat)(cs:Array Value):Prop:=∃el,w.heap[b]? =some (.cells cs el (0,0))
theorem Row.cell{w:World}{b:Nat}{cs:Array Value}(h:Row w b cs)(o:Nat):w.cell? ⟨b,o,none⟩=cs[o]? :=by
 obtain⟨el,h⟩:=h;simp[World.cell?,h]
theorem Row.frozen{w:World}{b:Nat}{cs:Array Value}(h:Row w b cs)(o:Nat):w.frozen? ⟨b,o,none⟩=false:=by
 obtain⟨el,h⟩:=h;simp[World.frozen?,h]
theorem Row.lt{w:World}{b:Nat}{cs:Array Value}(h:Row w b cs):b<w.heap.size:=by
 obtain⟨el,h⟩:=h;exact(Array.getElem?_eq_some_iff.1 h).1
theorem Row.of_same{w w':World}{b:Nat}{cs:Array Value}(h:Row w b cs)(e:w'.heap[b]? =w.heap[b]?):Row w' b cs:=by
 obtain⟨el,h⟩:=h;exact⟨el,by rw[e,h]⟩
theorem Row.unique{w:World}{b:Nat}{cs cs':Array Value}(h:Row w b cs)(h':Row w b cs'):cs=cs':=by
 obtain⟨el,h⟩:=h;obtain⟨el',h'⟩:=h';rw[h]at h';cases h';rfl
def RefOk(g:Gh)(gen:Nat->Nat):Ref->Prop
 |.own t n=>n<gen t
 |.up r=>g.U r
def Elems(w:World)(Pr:Nat->Nat->Prop)(cs:Array Value)(sz:Nat)(es:List (List D)):Prop:=
 ∀i j (hi:i<es.length) (hj:j<es[i].length),∃v,cs[i*sz+j]? =some v/\RepD w Pr es[i][j] v
theorem Elems.mono{w w':World}{Pr Pr':Nat->Nat->Prop}(hc:∀b o,Pr b o->w'.cell? ⟨b,o,none⟩=w.cell? ⟨b,o,none⟩)(hp:∀b o,Pr b o->Pr' b o)
 {cs:Array Value} {sz:Nat} {es:List (List D)} (h:Elems w Pr cs sz es):Elems w' Pr' cs sz es:=fun i j hi hj=>
 let⟨v,h1,h2⟩:=h i j hi hj
 ⟨v,h1,h2.mono hc hp⟩
structure OwnRep (w:World) (Pr:Nat->Nat->Prop) (b:Nat) (es nw:List (List D)) (v:Value) (cap sz:Nat) (cs:Array Value):Prop where
 val:v=.slice (some ⟨b,0,none⟩) (es.length+nw.length) cap
 row:Row w b cs
 pos:0<sz
 size:cs.size=cap*sz
 room:es.length+nw.length<=cap
 len:∀e∈es++nw,e.length=sz
 elems:Elems w Pr cs sz (es++nw)
 prot:∀o,Pr b o↔o<es.length*sz
def All2{α β:Type}(R:α->β->Prop):List α->List β->Prop
 |[],[]=>True
 |a::l,b::m=>R a b/\All2 R l m
 |_,_=>False
theorem All2.mono{α β:Type}{R S:α->β->Prop}(h:∀a b,R a b->S a b):∀{l:List α}{m:List β},All2 R l m->All2 S l m
 |[],[],_=>trivial
 |_::_,_::_,⟨a,t⟩=>⟨h _ _ a,All2.mono h t⟩
 |[],_::_,h=>h.elim
 |_::_,[],h=>h.elim
def RepT(w:World)(Pr:Nat->Nat->Prop):Bool×List D->Value->Prop
 |(true,l),v=>∃cs:List Value,v=.agg cs.toArray/\All2 (RepD w Pr) l cs
 |(false,l),v=>∃x,l=[x]/\RepD w Pr x v
def RepA(w:World)(g:Gh)(gen:Nat->Nat)(p:Place):A->Value->Prop
 |.any,_=>True
 |.d x,v=>RepD w g.Pr x v
 |.agg l,v=>∃cs:List Value,v=.agg cs.toArray/\All2 (RepD w g.Pr) l cs
 |.tup l,v=>∃vs:List Value,v=.tuple vs.toArray/\All2 (RepT w g.Pr) l vs
 |.ptr r off,v=>v=.pointer (some ⟨g.bx r,off,none⟩)/\RefOk g gen r
 |.elp l,v=>∃(b off:Nat)(vs:Nat->Value),v=.pointer (some ⟨b,off,none⟩)/\ ∀k (h:k<l.length),w.cell? ⟨b,off+k,none⟩=some (vs k)/\g.Pr b (off+k)/\RepD w g.Pr l[k] (vs k)
 |.own sz es nw,v=>∃cap cs,OwnRep w g.Pr (g.ow p) es nw v cap sz cs
 |.zs es,v=>RepD w g.Pr (.slc es) v/\ ∃a n,v=.slice a n n
 |.als _ _,_=>True
 |.opt _ _ _ _ _,_=>True
 |.fn f caps,v=>v=.func (.func f) #[] (caps.map fun r=>Value.pointer (some ⟨g.bx r,0,none⟩)).toArray/\ ∀r∈caps,RefOk g gen r
 |.ags pre sz es nw post,v=>∃(c1 c2:List Value)(u:Value)(cap:Nat)(cs:Array Value),v=.agg (c1++u::c2).toArray/\All2 (RepD w g.Pr) pre c1/\All2 (RepD w g.Pr) post c2/\OwnRep w g.Pr (g.ow p) es nw u cap sz cs
structure Keeps (w w':World) (g g':Gh) (gen gen':Nat->Nat):Prop where
 cell:∀b o,g.Pr b o->w'.cell? ⟨b,o,none⟩=w.cell? ⟨b,o,none⟩
 pr:∀b o,g.Pr b o->g'.Pr b o
 gn:∀t,gen t<=gen' t
 bx:∀r,RefOk g gen r->g'.bx r=g.bx r
 u:∀r,g.U r->g'.U r
theorem RefOk.mono{g g':Gh}{gen gen':Nat->Nat}(h:∀t,gen t<=gen' t)(hu:∀r,g.U r->g'.U r){r:Ref}(hr:RefOk g gen r):RefOk g' gen' r:=by
 cases r with
 |own t n=>exact Nat.lt_of_lt_of_le hr (h t)
 |up r=>exact hu r hr
theorem RepT.mono{w w':World}{Pr Pr':Nat->Nat->Prop}(hc:∀b o,Pr b o->w'.cell? ⟨b,o,none⟩=w.cell? ⟨b,o,none⟩)(hp:∀b o,Pr b o->Pr' b o)
 {c:Bool×List D} {v:Value} (h:RepT w Pr c v):RepT w' Pr' c v:=by
 obtain⟨t,l⟩:=c;cases t with
 |true=>obtain⟨cs,h1,h2⟩:=h;exact⟨cs,h1,All2.mono (fun _ _ h=>h.mono hc hp) h2⟩
 |false=>obtain⟨x,h1,h2⟩:=h;exact⟨x,h1,h2.mono hc hp⟩
theorem RepA.keep{w w':World}{g g':Gh}{gen gen':Nat->Nat}(hk:Keeps w w' g g' gen gen'){p p':Place}{x:A}{v:Value}(h:RepA w g gen p x v)
 (ho:x.isOwn=true->g'.ow p'=g.ow p/\w'.heap[g.ow p]? =w.heap[g.ow p]? /\ ∀o,g'.Pr (g.ow p) o↔g.Pr (g.ow p) o):RepA w' g' gen' p' x v:=by
 cases x with
 |any=>trivial
 |d x=>exact RepD.mono hk.cell hk.pr h
 |agg l=>obtain⟨cs,h1,h2⟩:=h;exact⟨cs,h1,All2.mono (fun _ _ h=>h.mono hk.cell hk.pr) h2⟩
 |tup l=>obtain⟨cs,h1,h2⟩:=h;exact⟨cs,h1,All2.mono (fun _ _ h=>h.mono hk.cell hk.pr) h2⟩
 |ptr r off=>exact⟨by rw[hk.bx r h.2];exact h.1,h.2.mono hk.gn hk.u⟩
 |elp l=>
  obtain⟨b,off,vs,h1,h2⟩:=h;exact⟨b,off,vs,h1,fun k hk'=>⟨by rw[hk.cell _ _ (h2 k hk').2.1];exact(h2 k hk').1,hk.pr _ _ (h2 k hk').2.1,(h2 k hk').2.2.mono hk.cell hk.pr⟩⟩
 |own sz es nw=>
  obtain⟨cap,cs,h⟩:=h;obtain⟨h1,h2,h3⟩:=ho rfl;refine⟨cap,cs,?_⟩;rw[h1];exact⟨h.val,h.row.of_same h2,h.pos,h.size,h.room,h.len,h.elems.mono hk.cell hk.pr,fun o=>(h3 o).trans (h.prot o)⟩
 |zs es=>exact⟨RepD.mono hk.cell hk.pr h.1,h.2⟩
 |als t n=>trivial
 |opt t n sz i j=>trivial
 |fn f caps=>
  refine⟨?_,fun r hr=>(h.2 r hr).mono hk.gn hk.u⟩;rw[h.1]
  congr 2
  exact List.map_congr_left fun r hr=>by rw[hk.bx r (h.2 r hr)]
 |ags pre sz es nw post=>
  obtain⟨c1,c2,u,cap,cs,e,p1,p2,h⟩:=h;obtain⟨h1,h2,h3⟩:=ho rfl;refine⟨c1,c2,u,cap,cs,e,All2.mono (fun _ _ h=>h.mono hk.cell hk.pr) p1,All2.mono (fun _ _ h=>h.mono hk.cell hk.pr) p2,?_⟩;rw[h1];exact⟨h.val,h.row.of_same h2,h.pos,h.size,h.room,h.len,h.elems.mono hk.cell hk.pr,fun o=>(h3 o).trans (h.prot o)⟩
theorem RepA.ownRow{w:World}{g:Gh}{gen:Nat->Nat}{p:Place}{x:A}{v:Value}(h:RepA w g gen p x v)(hx:x.isOwn=true):∃es nw u cap sz cs,OwnRep w g.Pr (g.ow p) es nw u cap sz cs:=by
 cases x<;>simp[A.isOwn]at hx
 ·obtain⟨cap,cs,h⟩:=h;exact⟨_,_,_,_,_,_,h⟩
 ·obtain⟨_,_,u,cap,cs,_,_,_,h⟩:=h;exact⟨_,_,_,_,_,_,h⟩
end Go.Ab
end
section
namespace Go.Ab
open Classical
noncomputable def upd{α β:Type}(f:α->β)(t:α)(v:β):α->β:=fun t'=>if t'=t then v else f t'
@[simp] theorem Zad {α β:Type} (f:α->β) (t:α) (v:β):upd f t v t=v:=by simp[upd]
theorem Zac{α β:Type}(f:α->β){t t':α}(v:β)(h:t'≠t):upd f t v t'=f t':=by simp[upd,h]
structure Ctx where
 P:Program
 w0:World
 E:Nat->Prop
 Pr0:Nat->Nat->Prop
 bx0:Ref->Nat
 U:Ref->Prop
 N:Nat
 ds:List Deferred:=[]
structure St where
 tm:Nat->A
 K:Ref->Option (List A)
 gen:Nat->Nat
inductive Owner where
 |box (r:Ref)
 |slot (t:Nat)
 |cell (r:Ref) (j:Nat)
inductive Owns (s:St) (g:Gh):Owner->Nat->Prop
 |box {r:Ref} {c:List A}:s.K r=some c->Owns s g (.box r) (g.bx r)
 |slot {t:Nat}:(s.tm t).isOwn=true->Owns s g (.slot t) (g.ow (.slot t))
 |cell {r:Ref} {c:List A} {j:Nat} {a:A}:s.K r=some c->c[j]? =some a->a.isOwn=true->Owns s g (.cell r j) (g.ow (.cell r j))
structure Fr (E:Nat->Prop) (Pr:Nat->Nat->Prop) (w w':World):Prop where
 os:w'.os=w.os
 tape:w'.tape=w.tape
 output:w'.output=w.output
 size:w.heap.size<=w'.heap.size
 same:∀b,b<w.heap.size-> ¬E b->w'.heap[b]? =w.heap[b]?
 kept:∀b,E b-> ∀cs,Row w b cs-> ∃cs',Row w' b cs'/\cs'.size=cs.size/\ ∀o,Pr b o->cs'[o]? =cs[o]?
theorem Fr.refl(E:Nat->Prop)(Pr:Nat->Nat->Prop)(w:World):Fr E Pr w w:=
 ⟨rfl,rfl,rfl,Nat.le_refl _,fun _ _ _=>rfl,fun _ _ cs h=>⟨cs,h,rfl,fun _ _=>rfl⟩⟩
theorem Fr.trans{E E':Nat->Prop}{Pr Pr':Nat->Nat->Prop}{w w₁ w₂:World}(h:Fr E Pr w w₁)(h':Fr E' Pr' w₁ w₂)(he:∀b,E' b->E b\/w.heap.size<=b)
 (hp:∀b o,Pr b o->Pr' b o):Fr E Pr w w₂:=by
 refine⟨h'.os.trans h.os,h'.tape.trans h.tape,h'.output.trans h.output,Nat.le_trans h.size h'.size,fun b hb hE=>?_,fun b hE cs hr=>?_⟩
 ·have hE':¬E' b:=fun h1=>(he b h1).elim hE (fun h2=>by omega)
  rw[h'.same b (Nat.lt_of_lt_of_le hb h.size) hE',h.same b hb hE]
 ·obtain⟨cs1,r1,s1,c1⟩:=h.kept b hE cs hr;by_cases hE':E' b
  ·obtain⟨cs2,r2,s2,c2⟩:=h'.kept b hE' cs1 r1;exact⟨cs2,r2,s2.trans s1,fun o ho=>(c2 o (hp b o ho)).trans (c1 o ho)⟩
  ·exact⟨cs1,r1.of_same (h'.same b r1.lt hE'),s1,c1⟩
theorem Zo8(w:World)(o:Obj)(k:Nat)(h:k<w.heap.size):({w with heap:=w.heap.push o}:World).heap[k]? =w.heap[k]? :=by
 show(w.heap.push o)[k]? =_;rw[Array.getElem?_push,if_neg (by omega)]
structure Ext (w w':World):Prop where
 os:w'.os=w.os
 tape:w'.tape=w.tape
 output:w'.output=w.output
 size:w.heap.size<=w'.heap.size
 same:∀b,b<w.heap.size->w'.heap[b]? =w.heap[b]?
theorem Ext.trans{a b c:World}(h:Ext a b)(k:Ext b c):Ext a c:=
 ⟨k.os.trans h.os,k.tape.trans h.tape,k.output.trans h.output,Nat.le_trans h.size k.size,fun i hi=>(k.same i (Nat.lt_of_lt_of_le hi h.size)).trans (h.same i hi)⟩
theorem Ext.push(w:World)(o:Obj):Ext w {w with heap:=w.heap.push o}:=⟨rfl,rfl,rfl,by simp,fun b h=>Zo8 w o b h⟩
theorem Ext.drawn(w:World)(n:Nat):Ext w {w with drawn:=n}:=⟨rfl,rfl,rfl,Nat.le_refl _,fun _ _=>rfl⟩
theorem Ext.cell{w w':World}(h:Ext w w')(b o:Nat)(hb:b<w.heap.size):w'.cell? ⟨b,o,none⟩=w.cell? ⟨b,o,none⟩:=by
 simp[World.cell?,h.same b hb]
theorem Ext.fr{w w':World}(h:Ext w w')(E:Nat->Prop)(Pr:Nat->Nat->Prop):Fr E Pr w w':=
 ⟨h.os,h.tape,h.output,h.size,fun b hb _=>h.same b hb,fun b _ cs hr=>⟨cs,hr.of_same (h.same b hr.lt),rfl,fun _ _=>rfl⟩⟩
def A.plain:A->Bool
 |.als _ _|.opt _ _ _ _ _=>false
 |_=>true
structure HeapRel (C:Ctx) (s:St) (g:Gh) (w:World):Prop where
 box:∀r c,s.K r=some c-> ∃cs,Row w (g.bx r) cs/\cs.size=c.length/\
  (∀j a,c[j]? =some a->a.plain=true/\ ∃v,cs[j]? =some v/\RepA w g s.gen (.cell r j) a v)/\(∀o,¬g.Pr (g.bx r) o)/\RefOk g s.gen r
 inj:∀o o' b,Owns s g o b->Owns s g o' b->o=o'
 wr:∀o b,Owns s g o b->C.w0.heap.size<=b\/C.E b
 prs:∀b o,g.Pr b o->b<w.heap.size
 pr0:∀b o,C.Pr0 b o->g.Pr b o
 prn:∀b o,g.Pr b o->C.Pr0 b o\/C.E b\/C.w0.heap.size<=b
 up:∀r,g.bx (.up r)=C.bx0 (.up r)
 uu:∀r,g.U r->C.U r
 fr:Fr C.E C.Pr0 C.w0 w
structure Rel (C:Ctx) (s:St) (g:Gh) (a:Act) (w:World):Prop where
 defers:a.defers=C.ds
 size:a.tmps.size=C.N
 slot:∀t,RepA w g s.gen (.slot t) (s.tm t) (a.tmps.getD t undef)
 als:∀u t n,s.tm u=.als t n->n<=s.gen t/\(n=s.gen t->(s.tm t).isOwn=true/\a.tmps.getD u undef=a.tmps.getD t undef)
 opt:∀u t n sz i j,s.tm u=.opt t n sz i j->n<=s.gen t/\(n=s.gen t->(s.tm t).isOwn=true/\a.tmps.getD u undef=.pointer (some ⟨g.ow (.slot t),i*sz+j,none⟩))
 heap:HeapRel C s g w
theorem HeapRel.own_lt{C:Ctx}{s:St}{g:Gh}{a:Act}{w:World}(h:Rel C s g a w){o:Owner}{b:Nat}(ho:Owns s g o b):b<w.heap.size:=by
 cases ho with
 |box h1=>obtain⟨cs,hr,_⟩:=h.heap.box _ _ h1;exact hr.lt
 | @slot t h1=>
   have h2:=h.slot t;generalize s.tm t=x at h1 h2;obtain⟨_,_,_,_,_,cs,h3⟩:=RepA.ownRow h2 h1;exact h3.row.lt
 | @cell r c j x h1 h2 h3=>
   obtain⟨cs,hr,_,hc,_⟩:=h.heap.box _ _ h1;obtain⟨_,v,_,hv⟩:=hc _ _ h2;obtain⟨_,_,_,_,_,cs,h3⟩:=RepA.ownRow hv h3;exact h3.row.lt
theorem Rel.ext{C:Ctx}{s:St}{g:Gh}{a:Act}{w w':World}(h:Rel C s g a w)(e:Ext w w'):Rel C s g a w':=by
 have hk:Keeps w w' g g s.gen s.gen:=⟨fun b o hp=>e.cell b o (h.heap.prs b o hp),fun _ _ h=>h,fun _=>Nat.le_refl _,fun _ _=>rfl,fun _ h=>h⟩;have hb:∀o b,Owns s g o b->w'.heap[b]? =w.heap[b]? :=fun o b ho=>e.same b (HeapRel.own_lt h ho)
 refine⟨h.defers,h.size,fun t=>(h.slot t).keep hk fun ho=>⟨rfl,hb _ _ (.slot ho),fun _=>Iff.rfl⟩,h.als,h.opt,?_⟩
 refine⟨fun r c hc=>?_,h.heap.inj,h.heap.wr,fun b o hp=>Nat.lt_of_lt_of_le (h.heap.prs b o hp) e.size,h.heap.pr0,h.heap.prn,h.heap.up,h.heap.uu,
  h.heap.fr.trans (e.fr (fun _=>False) C.Pr0) (fun _ h=>h.elim) (fun _ _ h=>h)⟩
 obtain⟨cs,h1,h2,h3,h4,h5⟩:=h.heap.box r c hc;refine⟨cs,h1.of_same (hb _ _ (.box hc)),h2,fun j x hx=>?_,h4,h5⟩;obtain⟨hp,v,h6,h7⟩:=h3 j x hx;exact⟨hp,v,h6,h7.keep hk fun ho=>⟨rfl,hb _ _ (.cell hc hx ho),fun _=>Iff.rfl⟩⟩
noncomputable def St.put(s:St)(d:Nat)(x:A):St:=
 {s with tm:=upd s.tm d x,gen:=if(s.tm d).isOwn then upd s.gen d (s.gen d+1)else s.gen}
theorem St.put_gen_le(s:St)(d:Nat)(x:A)(t:Nat):s.gen t<=(s.put d x).gen t:=by
 unfold St.put;by_cases h:(s.tm d).isOwn=true
 ·simp only[h,if_true];by_cases ht:t=d
  ·subst ht;simp
  ·rw[Zac _ _ ht];exact Nat.le_refl _
 ·simp[h]
theorem Za3{a:Act}{d t:Nat}{v:Value}(hd:d<a.tmps.size):(a.put (some d) v).tmps.getD t undef=if t=d then v else a.tmps.getD t undef:=by
 by_cases ht:t=d
 ·subst ht;simp[Act.put,hd]
 ·have:d≠t:=fun e=>ht e.symm
  simp[Act.put,ht,Array.getElem?_setIfInBounds_ne this]
theorem Zen(a:Act)(d:Option Tmp)(v:Value):(a.put d v).defers=a.defers:=by cases d<;>rfl
theorem Zgw(a:Act)(d:Option Tmp)(v:Value):(a.put d v).tmps.size=a.tmps.size:=by cases d<;>simp[Act.put]
theorem Rel.keep_gen{w:World}{g:Gh}{gen gen':Nat->Nat}(h:∀t,gen t<=gen' t):Keeps w w g g gen gen':=⟨fun _ _ _=>rfl,fun _ _ h=>h,h,fun _ _=>rfl,fun _ h=>h⟩
theorem Owns.of_put{s:St}{g:Gh}{d:Nat}{x:A}(hx:x.isOwn=false){o:Owner}{b:Nat}(h:Owns (s.put d x) g o b):Owns s g o b:=by
 cases h with
 |box h=>exact .box h
 | @slot t h=>
   by_cases ht:t=d
   ·subst ht;simp[St.put,hx]at h
   ·simp only[St.put,Zac _ _ ht]at h;exact .slot h
 |cell h h1 h2=>exact .cell h h1 h2
theorem Rel.put{C:Ctx}{s:St}{g:Gh}{a:Act}{w:World}(h:Rel C s g a w){d:Nat}{x:A}{v:Value}(hd:d<C.N)(hx:x.isOwn=false)
 (hv:RepA w g s.gen (.slot d) x v)
 (hals:∀t n,x=.als t n->t≠d/\n<=s.gen t/\(n=s.gen t->(s.tm t).isOwn=true/\v=a.tmps.getD t undef))
 (hopt:∀t n sz i j,x=.opt t n sz i j->t≠d/\n<=s.gen t/\(n=s.gen t->(s.tm t).isOwn=true/\v=.pointer (some ⟨g.ow (.slot t),i*sz+j,none⟩))):
 Rel C (s.put d x) g (a.put (some d) v) w:=by
 have hgen:=s.put_gen_le d x;have hk:Keeps w w g g s.gen (s.put d x).gen:=Rel.keep_gen hgen;have hd':d<a.tmps.size:=by rw[h.size];exact hd
 have hown:∀t,t≠d->(s.put d x).tm t=s.tm t:=fun t ht=>Zac _ _ ht
 have hnew:(s.put d x).tm d=x:=Zad _ _ _
 have stale:∀t n,n<=s.gen t->(n=s.gen t->(s.tm t).isOwn=true)->n=(s.put d x).gen t->t≠d/\n=s.gen t:=by
  intro t n h1 h2 h3;by_cases ht:t=d
  ·subst ht;exfalso;by_cases ho:(s.tm t).isOwn=true
   ·simp only[St.put,ho,if_true,Zad]at h3;omega
   ·simp only[St.put,ho]at h3;exact ho (h2 h3)
  ·refine⟨ht,?_⟩;by_cases ho:(s.tm d).isOwn=true
   ·simp only[St.put,ho,if_true,Zac _ _ ht]at h3;exact h3
   ·simpa[St.put,ho]using h3
 refine⟨by rw[Zen];exact h.defers,by rw[Zgw];exact h.size,fun t=>?_,fun u t n hu=>?_,fun u t n sz i j hu=>?_,?_⟩
 ·rw[Za3 hd'];by_cases ht:t=d
  ·subst ht;rw[if_pos rfl,hnew];exact hv.keep hk fun ho=>by rw[hx]at ho;cases ho
  ·rw[if_neg ht,hown t ht];exact(h.slot t).keep hk fun _=>⟨rfl,rfl,fun _=>Iff.rfl⟩
 ·by_cases hud:u=d
  ·subst hud;rw[hnew]at hu;obtain⟨h1,h2,h3⟩:=hals t n hu;refine⟨Nat.le_trans h2 (hgen t),fun hn=>?_⟩;obtain⟨h4,h5⟩:=stale t n h2 (fun e=>(h3 e).1) hn;rw[hown t h4,Za3 hd',Za3 hd',if_pos rfl,if_neg h4];exact h3 h5
  ·rw[hown u hud]at hu;obtain⟨h2,h3⟩:=h.als u t n hu;refine⟨Nat.le_trans h2 (hgen t),fun hn=>?_⟩;obtain⟨h4,h5⟩:=stale t n h2 (fun e=>(h3 e).1) hn;rw[hown t h4,Za3 hd',Za3 hd',if_neg hud,if_neg h4];exact h3 h5
 ·by_cases hud:u=d
  ·subst hud;rw[hnew]at hu;obtain⟨h1,h2,h3⟩:=hopt t n sz i j hu;refine⟨Nat.le_trans h2 (hgen t),fun hn=>?_⟩;obtain⟨h4,h5⟩:=stale t n h2 (fun e=>(h3 e).1) hn;rw[hown t h4,Za3 hd',if_pos rfl];exact h3 h5
  ·rw[hown u hud]at hu;obtain⟨h2,h3⟩:=h.opt u t n sz i j hu;refine⟨Nat.le_trans h2 (hgen t),fun hn=>?_⟩;obtain⟨h4,h5⟩:=stale t n h2 (fun e=>(h3 e).1) hn;rw[hown t h4,Za3 hd',if_neg hud];exact h3 h5
 ·refine⟨fun r c hc=>?_,fun o o' b ho ho'=>h.heap.inj o o' b (ho.of_put hx) (ho'.of_put hx),fun o b ho=>h.heap.wr o b (ho.of_put hx),h.heap.prs,h.heap.pr0,h.heap.prn,h.heap.up,h.heap.uu,h.heap.fr⟩;obtain⟨cs,h1,h2,h3,h4,h5⟩:=h.heap.box r c hc;refine⟨cs,h1,h2,fun j y hy=>?_,h4,h5.mono hgen fun _ h=>h⟩;obtain⟨hp,z,h6,h7⟩:=h3 j y hy;exact⟨hp,z,h6,h7.keep hk fun _=>⟨rfl,rfl,fun _=>Iff.rfl⟩⟩
end Go.Ab
end
section
namespace Go.Ab
open Classical
structure Wrote (w w':World) (b:Nat) (cs':Array Value):Prop where
 os:w'.os=w.os
 tape:w'.tape=w.tape
 output:w'.output=w.output
 size:w'.heap.size=w.heap.size
 same:∀b',b'≠b->w'.heap[b']? =w.heap[b']?
 row:Row w' b cs'
theorem Wrote.cell{w w':World}{b:Nat}{cs':Array Value}(h:Wrote w w' b cs')(b' o:Nat)(hb:b'≠b):w'.cell? ⟨b',o,none⟩=w.cell? ⟨b',o,none⟩:=by
 simp[World.cell?,h.same b' hb]
theorem Wrote.fr{w w':World}{b:Nat}{cs cs':Array Value}(h:Wrote w w' b cs')(hr:Row w b cs)(hs:cs'.size=cs.size)(E:Nat->Prop)(hE:E b)(Pr:Nat->Nat->Prop)
 (hp:∀o,Pr b o->cs'[o]? =cs[o]?):Fr E Pr w w':=by
 refine⟨h.os,h.tape,h.output,Nat.le_of_eq h.size.symm,fun b' _ hn=>h.same b' (fun e=>hn (e▸hE)),fun b' _ ds hd=>?_⟩;by_cases hb:b'=b
 ·subst hb;rw[hd.unique hr];exact⟨cs',h.row,hs,hp⟩
 ·exact⟨ds,hd.of_same (h.same b' hb),rfl,fun _ _=>rfl⟩
theorem Wrote.trans{w w₁ w₂:World}{b:Nat}{c1 c2:Array Value}(h:Wrote w w₁ b c1)(h':Wrote w₁ w₂ b c2):Wrote w w₂ b c2:=
 ⟨h'.os.trans h.os,h'.tape.trans h.tape,h'.output.trans h.output,h'.size.trans h.size,fun b' hb=>(h'.same b' hb).trans (h.same b' hb),h'.row⟩
theorem Wrote.refl{w:World}{b:Nat}{cs:Array Value}(h:Row w b cs):Wrote w w b cs:=⟨rfl,rfl,rfl,rfl,fun _ _=>rfl,h⟩
theorem Zfd{w:World}{b:Nat}{cs:Array Value}(h:Row w b cs)(o:Nat)(v:Value):Wrote w (w.setCell ⟨b,o,none⟩ v) b (cs.setIfInBounds o v):=by
 obtain⟨el,h⟩:=h;refine⟨rfl,rfl,rfl,by simp[World.setCell],fun b' hb=>?_,el,?_⟩
 ·simp only[World.setCell,Array.getElem?_modify];rw[if_neg (fun e=>hb e.symm)]
 ·simp[World.setCell,Array.getElem?_modify,h]
theorem Zaz(b o n:Nat):(⟨b,o,none⟩:Addr).add n=⟨b,o+n,none⟩:=by
 unfold Addr.add;split
 ·simp_all
 ·rfl
def Zak(cs:Array Value)(off:Nat):List Value->Array Value
 |[]=>cs
 |v::vs=>Zak (cs.setIfInBounds off v) (off+1) vs
theorem Zal:∀(vs:List Value)(cs:Array Value)(off:Nat),(Zak cs off vs).size=cs.size
 |[],_,_=>rfl
 |v::vs,cs,off=>by rw[Zak,Zal vs];simp
theorem Za1:∀(vs:List Value)(cs:Array Value)(off k:Nat),off+vs.length<=cs.size->
 (Zak cs off vs)[k]? =if off<=k/\k<off+vs.length then vs[k-off]? else cs[k]?
 |[],cs,off,k,_=>by
  simp only[Zak,List.length_nil];rw[if_neg (by omega)]
 |v::vs,cs,off,k,h=>by
  simp only[List.length_cons]at h;rw[Zak,Za1 vs _ _ _ (by simp;omega)];by_cases h1:off+1<=k/\k<off+1+vs.length
  ·rw[if_pos h1,if_pos (by simp;omega)];have:k-off=(k-(off+1))+1:=by omega
   rw[this];simp
  ·rw[if_neg h1];by_cases h2:k=off
   ·subst h2;rw[if_pos (by simp),Array.getElem?_setIfInBounds_self];simp;omega
   ·rw[if_neg (by simp;omega),Array.getElem?_setIfInBounds_ne (fun e=>h2 e.symm)]
theorem run_bind{α β:Type}(P:Program)(s:Sem α)(f:α->Sem β)(w:World):(s.bind f).run P w=match s.run P w with
 |.ok a w'=>(f a).run P w'
 |.halt h w'=>.halt h w':=by
 induction s generalizing w with
 |pure a=>rfl
 |load m a k ih=>
  simp only[Sem.bind,Sem.run];cases w.cell? a with
  |some v=>exact ih v w
  |none=>
   simp only;cases w.farLoad P a (m==.atomic)with
   |ok r=>exact ih _ w
   |error h=>rfl
 |store m a v k ih=>
  cases v<;>simp only[Sem.bind,Sem.run]<;>try rfl
  all_goals
   cases w.cell? a with
   |some x=>
    simp only;split
    ·rfl
    ·exact ih _
   |none=>
    simp only;cases w.farStore P a _ (m==.atomic)with
    |ok r=>exact ih _
    |error h=>rfl
 |new o k ih=>exact ih _ _
 |shape r k ih=>exact ih _ _
 |freeze a n k ih=>exact ih _
 |frozen a k ih=>exact ih _ _
 |getObj r k ih=>
  simp only[Sem.bind,Sem.run];split<;>first|rfl|exact ih _ _
 |setObj r o k ih=>
  simp only[Sem.bind,Sem.run];split<;>first|rfl|exact ih _
 |choose q k ih=>
  simp only[Sem.bind,Sem.run];split<;>exact ih _ _
 |sys c k ih=>exact ih _ _
 |program k ih=>exact ih _ _
 |mark m k ih=>exact ih _
 |halt h=>rfl
theorem Zg3{α β:Type}(P:Program)(s:Sem α)(f:α->Sem β)(w:World):(s>>=f).run P w=match s.run P w with
 |.ok a w'=>(f a).run P w'
 |.halt h w'=>.halt h w':=run_bind P s f w
theorem Zjx{P:Program}{w:World}{b o:Nat}{cs:Array Value}{v:Value}(h:Row w b cs)(ho:o<cs.size)(hv:isCell v=true):
 (store ⟨b,o,none⟩ v).run P w=.ok () (w.setCell ⟨b,o,none⟩ v):=by
 have h1:=h.cell o;have h2:=h.frozen o;have h3:cs[o]? =some cs[o]:=by simp[ho]
 rw[h3]at h1;unfold store;cases v<;>simp[isCell]at hv<;>simp[Sem.run,h1,h2]
theorem Zdh{P:Program}{b:Nat}:∀(vs:List Value)(w:World)(cs:Array Value)(off i:Nat),Row w b cs->off+i+vs.length<=cs.size->(∀v∈vs,isCell v=true)->
 ∃w',(storeCells ⟨b,off,none⟩ vs i).run P w=.ok () w'/\Wrote w w' b (Zak cs (off+i) vs)
 |[],w,cs,off,i,h,_,_=>⟨w,rfl,.refl h⟩
 |v::vs,w,cs,off,i,h,hs,hv=>by
  simp only[List.length_cons]at hs;have h1:=Zfd h (off+i) v;obtain⟨w',h2,h3⟩:=Zdh (P:=P) vs (w.setCell ⟨b,off+i,none⟩ v) _ off (i+1) h1.row (by simp;omega) (fun x hx=>hv x (List.mem_cons_of_mem _ hx));refine⟨w',?_,h1.trans (by simpa[Zak,Nat.add_assoc]using h3)⟩;unfold storeCells;rw[Zg3,Zaz,Zjx h (by omega) (hv v (List.mem_cons_self ..))];exact h2
theorem Zdk{P:Program}{w:World}{b off:Nat}(vs:Nat->Value):∀(n i:Nat)(acc:Array Value),(∀k,k<n->w.cell? ⟨b,off+(i+k),none⟩=some (vs (i+k)))->
 (loadCellsFrom ⟨b,off,none⟩ i n acc).run P w=.ok (acc++((List.range n).map fun k=>vs (i+k)).toArray) w
 |0,i,acc,_=>by simp[loadCellsFrom,pure]
 |n+1,i,acc,h=>by
  unfold loadCellsFrom
  have h0:(load ((⟨b,off,none⟩:Addr).add i)).run P w=.ok (vs i) w:=by
   have:=h 0 (by omega);simp only[Nat.add_zero]at this;simp[load,Sem.run,Zaz,this]
  rw[Zg3,h0];simp only;rw[Zdk vs n (i+1) (acc.push (vs i)) (fun k hk=>by have:=h (k+1) (by omega);simpa[Nat.add_assoc,Nat.add_comm 1 k]using this)]
  congr 1
  rw[List.range_succ_eq_map];simp[Function.comp_def,Nat.add_assoc,Nat.add_comm 1]
theorem Zcq{P:Program}{w:World}{b off n:Nat}(vs:Nat->Value)(h:∀k,k<n->w.cell? ⟨b,off+k,none⟩=some (vs k)):
 (loadCells ⟨b,off,none⟩ n).run P w=.ok ((List.range n).map vs).toArray w:=by
 have:=Zdk (P:=P) vs n 0 #[] (by simpa using h);simpa[loadCells]using this
end Go.Ab
end
section
namespace Go.Ab
open Classical
def szOf(P:Program)(t:TypeId):Option (Nat×Bool):=
 match P.info? t,P.underlying t with
 |some i,some (.struct _)=>some (i.size,true)
 |some i,some (.array _ _)=>some (i.size,true)
 |some i,some _=>some (i.size,false)
 |_,_=>none
def Zc7(P:Program)(t:TypeId)(i:Nat):Option (Nat×Nat×Bool):=
 match P.underlying t with
 |some (.struct fs)=>match fs[i]? with
  |some f=>match szOf P f.type with
   |some (n,b)=>if n=0 then none else some (f.offset,n,b)
   |none=>none
  |none=>none
 |_=>none
def Zc8(P:Program)(t:TypeId):Option (List Value):=
 match P.info? t with
 |some i=>match i.zero with
  |some z=>if z.cells.size=i.size then some z.cells.toList else none
  |none=>none
 |none=>none
def Zez(P:Program)(t:TypeId):Option (Nat×Nat×Bool):=
 match P.underlying t with
 |some (.array n e)=>match szOf P e with
  |some (m,b)=>some (n,m,b)
  |none=>none
 |_=>none
def slOf(P:Program)(t:TypeId):Option (Nat×Nat×Bool×TypeId):=
 match P.underlying t with
 |some (.slice e)=>match szOf P e,Zc8 P e,P.info? e with
  |some (m,b),some _,some i=>if m=0 then none else some (m,i.bytes,b,e)
  |_,_,_=>none
 |_=>none
inductive Pk where
 |bool|int (k:IntKind)|string
def pkOf(P:Program)(t:TypeId):Option Pk:=
 match P.underlying t with
 |some .bool=>some .bool
 |some (.int k)=>some (.int k)
 |some .string=>some .string
 |_=>none
def constD:Value->D
 |.slice none 0 0=>.slc []
 |v=>.lit v
def Zcl:Value->A
 |.agg vs=>if vs.toList.all isCell then .agg (vs.toList.map constD)else .any
 |.tuple _=>.any
 |.slice none 0 0=>.zs []
 |v=>.d (.lit v)
def St.ev(s:St):Operand->A
 |.tmp t=>s.tm t
 |.const v=>Zcl v
 |.func f=>.fn f []
 |.global _=>.any
noncomputable def St.esc(s:St)(x:Operand):Option D:=
 match s.ev x with
 |.d y=>some y
 |.zs es=>some (.slc es)
 |.own _ es []=>some (.slc es)
 |.als t n=>if n=s.gen t then(match s.tm t with|.own _ es []=>some (.slc es)|_=>none)else none
 |_=>none
noncomputable def St.nwLen(s:St)(x:Operand):Option Nat:=
 match s.ev x with
 |.own _ es nw=>some (es.length+nw.length)
 |.als t n=>if n=s.gen t then(match s.tm t with|.own _ es nw=>some (es.length+nw.length)|_=>none)else none
 |_=>none
noncomputable def St.escs(s:St)(x:Operand):Option (List D):=
 match s.ev x with
 |.agg l=>some l
 |_=>(s.esc x).map fun y=>[y]
noncomputable def St.copy(s:St)(d:Nat)(x:Operand):Option A:=
 match s.ev x with
 |.any=>some .any
 |.agg l=>some (.agg l)
 |.tup l=>some (.tup l)
 |.ptr r o=>some (.ptr r o)
 |.elp l=>some (.elp l)
 |.fn f c=>some (.fn f c)
 |.opt t n sz i j=>if t=d then none else some (.opt t n sz i j)
 |.als t n=>if t=d then none else some (.als t n)
 |.zs es=>some (.zs es)
 |.d y=>some (.d y)
 |.own _ _ _=>match x with
  |.tmp t=>if t=d then none else some (.als t (s.gen t))
  |_=>none
 |.ags _ _ _ _ _=>none
def St.lit(s:St)(x:Operand):Option Value:=
 match s.ev x with
 |.d (.lit v)=>some v
 |_=>none
def Zg4(op:BinOp)(k:IntKind)(a b:Int):Option Value:=
 match op with
 |.add=>some (.int k (k.wrap (a+b)))
 |.sub=>some (.int k (k.wrap (a-b)))
 |.mul=>some (.int k (k.wrap (a*b)))
 |.quo=>if b=0 then none else some (.int k (k.wrap (a.tdiv b)))
 |.rem=>if b=0 then none else some (.int k (a.tmod b))
 |.and=>some (.int k (k.wrap (BitVec.ofInt k.bits a&&&BitVec.ofInt k.bits b).toNat))
 |.or=>some (.int k (k.wrap (BitVec.ofInt k.bits a|||BitVec.ofInt k.bits b).toNat))
 |.xor=>some (.int k (k.wrap (BitVec.ofInt k.bits a^^^BitVec.ofInt k.bits b).toNat))
 |.andNot=>some (.int k (k.wrap (BitVec.ofInt k.bits a&&& ~~~BitVec.ofInt k.bits b).toNat))
 |.eql=>some (.bool (a==b))
 |.neq=>some (.bool (a !=b))
 |.lss=>some (.bool (decide (a<b)))
 |.leq=>some (.bool (decide (a<=b)))
 |.gtr=>some (.bool (decide (a>b)))
 |.geq=>some (.bool (decide (a>=b)))
 |_=>none
def Zjy(op:BinOp)(x y:ByteArray):Option Value:=
 match op with
 |.add=>if((x.size+y.size:Nat):Int)>IntKind.i64.max then none else some (.string (x++y))
 |.eql=>some (.bool (x.toList==y.toList))
 |.neq=>some (.bool (!(x.toList==y.toList)))
 |.lss=>some (.bool (Op.bytesLess x.toList y.toList))
 |.leq=>some (.bool (Op.bytesLess x.toList y.toList||x.toList==y.toList))
 |.gtr=>some (.bool (!(Op.bytesLess x.toList y.toList||x.toList==y.toList)))
 |.geq=>some (.bool (!Op.bytesLess x.toList y.toList))
 |_=>none
def nilV(P:Program)(op:BinOp)(t:TypeId)(b:Bool):Option Value:=
 match P.underlying t with
 |some (.interface ms)=>if !b||ms.isEmpty then(match op with|.eql=>some (.bool b)|.neq=>some (.bool (!b))|_=>none)else none
 |_=>none
theorem Zd2{P:Program}{op:BinOp}{t:TypeId}{b:Bool}{r:Value}(h:nilV P op t b=some r):∃ms,P.underlying t=some (.interface ms)/\(b=true->ms.isEmpty=true)/\((op=.eql/\r=.bool b)\/(op=.neq/\r=.bool (!b))):=by
 unfold nilV at h;split at h
 ·rename_i ms hms;split at h
  ·rename_i hb;refine⟨ms,hms,fun e=>by subst e;simpa using hb,?_⟩;split at h<;>cases h
   ·exact .inl ⟨rfl,rfl⟩
   ·exact .inr ⟨rfl,rfl⟩
  ·cases h
 ·cases h
def binV(P:Program)(op:BinOp)(t:TypeId)(x y:Value):Option Value:=
 match x,y with
 |.int k a,.int k' b=>match op with
  |.shl=>if b<0 then none else some (.int k (k.wrap (a*2^(min b.toNat k.bits))))
  |.shr=>if b<0 then none else some (.int k (a.fdiv (2^(min b.toNat k.bits))))
  |_=>if k=k' then Zg4 op k a b else none
 |.string a,.string b=>Zjy op a b
 |.bool a,.bool b=>match op,pkOf P t with
  |.eql,some .bool=>some (.bool (a==b))
  |.neq,some .bool=>some (.bool (!(a==b)))
  |_,_=>none
 |.nilIface,.nilIface=>nilV P op t true
 |.iface _ _,.nilIface=>nilV P op t false
 |_,_=>none
def unV(op:UnOp)(x:Value):Option Value:=
 match op,x with
 |.neg,.int k n=>some (.int k (k.wrap (0-n)))
 |.xor,.int k n=>some (.int k (k.wrap (BitVec.ofInt k.bits (if k.signed then-1 else k.max)^^^BitVec.ofInt k.bits n).toNat))
 |.not,.bool b=>some (.bool (!b))
 |_,_=>none
def Zif(P:Program)(src dst:TypeId)(x:Value):Option Value:=
 match x,P.underlying src,P.underlying dst with
 |.int _ n,some (.int _),some (.int k)=>some (.int k (k.wrap n))
 |.int _ n,some (.int _),some .string=>some (.string (Utf8.encode n))
 |.string b,some .string,some .string=>some (.string b)
 |_,_,_=>none
def Zg5:A->Option D
 |.d y=>some y
 |.zs es=>some (.slc es)
 |.own _ es []=>some (.slc es)
 |_=>none
def Zbl:List A->Option (List D)
 |[]=>some []
 |a::l=>match Zg5 a,Zbl l with
  |some y,some r=>some (y::r)
  |_,_=>none
def Zo9(o:Oper):Option Nat:=
 match o.op with
 |.call c=>(match c.callee,c.args.toList with
  |.builtin .append,Operand.tmp t::_=>some t
  |_,_=>none)
 |_=>none
def Zpa(o:Oper):Option Nat:=
 match o.op with
 |.indexAddr _ (Operand.tmp t) _=>some t
 |_=>none
def Zpb(ops:Array Oper):List Nat:=ops.toList.filterMap Zo9
def Zmv(ops:Array Oper):List Nat:=ops.toList.filterMap Zpa
def Zoe(ops:Array Oper)(d:Option Nat):Bool:=
 match d with
 |some d=>(Zpb ops).contains d
 |none=>false
def Ztc(ops:Array Oper)(t:Nat):Bool:=ops.toList.any fun q=>q.dst==some t&&(match q.op with|.buildSlice _ n _=>n==0|_=>false)
def Zux(ops:Array Oper)(d:Nat):Bool:=ops.toList.any fun o=>o.dst==some d&&(match Zo9 o with|some t=>Ztc ops t|none=>false)
def Zuy(ops:Array Oper)(t:Nat):Bool:=ops.toList.any fun q=>q.dst==some t&&(match q.op with|.build _ ps=>ps.size==2|_=>false)
def Zuz(ops:Array Oper):Bool:=ops.toList.any fun q=>match q.op with
 |.buildSlice _ _ ps=>(match ps.toList with
  |[(_,.tmp t)]=>Zuy ops t
  |_=>false)
 |_=>false
def Zu0(ops:Array Oper)(d:Nat):Bool:=ops.toList.any fun q=>match q.op with
 |.build _ ps=>ps.toList.any fun p=>match p.2 with
  |.tmp t=>t==d
  |_=>false
 |_=>false
def Zg6(ops:Array Oper)(d:Option Nat):Bool:=
 match d with
 |some d=>(Zmv ops).contains d||(Zux ops d&&!Zu0 ops d)||Zuz ops
 |none=>false
end Go.Ab
end
section
namespace Go.Ab
open Classical
noncomputable def St.reset(s:St)(t:Nat)(x:A):St:={s with tm:=upd s.tm t x,gen:=upd s.gen t (s.gen t+1)}
noncomputable def St.setK(s:St)(r:Ref)(c:List A):St:={s with K:=upd s.K r (some c)}
noncomputable def St.alloc(s:St)(d:Nat)(c:List A):St:=
 {tm:=upd s.tm d (.ptr (.own d (s.gen d)) 0),K:=upd s.K (.own d (s.gen d)) (some c),gen:=upd s.gen d (s.gen d+1)}
theorem Zjz(s:St)(t:Nat)(x:A)(u:Nat):s.gen u<=(s.reset t x).gen u:=by
 unfold St.reset;by_cases h:u=t
 ·subst h;simp
 ·simp[Zac _ _ h]
theorem Owns.of_reset{s:St}{g:Gh}{t:Nat}{x:A}(hx:x.isOwn=false){o:Owner}{b:Nat}(h:Owns (s.reset t x) g o b):Owns s g o b/\o≠ .slot t:=by
 cases h with
 |box h=>exact⟨.box h,fun e=>by cases e⟩
 | @slot u h=>
   by_cases hu:u=t
   ·subst hu;simp[St.reset,hx]at h
   ·simp only[St.reset,Zac _ _ hu]at h;exact⟨.slot h,fun e=>hu (by cases e;rfl)⟩
 |cell h h1 h2=>exact⟨.cell h h1 h2,fun e=>by cases e⟩
theorem Rel.reset{C:Ctx}{s:St}{g:Gh}{a:Act}{w:World}(h:Rel C s g a w)(t:Nat):Rel C (s.reset t .any) g a w:=by
 have hgen:=Zjz s t .any;have hk:Keeps w w g g s.gen (s.reset t .any).gen:=Rel.keep_gen hgen;have hne:∀u,u≠t->(s.reset t .any).tm u=s.tm u:=fun u hu=>Zac _ _ hu
 have heq:(s.reset t .any).tm t=.any:=Zad _ _ _
 have stale:∀u n,n<=s.gen u->n=(s.reset t .any).gen u->u≠t/\n=s.gen u:=by
  intro u n h1 h2;by_cases hu:u=t
  ·subst hu;simp only[St.reset,Zad]at h2;omega
  ·simp only[St.reset,Zac _ _ hu]at h2;exact⟨hu,h2⟩
 refine⟨h.defers,h.size,fun u=>?_,fun u v n hu=>?_,fun u v n sz i j hu=>?_,?_⟩
 ·by_cases hu:u=t
  ·subst hu;rw[heq];trivial
  ·rw[hne u hu];exact(h.slot u).keep hk fun _=>⟨rfl,rfl,fun _=>Iff.rfl⟩
 ·have hut:u≠t:=fun e=>by subst e;rw[heq]at hu;cases hu
  rw[hne u hut]at hu;obtain⟨h1,h2⟩:=h.als u v n hu;refine⟨Nat.le_trans h1 (hgen v),fun hn=>?_⟩;obtain⟨h3,h4⟩:=stale v n h1 hn;rw[hne v h3];exact h2 h4
 ·have hut:u≠t:=fun e=>by subst e;rw[heq]at hu;cases hu
  rw[hne u hut]at hu;obtain⟨h1,h2⟩:=h.opt u v n sz i j hu;refine⟨Nat.le_trans h1 (hgen v),fun hn=>?_⟩;obtain⟨h3,h4⟩:=stale v n h1 hn;rw[hne v h3];exact h2 h4
 ·refine⟨fun r c hc=>?_,fun o o' b ho ho'=>h.heap.inj o o' b (ho.of_reset rfl).1 (ho'.of_reset rfl).1,fun o b ho=>h.heap.wr o b (ho.of_reset rfl).1,h.heap.prs,h.heap.pr0,h.heap.prn,h.heap.up,h.heap.uu,h.heap.fr⟩;obtain⟨cs,h1,h2,h3,h4,h5⟩:=h.heap.box r c hc;refine⟨cs,h1,h2,fun j y hy=>?_,h4,h5.mono hgen fun _ h=>h⟩;obtain⟨hp,z,h6,h7⟩:=h3 j y hy;exact⟨hp,z,h6,h7.keep hk fun _=>⟨rfl,rfl,fun _=>Iff.rfl⟩⟩
theorem Rel.reset_free{C:Ctx}{s:St}{g:Gh}{a:Act}{w:World}(h:Rel C s g a w){t:Nat}(ho:(s.tm t).isOwn=true):
 ∀o,¬Owns (s.reset t .any) g o (g.ow (.slot t)):=fun o h1=>
 (h1.of_reset rfl).2 (h.heap.inj o (.slot t) _ (h1.of_reset rfl).1 (.slot ho))
theorem Rel.write{C:Ctx}{s:St}{g:Gh}{a:Act}{w w':World}(h:Rel C s g a w){b:Nat}{cs cs':Array Value}(hr:Row w b cs)(hf:∀o,¬Owns s g o b)
 (hw:Wrote w w' b cs') (hs:cs'.size=cs.size) (hp:∀o,g.Pr b o->cs'[o]? =cs[o]?) (hb:C.w0.heap.size<=b\/C.E b):Rel C s g a w':=by
 have hcell:∀b' o,g.Pr b' o->w'.cell? ⟨b',o,none⟩=w.cell? ⟨b',o,none⟩:=fun b' o hpr=>by
  by_cases hbb:b'=b
  ·subst hbb;rw[hw.row.cell,hr.cell,hp o hpr]
  ·exact hw.cell b' o hbb
 have hk:Keeps w w' g g s.gen s.gen:=⟨hcell,fun _ _ h=>h,fun _=>Nat.le_refl _,fun _ _=>rfl,fun _ h=>h⟩;have hbk:∀o b',Owns s g o b'->w'.heap[b']? =w.heap[b']? :=fun o b' ho=>hw.same b' (fun e=>hf o (e▸ho))
 refine⟨h.defers,h.size,fun t=>(h.slot t).keep hk fun ho=>⟨rfl,hbk _ _ (.slot ho),fun _=>Iff.rfl⟩,h.als,h.opt,?_⟩;refine⟨fun r c hc=>?_,h.heap.inj,h.heap.wr,fun b o hpr=>by rw[hw.size];exact h.heap.prs b o hpr,h.heap.pr0,h.heap.prn,h.heap.up,h.heap.uu,?_⟩
 ·obtain⟨ds,h1,h2,h3,h4,h5⟩:=h.heap.box r c hc;refine⟨ds,h1.of_same (hbk _ _ (.box hc)),h2,fun j x hx=>?_,h4,h5⟩;obtain⟨hp,v,h6,h7⟩:=h3 j x hx;exact⟨hp,v,h6,h7.keep hk fun ho=>⟨rfl,hbk _ _ (.cell hc hx ho),fun _=>Iff.rfl⟩⟩
 ·refine h.heap.fr.trans (hw.fr hr hs (fun b'=>b'=b) rfl C.Pr0 fun o ho=>hp o (h.heap.pr0 b o ho)) (fun b' e=>?_) (fun _ _ h=>h);subst e;exact hb.symm
def Gh.protect(g:Gh)(b:Nat)(S:Nat->Prop):Gh:={g with Pr:=fun b' o=>g.Pr b' o\/(b'=b/\S o)}
theorem Gh.protect_keeps(g:Gh)(b:Nat)(S:Nat->Prop)(w:World)(gen:Nat->Nat):Keeps w w g (g.protect b S) gen gen:=
 ⟨fun _ _ _=>rfl,fun _ _ h=>.inl h,fun _=>Nat.le_refl _,fun _ _=>rfl,fun _ h=>h⟩
theorem Owns.of_protect{s:St}{g:Gh}{b:Nat}{S:Nat->Prop}{o:Owner}{b':Nat}(h:Owns s (g.protect b S) o b'):Owns s g o b':=by
 cases h with
 |box h=>exact .box h
 |slot h=>exact .slot h
 |cell h h1 h2=>exact .cell h h1 h2
theorem Rel.protect{C:Ctx}{s:St}{g:Gh}{a:Act}{w:World}(h:Rel C s g a w){b:Nat}(S:Nat->Prop)(hf:∀o,¬Owns s g o b)(hb:C.w0.heap.size<=b\/C.E b)
 (hlt:b<w.heap.size):Rel C s (g.protect b S) a w:=by
 have hk:=g.protect_keeps b S w s.gen
 have hpr:∀o b',Owns s g o b'-> ∀k,(g.protect b S).Pr b' k↔g.Pr b' k:=fun o b' ho k=>
  ⟨fun h1=>h1.elim id fun e=>absurd (e.1▸ho) (hf o),fun h1=>.inl h1⟩
 refine⟨h.defers,h.size,fun t=>(h.slot t).keep hk fun ho=>⟨rfl,rfl,hpr _ _ (.slot ho)⟩,h.als,h.opt,?_⟩
 refine⟨fun r c hc=>?_,fun o o' b ho ho'=>h.heap.inj o o' b ho.of_protect ho'.of_protect,fun o b ho=>h.heap.wr o b ho.of_protect,
  fun b' o h1=>h1.elim (h.heap.prs b' o) (fun e=>e.1▸hlt),fun b o h1=>.inl (h.heap.pr0 b o h1),
  fun b' o h1=>h1.elim (h.heap.prn b' o) (fun e=>.inr (by rw[e.1];exact hb.symm)),h.heap.up,h.heap.uu,h.heap.fr⟩
 obtain⟨ds,h1,h2,h3,h4,h5⟩:=h.heap.box r c hc;refine⟨ds,h1,h2,fun j x hx=>?_,fun k h6=>(h6.elim (h4 k) fun e=>hf (.box r) (e.1▸ .box hc)),h5⟩;obtain⟨hp,v,h6,h7⟩:=h3 j x hx;exact⟨hp,v,h6,h7.keep hk fun ho=>⟨rfl,rfl,hpr _ _ (.cell hc hx ho)⟩⟩
noncomputable def Gh.give(g:Gh)(p:Place)(b:Nat):Gh:={g with ow:=upd g.ow p b}
theorem Gh.give_keeps(g:Gh)(p:Place)(b:Nat)(w:World)(gen gen':Nat->Nat)(h:∀t,gen t<=gen' t):Keeps w w g (g.give p b) gen gen':=
 ⟨fun _ _ _=>rfl,fun _ _ h=>h,h,fun _ _=>rfl,fun _ h=>h⟩
theorem Rel.putO{C:Ctx}{s:St}{g:Gh}{a:Act}{w:World}(h:Rel C s g a w){d b:Nat}{v:Value}{xo:A}(hd:d<C.N)(hxo:xo.isOwn=true)
 (hf:∀o,¬Owns s g o b) (hb:C.w0.heap.size<=b\/C.E b) (ho:∀g':Gh,g'.Pr=g.Pr->g'.ow (.slot d)=b->RepA w g' (s.put d xo).gen (.slot d) xo v):Rel C (s.put d xo) (g.give (.slot d) b) (a.put (some d) v) w:=by
 have hgen:=s.put_gen_le d xo;have hk:Keeps w w g (g.give (.slot d) b) s.gen (s.put d xo).gen:=g.give_keeps _ b w _ _ hgen;have hd':d<a.tmps.size:=by rw[h.size];exact hd
 have hne:∀t,t≠d->(s.put d xo).tm t=s.tm t:=fun t ht=>Zac _ _ ht
 have hnew:(s.put d xo).tm d=xo:=Zad _ _ _;have how:∀t,t≠d->(g.give (.slot d) b).ow (.slot t)=g.ow (.slot t):=fun t ht=>Zac _ _ (fun e=>ht (by cases e;rfl))
 have howc:∀r j,(g.give (.slot d) b).ow (.cell r j)=g.ow (.cell r j):=fun r j=>Zac _ _ (fun e=>by cases e)
 have howd:(g.give (.slot d) b).ow (.slot d)=b:=Zad _ _ _
 have stale:∀t n,n<=s.gen t->(n=s.gen t->(s.tm t).isOwn=true)->n=(s.put d xo).gen t->t≠d/\n=s.gen t:=by
  intro t n h1 h2 h3;by_cases ht:t=d
  ·subst ht;exfalso;by_cases ho:(s.tm t).isOwn=true
   ·simp only[St.put,ho,if_true,Zad]at h3;omega
   ·simp only[St.put,ho]at h3;exact ho (h2 h3)
  ·refine⟨ht,?_⟩;by_cases ho:(s.tm d).isOwn=true
   ·simp only[St.put,ho,if_true,Zac _ _ ht]at h3;exact h3
   ·simpa[St.put,ho]using h3
 have old:∀o b',Owns (s.put d xo) (g.give (.slot d) b) o b'->(o=.slot d/\b'=b)\/(o≠ .slot d/\Owns s g o b'):=by
  intro o b' h1;cases h1 with
  |box h1=>exact .inr ⟨(fun e=>by cases e),.box h1⟩
  | @slot t h1=>
    by_cases ht:t=d
    ·subst ht;exact .inl ⟨rfl,howd⟩
    ·rw[hne t ht]at h1;rw[how t ht];exact .inr ⟨fun e=>ht (by cases e;rfl),.slot h1⟩
  | @cell r c j x h1 h2 h3=>
    rw[howc];exact .inr ⟨(fun e=>by cases e),.cell h1 h2 h3⟩
 refine⟨by rw[Zen];exact h.defers,by rw[Zgw];exact h.size,fun t=>?_,fun u t n hu=>?_,fun u t n sz i j hu=>?_,?_⟩
 ·rw[Za3 hd'];by_cases ht:t=d
  ·subst ht;rw[if_pos rfl,hnew];exact ho (g.give (.slot t) b) rfl howd
  ·rw[if_neg ht,hne t ht];exact(h.slot t).keep hk fun _=>⟨how t ht,rfl,fun _=>Iff.rfl⟩
 ·have hud:u≠d:=fun e=>by subst e;rw[hnew]at hu;rw[hu]at hxo;cases hxo
  rw[hne u hud]at hu;obtain⟨h2,h3⟩:=h.als u t n hu;refine⟨Nat.le_trans h2 (hgen t),fun hn=>?_⟩;obtain⟨h4,h5⟩:=stale t n h2 (fun e=>(h3 e).1) hn;rw[hne t h4,Za3 hd',Za3 hd',if_neg hud,if_neg h4];exact h3 h5
 ·have hud:u≠d:=fun e=>by subst e;rw[hnew]at hu;rw[hu]at hxo;cases hxo
  rw[hne u hud]at hu;obtain⟨h2,h3⟩:=h.opt u t n sz i j hu;refine⟨Nat.le_trans h2 (hgen t),fun hn=>?_⟩;obtain⟨h4,h5⟩:=stale t n h2 (fun e=>(h3 e).1) hn;rw[hne t h4,Za3 hd',if_neg hud,how t h4];exact h3 h5
 ·refine⟨fun r c hc=>?_,fun o o' b' h1 h2=>?_,fun o b' h1=>?_,h.heap.prs,h.heap.pr0,h.heap.prn,h.heap.up,h.heap.uu,h.heap.fr⟩
  ·obtain⟨cs,h1,h2,h3,h4,h5⟩:=h.heap.box r c hc;refine⟨cs,h1,h2,fun j y hy=>?_,h4,h5.mono hgen fun _ h=>h⟩;obtain⟨hp,z,h6,h7⟩:=h3 j y hy;exact⟨hp,z,h6,h7.keep hk fun _=>⟨howc r j,rfl,fun _=>Iff.rfl⟩⟩
  ·rcases old o b' h1 with⟨rfl,e1⟩|⟨n1,o1⟩<;>rcases old o' b' h2 with⟨rfl,e2⟩|⟨n2,o2⟩
   ·rfl
   ·exact absurd (e1▸o2) (hf o')
   ·exact absurd (e2▸o1) (hf o)
   ·exact h.heap.inj o o' b' o1 o2
  ·rcases old o b' h1 with⟨_,e1⟩|⟨_,o1⟩
   ·rw[e1];exact hb
   ·exact h.heap.wr o b' o1
theorem Rel.putOwn{C:Ctx}{s:St}{g:Gh}{a:Act}{w:World}(h:Rel C s g a w){d b:Nat}{es nw:List (List D)}{v:Value}{cap sz:Nat}{cs:Array Value}(hd:d<C.N)
 (hf:∀o,¬Owns s g o b) (hb:C.w0.heap.size<=b\/C.E b) (ho:OwnRep w g.Pr b es nw v cap sz cs):Rel C (s.put d (.own sz es nw)) (g.give (.slot d) b) (a.put (some d) v) w:=
 h.putO hd rfl hf hb fun g' e1 e2=>⟨cap,cs,by rw[e1,e2];exact ho⟩
end Go.Ab
end
section
namespace Go.Ab
open Classical
theorem Zj0(s:St)(d:Nat)(c:List A)(u:Nat):s.gen u<=(s.alloc d c).gen u:=by
 unfold St.alloc;by_cases h:u=d
 ·subst h;simp
 ·simp[Zac _ _ h]
theorem Rel.newBox{C:Ctx}{s:St}{g:Gh}{a:Act}{w:World}(h:Rel C s g a w){d b:Nat}{c:List A}{cs:Array Value}(hd:d<C.N)(hr:Row w b cs)(hf:∀o,¬Owns s g o b)
 (hb:C.w0.heap.size<=b) (hp:∀o,¬g.Pr b o) (hs:cs.size=c.length)
 (hc:∀(j:Nat)(x:A),c[j]? =some x->x.plain=true/\x.isOwn=false/\ ∃v,cs[j]? =some v/\ ∀p,RepA w g s.gen p x v):
 Rel C (s.alloc d c) {g with bx:=upd g.bx (.own d (s.gen d)) b} (a.put (some d) (.pointer (some ⟨b,0,none⟩))) w:=by
 have hgen:=Zj0 s d c;have hfresh:∀r,RefOk g s.gen r->r≠ .own d (s.gen d):=fun r hr e=>by subst e;exact Nat.lt_irrefl _ hr
 have hk:Keeps w w g {g with bx:=upd g.bx (.own d (s.gen d)) b} s.gen (s.alloc d c).gen:=
  ⟨fun _ _ _=>rfl,fun _ _ h=>h,hgen,fun r hr=>Zac _ _ (hfresh r hr),fun _ h=>h⟩
 have hd':d<a.tmps.size:=by rw[h.size];exact hd
 have hne:∀t,t≠d->(s.alloc d c).tm t=s.tm t:=fun t ht=>Zac _ _ ht
 have hnew:(s.alloc d c).tm d=.ptr (.own d (s.gen d)) 0:=Zad _ _ _;have hKne:∀r,r≠ .own d (s.gen d)->(s.alloc d c).K r=s.K r:=fun r hr=>Zac _ _ hr
 have hKnew:(s.alloc d c).K (.own d (s.gen d))=some c:=Zad _ _ _
 have stale:∀t n,n<=s.gen t->n=(s.alloc d c).gen t->t≠d/\n=s.gen t:=by
  intro t n h1 h3;by_cases ht:t=d
  ·subst ht;simp only[St.alloc,Zad]at h3;omega
  ·simp only[St.alloc,Zac _ _ ht]at h3;exact⟨ht,h3⟩
 have hbx:∀r c',s.K r=some c'->({g with bx:=upd g.bx (.own d (s.gen d)) b}:Gh).bx r=g.bx r:=fun r c' hc'=>by
  obtain⟨_,_,_,_,_,h5⟩:=h.heap.box r c' hc';exact Zac _ _ (hfresh r h5)
 have hK0:∀r c',s.K r=some c'->r≠ .own d (s.gen d):=fun r c' hc'=>by
  obtain⟨_,_,_,_,_,h5⟩:=h.heap.box r c' hc';exact hfresh r h5
 have old:∀o b',Owns (s.alloc d c) {g with bx:=upd g.bx (.own d (s.gen d)) b} o b'->(o=.box (.own d (s.gen d))/\b'=b)\/(o≠ .box (.own d (s.gen d))/\Owns s g o b'):=by
  intro o b' h1;cases h1 with
  | @box r c' h1=>
    by_cases hr':r=.own d (s.gen d)
    ·subst hr';exact .inl ⟨rfl,Zad _ _ _⟩
    ·rw[hKne r hr']at h1;rw[hbx r c' h1];exact .inr ⟨(fun e=>hr' (by cases e;rfl)),.box h1⟩
  | @slot t h1=>
    by_cases ht:t=d
    ·subst ht;rw[hnew]at h1;cases h1
    ·rw[hne t ht]at h1;exact .inr ⟨(fun e=>by cases e),.slot h1⟩
  | @cell r c' j x h1 h2 h3=>
    by_cases hr':r=.own d (s.gen d)
    ·subst hr';rw[hKnew]at h1;cases h1;rw[(hc j x h2).2.1]at h3;cases h3
    ·rw[hKne r hr']at h1;exact .inr ⟨(fun e=>by cases e),.cell h1 h2 h3⟩
 refine⟨by rw[Zen];exact h.defers,by rw[Zgw];exact h.size,fun t=>?_,fun u t n hu=>?_,fun u t n sz i j hu=>?_,?_⟩
 ·rw[Za3 hd'];by_cases ht:t=d
  ·subst ht;rw[if_pos rfl,hnew];refine⟨?_,?_⟩
   ·show _=Value.pointer (some ⟨upd g.bx (.own t (s.gen t)) b (.own t (s.gen t)),0,none⟩);rw[Zad]
   ·show s.gen t<(s.alloc t c).gen t;simp[St.alloc]
  ·rw[if_neg ht,hne t ht];exact(h.slot t).keep hk fun _=>⟨rfl,rfl,fun _=>Iff.rfl⟩
 ·have hud:u≠d:=fun e=>by subst e;rw[hnew]at hu;cases hu
  rw[hne u hud]at hu;obtain⟨h2,h3⟩:=h.als u t n hu;refine⟨Nat.le_trans h2 (hgen t),fun hn=>?_⟩;obtain⟨h4,h5⟩:=stale t n h2 hn;rw[hne t h4,Za3 hd',Za3 hd',if_neg hud,if_neg h4];exact h3 h5
 ·have hud:u≠d:=fun e=>by subst e;rw[hnew]at hu;cases hu
  rw[hne u hud]at hu;obtain⟨h2,h3⟩:=h.opt u t n sz i j hu;refine⟨Nat.le_trans h2 (hgen t),fun hn=>?_⟩;obtain⟨h4,h5⟩:=stale t n h2 hn;rw[hne t h4,Za3 hd',if_neg hud];exact h3 h5
 ·refine⟨fun r c' hc'=>?_,fun o o' b' h1 h2=>?_,fun o b' h1=>?_,h.heap.prs,h.heap.pr0,h.heap.prn,fun r=>?_,h.heap.uu,h.heap.fr⟩
  ·by_cases hr':r=.own d (s.gen d)
   ·subst hr';rw[hKnew]at hc';cases hc';refine⟨cs,?_,hs,fun j x hx=>?_,?_,?_⟩
    ·show Row w (upd g.bx (.own d (s.gen d)) b (.own d (s.gen d))) cs;rw[Zad];exact hr
    ·obtain⟨h1,h2,v,h3,h4⟩:=hc j x hx;exact⟨h1,v,h3,(h4 (.cell (.own d (s.gen d)) j)).keep hk fun e=>by rw[h2]at e;cases e⟩
    ·intro o;show¬g.Pr (upd g.bx (.own d (s.gen d)) b (.own d (s.gen d))) o;rw[Zad];exact hp o
    ·show s.gen d<(s.alloc d c).gen d;simp[St.alloc]
   ·rw[hKne r hr']at hc';obtain⟨ds,h1,h2,h3,h4,h5⟩:=h.heap.box r c' hc';have e:=hbx r c' hc';refine⟨ds,by rw[e];exact h1,h2,fun j y hy=>?_,by rw[e];exact h4,h5.mono hgen fun _ h=>h⟩;obtain⟨hp',z,h6,h7⟩:=h3 j y hy;exact⟨hp',z,h6,h7.keep hk fun _=>⟨rfl,rfl,fun _=>Iff.rfl⟩⟩
  ·rcases old o b' h1 with⟨e1,e2⟩|⟨n1,o1⟩<;>rcases old o' b' h2 with⟨e3,e4⟩|⟨n2,o2⟩
   ·rw[e1,e3]
   ·exact absurd (e2▸o2) (hf o')
   ·exact absurd (e4▸o1) (hf o)
   ·exact h.heap.inj o o' b' o1 o2
  ·rcases old o b' h1 with⟨_,e1⟩|⟨_,o1⟩
   ·rw[e1];exact .inl hb
   ·exact h.heap.wr o b' o1
  ·show upd g.bx (.own d (s.gen d)) b (.up r)=_;rw[Zac _ _ (fun e=>by cases e)];exact h.heap.up r
theorem Rel.setBox{C:Ctx}{s:St}{g:Gh}{a:Act}{w w':World}(h:Rel C s g a w){r:Ref}{c c':List A}{cs cs':Array Value}(hK:s.K r=some c)(hr:Row w (g.bx r) cs)
 (hw:Wrote w w' (g.bx r) cs') (hs:cs'.size=cs.size) (hl:c'.length=c.length)
 (hc:∀(j:Nat)(x:A),c'[j]? =some x->(c[j]? =some x/\cs'[j]? =cs[j]?)\/
  (x.plain=true/\x.isOwn=false/\ ∃v,cs'[j]? =some v/\ ∀p,RepA w g s.gen p x v)):
 Rel C (s.setK r c') g a w':=by
 obtain⟨cs0,hr0,hs0,hc0,hp0,ho0⟩:=h.heap.box r c hK;obtain rfl:=hr.unique hr0;have hE:C.w0.heap.size<=g.bx r\/C.E (g.bx r):=h.heap.wr _ _ (.box hK);have hne:∀o b,Owns s g o b->o≠ .box r->b≠g.bx r:=fun o b ho hn e=>hn (h.heap.inj o (.box r) _ ho (e▸ .box hK))
 have hcell:∀b' o,g.Pr b' o->w'.cell? ⟨b',o,none⟩=w.cell? ⟨b',o,none⟩:=fun b' o hpr=>hw.cell b' o (fun e=>hp0 o (e▸hpr))
 have hk:Keeps w w' g g s.gen s.gen:=⟨hcell,fun _ _ h=>h,fun _=>Nat.le_refl _,fun _ _=>rfl,fun _ h=>h⟩;have hbk:∀o b',Owns s g o b'->o≠ .box r->w'.heap[b']? =w.heap[b']? :=fun o b' ho hn=>hw.same b' (hne o b' ho hn)
 have hKne:∀q,q≠r->(s.setK r c').K q=s.K q:=fun q hq=>Zac _ _ hq
 have hKnew:(s.setK r c').K r=some c':=Zad _ _ _
 have old:∀o b',Owns (s.setK r c') g o b'->Owns s g o b':=by
  intro o b' h1;cases h1 with
  | @box q d h1=>
    by_cases hq:q=r
    ·subst hq;exact .box hK
    ·rw[hKne q hq]at h1;exact .box h1
  |slot h1=>exact .slot h1
  | @cell q d j x h1 h2 h3=>
    by_cases hq:q=r
    ·subst hq;rw[hKnew]at h1;cases h1;rcases hc j x h2 with⟨h4,_⟩|⟨_,h4,_⟩
     ·exact .cell hK h4 h3
     ·rw[h4]at h3;cases h3
    ·rw[hKne q hq]at h1;exact .cell h1 h2 h3
 refine⟨h.defers,h.size,fun t=>(h.slot t).keep hk fun ho=>⟨rfl,hbk _ _ (.slot ho) (fun e=>by cases e),fun _=>Iff.rfl⟩,h.als,h.opt,?_⟩
 refine⟨fun q d hd=>?_,fun o o' b h1 h2=>h.heap.inj o o' b (old _ _ h1) (old _ _ h2),fun o b h1=>h.heap.wr o b (old _ _ h1),
  fun b o hpr=>by rw[hw.size];exact h.heap.prs b o hpr,h.heap.pr0,h.heap.prn,h.heap.up,h.heap.uu,?_⟩
 ·by_cases hq:q=r
  ·subst hq;rw[hKnew]at hd;cases hd;refine⟨cs',hw.row,by rw[hs,hs0,hl],fun j x hx=>?_,hp0,ho0⟩;rcases hc j x hx with⟨h1,h2⟩|⟨h1,h2,v,h3,h4⟩
   ·obtain⟨hp,v,h6,h7⟩:=hc0 j x h1;exact⟨hp,v,by rw[h2];exact h6,h7.keep hk fun ho=>⟨rfl,hbk _ _ (.cell hK h1 ho) (fun e=>by cases e),fun _=>Iff.rfl⟩⟩
   ·exact⟨h1,v,h3,(h4 (.cell q j)).keep hk fun e=>by rw[h2]at e;cases e⟩
  ·rw[hKne q hq]at hd;obtain⟨ds,h1,h2,h3,h4,h5⟩:=h.heap.box q d hd;refine⟨ds,h1.of_same (hbk _ _ (.box hd) (fun e=>hq (by cases e;rfl))),h2,fun j x hx=>?_,h4,h5⟩;obtain⟨hp,v,h6,h7⟩:=h3 j x hx;exact⟨hp,v,h6,h7.keep hk fun ho=>⟨rfl,hbk _ _ (.cell hd hx ho) (fun e=>by cases e),fun _=>Iff.rfl⟩⟩
 ·exact h.heap.fr.trans (hw.fr hr hs (fun b'=>b'=g.bx r) rfl C.Pr0 fun o ho=>absurd (h.heap.pr0 _ o ho) (hp0 o)) (fun b' e=>by subst e;exact hE.symm) (fun _ _ h=>h)
theorem Rel.giveCell{C:Ctx}{s:St}{g:Gh}{a:Act}{w:World}(h:Rel C s g a w){r:Ref}{c:List A}{k b:Nat}{es nw:List (List D)}{v:Value}{cap sz:Nat}{cs:Array Value}
 (hK:s.K r=some c) (hk1:k<c.length) (hv:∀ds,Row w (g.bx r) ds->ds[k]? =some v) (hold:∀x,c[k]? =some x->x.isOwn=false)
 (hf:∀o,¬Owns s g o b) (hb:C.w0.heap.size<=b\/C.E b) (ho:OwnRep w g.Pr b es nw v cap sz cs):
 Rel C (s.setK r (c.set k (.own sz es nw))) (g.give (.cell r k) b) a w:=by
 have hk:Keeps w w g (g.give (.cell r k) b) s.gen s.gen:=g.give_keeps _ b w _ _ (fun _=>Nat.le_refl _);have hKne:∀q,q≠r->(s.setK r (c.set k (.own sz es nw))).K q=s.K q:=fun q hq=>Zac _ _ hq
 have hKnew:(s.setK r (c.set k (.own sz es nw))).K r=some (c.set k (.own sz es nw)):=Zad _ _ _;have hows:∀t,(g.give (.cell r k) b).ow (.slot t)=g.ow (.slot t):=fun t=>Zac _ _ (fun e=>by cases e)
 have howc:∀q j,¬(q=r/\j=k)->(g.give (.cell r k) b).ow (.cell q j)=g.ow (.cell q j):=fun q j hn=>Zac _ _ (fun e=>hn (by cases e;exact⟨rfl,rfl⟩))
 have howk:(g.give (.cell r k) b).ow (.cell r k)=b:=Zad _ _ _;have hget:∀j,j≠k->(c.set k (.own sz es nw))[j]? =c[j]? :=fun j hj=>by rw[List.getElem?_set_ne (fun e=>hj e.symm)]
 have hgetk:(c.set k (.own sz es nw))[k]? =some (.own sz es nw):=by simp[hk1]
 have old:∀o b',Owns (s.setK r (c.set k (.own sz es nw))) (g.give (.cell r k) b) o b'->(o=.cell r k/\b'=b)\/(o≠ .cell r k/\Owns s g o b'):=by
  intro o b' h1;cases h1 with
  | @box q d h1=>
    by_cases hq:q=r
    ·subst hq;exact .inr ⟨(fun e=>by cases e),.box hK⟩
    ·rw[hKne q hq]at h1;exact .inr ⟨(fun e=>by cases e),.box h1⟩
  | @slot t h1=>rw[hows];exact .inr ⟨(fun e=>by cases e),.slot h1⟩
  | @cell q d j x h1 h2 h3=>
    by_cases hq:q=r
    ·subst hq;rw[hKnew]at h1;cases h1;by_cases hj:j=k
     ·subst hj;exact .inl ⟨rfl,howk⟩
     ·rw[hget j hj]at h2;rw[howc q j (fun e=>hj e.2)];exact .inr ⟨(fun e=>hj (by cases e;rfl)),.cell hK h2 h3⟩
    ·rw[hKne q hq]at h1;rw[howc q j (fun e=>hq e.1)];exact .inr ⟨(fun e=>hq (by cases e;rfl)),.cell h1 h2 h3⟩
 refine⟨h.defers,h.size,fun t=>(h.slot t).keep hk fun _=>⟨hows t,rfl,fun _=>Iff.rfl⟩,h.als,fun u t n sz i j hu=>?_,?_⟩
 ·obtain⟨h1,h2⟩:=h.opt u t n sz i j hu;refine⟨h1,fun hn=>?_⟩;rw[hows t];exact h2 hn
 ·refine⟨fun q d hd=>?_,fun o o' b' h1 h2=>?_,fun o b' h1=>?_,h.heap.prs,h.heap.pr0,h.heap.prn,h.heap.up,h.heap.uu,h.heap.fr⟩
  ·by_cases hq:q=r
   ·subst hq;rw[hKnew]at hd;cases hd;obtain⟨ds,h1,h2,h3,h4,h5⟩:=h.heap.box q c hK;refine⟨ds,h1,by simpa using h2,fun j x hx=>?_,h4,h5⟩;by_cases hj:j=k
    ·subst hj;rw[hgetk]at hx;cases hx;exact⟨rfl,v,hv ds h1,cap,cs,by rw[howk];exact ho⟩
    ·rw[hget j hj]at hx;obtain⟨hp,z,h6,h7⟩:=h3 j x hx;exact⟨hp,z,h6,h7.keep hk fun _=>⟨howc q j (fun e=>hj e.2),rfl,fun _=>Iff.rfl⟩⟩
   ·rw[hKne q hq]at hd;obtain⟨ds,h1,h2,h3,h4,h5⟩:=h.heap.box q d hd;refine⟨ds,h1,h2,fun j x hx=>?_,h4,h5⟩;obtain⟨hp,z,h6,h7⟩:=h3 j x hx;exact⟨hp,z,h6,h7.keep hk fun _=>⟨howc q j (fun e=>hq e.1),rfl,fun _=>Iff.rfl⟩⟩
  ·rcases old o b' h1 with⟨rfl,e1⟩|⟨n1,o1⟩<;>rcases old o' b' h2 with⟨rfl,e2⟩|⟨n2,o2⟩
   ·rfl
   ·exact absurd (e1▸o2) (hf o')
   ·exact absurd (e2▸o1) (hf o)
   ·exact h.heap.inj o o' b' o1 o2
  ·rcases old o b' h1 with⟨_,e1⟩|⟨_,o1⟩
   ·rw[e1];exact hb
   ·exact h.heap.wr o b' o1
theorem Rel.dropCell{C:Ctx}{s:St}{g:Gh}{a:Act}{w:World}(h:Rel C s g a w){r:Ref}{c:List A}(hK:s.K r=some c)(k:Nat):Rel C (s.setK r (c.set k .any)) g a w:=by
 obtain⟨cs,hr,hs,hc,hp,ho⟩:=h.heap.box r c hK;refine h.setBox hK hr (.refl hr) rfl (by simp) fun j x hx=>?_
 by_cases hj:j=k
 ·subst hj
  have hlt:j<c.length:=by
   have:=(List.getElem?_eq_some_iff.1 hx).1;simpa using this
  rw[List.getElem?_set_self hlt]at hx;cases hx;refine .inr ⟨rfl,rfl,cs[j]'(by omega),by simp[hs,hlt],fun _=>trivial⟩
 ·rw[List.getElem?_set_ne (fun e=>hj e.symm)]at hx;exact .inl ⟨hx,rfl⟩
end Go.Ab
end
section
namespace Go.Ab
open Classical
def OpOk(C:Ctx)(o:Oper)(s s':St):Prop:=
 ∀(g:Gh)(a:Act)(w:World),Rel C s g a w-> ∀(K:Act->World->Prop)(Q:Exit->Act->World->Prop),
  (∀g' a' w',Rel C s' g' a' w'->K a' w')->o.wp C.P a w K Q
theorem Zbg{P:Program}{o:Oper}{a:Act}{w w':World}{v:Value}{K:Act->World->Prop}{Q:Exit->Act->World->Prop}
 (h:(execOp a.eval o).run P w=.ok (.value v) w') (hk:K (a.put o.dst v) w'):o.wp P a w K Q:=by
 unfold Oper.wp;rw[h];exact hk
theorem Zik{P:Program}{o:Oper}{a:Act}{w w':World}{K:Act->World->Prop}{Q:Exit->Act->World->Prop}
 (h:(execOp a.eval o).run P w=.ok .skip w') (hk:K (a.put o.dst undef) w'):o.wp P a w K Q:=by
 unfold Oper.wp;rw[h];exact hk
theorem RepA.place{w:World}{g:Gh}{gen:Nat->Nat}{p:Place}{x:A}{v:Value}(h:RepA w g gen p x v)(hx:x.isOwn=false)(p':Place):RepA w g gen p' x v:=by
 cases x<;>first|exact h|(simp[A.isOwn]at hx)
theorem RepD.constD{w:World}{Pr:Nat->Nat->Prop}(v:Value)(h:Go.Ab.isCell v=true):RepD w Pr (constD v) v:=by
 unfold Ab.constD;split
 ·exact .emp _ _
 ·exact .lit _ h
theorem Zcx{w:World}{Pr:Nat->Nat->Prop}:∀(vs:List Value),vs.all Go.Ab.isCell=true->All2 (RepD w Pr) (vs.map constD) vs
 |[],_=>trivial
 |v::vs,h=>by
  simp only[List.all_cons,Bool.and_eq_true]at h;exact⟨RepD.constD v h.1,Zcx vs h.2⟩
theorem Zof{w:World}{g:Gh}{gen:Nat->Nat}(p:Place)(v:Value):RepA w g gen p (Zcl v) v:=by
 unfold Zcl;split
 ·rename_i vs;split
  ·rename_i h;exact⟨vs.toList,by simp,Zcx _ h⟩
  ·trivial
 ·trivial
 ·exact⟨.emp _ _,_,_,rfl⟩
 ·rename_i h1 h2 h3;refine .lit _ ?_;cases v<;>first|rfl|exact absurd rfl (h1 _)|exact absurd rfl (h2 _)
theorem Rel.ev{C:Ctx}{s:St}{g:Gh}{a:Act}{w:World}(h:Rel C s g a w)(x:Operand)(hx:(s.ev x).isOwn=false)(p:Place):RepA w g s.gen p (s.ev x) (a.eval x):=by
 cases x with
 |tmp t=>exact(h.slot t).place hx p
 |const v=>exact Zof p v
 |global n=>trivial
 |func f=>exact⟨rfl,fun r hr=>by cases hr⟩
theorem OwnRep.repD{w:World}{Pr:Nat->Nat->Prop}{b:Nat}{es:List (List D)}{v:Value}{cap sz:Nat}{cs:Array Value}(h:OwnRep w Pr b es [] v cap sz cs):RepD w Pr (.slc es) v:=by
 have hv:=h.val;simp only[List.length_nil,Nat.add_zero]at hv;rw[hv];have hroom:=h.room;simp only[List.length_nil,Nat.add_zero]at hroom;have hsize:=h.size
 have hin:∀k,k<es.length*sz->k<cs.size:=fun k hk=>by
  rw[hsize];exact Nat.lt_of_lt_of_le hk (Nat.mul_le_mul_right _ hroom)
 refine .slc es sz b 0 cap (fun k=>cs.getD k undef) h.pos (fun e he=>h.len e (by simpa using he)) hroom (fun k hk=>?_) (fun k hk=>?_) (fun i j hi hj=>?_)
 ·rw[Nat.zero_add,h.row.cell];simp[hin k hk]
 ·rw[Nat.zero_add];exact(h.prot k).2 hk
 ·have he:=h.elems i j (by simpa using hi) (by simpa using hj);obtain⟨u,h1,h2⟩:=he;simp only[List.append_nil]at h2;have:cs.getD (i*sz+j) undef=u:=by simp[h1]
  rw[this];exact h2
theorem Rel.own{C:Ctx}{s:St}{g:Gh}{a:Act}{w:World}(h:Rel C s g a w){t:Nat}{sz:Nat}{es nw:List (List D)}(ht:s.tm t=.own sz es nw):
 ∃cap cs,OwnRep w g.Pr (g.ow (.slot t)) es nw (a.tmps.getD t undef) cap sz cs:=by
 have:=h.slot t;rw[ht]at this;exact this
theorem Zf6(v:Value):(Zcl v).isOwn=false:=by
 unfold Zcl;split
 ·split<;>rfl
 all_goals rfl
theorem Rel.esc{C:Ctx}{s:St}{g:Gh}{a:Act}{w:World}(h:Rel C s g a w){x:Operand}{y:D}(hy:s.esc x=some y):RepD w g.Pr y (a.eval x):=by
 unfold St.esc at hy;split at hy
 ·rename_i z hz;cases hy;have:=h.ev x (by rw[hz];rfl) .res;rw[hz]at this;exact this
 ·rename_i es hz;cases hy;have:=h.ev x (by rw[hz];rfl) .res;rw[hz]at this;exact this.1
 ·rename_i sz es hz;cases hy;cases x with
  |tmp t=>
   obtain⟨cap,cs,ho⟩:=h.own hz;exact ho.repD
  |const v=>
   have:=Zf6 v;simp only[St.ev]at hz;rw[hz]at this;cases this
  |global n=>cases hz
  |func f=>cases hz
 ·rename_i t n hz;split at hy
  ·rename_i hn;split at hy
   ·rename_i sz es ht;cases hy;cases x with
    |tmp u=>
     obtain⟨_,h2⟩:=h.als u t n hz;obtain⟨_,h3⟩:=h2 hn;show RepD w g.Pr _ (a.tmps.getD u undef);rw[h3];obtain⟨cap,cs,ho⟩:=h.own ht;exact ho.repD
    |const v=>
     simp only[St.ev,Zcl]at hz;split at hz
     ·split at hz<;>cases hz
     all_goals cases hz
    |global n=>cases hz
    |func f=>cases hz
   ·cases hy
  ·cases hy
 ·cases hy
theorem Zfe{v:Value}(h:isCell v=true):v.cells.toList=[v]:=by
 cases v<;>first|rfl|simp[isCell]at h
theorem Rel.nwLen{C:Ctx}{s:St}{g:Gh}{a:Act}{w:World}(h:Rel C s g a w){x:Operand}{n:Nat}(hy:s.nwLen x=some n):∃b cap,a.eval x=.slice b n cap:=by
 unfold St.nwLen at hy;split at hy
 ·rename_i sz es nw hz;cases hy;cases x with
  |tmp t=>
   obtain⟨cap,cs,ho⟩:=h.own hz;exact⟨_,cap,ho.val⟩
  |const v=>
   have:=Zf6 v;simp only[St.ev]at hz;rw[hz]at this;cases this
  |global n=>cases hz
  |func f=>cases hz
 ·rename_i t k hz;split at hy
  ·rename_i hn;split at hy
   ·rename_i sz es nw ht;cases hy;cases x with
    |tmp u=>
     obtain⟨_,h2⟩:=h.als u t k hz;obtain⟨_,h3⟩:=h2 hn;obtain⟨cap,cs,ho⟩:=h.own ht;exact⟨_,cap,by show a.tmps.getD u undef=_;rw[h3];exact ho.val⟩
    |const v=>
     simp only[St.ev,Zcl]at hz;split at hz
     ·split at hz<;>cases hz
     all_goals cases hz
    |global n=>cases hz
    |func f=>cases hz
   ·cases hy
  ·cases hy
 ·cases hy
theorem Rel.escs{C:Ctx}{s:St}{g:Gh}{a:Act}{w:World}(h:Rel C s g a w){x:Operand}{l:List D}(hy:s.escs x=some l):All2 (RepD w g.Pr) l (a.eval x).cells.toList:=by
 unfold St.escs at hy;split at hy
 ·rename_i l' hz;cases hy;have:=h.ev x (by rw[hz];rfl) .res;rw[hz]at this;obtain⟨cs,h1,h2⟩:=this;rw[h1];exact h2
 ·cases he:s.esc x with
  |none=>rw[he]at hy;cases hy
  |some y=>
   rw[he]at hy;cases hy;have:=h.esc he;rw[Zfe this.isCell];exact⟨this,trivial⟩
theorem Rel.lit{C:Ctx}{s:St}{g:Gh}{a:Act}{w:World}(h:Rel C s g a w){x:Operand}{v:Value}(hy:s.lit x=some v):a.eval x=v:=by
 unfold St.lit at hy;split at hy
 ·rename_i u hz;cases hy;have:=h.ev x (by rw[hz];rfl) .res;rw[hz]at this;cases this;rfl
 ·cases hy
theorem OpOk.of_value{C:Ctx}{o:Oper}{s:St}{d:Nat}{x:A}(hd:o.dst=some d)(hN:d<C.N)(hx:x.isOwn=false)(hp:x.plain=true)
 (h:∀g a w,Rel C s g a w-> ∃v,(execOp a.eval o).run C.P w=.ok (.value v) w/\RepA w g s.gen (.slot d) x v):OpOk C o s (s.put d x):=by
 intro g a w hR K Q hK;obtain⟨v,h1,h2⟩:=h g a w hR;refine Zbg h1 (hK g _ w ?_);rw[hd];exact hR.put hN hx h2 (fun t n e=>by subst e;cases hp) (fun t n sz i j e=>by subst e;cases hp)
theorem Zcy(v:Value):(Zcl v).plain=true:=by
 unfold Zcl;split
 ·split<;>rfl
 all_goals rfl
theorem OpOk.of_copy{C:Ctx}{o:Oper}{s:St}{d:Nat}{x:Operand}{y:A}(hd:o.dst=some d)(hN:d<C.N)(hy:s.copy d x=some y)
 (h:∀g a w,Rel C s g a w->(execOp a.eval o).run C.P w=.ok (.value (a.eval x)) w):OpOk C o s (s.put d y):=by
 intro g a w hR K Q hK;refine Zbg (h g a w hR) (hK g _ w ?_);rw[hd]
 have triv:∀z:A,s.ev x=z->z.isOwn=false->z.plain=true->Rel C (s.put d z) g (a.put (some d) (a.eval x)) w:=fun z hz ho hp=>by
  refine hR.put hN ho ?_ (fun t n e=>by subst e;cases hp) (fun t n sz i j e=>by subst e;cases hp);rw[<-hz];exact hR.ev x (by rw[hz];exact ho) _
 have notc:∀v,x=.const v->(s.ev x).plain=true/\(s.ev x).isOwn=false:=fun v e=>by subst e;exact⟨Zcy v,Zf6 v⟩
 unfold St.copy at hy
 split at hy<;>first
  |(rename_i hz;cases hy;exact triv _ hz rfl rfl)
  |skip
 ·rename_i t n sz i j hz;split at hy
  ·cases hy
  ·rename_i htd;cases hy;cases x with
   |tmp u=>
    obtain⟨h1,h2⟩:=hR.opt u t n sz i j hz;refine hR.put hN rfl trivial (fun t n e=>by cases e) (fun t' n' sz' i' j' e=>?_);cases e;exact⟨htd,h1,h2⟩
   |const v=>have:=(notc v rfl).1;rw[hz]at this;cases this
   |global n=>cases hz
   |func f=>cases hz
 ·rename_i t n hz;split at hy
  ·cases hy
  ·rename_i htd;cases hy;cases x with
   |tmp u=>
    obtain⟨h1,h2⟩:=hR.als u t n hz;refine hR.put hN rfl trivial (fun t' n' e=>?_) (fun t n sz i j e=>by cases e);cases e;exact⟨htd,h1,h2⟩
   |const v=>have:=(notc v rfl).1;rw[hz]at this;cases this
   |global n=>cases hz
   |func f=>cases hz
 ·rename_i sz es nw hz;split at hy
  ·rename_i t;split at hy
   ·cases hy
   ·rename_i htd;cases hy;refine hR.put hN rfl trivial (fun t' n' e=>?_) (fun t n sz i j e=>by cases e);cases e;have:s.tm t=.own sz es nw:=hz;exact⟨htd,Nat.le_refl _,fun _=>⟨by rw[this];rfl,rfl⟩⟩
  ·cases hy
 ·cases hy
end Go.Ab
end
section
namespace Go.Ab
open Classical
theorem Zog{P:Program}{op:BinOp}{k:IntKind}{a b:Int}{v:Value}(t:TypeId)(h:binV P op t (.int k a) (.int k b)=some v)(w:World):
 (binOp op t (.int k a) (.int k b)).run P w=.ok v w:=by
 cases op<;>simp only[binV,Zg4,if_true]at h<;>(try split at h)<;>cases h<;>
  simp_all[binOp,Op.intArith,Op.intDiv,Op.intBits,Op.intCmp,Op.shift]
 all_goals omega
theorem Zmw{P:Program}{t:TypeId}{ms}(h:P.underlying t=some (.interface ms))(w:World)(d:Nat):(Op.equalIn (d+1) t .nilIface .nilIface).run P w=.ok true w:=by
 simp[Op.equalIn,run_underlying,h]
theorem Zmx{P:Program}{t:TypeId}{ms}(h:P.underlying t=some (.interface ms))(w:World)(d:Nat)(k:TypeId)(v:Value):(Op.equalIn (d+1) t (.iface k v) .nilIface).run P w=.ok false w:=by
 simp[Op.equalIn,run_underlying,h]
theorem Zrj{P:Program}{op:BinOp}{t:TypeId}{x y v:Value}(h:binV P op t x y=some v)(w:World):(binOp op t x y).run P w=.ok v w:=by
 unfold binV at h;split at h
 ·rename_i k a k' b;split at h
  ·split at h<;>cases h;simp_all[binOp,Op.shift];omega
  ·split at h<;>cases h;simp_all[binOp,Op.shift];omega
  ·split at h
   ·rename_i hk;subst hk;exact Zog t (by unfold binV;split<;>simp_all) w
   ·cases h
 ·rename_i a b;cases op<;>simp only[Zjy]at h<;>(try split at h)<;>cases h<;>simp_all[binOp,Op.stringOp]
 ·rename_i a b
  have hpk:∀{q:TypeId},pkOf P q=some .bool->P.underlying q=some .bool:=fun{q} hq=>by
   unfold pkOf at hq;split at hq<;>simp_all
  split at h
  ·rename_i ht;cases h;simp[binOp,Op.equal,Op.maxDepth,run_equalIn_bool' w 9999 t a b (hpk ht)]
  ·rename_i ht;cases h;simp[binOp,Op.equal,Op.maxDepth,run_equalIn_bool' w 9999 t a b (hpk ht)]
  ·cases h
 ·obtain⟨ms,ht,_,⟨rfl,rfl⟩|⟨rfl,rfl⟩⟩:=Zd2 h
  ·simp[binOp,Op.equal,Op.maxDepth,Zmw ht w 9999]
  ·simp[binOp,Op.equal,Op.maxDepth,Zmw ht w 9999]
 ·obtain⟨ms,ht,_,⟨rfl,rfl⟩|⟨rfl,rfl⟩⟩:=Zd2 h
  ·simp[binOp,Op.equal,Op.maxDepth,Zmx ht w 9999]
  ·simp[binOp,Op.equal,Op.maxDepth,Zmx ht w 9999]
 ·cases h
theorem Zlp{P:Program}{op:BinOp}{t:TypeId}{x y v:Value}(h:binV P op t x y=some v):isCell v=true:=by
 unfold binV at h;split at h
 ·split at h
  ·split at h<;>cases h;rfl
  ·split at h<;>cases h;rfl
  ·split at h
   ·rename_i op' _ _ _;unfold Zg4 at h;split at h<;>(try split at h)<;>cases h<;>rfl
   ·cases h
 ·unfold Zjy at h;split at h<;>(try split at h)<;>cases h<;>rfl
 ·split at h<;>cases h<;>rfl
 ·obtain⟨_,_,_,⟨_,rfl⟩|⟨_,rfl⟩⟩:=Zd2 h<;>rfl
 ·obtain⟨_,_,_,⟨_,rfl⟩|⟨_,rfl⟩⟩:=Zd2 h<;>rfl
 ·cases h
theorem Ztd{P:Program}{op:UnOp}{x v:Value}(h:unV op x=some v)(w:World):(Op.unary op x).run P w=.ok v w:=by
 unfold unV at h;split at h<;>cases h<;>simp[Op.unary,Op.intArith,Op.intBits]
theorem Zoh{op:UnOp}{x v:Value}(h:unV op x=some v):isCell v=true:=by
 unfold unV at h;split at h<;>cases h<;>rfl
theorem Zpc{P:Program}{src dst:TypeId}{x v:Value}(h:Zif P src dst x=some v)(w:World):(convert src dst x).run P w=.ok v w:=by
 unfold Zif at h;split at h
 ·rename_i h1 h2;cases h;simp[convert,run_underlying h1,run_underlying h2,Conv.intToInt]
 ·rename_i h1 h2;cases h;simp[convert,run_underlying h1,run_underlying h2,Conv.intToString]
 ·rename_i h1 h2;cases h;simp[convert,run_underlying h1,run_underlying h2]
 ·cases h
theorem Zj1{P:Program}{src dst:TypeId}{x v:Value}(h:Zif P src dst x=some v):isCell v=true:=by
 unfold Zif at h;split at h<;>cases h<;>rfl
end Go.Ab
end
section
namespace Go.Ab
open Classical
theorem Zam{α β:Type}{R:α->β->Prop}:∀{l:List α}{m:List β},All2 R l m->l.length=m.length
 |[],[],_=>rfl
 |_::_,_::_,⟨_,t⟩=>by simp[Zam t]
 |[],_::_,h=>h.elim
 |_::_,[],h=>h.elim
theorem Zat{α β:Type}{R:α->β->Prop}:∀{l:List α}{m:List β},All2 R l m-> ∀(i:Nat)(x:α),l[i]? =some x-> ∃y,m[i]? =some y/\R x y
 |[],[],_,i,x,h=>by simp at h
 |a::_,b::_,⟨h0,_⟩,0,x,h=>⟨b,rfl,by simp at h;subst h;exact h0⟩
 |_::l,_::m,⟨_,t⟩,i+1,x,h=>Zat t i x (by simpa using h)
 |[],_::_,h,_,_,_=>h.elim
 |_::_,[],h,_,_,_=>h.elim
theorem Ze0{α β:Type}{R:α->β->Prop}:∀{l:List α}{m:List β},l.length=m.length->(∀(i:Nat)(x:α)(y:β),l[i]? =some x->m[i]? =some y->R x y)->All2 R l m
 |[],[],_,_=>trivial
 |a::l,b::m,h,hr=>⟨hr 0 a b rfl rfl,Ze0 (by simpa using h) fun i x y h1 h2=>hr (i+1) x y (by simpa using h1) (by simpa using h2)⟩
 |[],_::_,h,_=>by simp at h
 |_::_,[],h,_=>by simp at h
theorem Zff{P:Program}{t:TypeId}{n:Nat}{b:Bool}(h:szOf P t=some (n,b)):∃i d,P.info? t=some i/\i.size=n/\P.underlying t=some d/\b=(match d with|.struct _|.array _ _=>true|_=>false):=by
 unfold szOf at h;split at h
 ·rename_i i fs h1 h2;cases h;exact⟨i,_,h1,rfl,h2,rfl⟩
 ·rename_i i x y h1 h2;cases h;exact⟨i,_,h1,rfl,h2,rfl⟩
 ·rename_i i d h3 h4 h1 h2;cases h;refine⟨i,d,h1,rfl,h2,?_⟩;cases d<;>first|rfl|exact absurd rfl (h3 _)|exact absurd rfl (h4 _ _)
 ·cases h
theorem Zbe{P:Program}{t:TypeId}{n:Nat}{b:Bool}(h:szOf P t=some (n,b))(w:World):(sizeOf t).run P w=.ok n w:=by
 obtain⟨i,d,h1,h2,_,_⟩:=Zff h;simp[sizeOf,typeInfo,h1,h2]
theorem Zg7{P:Program}{t:TypeId}{n:Nat}{b:Bool}(h:szOf P t=some (n,b))(w:World):(isAgg t).run P w=.ok b w:=by
 obtain⟨i,d,h1,h2,h3,h4⟩:=Zff h;subst h4;cases d<;>simp[isAgg,run_underlying h3]
theorem Zbu{P:Program}{t:TypeId}{n:Nat}(h:szOf P t=some (n,true)){w:World}{b o:Nat}{vs:Nat->Value}(hv:∀k,k<n->w.cell? ⟨b,o+k,none⟩=some (vs k)):
 (loadVar t ⟨b,o,none⟩).run P w=.ok (.agg ((List.range n).map vs).toArray) w:=by
 simp[loadVar,Zg7 h,Zbe h,Zcq vs hv]
theorem Zbb{P:Program}{t:TypeId}{n:Nat}(h:szOf P t=some (n,false)){w:World}{b o:Nat}{v:Value}(hv:w.cell? ⟨b,o,none⟩=some v):
 (loadVar t ⟨b,o,none⟩).run P w=.ok v w:=by
 simp[loadVar,Zg7 h,hv]
def Zoi:A->Option A
 |.any=>some .any
 |.d x=>some (.d x)
 |.ptr r o=>some (.ptr r o)
 |.fn f c=>some (.fn f c)
 |.zs es=>some (.zs es)
 |.own _ es []=>some (.d (.slc es))
 |_=>none
def Zj2:List D->Option A
 |x::_=>some (.d x)
 |[]=>none
noncomputable def Zg8(s:St)(t n m i j:Nat):Option (List D):=
 if n=s.gen t then(match s.tm t with
  |.own sz es nw=>if sz=m then(match(es++nw)[i]? with
   |some e=>some (e.drop j)
   |none=>none)else none
  |_=>none)else none
noncomputable def Zcm(P:Program)(s:St)(t:TypeId)(p:A):Option A:=
 match szOf P t with
 |some (n,true)=>(match p with
  |.ptr r off=>(match s.K r with
   |some c=>(match Zbl ((c.drop off).take n)with
    |some l=>if l.length=n then some (.agg l)else none
    |none=>none)
   |none=>none)
  |.elp l=>if n<=l.length then some (.agg (l.take n))else none
  |.opt t k m i j=>(match Zg8 s t k m i j with
   |some l=>if n<=l.length then some (.agg (l.take n))else none
   |none=>none)
  |_=>none)
 |some (_,false)=>(match p with
  |.ptr r off=>(match s.K r with
   |some c=>(match c[off]? with
    |some x=>Zoi x
    |none=>none)
   |none=>none)
  |.elp l=>Zj2 l
  |.opt t k m i j=>(match Zg8 s t k m i j with
   |some l=>Zj2 l
   |none=>none)
  |_=>none)
 |none=>none
theorem Zfg{w:World}{g:Gh}{gen:Nat->Nat}{p:Place}{x:A}{y:D}{v:Value}(h:Zg5 x=some y)(hr:RepA w g gen p x v):RepD w g.Pr y v:=by
 unfold Zg5 at h;split at h
 ·cases h;exact hr
 ·cases h;exact hr.1
 ·cases h;obtain⟨cap,cs,ho⟩:=hr;exact ho.repD
 ·cases h
theorem Zcu:∀{c:List A}{l:List D},Zbl c=some l->l.length=c.length/\ ∀(i:Nat)(y:D),l[i]? =some y-> ∃x,c[i]? =some x/\Zg5 x=some y
 |[],l,h=>by simp[Zbl]at h;subst h;exact⟨rfl,fun i y hy=>by simp at hy⟩
 |a::c,l,h=>by
  simp only[Zbl]at h;split at h
  ·rename_i y r h1 h2;cases h;obtain⟨h3,h4⟩:=Zcu h2;refine⟨by simp[h3],fun i z hz=>?_⟩;cases i with
   |zero=>simp at hz;subst hz;exact⟨a,rfl,h1⟩
   |succ i=>simp at hz;obtain⟨x,h5,h6⟩:=h4 i z hz;exact⟨x,by simpa using h5,h6⟩
  ·cases h
theorem Zpd{w:World}{g:Gh}{gen:Nat->Nat}{p p':Place}{x y:A}{v:Value}(h:Zoi x=some y)(hr:RepA w g gen p x v):RepA w g gen p' y v/\y.isOwn=false/\y.plain=true:=by
 unfold Zoi at h
 split at h<;>cases h<;>first
  |exact⟨hr,rfl,rfl⟩
  |(obtain⟨cap,cs,ho⟩:=hr;exact⟨ho.repD,rfl,rfl⟩)
theorem Zj3{C:Ctx}{s:St}{g:Gh}{a:Act}{w:World}(hR:Rel C s g a w){p:Operand}{t n m i j:Nat}(hp:s.ev p=.opt t n m i j){l:List D}(h:Zg8 s t n m i j=some l):
 ∃(b off:Nat)(vs:Nat->Value),a.eval p=.pointer (some ⟨b,off,none⟩)/\ ∀k (h:k<l.length),w.cell? ⟨b,off+k,none⟩=some (vs k)/\RepD w g.Pr l[k] (vs k):=by
 unfold Zg8 at h;split at h
 ·rename_i hn;split at h
  ·rename_i sz es nw ht;split at h
   ·rename_i hsz;split at h
    ·rename_i e he;cases h;subst hsz;cases p with
     |tmp u=>
      obtain⟨_,h1⟩:=hR.opt u t n sz i j hp;obtain⟨_,h2⟩:=h1 hn;have h3:=hR.slot t;rw[ht]at h3;obtain⟨cap,cs,ho⟩:=h3;obtain⟨hi,hei⟩:=List.getElem?_eq_some_iff.1 he;refine⟨_,_,fun k=>cs.getD (i*sz+(j+k)) undef,h2,fun k hk=>?_⟩;simp only[List.length_drop]at hk;have hk':j+k<(es++nw)[i].length:=by rw[hei];omega
      obtain⟨v,h4,h5⟩:=ho.elems i (j+k) hi hk';refine⟨?_,?_⟩
      ·rw[Nat.add_assoc,ho.row.cell,h4];simp[h4]
      ·have:cs.getD (i*sz+(j+k)) undef=v:=by simp[h4]
       show RepD w g.Pr _ (cs.getD (i*sz+(j+k)) undef);rw[this,List.getElem_drop];simpa[hei]using h5
     |const v=>
      have:(Zcl v).plain=true:=by
       unfold Zcl;split
       ·split<;>rfl
       ·rfl
       ·rfl
       ·rfl
      simp only[St.ev]at hp;rw[hp]at this;cases this
     |global n=>cases hp
     |func f=>cases hp
    ·cases h
   ·cases h
  ·cases h
 ·cases h
theorem Zj4{C:Ctx}{s:St}{g:Gh}{a:Act}{w:World}(hR:Rel C s g a w){t:TypeId}{p:Operand}{y:A}(h:Zcm C.P s t (s.ev p)=some y)(pl:Place):
 ∃v,(Instr.loadAt t (a.eval p)).run C.P w=.ok v w/\RepA w g s.gen pl y v/\y.isOwn=false/\y.plain=true:=by
 unfold Zcm at h;have hev:(s.ev p).isOwn=false->RepA w g s.gen .res (s.ev p) (a.eval p):=fun h=>hR.ev p h _
 split at h
 ·rename_i n hsz;split at h
  ·rename_i r off hp;rw[hp]at hev;obtain⟨hv,_⟩:=hev rfl;split at h
   ·rename_i c hK;split at h
    ·rename_i l hl;split at h
     ·rename_i hn;cases h;obtain⟨cs,hr,hs,hc,_⟩:=hR.heap.box r c hK;obtain⟨h1,h2⟩:=Zcu hl
      have hlen:∀k,k<n->off+k<c.length:=fun k hk=>by
       rw[hn]at h1;simp only[List.length_take,List.length_drop]at h1;omega
      have hcell:∀k,k<n->w.cell? ⟨g.bx r,off+k,none⟩=some (cs.getD (off+k) undef):=fun k hk=>by
       rw[hr.cell];have:off+k<cs.size:=by rw[hs];exact hlen k hk
       simp[this]
      refine⟨_,?_,⟨(List.range n).map fun k=>cs.getD (off+k) undef,rfl,Ze0 (by simp[hn]) fun i x v hx hv'=>?_⟩,rfl,rfl⟩
      ·rw[hv];simp only[Instr.loadAt,Instr.sureAddr,Sem.run_bind,Sem.run_pure,Result.andThen_ok];exact Zbu hsz hcell
      ·obtain⟨z,h3,h4⟩:=h2 i x hx
       have hi:i<n:=by
        have:=(List.getElem?_eq_some_iff.1 hx).1;omega
       rw[List.getElem?_take,if_pos hi,List.getElem?_drop]at h3;obtain⟨_,u,h5,h6⟩:=hc (off+i) z h3;simp only[List.getElem?_map,List.getElem?_range hi,Option.map_some,Option.some.injEq]at hv';subst hv';have:cs.getD (off+i) undef=u:=by simp[h5]
       rw[this];exact Zfg h4 h6
     ·cases h
    ·cases h
   ·cases h
  ·rename_i l hp;rw[hp]at hev;obtain⟨b,off,vs,hv,hc⟩:=hev rfl;split at h
   ·rename_i hn;cases h;refine⟨_,?_,⟨(List.range n).map vs,rfl,Ze0 (by simp;omega) fun i x v hx hv'=>?_⟩,rfl,rfl⟩
    ·rw[hv];simp only[Instr.loadAt,Instr.sureAddr,Sem.run_bind,Sem.run_pure,Result.andThen_ok];exact Zbu hsz fun k hk=>(hc k (by omega)).1
    ·have hi:i<n:=by
      have:=(List.getElem?_eq_some_iff.1 hx).1;simp at this;omega
     rw[List.getElem?_take,if_pos hi]at hx;simp only[List.getElem?_map,List.getElem?_range hi,Option.map_some,Option.some.injEq]at hv';subst hv';obtain⟨h1,h2⟩:=List.getElem?_eq_some_iff.1 hx;rw[<-h2];exact(hc i h1).2.2
   ·cases h
  ·rename_i t' k' m' i' j' hp;split at h
   ·rename_i l hl;obtain⟨b,off,vs,hv,hc⟩:=Zj3 hR hp hl;split at h
    ·rename_i hn;cases h;refine⟨_,?_,⟨(List.range n).map vs,rfl,Ze0 (by simp;omega) fun i x v hx hv'=>?_⟩,rfl,rfl⟩
     ·rw[hv];simp only[Instr.loadAt,Instr.sureAddr,Sem.run_bind,Sem.run_pure,Result.andThen_ok];exact Zbu hsz fun k hk=>(hc k (by omega)).1
     ·have hi:i<n:=by
       have:=(List.getElem?_eq_some_iff.1 hx).1;simp at this;omega
      rw[List.getElem?_take,if_pos hi]at hx;simp only[List.getElem?_map,List.getElem?_range hi,Option.map_some,Option.some.injEq]at hv';subst hv';obtain⟨h1,h2⟩:=List.getElem?_eq_some_iff.1 hx;rw[<-h2];exact(hc i h1).2
    ·cases h
   ·cases h
  ·cases h
 ·rename_i n hsz;split at h
  ·rename_i r off hp;rw[hp]at hev;obtain⟨hv,_⟩:=hev rfl;split at h
   ·rename_i c hK;split at h
    ·rename_i x hx;obtain⟨cs,hr,hs,hc,_⟩:=hR.heap.box r c hK;obtain⟨_,u,h5,h6⟩:=hc off x hx;refine⟨u,?_,Zpd h h6⟩;rw[hv];simp only[Instr.loadAt,Instr.sureAddr,Sem.run_bind,Sem.run_pure,Result.andThen_ok];exact Zbb hsz (by rw[hr.cell];exact h5)
    ·cases h
   ·cases h
  ·rename_i l hp;rw[hp]at hev;obtain⟨b,off,vs,hv,hc⟩:=hev rfl;cases l with
   |nil=>cases h
   |cons x l=>
    cases h;have:=hc 0 (by simp);refine⟨vs 0,?_,this.2.2,rfl,rfl⟩;rw[hv];simp only[Instr.loadAt,Instr.sureAddr,Sem.run_bind,Sem.run_pure,Result.andThen_ok];exact Zbb hsz this.1
  ·rename_i t' k' m' i' j' hp;split at h
   ·rename_i l hl;obtain⟨b,off,vs,hv,hc⟩:=Zj3 hR hp hl;cases l with
    |nil=>cases h
    |cons x l=>
     cases h;have:=hc 0 (by simp);refine⟨vs 0,?_,this.2,rfl,rfl⟩;rw[hv];simp only[Instr.loadAt,Instr.sureAddr,Sem.run_bind,Sem.run_pure,Result.andThen_ok];exact Zbb hsz this.1
   ·cases h
  ·cases h
 ·cases h
def Zj5(p:A)(k:Nat):Option A:=
 match p with
 |.ptr r off=>some (.ptr r (off+k))
 |.elp l=>if k<=l.length then some (.elp (l.drop k))else none
 |_=>none
theorem Zj6{w:World}{g:Gh}{gen:Nat->Nat}{pl pl':Place}{p y:A}{k:Nat}{v:Value}(h:Zj5 p k=some y)(hr:RepA w g gen pl p v):
 ∃b o,v=.pointer (some ⟨b,o,none⟩)/\RepA w g gen pl' y (.pointer (some ⟨b,o+k,none⟩))/\y.isOwn=false/\y.plain=true:=by
 unfold Zj5 at h;split at h
 ·cases h;exact⟨_,_,hr.1,⟨rfl,hr.2⟩,rfl,rfl⟩
 ·rename_i l;split at h
  ·rename_i hk;cases h;obtain⟨b,off,vs,hv,hc⟩:=hr;refine⟨b,off,hv,⟨b,off+k,fun j=>vs (k+j),rfl,fun j hj=>?_⟩,rfl,rfl⟩;have:=hc (k+j) (by simp at hj;omega);rw[Nat.add_assoc];refine⟨this.1,this.2.1,?_⟩;rw[List.getElem_drop];exact this.2.2
  ·cases h
 ·cases h
theorem Zi4{P:Program}{t:TypeId}{i o n:Nat}{b:Bool}(h:Zc7 P t i=some (o,n,b)):∃fs f,P.underlying t=some (.struct fs)/\fs[i]? =some f/\f.offset=o/\szOf P f.type=some (n,b)/\n≠0:=by
 unfold Zc7 at h;split at h
 ·rename_i fs hu;split at h
  ·rename_i f hf;split at h
   ·rename_i m c hs;split at h
    ·cases h
    ·rename_i hn;cases h;exact⟨fs,f,hu,hf,rfl,hs,hn⟩
   ·cases h
  ·cases h
 ·cases h
theorem Ze1{P:Program}{t:TypeId}{i o n:Nat}{c:Bool}(h:Zc7 P t i=some (o,n,c))(w:World)(b off:Nat):
 (Instr.fieldAt t (.pointer (some ⟨b,off,none⟩)) i).run P w=.ok (.pointer (some ⟨b,off+o,none⟩)) w:=by
 obtain⟨fs,f,h1,h2,h3,h4,h5⟩:=Zi4 h;simp[Instr.fieldAt,run_underlying h1,h2,Instr.sureAddr,fieldPlace,Zbe h4,h5,Zaz,h3]
theorem Zcz{P:Program}{t:TypeId}{n m:Nat}{c:Bool}(h:Zez P t=some (n,m,c))(w:World)(b off:Nat)(k:IntKind)(i:Int)(h0:0<=i)(h1:i<n):
 (Instr.indexAt t (.pointer (some ⟨b,off,none⟩)) (.int k i)).run P w=.ok (.pointer (some ⟨b,off+i.toNat*m,none⟩)) w:=by
 unfold Zez at h;split at h
 ·rename_i n' e hu;split at h
  ·rename_i m' c' hs;cases h;simp[Instr.indexAt,asIntOf,run_underlying hu,Instr.sureAddr,h0,h1,Zbe hs,Zaz]
  ·cases h
 ·cases h
theorem Zav{P:Program}{t:TypeId}{m by_:Nat}{c:Bool}{e:TypeId}(h:slOf P t=some (m,by_,c,e)):
 P.underlying t=some (.slice e)/\szOf P e=some (m,c)/\m≠0/\ ∃i z,P.info? e=some i/\i.bytes=by_/\i.size=m/\i.zero=some z/\z.cells.size=m:=by
 unfold slOf at h;split at h
 ·rename_i e' hu;split at h
  ·rename_i m' c' zs i hs hz hi;split at h
   ·cases h
   ·rename_i hm;cases h;obtain⟨i',d,h1,h2,_,_⟩:=Zff hs;rw[hi]at h1;cases h1;unfold Zc8 at hz;rw[hi]at hz;simp only at hz;split at hz
    ·rename_i z hz';split at hz
     ·rename_i hzs;exact⟨hu,hs,hm,i,z,hi,rfl,h2,hz',by rw[hzs,h2]⟩
     ·cases hz
    ·cases hz
  ·cases h
 ·cases h
theorem Zcb{P:Program}{t:TypeId}{m by_:Nat}{c:Bool}{e:TypeId}(h:slOf P t=some (m,by_,c,e))(w:World)(b off len cap:Nat)(k:IntKind)(i:Int)(h0:0<=i)(h1:i<len):
 (Instr.indexAt t (.slice (some ⟨b,off,none⟩) len cap) (.int k i)).run P w=.ok (.pointer (some ⟨b,off+i.toNat*m,none⟩)) w:=by
 obtain⟨hu,hs,_⟩:=Zav h;simp[Instr.indexAt,asIntOf,run_underlying hu,h0,h1,Zbe hs,Zaz]
theorem Zoj{w:World}{Pr:Nat->Nat->Prop}{es:List (List D)}{v:Value}(h:RepD w Pr (.slc es) v){i m:Nat}{e:List D}(he:es[i]? =some e)(hm:e.length=m)(h0:m≠0):
 ∃b off len cap,v=.slice (some ⟨b,off,none⟩) len cap/\i<len/\ ∃vs:Nat->Value,∀k (hk:k<e.length),w.cell? ⟨b,off+i*m+k,none⟩=some (vs k)/\Pr b (off+i*m+k)/\RepD w Pr e[k] (vs k):=by
 cases h with
 |emp a c=>simp at he
 |slc _ sz b off cap vs hs hl hc hv hp hr=>
  obtain⟨hi,he'⟩:=List.getElem?_eq_some_iff.1 he;have hsz:e.length=sz:=hl e (by rw[<-he'];exact List.getElem_mem hi);have:sz=m:=by omega
  subst this;refine⟨b,off,_,cap,rfl,hi,fun k=>vs (i*sz+k),fun k hk=>?_⟩
  have hlt:i*sz+k<es.length*sz:=by
   calc i*sz+k<i*sz+sz:=by omega
    _=(i+1)*sz:=by rw[Nat.add_mul,Nat.one_mul]
    _<=es.length*sz:=Nat.mul_le_mul_right _ hi
  refine⟨by rw[Nat.add_assoc];exact hv _ hlt,by rw[Nat.add_assoc];exact hp _ hlt,?_⟩;have:=hr i k hi (by rw[he'];exact hk);simpa[he']using this
end Go.Ab
end
section
namespace Go.Ab
open Classical
def Zcr:Value->A
 |.slice none 0 0=>.zs []
 |v=>.d (.lit v)
theorem Zj7{w:World}{g:Gh}{gen:Nat->Nat}(v:Value)(h:isCell v=true):(Zcr v).plain=true/\(Zcr v).isOwn=false/\ ∀p,RepA w g gen p (Zcr v) v:=by
 unfold Zcr;split
 ·exact⟨rfl,rfl,fun _=>⟨.emp _ _,_,_,rfl⟩⟩
 ·exact⟨rfl,rfl,fun _=>.lit _ h⟩
theorem Ze2{P:Program}{t:TypeId}{l:List Value}(h:Zc8 P t=some l):∃i z,P.info? t=some i/\i.zero=some z/\z.cells.size=i.size/\z.cells.toList=l:=by
 unfold Zc8 at h;split at h
 ·rename_i i hi;split at h
  ·rename_i z hz;split at h
   ·rename_i hs;cases h;exact⟨i,z,hi,hz,hs,rfl⟩
   ·cases h
  ·cases h
 ·cases h
theorem Rel.push{C:Ctx}{s:St}{g:Gh}{a:Act}{w:World}(h:Rel C s g a w)(cs:Array Value)(el:TypeId):
 Rel C s g a {w with heap:=w.heap.push (.cells cs el)}/\Row {w with heap:=w.heap.push (.cells cs el)} w.heap.size cs/\(∀o,¬Owns s g o w.heap.size)/\
  C.w0.heap.size<=w.heap.size/\ ∀o,¬g.Pr w.heap.size o:=
 ⟨h.ext (Ext.push w _),⟨el,by simp⟩,fun _ ho=>Nat.lt_irrefl _ (HeapRel.own_lt h ho),h.heap.fr.size,fun _ hp=>Nat.lt_irrefl _ (h.heap.prs _ _ hp)⟩
theorem OpOk.of_box{C:Ctx}{o:Oper}{s:St}{d:Nat}{c:List A}(hd:o.dst=some d)(hN:d<C.N)
 (h:∀g a w,Rel C s g a w-> ∃(cs:Array Value)(el:TypeId),(execOp a.eval o).run C.P w=.ok (.value (.pointer (some ⟨w.heap.size,0,none⟩))) {w with heap:=w.heap.push (.cells cs el)}/\
  cs.size=c.length/\ ∀(j:Nat)(x:A),c[j]? =some x->x.plain=true/\x.isOwn=false/\ ∃v,cs[j]? =some v/\ ∀p,RepA w g s.gen p x v):OpOk C o s (s.alloc d c):=by
 intro g a w hR K Q hK;obtain⟨cs,el,h1,h2,h3⟩:=h g a w hR;obtain⟨r1,r2,r3,r4,r5⟩:=hR.push cs el;refine Zbg h1 (hK {g with bx:=upd g.bx (.own d (s.gen d)) w.heap.size} _ _ ?_);rw[hd];have e:=Ext.push w (.cells cs el);refine r1.newBox hN r2 r3 r4 r5 h2 fun j x hx=>?_
 obtain⟨k1,k2,v,k3,k4⟩:=h3 j x hx;refine⟨k1,k2,v,k3,fun p=>(k4 p).keep ⟨fun b o hp=>e.cell b o (hR.heap.prs b o hp),fun _ _ h=>h,fun _=>Nat.le_refl _,fun _ _=>rfl,fun _ h=>h⟩ fun ho=>by rw[k2]at ho;cases ho⟩
noncomputable def St.boxC(s:St)(x:Operand):Option (List A):=
 match s.ev x with
 |.agg l=>some (l.map .d)
 |.ptr r o=>some [.ptr r o]
 |.fn f c=>some [.fn f c]
 |.zs es=>some [.zs es]
 |_=>(s.esc x).map fun y=>[.d y]
theorem Rel.boxC{C:Ctx}{s:St}{g:Gh}{a:Act}{w:World}(h:Rel C s g a w){x:Operand}{c:List A}(hc:s.boxC x=some c):
 (a.eval x).cells.size=c.length/\ ∀(j:Nat)(y:A),c[j]? =some y->y.plain=true/\y.isOwn=false/\ ∃v,(a.eval x).cells[j]? =some v/\isCell v=true/\ ∀p,RepA w g s.gen p y v:=by
 have one:∀(y:A),isCell (a.eval x)=true->y.plain=true->y.isOwn=false->(∀p,RepA w g s.gen p y (a.eval x))->
  (a.eval x).cells.size=[y].length/\ ∀(j:Nat)(z:A),[y][j]? =some z->z.plain=true/\z.isOwn=false/\ ∃v,(a.eval x).cells[j]? =some v/\isCell v=true/\ ∀p,RepA w g s.gen p z v:=fun y h1 h2 h3 h4=>by
  have hcell:(a.eval x).cells= #[a.eval x]:=by
   have:=Zfe h1;apply Array.toList_inj.1;simpa using this
  rw[hcell];refine⟨rfl,fun j z hz=>?_⟩;cases j with
  |zero=>simp at hz;subst hz;exact⟨h2,h3,_,rfl,h1,h4⟩
  |succ j=>simp at hz
 unfold St.boxC at hc;split at hc
 ·rename_i l hz;cases hc;have:=h.ev x (by rw[hz];rfl) .res;rw[hz]at this;obtain⟨cs,h1,h2⟩:=this;rw[h1];refine⟨by simpa[Value.cells]using(Zam h2).symm,fun j y hy=>?_⟩;simp only[List.getElem?_map,Option.map_eq_some_iff]at hy;obtain⟨z,hz1,hz2⟩:=hy;subst hz2;obtain⟨v,h3,h4⟩:=Zat h2 j z hz1;exact⟨rfl,rfl,v,by simpa[Value.cells]using h3,h4.isCell,fun _=>h4⟩
 ·rename_i r o hz;cases hc;have:=fun p=>h.ev x (by rw[hz];rfl) p
  rw[hz]at this;exact one _ (by rw[(this .res).1];rfl) rfl rfl this
 ·rename_i f c hz;cases hc;have:=fun p=>h.ev x (by rw[hz];rfl) p
  rw[hz]at this;exact one _ (by rw[(this .res).1];rfl) rfl rfl this
 ·rename_i es hz;cases hc;have:=fun p=>h.ev x (by rw[hz];rfl) p
  rw[hz]at this;exact one _ (RepD.isCell (this .res).1) rfl rfl this
 ·cases he:s.esc x with
  |none=>rw[he]at hc;cases hc
  |some y=>
   rw[he]at hc;cases hc;have:=h.esc he;exact one _ this.isCell rfl rfl fun _=>this
theorem Zbm{P:Program}{w:World}{Pr:Nat->Nat->Prop}{es:List (List D)}{v:Value}{m:Nat}(h:RepD w Pr (.slc es) v)(hm:∀e∈es,e.length=m):
 ∃(a:Option Addr)(c:Nat)(news:List Value),v=.slice a es.length c/\(Builtin.firstCells m es.length v).run P w=.ok news.toArray w/\news.length=es.length*m/\
  (∀i j (hi:i<es.length) (hj:j<es[i].length),∃u,news[i*m+j]? =some u/\RepD w Pr es[i][j] u):=by
 cases h with
 |emp a c=>
  refine⟨a,c,[],rfl,?_,by simp,fun i j hi=>by simp at hi⟩;cases a<;>simp[Builtin.firstCells,loadCells,loadCellsFrom]
 |slc _ sz b off cap vs h0 hl hc hv hp hr=>
  have hsz:es≠[]->sz=m:=fun hne=>by
   obtain⟨e,he⟩:=List.exists_mem_of_ne_nil es hne;rw[<-hl e he,hm e he]
  by_cases hne:es=[]
  ·subst hne;refine⟨_,cap,[],rfl,by simp[Builtin.firstCells,loadCells,loadCellsFrom],by simp,fun i j hi=>by simp at hi⟩
  ·have:=hsz hne;subst this;refine⟨_,cap,(List.range (es.length*sz)).map vs,rfl,?_,by simp,fun i j hi hj=>?_⟩
   ·simp only[Builtin.firstCells];exact Zcq vs hv
   ·have hj':j<sz:=by rw[<-hl es[i] (List.getElem_mem hi)];exact hj
    have hlt:i*sz+j<es.length*sz:=by
     calc i*sz+j<i*sz+sz:=by omega
      _=(i+1)*sz:=by rw[Nat.add_mul,Nat.one_mul]
      _<=es.length*sz:=Nat.mul_le_mul_right _ hi
    exact⟨vs (i*sz+j),by simp[hlt],hr i j hi hj⟩
def fits(n b:Nat):Prop:=n*b<=140737488355328/\n<=1099511627776
theorem Zrk{n b:Nat}(h:fits n b):(n:Int)<=9223372036854775807:=by have:=h.2;omega
section
variable {P:Program} {t t2:TypeId} {m by_:Nat} {c c2:Bool} {e e2:TypeId} {m2 by2:Nat}
theorem Zi5(ht:slOf P t=some (m,by_,c,e))(ht2:slOf P t2=some (m2,by2,c2,e2))(ty:TypeId){w:World}{b n cap:Nat}{cs:Array Value}(hr:Row w b cs)
 {v2:Value} {a2:Option Addr} {k c2':Nat} (hv2:v2=.slice a2 k c2') {news:List Value} (hn:(Builtin.firstCells m k v2).run P w=.ok news.toArray w)
 (hroom:n+k<=cap) (hfit:n*m+news.length<=cs.size) (hcell:∀u∈news,isCell u=true):
 ∃w',(Builtin.append_ #[t,t2] ty #[.slice (some ⟨b,0,none⟩) n cap,v2]).run P w=.ok (.slice (some ⟨b,0,none⟩) (n+k) cap) w'/\Wrote w w' b (Zak cs (n*m) news):=by
 obtain⟨hu,hs,_,i,z,hi,hby,hsize,hz,hzs⟩:=Zav ht;obtain⟨hu2,_⟩:=Zav ht2;obtain⟨w',h1,h2⟩:=Zdh (P:=P) news w cs (n*m) 0 hr (by simpa using hfit) hcell;simp only[Nat.add_zero]at h2;refine⟨w',?_,h2⟩;subst hv2;simp[Builtin.append_,run_underlying hu,run_underlying hu2,sizeOf,typeInfo,hi,hsize,Builtin.lenOf,hroom,hn,Zaz,h1]
theorem Zev(ht:slOf P t=some (m,by_,c,e))(ht2:slOf P t2=some (m2,by2,c2,e2))(ty:TypeId){w:World}{v1:Value}{a1:Option Addr}{n cap:Nat}(hv1:v1=.slice a1 n cap)
 {v2:Value} {a2:Option Addr} {k c2':Nat} (hv2:v2=.slice a2 k c2') {olds news:List Value} (ho:(Builtin.firstCells m n v1).run P w.drew=.ok olds.toArray w.drew)
 (hn:(Builtin.firstCells m k v2).run P w.drew=.ok news.toArray w.drew) (hroom:¬n+k<=cap) (hfit:fits (n+k) by_):
 ∃(cap':Nat)(rest:Array Value),n+k<=cap'/\rest.size=(cap'-(n+k))*m/\
  (Builtin.append_ #[t,t2] ty #[v1,v2]).run P w=.ok (.slice (some ⟨w.heap.size,0,none⟩) (n+k) cap')
   (w.drew.alloc (.cells (olds.toArray++(news.toArray++rest)) e)):=by
 obtain⟨hu,hs,_,i,z,hi,hby,hsize,hz,hzs⟩:=Zav ht;obtain⟨hu2,_⟩:=Zav ht2;have hfits:=growslice_fits (need:=n+k) (old:=cap) (bytes:=by_) (by omega) hfit.1;have hmax:=Zrk hfit;subst hv1;subst hv2;refine⟨grownCap w (n+k) cap e,Builtin.zeroCells z.cells (grownCap w (n+k) cap e-(n+k)),grownCap_ge w _ _ e,by simp[Builtin.zeroCells,hzs],?_⟩
 have h3:¬(9223372036854775807<(n:Int)+(k:Int)/\by_=0):=by
  have:=hfit.2;omega
 have h4:¬(281474976710656<Builtin.nextslicecap (n+k) cap*by_):=by omega
 simp[Builtin.append_,run_underlying hu,run_underlying hu2,sizeOf,typeInfo,hi,hsize,Builtin.lenOf,hroom,hn,ho,h3,hby,h4,Question.forced,grownCap,zeroValue,hz,newRow]
end
end Go.Ab
end
section
namespace Go.Ab
open Classical
def ElemsL(w:World)(Pr:Nat->Nat->Prop)(xs:List Value)(m:Nat)(es:List (List D)):Prop:=
 ∀i j (hi:i<es.length) (hj:j<es[i].length),∃u,xs[i*m+j]? =some u/\RepD w Pr es[i][j] u
theorem ElemsL.mono{w w':World}{Pr Pr':Nat->Nat->Prop}(hc:∀b o,Pr b o->w'.cell? ⟨b,o,none⟩=w.cell? ⟨b,o,none⟩)(hp:∀b o,Pr b o->Pr' b o)
 {xs:List Value} {m:Nat} {es:List (List D)} (h:ElemsL w Pr xs m es):ElemsL w' Pr' xs m es:=fun i j hi hj=>
 let⟨u,h1,h2⟩:=h i j hi hj
 ⟨u,h1,h2.mono hc hp⟩
theorem Zfh{i n m j:Nat}(hi:i<n)(hj:j<m):i*m+j<n*m:=by
 calc i*m+j<i*m+m:=by omega
  _=(i+1)*m:=by rw[Nat.add_mul,Nat.one_mul]
  _<=n*m:=Nat.mul_le_mul_right _ hi
theorem Zf7{w:World}{Pr:Nat->Nat->Prop}{cs:Array Value}{m:Nat}{l1 l2:List (List D)}{xs ys:List Value}(h1:ElemsL w Pr xs m l1)(h2:ElemsL w Pr ys m l2)
 (hl1:∀e∈l1,e.length=m) (hl2:∀e∈l2,e.length=m) (hx:∀k,k<l1.length*m->cs[k]? =xs[k]?) (hy:∀k,k<l2.length*m->cs[l1.length*m+k]? =ys[k]?):
 Elems w Pr cs m (l1++l2):=by
 intro i j hi hj;by_cases h:i<l1.length
 ·have e:(l1++l2)[i]=l1[i]:=List.getElem_append_left h;have hj':j<l1[i].length:=by rw[<-e];exact hj
  obtain⟨u,h3,h4⟩:=h1 i j h hj';have hm:j<m:=by rw[<-hl1 l1[i] (List.getElem_mem h)];exact hj'
  refine⟨u,by rw[hx _ (Zfh h hm)];exact h3,?_⟩;simpa[e]using h4
 ·have hi2:i-l1.length<l2.length:=by simp at hi;omega
  have e:(l1++l2)[i]=l2[i-l1.length]:=List.getElem_append_right (by omega);have hj':j<l2[i-l1.length].length:=by rw[<-e];exact hj
  obtain⟨u,h3,h4⟩:=h2 (i-l1.length) j hi2 hj';have hm:j<m:=by rw[<-hl2 l2[i-l1.length] (List.getElem_mem hi2)];exact hj'
  have hidx:i*m+j=l1.length*m+((i-l1.length)*m+j):=by
   have:i=l1.length+(i-l1.length):=by omega
   calc i*m+j=(l1.length+(i-l1.length))*m+j:=by rw[<-this]
    _=_:=by rw[Nat.add_mul,Nat.add_assoc]
  refine⟨u,by rw[hidx,hy _ (Zfh hi2 hm)];exact h3,?_⟩;simpa[e]using h4
theorem Zig{w:World}{Pr:Nat->Nat->Prop}{xs:List Value}{m:Nat}{es:List (List D)}(h:ElemsL w Pr xs m es)(hl:∀e∈es,e.length=m)(hx:xs.length=es.length*m)
 (hm:0<m):∀u∈xs,isCell u=true:=by
 intro u hu;obtain⟨k,hk,rfl⟩:=List.mem_iff_getElem.1 hu
 have h1:k/m<es.length:=by
  rw[Nat.div_lt_iff_lt_mul hm];omega
 have h2:k % m<es[k/m].length:=by rw[hl _ (List.getElem_mem h1)];exact Nat.mod_lt _ hm
 obtain⟨v,h3,h4⟩:=h (k/m) (k % m) h1 h2;have:k/m*m+k % m=k:=by rw[Nat.mul_comm];exact Nat.div_add_mod k m
 rw[this]at h3
 have e:xs[k]=v:=by
  rw[List.getElem?_eq_getElem hk]at h3;exact Option.some.inj h3
 rw[e];exact h4.isCell
theorem OwnRep.firstCells{P:Program}{w:World}{Pr:Nat->Nat->Prop}{b:Nat}{es nw:List (List D)}{v:Value}{cap m:Nat}{cs:Array Value}(h:OwnRep w Pr b es nw v cap m cs):
 ∃olds:List Value,(Builtin.firstCells m (es.length+nw.length) v).run P w=.ok olds.toArray w/\olds.length=(es.length+nw.length)*m/\(∀k,k<(es.length+nw.length)*m->cs[k]? =olds[k]?)/\
  ElemsL w Pr olds m (es++nw):=by
 have hin:∀k,k<(es.length+nw.length)*m->k<cs.size:=fun k hk=>by
  rw[h.size];exact Nat.lt_of_lt_of_le hk (Nat.mul_le_mul_right _ h.room)
 refine⟨(List.range ((es.length+nw.length)*m)).map fun k=>cs.getD k undef,?_,by simp,fun k hk=>?_,fun i j hi hj=>?_⟩
 ·rw[h.val];simp only[Builtin.firstCells];exact Zcq _ fun k hk=>by rw[Nat.zero_add,h.row.cell];simp[hin k hk]
 ·simp[hk,hin k hk]
 ·obtain⟨u,h1,h2⟩:=h.elems i j hi hj;have hm:j<m:=by rw[<-h.len _ (List.getElem_mem hi)];exact hj
  have hlt:=Zfh (by simpa using hi) hm;exact⟨u,by simp[hlt,h1],h2⟩
theorem OpOk.append_core{C:Ctx}{s0:St}{g:Gh}{a:Act}{d:Nat}(hN:d<C.N){w':World}{v:Value}{b cap m:Nat}{es nw:List (List D)}{cs:Array Value}
 (hf:∀o,¬Owns s0 g o b) (hb:C.w0.heap.size<=b\/C.E b) (hR':Rel C s0 g a w') (hv:v=.slice (some ⟨b,0,none⟩) (es.length+nw.length) cap) (hrow:Row w' b cs) (hm:0<m)
 (hs:cs.size=cap*m) (hroom:es.length+nw.length<=cap) (hlen:∀e∈es++nw,e.length=m) (hel:Elems w' g.Pr cs m (es++nw)) (hpr:∀o,g.Pr b o->o<es.length*m):
 ∃g',Rel C (s0.put d (.own m es nw)) g' (a.put (some d) v) w':=by
 have h1:=hR'.protect (fun o=>o<es.length*m) hf hb hrow.lt;have hk:=g.protect_keeps b (fun o=>o<es.length*m) w' s0.gen;refine⟨_,h1.putOwn hN (fun o ho=>hf o ho.of_protect) hb (cap:=cap) (cs:=cs) ⟨hv,hrow,hm,hs,hroom,hlen,hel.mono hk.cell hk.pr,fun o=>⟨fun h=>h.elim (hpr o) (fun e=>e.2),fun h=>.inr ⟨rfl,h⟩⟩⟩⟩
def Za4(poke:Bool)(old new:List (List D)):List (List D)×List (List D):=if poke then(old,new)else(old++new,[])
theorem Zd3(poke:Bool)(old new:List (List D)):(Za4 poke old new).1++(Za4 poke old new).2=old++new:=by cases poke<;>simp[Za4]
theorem Zd4(poke:Bool)(old new:List (List D)):(Za4 poke old new).1.length+(Za4 poke old new).2.length=old.length+new.length:=by cases poke<;>simp[Za4]
def Zaq(poke:Bool)(es nw new:List (List D)):List (List D)×List (List D):=if poke then(es,nw++new)else(es++nw++new,[])
theorem Zbv(poke:Bool)(es nw new:List (List D)):(Zaq poke es nw new).1++(Zaq poke es nw new).2=(es++nw)++new:=by cases poke<;>simp[Zaq]
theorem Zbw(poke:Bool)(es nw new:List (List D)):(Zaq poke es nw new).1.length+(Zaq poke es nw new).2.length=(es++nw).length+new.length:=by cases poke<;>simp[Zaq]<;>omega
theorem Zlq(poke:Bool)(es nw new:List (List D)):es.length<=(Zaq poke es nw new).1.length:=by cases poke<;>simp[Zaq]<;>omega
theorem Ext.drewAlloc(w:World)(o:Obj):Ext w (w.drew.alloc o):=(Ext.drawn w (w.drawn+1)).trans (Ext.push w.drew o)
theorem OpOk.append_own{C:Ctx}{o:Oper}{s:St}{d t:Nat}{x:Operand}{T T2:TypeId}{m by_ m2 by2:Nat}{c c2:Bool}{e e2:TypeId}{es nw es2:List (List D)}
 (hop:o.op=.call {callee:=.builtin .append,args:= #[.tmp t,x],argTypes:= #[T,T2]}) (hd:o.dst=some d) (hN:d<C.N)
 (hT:slOf C.P T=some (m,by_,c,e)) (hT2:slOf C.P T2=some (m2,by2,c2,e2)) (ht:s.tm t=.own m es nw) (hx:s.esc x=some (.slc es2))
 (hl:∀z∈es2,z.length=m) (hfit:fits ((es++nw).length+es2.length) by_) (poke:Bool):
 OpOk C o s ((s.reset t .any).put d (.own m (Zaq poke es nw es2).1 (Zaq poke es nw es2).2)):=by
 intro g a w hR K Q hK;obtain⟨cap,cs,ho⟩:=hR.own ht;have hm:0<m:=ho.pos;have h2:=hR.esc hx;obtain⟨a2,c2',news,hv2,hn1,hn2,hn3⟩:=Zbm (P:=C.P) h2 hl;have hn3':ElemsL w g.Pr news m es2:=hn3;have R1:=hR.reset t;have hfree:=hR.reset_free (t:=t) (by rw[ht];rfl);have hwr:C.w0.heap.size<=g.ow (.slot t)\/C.E (g.ow (.slot t)):=hR.heap.wr _ _ (.slot (by rw[ht];rfl));have hcells:=Zig hn3' hl hn2 hm
 have hrun:∀{r:Result Value}{w':World}{v':Value},(Builtin.append_ #[T,T2] o.type #[a.tmps.getD t undef,a.eval x]).run C.P w=.ok v' w'->(execOp a.eval o).run C.P w=.ok (.value v') w':=by
  intro r w' v' h;have:a.eval (.tmp t)=a.tmps.getD t undef:=rfl;simp only[execOp,hop,resolve,invoke,builtin,Sem.run_bind,Sem.run_pure,Result.andThen_ok,List.map_toArray,List.map_cons,List.map_nil,this,h]
 have hle:es.length*m<=(es++nw).length*m:=Nat.mul_le_mul_right _ (by simp);have hsz:(es++nw).length=es.length+nw.length:=List.length_append;by_cases hroom:(es.length+nw.length)+es2.length<=cap
 ·have hfit':(es.length+nw.length)*m+news.length<=cs.size:=by
   rw[hn2,ho.size,<-Nat.add_mul];exact Nat.mul_le_mul_right _ hroom
  obtain⟨w',h3,h4⟩:=Zi5 (P:=C.P) hT hT2 o.type ho.row hv2 hn1 hroom hfit' hcells;rw[<-ho.val,]at h3;refine Zbg (hrun (r:=.ok undef w) h3) ?_
  have hget:∀k,(Zak cs ((es.length+nw.length)*m) news)[k]? =if(es.length+nw.length)*m<=k/\k<(es.length+nw.length)*m+news.length then news[k-(es.length+nw.length)*m]? else cs[k]? :=
   fun k=>Za1 _ _ _ _ hfit'
  have hkeep:∀k,k<(es.length+nw.length)*m->(Zak cs ((es.length+nw.length)*m) news)[k]? =cs[k]? :=fun k hk=>by rw[hget,if_neg (by omega)]
  have hprot:∀k,g.Pr (g.ow (.slot t)) k->(Zak cs ((es.length+nw.length)*m) news)[k]? =cs[k]? :=fun k hk=>hkeep k (by
   have:=(ho.prot k).1 hk;rw[hsz]at hle;omega)
  have R2:=R1.write ho.row hfree h4 (Zal _ _ _) hprot hwr
  have hcell:∀b' o',g.Pr b' o'->w'.cell? ⟨b',o',none⟩=w.cell? ⟨b',o',none⟩:=fun b' o' hp=>by
   by_cases hb:b'=g.ow (.slot t)
   ·subst hb;rw[h4.row.cell,ho.row.cell,hprot o' hp]
   ·exact h4.cell b' o' hb
  obtain⟨olds,_,_,ho3,ho4⟩:=ho.firstCells (P:=C.P)
  have hel:Elems w' g.Pr (Zak cs ((es.length+nw.length)*m) news) m ((es++nw)++es2):=
   Zf7 (ho4.mono hcell fun _ _ h=>h) (hn3'.mono hcell fun _ _ h=>h) ho.len hl
    (fun k hk=>by rw[hsz]at hk;rw[hkeep k hk,ho3 k hk])
    (fun k hk=>by rw[hsz,hget,if_pos (by omega)];congr 1;omega)
  obtain⟨g',hg'⟩:=OpOk.append_core (es:=(Zaq poke es nw es2).1) (nw:=(Zaq poke es nw es2).2) (m:=m) hN hfree hwr R2 (v:=.slice (some ⟨g.ow (.slot t),0,none⟩) (es.length+nw.length+es2.length) cap)
   (by rw[Zbw,hsz]) h4.row hm (by rw[Zal];exact ho.size) (by rw[Zbw,hsz];exact hroom)
   (fun z hz=>by rw[Zbv]at hz;exact(List.mem_append.1 hz).elim (ho.len z) (hl z)) (by rw[Zbv];exact hel)
   (fun k hk=>Nat.lt_of_lt_of_le ((ho.prot k).1 hk) (Nat.mul_le_mul_right _ (Zlq _ _ _ _)))
  rw[hd];exact hK g' _ _ hg'
 ·have hd0:Ext w w.drew:=Ext.drawn w (w.drawn+1);have hdc:∀b' o',g.Pr b' o'->w.drew.cell? ⟨b',o',none⟩=w.cell? ⟨b',o',none⟩:=fun b' o' hp=>hd0.cell b' o' (hR.heap.prs b' o' hp)
  have ho':OwnRep w.drew g.Pr (g.ow (.slot t)) es nw (a.tmps.getD t undef) cap m cs:=⟨ho.val,ho.row,ho.pos,ho.size,ho.room,ho.len,ho.elems.mono hdc fun _ _ h=>h,ho.prot⟩;obtain⟨olds,ho1,ho2,ho3,ho4⟩:=ho'.firstCells (P:=C.P);obtain⟨a3,c3,news',hv3,hn4,hn5,hn6⟩:=Zbm (P:=C.P) (h2.mono hdc fun _ _ h=>h) hl;have hn6':ElemsL w.drew g.Pr news' m es2:=hn6;obtain⟨cap',rest,h5,h6,h7⟩:=Zev (P:=C.P) hT hT2 o.type (w:=w) ho.val hv3 ho1 hn4 hroom (by rw[hsz]at hfit;exact hfit);refine Zbg (hrun (r:=.ok undef w) h7) ?_;have hE:Ext w (w.drew.alloc (.cells (olds.toArray++(news'.toArray++rest)) e)):=Ext.drewAlloc w _;have hEd:Ext w.drew (w.drew.alloc (.cells (olds.toArray++(news'.toArray++rest)) e)):=Ext.push w.drew _;have R2:=R1.ext hE;have hcell:∀b' o',g.Pr b' o'->(w.drew.alloc (.cells (olds.toArray++(news'.toArray++rest)) e)).cell? ⟨b',o',none⟩=w.drew.cell? ⟨b',o',none⟩:=fun b' o' hp=>hEd.cell b' o' (hR.heap.prs b' o' hp)
  have hrow:Row (w.drew.alloc (.cells (olds.toArray++(news'.toArray++rest)) e)) w.heap.size (olds.toArray++(news'.toArray++rest)):=⟨e,heap_alloc_new w.drew _⟩
  have hel:Elems (w.drew.alloc (.cells (olds.toArray++(news'.toArray++rest)) e)) g.Pr (olds.toArray++(news'.toArray++rest)) m ((es++nw)++es2):=
   Zf7 (ho4.mono hcell fun _ _ h=>h) (hn6'.mono hcell fun _ _ h=>h) ho.len hl
    (fun k hk=>by
     rw[hsz]at hk;rw[Array.getElem?_append_left (by simpa[ho2]using hk)];simp)
    (fun k hk=>by
     rw[hsz,Array.getElem?_append_right (by simp[ho2])];simp only[List.size_toArray,ho2,Nat.add_sub_cancel_left];rw[Array.getElem?_append_left (by simpa[hn5]using hk)];simp)
  obtain⟨g',hg'⟩:=OpOk.append_core (es:=(Zaq poke es nw es2).1) (nw:=(Zaq poke es nw es2).2) (m:=m) hN
   (fun o ho=>Nat.lt_irrefl _ (HeapRel.own_lt R1 ho)) (.inl R1.heap.fr.size) R2 (v:=.slice (some ⟨w.heap.size,0,none⟩) (es.length+nw.length+es2.length) cap')
   (by rw[Zbw,hsz]) hrow hm
   (by
    simp only[Array.size_append,List.size_toArray,ho2,hn5,h6];rw[<-Nat.add_mul,<-Nat.add_mul]
    congr 1
    omega) (by rw[Zbw,hsz];exact h5)
   (fun z hz=>by rw[Zbv]at hz;exact(List.mem_append.1 hz).elim (ho.len z) (hl z)) (by rw[Zbv];exact hel)
   (fun k hk=>absurd (R1.heap.prs _ _ hk) (Nat.lt_irrefl _))
  rw[hd];exact hK g' _ _ hg'
end Go.Ab
end
section
namespace Go.Ab
open Classical
theorem OpOk.append_zs{C:Ctx}{o:Oper}{s:St}{d:Nat}{x0 x:Operand}{T T2:TypeId}{m by_ m2 by2:Nat}{c c2:Bool}{e e2:TypeId}{es es2:List (List D)}
 (hop:o.op=.call {callee:=.builtin .append,args:= #[x0,x],argTypes:= #[T,T2]}) (hd:o.dst=some d) (hN:d<C.N)
 (hT:slOf C.P T=some (m,by_,c,e)) (hT2:slOf C.P T2=some (m2,by2,c2,e2)) (h0:s.ev x0=.zs es) (hx:s.esc x=some (.slc es2)) (hne:es2≠[])
 (hl1:∀z∈es,z.length=m) (hl:∀z∈es2,z.length=m) (hfit:fits (es.length+es2.length) by_) (poke:Bool):
 OpOk C o s (s.put d (.own m (Za4 poke es es2).1 (Za4 poke es es2).2)):=by
 intro g a w hR K Q hK;obtain⟨hu,hs,hm0,_⟩:=Zav hT;have hm:0<m:=Nat.pos_of_ne_zero hm0;have h1:=hR.ev x0 (by rw[h0];rfl) .res;rw[h0]at h1;obtain⟨h1,a1,n1,hv1⟩:=h1;have h2:=hR.esc hx;have hd0:Ext w w.drew:=Ext.drawn w (w.drawn+1);have hdc:∀b' o',g.Pr b' o'->w.drew.cell? ⟨b',o',none⟩=w.cell? ⟨b',o',none⟩:=fun b' o' hp=>hd0.cell b' o' (hR.heap.prs b' o' hp)
 obtain⟨a3,c3,olds,hv3,ho1,ho2,ho4⟩:=Zbm (P:=C.P) (h1.mono hdc fun _ _ h=>h) hl1;have ho4':ElemsL w.drew g.Pr olds m es:=ho4;obtain⟨a4,c4,news,hv4,hn4,hn5,hn6⟩:=Zbm (P:=C.P) (h2.mono hdc fun _ _ h=>h) hl;have hn6':ElemsL w.drew g.Pr news m es2:=hn6
 have hn:n1=es.length/\c3=n1:=by
  rw[hv1]at hv3;cases hv3;exact⟨rfl,rfl⟩
 have hpos:0<es2.length:=List.length_pos_iff.2 hne;obtain⟨cap',rest,h5,h6,h7⟩:=Zev (P:=C.P) hT hT2 o.type (w:=w) hv3 hv4 ho1 hn4 (by omega) hfit
 have hrun:(execOp a.eval o).run C.P w=.ok (.value (.slice (some ⟨w.heap.size,0,none⟩) (es.length+es2.length) cap')) (w.drew.alloc (.cells (olds.toArray++(news.toArray++rest)) e)):=by
  simp only[execOp,hop,resolve,invoke,builtin,Sem.run_bind,Sem.run_pure,Result.andThen_ok,List.map_toArray,List.map_cons,List.map_nil,h7]
 refine Zbg hrun ?_;have hE:Ext w (w.drew.alloc (.cells (olds.toArray++(news.toArray++rest)) e)):=Ext.drewAlloc w _;have hEd:Ext w.drew (w.drew.alloc (.cells (olds.toArray++(news.toArray++rest)) e)):=Ext.push w.drew _;have R2:=hR.ext hE;have hcell:∀b' o',g.Pr b' o'->(w.drew.alloc (.cells (olds.toArray++(news.toArray++rest)) e)).cell? ⟨b',o',none⟩=w.drew.cell? ⟨b',o',none⟩:=fun b' o' hp=>hEd.cell b' o' (hR.heap.prs b' o' hp)
 have hrow:Row (w.drew.alloc (.cells (olds.toArray++(news.toArray++rest)) e)) w.heap.size (olds.toArray++(news.toArray++rest)):=⟨e,heap_alloc_new w.drew _⟩
 have hel:Elems (w.drew.alloc (.cells (olds.toArray++(news.toArray++rest)) e)) g.Pr (olds.toArray++(news.toArray++rest)) m (es++es2):=
  Zf7 (ho4'.mono hcell fun _ _ h=>h) (hn6'.mono hcell fun _ _ h=>h) hl1 hl
   (fun k hk=>by rw[Array.getElem?_append_left (by simpa[ho2]using hk)];simp)
   (fun k hk=>by
    rw[Array.getElem?_append_right (by simp[ho2])];simp only[List.size_toArray,ho2,Nat.add_sub_cancel_left];rw[Array.getElem?_append_left (by simpa[hn5]using hk)];simp)
 obtain⟨g',hg'⟩:=OpOk.append_core (es:=(Za4 poke es es2).1) (nw:=(Za4 poke es es2).2) (m:=m) hN
  (fun o ho=>Nat.lt_irrefl _ (HeapRel.own_lt hR ho)) (.inl hR.heap.fr.size) R2 (v:=.slice (some ⟨w.heap.size,0,none⟩) (es.length+es2.length) cap')
  (by rw[Zd4]) hrow hm
  (by
   simp only[Array.size_append,List.size_toArray,ho2,hn5,h6];rw[<-Nat.add_mul,<-Nat.add_mul]
   congr 1
   omega) (by rw[Zd4];exact h5)
  (fun z hz=>by rw[Zd3]at hz;exact(List.mem_append.1 hz).elim (hl1 z) (hl z)) (by rw[Zd3];exact hel)
  (fun k hk=>absurd (hR.heap.prs _ _ hk) (Nat.lt_irrefl _))
 rw[hd];exact hK g' _ _ hg'
theorem OpOk.append_zs_nil{C:Ctx}{o:Oper}{s:St}{d:Nat}{x0 x:Operand}{T T2:TypeId}{m by_ m2 by2:Nat}{c c2:Bool}{e e2:TypeId}{es:List (List D)}
 (hop:o.op=.call {callee:=.builtin .append,args:= #[x0,x],argTypes:= #[T,T2]}) (hd:o.dst=some d) (hN:d<C.N)
 (hT:slOf C.P T=some (m,by_,c,e)) (hT2:slOf C.P T2=some (m2,by2,c2,e2)) (h0:s.ev x0=.zs es) (hx:s.esc x=some (.slc [])):
 OpOk C o s (s.put d (.zs es)):=by
 refine OpOk.of_value hd hN rfl rfl fun g a w hR=>?_
 obtain⟨hu,hs,hm0,i,z,hi,hby,hsize,hz,hzs⟩:=Zav hT;obtain⟨hu2,_⟩:=Zav hT2;have h1:=hR.ev x0 (by rw[h0];rfl) (.slot d);rw[h0]at h1;obtain⟨h1',a1,n1,hv1⟩:=h1;obtain⟨a4,c4,news,hv4,hn4,hn5,_⟩:=Zbm (P:=C.P) (m:=m) (hR.esc hx) (by simp);simp only[List.length_nil,Nat.zero_mul]at hn5 hv4 hn4;have:news=[]:=List.eq_nil_of_length_eq_zero hn5;subst this;refine⟨a.eval x0,?_,⟨h1',a1,n1,hv1⟩⟩;rw[hv4]at hn4;simp only[execOp,hop,resolve,invoke,builtin,Sem.run_bind,Sem.run_pure,Result.andThen_ok,List.map_toArray,List.map_cons,List.map_nil,hv1,hv4];simp[Builtin.append_,run_underlying hu,run_underlying hu2,sizeOf,typeInfo,hi,hsize,Builtin.lenOf,hn4];cases a1<;>simp[storeCells]
theorem OpOk.hand{C:Ctx}{o:Oper}{s:St}{d t:Nat}{sz:Nat}{es nw:List (List D)}(hd:o.dst=some d)(hN:d<C.N)(hop:o.op=.move (.tmp t)\/o.op=.assign (.tmp t))(ht:s.tm t=.own sz es nw):
 OpOk C o s ((s.reset t .any).put d (.own sz es nw)):=by
 intro g a w hR K Q hK;obtain⟨cap,cs,ho⟩:=hR.own ht
 have hrun:(execOp a.eval o).run C.P w=.ok (.value (a.tmps.getD t undef)) w:=by
  rcases hop with h|h<;>simp only[execOp,h]<;>rfl
 refine Zbg hrun (hK (g.give (.slot d) (g.ow (.slot t))) _ w ?_);rw[hd];exact(hR.reset t).putOwn hN (hR.reset_free (by rw[ht];rfl)) (hR.heap.wr _ _ (.slot (by rw[ht];rfl))) ho
theorem OpOk.take{C:Ctx}{o:Oper}{s:St}{d:Nat}{p:Operand}{t:TypeId}{n off sz:Nat}{r:Ref}{c:List A}{es nw:List (List D)}(hd:o.dst=some d)(hN:d<C.N)(hop:o.op=.load t p)
 (hsz:szOf C.P t=some (n,false)) (hp:s.ev p=.ptr r off) (hK':s.K r=some c) (hc:c[off]? =some (.own sz es nw)):
 OpOk C o s ((s.setK r (c.set off .any)).put d (.own sz es nw)):=by
 intro g a w hR K Q hK;obtain⟨cs,hr,hs,hcs,hp0,_⟩:=hR.heap.box r c hK';obtain⟨_,v,hv,cap,ds,ho⟩:=hcs off _ hc;have hev:=hR.ev p (by rw[hp];rfl) .res;rw[hp]at hev
 have hrun:(execOp a.eval o).run C.P w=.ok (.value v) w:=by
  simp only[execOp,hop,hev.1,Instr.loadAt,Instr.sureAddr,Sem.run_bind,Sem.run_pure,Result.andThen_ok,Zbb hsz (show w.cell? ⟨g.bx r,off,none⟩=some v by rw[hr.cell];exact hv)]
 refine Zbg hrun (hK (g.give (.slot d) (g.ow (.cell r off))) _ w ?_);rw[hd];have hown:Owns s g (.cell r off) (g.ow (.cell r off)):=.cell hK' hc rfl;have R1:=hR.dropCell hK' off;refine R1.putOwn hN (fun o' ho'=>?_) (hR.heap.wr _ _ hown) ho
 have old:∀q b',Owns (s.setK r (c.set off .any)) g q b'->Owns s g q b'/\q≠ .cell r off:=by
  intro q b' h1;cases h1 with
  | @box r' d' h1=>
    by_cases hq:r'=r
    ·subst hq;exact⟨.box hK',(fun e=>by cases e)⟩
    ·exact⟨.box (by simpa[St.setK,Zac _ _ hq]using h1),(fun e=>by cases e)⟩
  |slot h1=>exact⟨.slot h1,(fun e=>by cases e)⟩
  | @cell r' d' j y h1 h2 h3=>
    by_cases hq:r'=r
    ·subst hq;simp only[St.setK,Zad,Option.some.injEq]at h1;subst h1;by_cases hj:j=off
     ·subst hj;have hlt:j<c.length:=(List.getElem?_eq_some_iff.1 hc).1;rw[List.getElem?_set_self hlt]at h2;cases h2;cases h3
     ·rw[List.getElem?_set_ne (fun e=>hj e.symm)]at h2;exact⟨.cell hK' h2 h3,fun e=>hj (by cases e;rfl)⟩
    ·exact⟨.cell (by simpa[St.setK,Zac _ _ hq]using h1) h2 h3,fun e=>hq (by cases e;rfl)⟩
 obtain⟨k1,k2⟩:=old o' _ ho';exact k2 (hR.heap.inj _ _ _ k1 hown)
end Go.Ab
end
section
namespace Go.Ab
open Classical
theorem Zew(off:Nat):∀(l:List Value)(j:Nat)(cs:Array Value),(l.zipIdx j).foldl (fun cs (x:Value×Nat)=>cs.setIfInBounds (off+x.2) x.1) cs=Zak cs (off+j) l
 |[],_,_=>rfl
 |v::l,j,cs=>by
  simp only[List.zipIdx_cons,List.foldl_cons,Zak];rw[Zew off l (j+1)];rfl
theorem Zg9(place:Nat->Option (Nat×Nat))(cells:Array Value)(i:Nat)(v:Value)(rest:List (Nat×Value)){off size:Nat}(hp:place i=some (off,size))(hs:v.cells.size=size)
 (hf:off+size<=cells.size):Instr.fill place cells ((i,v)::rest)=Instr.fill place (Zak cells off v.cells.toList) rest:=by
 simp only[Instr.fill,hp];rw[if_neg (by simp only[Bool.or_eq_true,decide_eq_true_eq];omega)]
 congr 1
 rw[<-Array.foldl_toList];have:=Zew off v.cells.toList 0 cells;simpa using this
noncomputable def Zap(s:St)(m:Nat):Nat->List (Nat×Operand)->Option (List (List D))
 |_,[]=>some []
 |k,(i,x)::rest=>if i=k then(match s.escs x,Zap s m (k+1) rest with
  |some l,some r=>if l.length=m then some (l::r)else none
  |_,_=>none)else none
theorem Zf8{C:Ctx}{s:St}{g:Gh}{a:Act}{w:World}(hR:Rel C s g a w){m:Nat}:∀(parts:List (Nat×Operand))(k:Nat)(es:List (List D))(cells:Array Value),Zap s m k parts=some es->
 (k+es.length)*m<=cells.size-> ∃cells',Instr.fill (fun i=>some (i*m,m)) cells (parts.map fun(i,x)=>(i,a.eval x))=some cells'/\cells'.size=cells.size/\(∀o,o<k*m->cells'[o]? =cells[o]?)/\
  (∀e∈es,e.length=m)/\ ∀i j (hi:i<es.length) (hj:j<es[i].length),∃u,cells'[(k+i)*m+j]? =some u/\RepD w g.Pr es[i][j] u
 |[],k,es,cells,h,_=>by
  simp only[Zap,Option.some.injEq]at h;subst h;exact⟨cells,rfl,rfl,fun _ _=>rfl,(fun e he=>by cases he),(fun i j hi=>by simp at hi)⟩
 |(i,x)::rest,k,es,cells,h,hs=>by
  simp only[Zap]at h;split at h
  ·rename_i hik;subst hik;split at h
   ·rename_i l r hl hr;split at h
    ·rename_i hlm;cases h;simp only[List.length_cons]at hs;have hx:=hR.escs hl;have hlen:=Zam hx
     have hsz:(a.eval x).cells.size=m:=by
      have:(a.eval x).cells.toList.length=(a.eval x).cells.size:=by simp
      omega
     have hfit:i*m+m<=cells.size:=by
      have:i*m+m=(i+1)*m:=by rw[Nat.add_mul,Nat.one_mul]
      rw[this];exact Nat.le_trans (Nat.mul_le_mul_right _ (by omega)) hs
     have hls:(a.eval x).cells.toList.length=m:=by omega
     have hget:=fun o=>Za1 (a.eval x).cells.toList cells (i*m) o (by rw[hls];exact hfit)
     obtain⟨cells',h1,h2,h3,h4,h5⟩:=Zf8 hR rest (i+1) r (Zak cells (i*m) (a.eval x).cells.toList) hr
      (by
       rw[Zal];have:i+1+r.length=i+(r.length+1):=by omega
       rw[this];exact hs)
     refine⟨cells',?_,by rw[h2,Zal],fun o ho=>?_,fun e he=>?_,fun i' j hi hj=>?_⟩
     ·rw[List.map_cons,Zg9 _ _ _ _ _ rfl hsz hfit];exact h1
     ·rw[h3 o (by rw[Nat.add_mul];omega),hget,if_neg (by omega)]
     ·rcases List.mem_cons.1 he with rfl|he
      ·exact hlm
      ·exact h4 e he
     ·cases i' with
      |zero=>
       simp only[List.getElem_cons_zero]at hj⊢;have hjm:j<m:=by omega
       obtain⟨u,hu1,hu2⟩:=Zat hx j l[j] (List.getElem?_eq_getElem hj);refine⟨u,?_,hu2⟩;rw[Nat.add_zero,h3 _ (by rw[Nat.add_mul];omega),hget,if_pos (by omega)];rw[Nat.add_sub_cancel_left];exact hu1
      |succ i'=>
       simp only[List.getElem_cons_succ]at hj⊢;obtain⟨u,hu1,hu2⟩:=h5 i' j (by simpa using hi) hj;have:i+(i'+1)=i+1+i':=by omega
       rw[this];exact⟨u,hu1,hu2⟩
    ·cases h
   ·cases h
  ·cases h
theorem OpOk.buildSlice{C:Ctx}{o:Oper}{s:St}{d n:Nat}{T:TypeId}{parts:Array (Nat×Operand)}{m by_:Nat}{c:Bool}{e:TypeId}{es:List (List D)}
 (hop:o.op=.buildSlice T n parts) (hd:o.dst=some d) (hN:d<C.N) (hT:slOf C.P T=some (m,by_,c,e)) (hes:Zap s m 0 parts.toList=some es) (hn:es.length=n) (hlim:n*m<=16777216):
 OpOk C o s (s.put d (.own m es [])):=by
 intro g a w hR K Q hK;obtain⟨hu,hs,hm0,i,z,hi,hby,hsize,hz,hzs⟩:=Zav hT;have hm:0<m:=Nat.pos_of_ne_zero hm0;have hcells0:∀zs:Array Value,((Array.range (n*m)).map (zs[· % zs.size]!)).size=n*m:=fun zs=>by simp
 obtain⟨cells',h1,h2,_,h4,h5⟩:=Zf8 hR parts.toList 0 es ((Array.range (n*m)).map ((if n*m=0 then #[]else z.cells)[· % (if n*m=0 then #[]else z.cells).size]!)) hes
  (by rw[hcells0,hn,Nat.zero_add];exact Nat.le_refl _)
 rw[hcells0]at h2
 have hrun:(execOp a.eval o).run C.P w=.ok (.value (.slice (some ⟨w.heap.size,0,none⟩) n n)) {w with heap:=w.heap.push (.cells cells' e)}:=by
  have h1':Instr.fill (fun i=>some (i*m,m)) ((Array.range (n*m)).map ((if n*m=0 then #[]else z.cells)[· % (if n*m=0 then #[]else z.cells).size]!)) (parts.map fun(i,x)=>(i,a.eval x)).toList=some cells':=by
   rw[<-h1];simp
  by_cases h0:n*m=0
  ·simp only[h0,if_true]at h1';simp[execOp,hop,Instr.buildSlice,run_underlying hu,sizeOf,typeInfo,hi,hsize,h0,newRow]at h1'⊢;simp[h1']
  ·simp only[h0,if_false]at h1';have hlim':¬(16777216<n*m):=by omega
   simp[execOp,hop,Instr.buildSlice,run_underlying hu,sizeOf,typeInfo,hi,hsize,h0,hlim',zeroValue,hz,newRow]at h1'⊢;simp[h1']
 refine Zbg hrun ?_;obtain⟨r1,r2,r3,r4,r5⟩:=hR.push cells' e;have hE:=Ext.push w (.cells cells' e)
 have hel:Elems {w with heap:=w.heap.push (.cells cells' e)} g.Pr cells' m (es++[]):=by
  rw[List.append_nil];intro i j hi hj;obtain⟨u,h6,h7⟩:=h5 i j hi hj;exact⟨u,by simpa using h6,h7.mono (fun b o hp=>hE.cell b o (hR.heap.prs b o hp)) fun _ _ h=>h⟩
 obtain⟨g',hg'⟩:=OpOk.append_core (es:=es) (nw:=[]) (m:=m) hN r3 (.inl r4) r1 (v:=.slice (some ⟨w.heap.size,0,none⟩) n n) (by simp[hn]) r2 hm h2 (by simp[hn])
  (fun z hz=>h4 z (by simpa using hz)) hel (fun k hk=>absurd hk (r5 k))
 rw[hd];exact hK g' _ _ hg'
def Zck(P:Program)(t:TypeId)(i:Nat):Option (Nat×Nat):=
 match P.underlying t with
 |some (.struct fs)=>(match fs.toList.mapM (fun f=>(P.info? f.type).map fun i=>(f.offset,i.size))with
  |some places=>places[i]?
  |none=>none)
 |some (.array _ e)=>(match P.info? e with
  |some j=>some (i*j.size,j.size)
  |none=>none)
 |_=>none
def setL(l:List D)(off:Nat)(vs:List D):List D:=l.take off++vs++l.drop (off+vs.length)
noncomputable def Zf9(P:Program)(t:TypeId)(s:St):List D->List (Nat×Operand)->Option (List D)
 |l,[]=>some l
 |l,(i,x)::rest=>match Zck P t i,s.escs x with
  |some (off,size),some vs=>if vs.length=size/\off+size<=l.length then Zf9 P t s (setL l off vs) rest else none
  |_,_=>none
def Ze3(z:List Value):List D:=if z.length=4 then z.map D.lit else z.map constD
theorem Zj8{w:World}{Pr:Nat->Nat->Prop}:∀(vs:List Value),vs.all Go.Ab.isCell=true->All2 (RepD w Pr) (vs.map D.lit) vs
 |[],_=>trivial
 |v::vs,h=>by
  simp only[List.all_cons,Bool.and_eq_true]at h;exact⟨.lit v h.1,Zj8 vs h.2⟩
theorem Zj9{w:World}{Pr:Nat->Nat->Prop}(vs:List Value)(h:vs.all Go.Ab.isCell=true):All2 (RepD w Pr) (Ze3 vs) vs:=by
 unfold Ze3;split
 ·exact Zj8 vs h
 ·exact Zcx vs h
noncomputable def Zga(P:Program)(t:TypeId)(s:St)(parts:List (Nat×Operand)):Option (List D):=
 match Zc8 P t with
 |some z=>if z.all isCell then Zf9 P t s (Ze3 z) parts else none
 |none=>none
theorem Zpe{R:D->Value->Prop}{l vs:List D}{cs:Array Value}{us:List Value}{off:Nat}(h:All2 R l cs.toList)(h2:All2 R vs us)(hf:off+vs.length<=l.length):
 All2 R (setL l off vs) (Zak cs off us).toList:=by
 have e1:=Zam h;have e2:=Zam h2;simp only[Array.length_toList]at e1;have hf':off+us.length<=cs.size:=by omega
 refine Ze0 ?_ fun i x y hx hy=>?_
 ·simp only[setL,List.length_append,List.length_take,List.length_drop,Array.length_toList,Zal];omega
 ·rw[Array.getElem?_toList,Za1 us cs off i hf']at hy;simp only[setL,List.getElem?_append,List.length_append,List.length_take]at hx;by_cases hc:off<=i/\i<off+us.length
  ·rw[if_pos hc]at hy;rw[if_pos (by omega),if_neg (by omega)]at hx;obtain⟨y',h3,h4⟩:=Zat h2 _ x hx;have:i-min off l.length=i-off:=by omega
   rw[this,hy]at h3;cases h3;exact h4
  ·rw[if_neg hc]at hy
   have hx':l[i]? =some x:=by
    by_cases h5:i<off
    ·rw[if_pos (by omega),if_pos (by omega),List.getElem?_take,if_pos h5]at hx;exact hx
    ·rw[if_neg (by omega),List.getElem?_drop]at hx;have:off+vs.length+(i-(min off l.length+vs.length))=i:=by omega
     rw[this]at hx;exact hx
   obtain⟨y',h3,h4⟩:=Zat h i x hx';rw[Array.getElem?_toList,hy]at h3;cases h3;exact h4
theorem Zsr{C:Ctx}{s:St}{g:Gh}{a:Act}{w:World}(hR:Rel C s g a w){t:TypeId}:∀(parts:List (Nat×Operand))(l l':List D)(cs:Array Value),Zf9 C.P t s l parts=some l'->
 All2 (RepD w g.Pr) l cs.toList-> ∃cs',Instr.fill (Zck C.P t) cs (parts.map fun(i,x)=>(i,a.eval x))=some cs'/\All2 (RepD w g.Pr) l' cs'.toList
 |[],l,l',cs,h,hl=>by
  simp only[Zf9,Option.some.injEq]at h;subst h;exact⟨cs,rfl,hl⟩
 |(i,x)::rest,l,l',cs,h,hl=>by
  simp only[Zf9]at h;split at h
  ·rename_i off size vs hp hv;split at h
   ·rename_i hc;have hx:=hR.escs hv;have hlen:=Zam hx;have hlen2:=Zam hl;simp only[Array.length_toList]at hlen hlen2;have:=Zpe (off:=off) hl hx (by omega);obtain⟨cs',h1,h2⟩:=Zsr hR rest _ l' _ h this;refine⟨cs',?_,h2⟩;rw[List.map_cons,Zg9 _ _ _ _ _ hp (by omega) (by omega)];exact h1
   ·cases h
  ·cases h
theorem Zgl{P:Program}{t:TypeId}{z:List Value}(hz:Zc8 P t=some z){parts:Array (Nat×Value)}{cs:Array Value}(hf:Instr.fill (Zck P t) z.toArray parts.toList=some cs)
 (hk:∃d,P.underlying t=some d/\(match d with|.struct fs=>(fs.toList.mapM (fun f=>(P.info? f.type).map fun i=>(f.offset,i.size))).isSome=true|.array _ e=>(P.info? e).isSome=true|_=>False)) (w:World):
 (Instr.build t parts).run P w=.ok (.agg cs) w:=by
 obtain⟨i,zv,hi,hzv,_,hzl⟩:=Ze2 hz;obtain⟨d,hu,hd⟩:=hk;refine run_build w t parts cs ?_;have hza:zv.cells=z.toArray:=by rw[<-hzl]
 unfold Program.built;cases d<;>simp only[]at hd
 case struct fs=>
  obtain⟨places,hp⟩:=Option.isSome_iff_exists.1 hd;simp only[hi,hu,hzv,hp,hza];have:Zck P t=fun x=>places.toArray[x]? :=by funext x;simp[Zck,hu,hp]
  rw[<-this];exact hf
 case array n e=>
  obtain⟨ie,hie⟩:=Option.isSome_iff_exists.1 hd;simp only[hi,hu,hzv,hie,hza];have:Zck P t=fun i=>some (i*ie.size,ie.size):=by funext x;simp[Zck,hu,hie]
  rw[<-this];exact hf
end Go.Ab
end
section
namespace Go.Ab
open Classical
def Zd5(l:List A)(off:Nat)(vs:List A):List A:=l.take off++vs++l.drop (off+vs.length)
theorem Zcf{P:Program}{t:TypeId}{n:Nat}{ag:Bool}(h:szOf P t=some (n,ag)){w:World}{b off:Nat}{cs:Array Value}{v:Value}(hr:Row w b cs)(hs:v.cells.size=n)
 (hf:off+n<=cs.size) (hc:∀u∈v.cells.toList,isCell u=true):
 ∃w',(storeVar t ⟨b,off,none⟩ v).run P w=.ok () w'/\Wrote w w' b (Zak cs off v.cells.toList):=by
 obtain⟨w',h1,h2⟩:=Zdh (P:=P) v.cells.toList w cs off 0 hr (by simp;omega) hc;simp only[Nat.add_zero]at h2;refine⟨w',?_,h2⟩;simp[storeVar,Zbe h,hs,h1]
theorem Zfi{c vs:List A}{off:Nat}(hf:off+vs.length<=c.length)(j:Nat):(Zd5 c off vs)[j]? =if off<=j/\j<off+vs.length then vs[j-off]? else c[j]? :=by
 simp only[Zd5,List.getElem?_append,List.length_append,List.length_take];by_cases h1:j<off
 ·rw[if_pos (by omega),if_pos (by omega),List.getElem?_take,if_pos h1,if_neg (by omega)]
 ·by_cases h2:j<off+vs.length
  ·rw[if_pos (by omega),if_neg (by omega),if_pos (by omega)]
   congr 1;omega
  ·rw[if_neg (by omega),if_neg (by omega),List.getElem?_drop]
   congr 1;omega
theorem OpOk.storeBoxG{C:Ctx}{o:Oper}{s:St}{T:TypeId}{p x:Operand}{n off:Nat}{ag:Bool}{r:Ref}{c vs:List A}(hop:o.op=.store T p x)(hd:o.dst=none)
 (hT:szOf C.P T=some (n,ag)) (hp:s.ev p=.ptr r off) (hK':s.K r=some c) (hv:∀(g:Gh)(a:Act)(w:World),Rel C s g a w->(a.eval x).cells.size=vs.length/\ ∀(j:Nat)(y:A),vs[j]? =some y->y.plain=true/\y.isOwn=false/\ ∃v,(a.eval x).cells[j]? =some v/\isCell v=true/\(∀p,RepA w g s.gen p y v)) (hn:vs.length=n) (hf:off+n<=c.length):OpOk C o s (s.setK r (Zd5 c off vs)):=by
 intro g a w hR K Q hK;obtain⟨cs,hr,hs,hcs,_,_⟩:=hR.heap.box r c hK';have hev:=hR.ev p (by rw[hp];rfl) .res;rw[hp]at hev;obtain⟨h1,h2⟩:=hv g a w hR
 have hcell:∀u∈(a.eval x).cells.toList,isCell u=true:=fun u hu=>by
  obtain⟨k,hk,rfl⟩:=List.mem_iff_getElem.1 hu;simp only[Array.length_toList]at hk;obtain⟨y,hy⟩:∃y,vs[k]? =some y:=⟨vs[k]'(by omega),List.getElem?_eq_getElem _⟩;obtain⟨_,_,v,k3,k4,_⟩:=h2 k y hy
  have e:(a.eval x).cells.toList[k]=v:=by
   rw[Array.getElem?_eq_getElem hk]at k3;simpa using Option.some.inj k3
  rw[e];exact k4
 obtain⟨w',h3,h4⟩:=Zcf hT (off:=off) (v:=a.eval x) hr (by omega) (by omega) hcell
 have hrun:(execOp a.eval o).run C.P w=.ok .skip w':=by
  simp only[execOp,hop,hev.1,Instr.storeAt,Instr.sureAddr,Sem.run_bind,Sem.run_pure,Result.andThen_ok,h3]
 refine Zik hrun (hK g _ w' ?_);rw[hd];refine hR.setBox hK' hr h4 (Zal _ _ _) ?_ fun j y hy=>?_
 ·simp only[Zd5,List.length_append,List.length_take,List.length_drop];omega
 ·rw[Zfi (by omega)]at hy;have hg:=Za1 (a.eval x).cells.toList cs off j (by simp;omega);by_cases hj:off<=j/\j<off+vs.length
  ·rw[if_pos hj]at hy;obtain⟨k1,k2,v,k3,_,k4⟩:=h2 (j-off) y hy;refine .inr ⟨k1,k2,v,?_,k4⟩;rw[hg,if_pos (by simp;omega)];simpa using k3
  ·rw[if_neg hj]at hy;refine .inl ⟨hy,?_⟩;rw[hg,if_neg (by simp;omega)]
theorem OpOk.storeBox{C:Ctx}{o:Oper}{s:St}{T:TypeId}{p x:Operand}{n off:Nat}{ag:Bool}{r:Ref}{c vs:List A}(hop:o.op=.store T p x)(hd:o.dst=none)
 (hT:szOf C.P T=some (n,ag)) (hp:s.ev p=.ptr r off) (hK':s.K r=some c) (hv:s.boxC x=some vs) (hn:vs.length=n) (hf:off+n<=c.length):OpOk C o s (s.setK r (Zd5 c off vs)):=
 OpOk.storeBoxG hop hd hT hp hK' (fun _ _ _ hR=>hR.boxC hv) hn hf
theorem OwnRep.ofWrote{w w':World}{Pr Pr':Nat->Nat->Prop}{b b':Nat}{cs':Array Value}{es nw:List (List D)}{v:Value}{cap m:Nat}{cs:Array Value}(h:OwnRep w Pr b es nw v cap m cs)(hw:Wrote w w' b' cs')
 (hne:b≠b') (hc:∀b o,Pr b o->w'.cell? ⟨b,o,none⟩=w.cell? ⟨b,o,none⟩) (hp:∀b o,Pr b o->Pr' b o) (hpr:∀o,Pr' b o↔Pr b o):OwnRep w' Pr' b es nw v cap m cs:=
 ⟨h.val,h.row.of_same (hw.same b hne),h.pos,h.size,h.room,h.len,h.elems.mono hc hp,fun o=>(hpr o).trans (h.prot o)⟩
theorem OpOk.storeOwn{C:Ctx}{o:Oper}{s:St}{T:TypeId}{p:Operand}{t off m:Nat}{r:Ref}{c:List A}{es nw:List (List D)}(hop:o.op=.store T p (.tmp t))(hd:o.dst=none)
 (hT:szOf C.P T=some (1,false)) (hp:s.ev p=.ptr r off) (hK':s.K r=some c) (ht:s.tm t=.own m es nw) (hf:off<c.length):
 OpOk C o s ((s.reset t .any).setK r (c.set off (.own m (es++nw) []))):=by
 intro g a w hR K Q hK;obtain⟨cs,hr,hs,hcs,hp0,_⟩:=hR.heap.box r c hK';obtain⟨cap,ds,ho⟩:=hR.own ht;have hev:=hR.ev p (by rw[hp];rfl) .res;rw[hp]at hev;have hown:Owns s g (.slot t) (g.ow (.slot t)):=.slot (by rw[ht];rfl)
 have hne:g.ow (.slot t)≠g.bx r:=fun e=>by
  have h1:Owns s g (.box r) (g.bx r):=.box hK';rw[<-e]at h1;have:=hR.heap.inj _ _ _ hown h1;cases this
 have hval:(a.tmps.getD t undef).cells= #[a.tmps.getD t undef]:=by rw[ho.val];rfl
 obtain⟨w',h3,h4⟩:=Zcf hT (off:=off) (v:=a.tmps.getD t undef) hr (by rw[hval];rfl) (by omega) (fun u hu=>by rw[hval]at hu;simp at hu;subst hu;rw[<-Array.getD_eq_getD_getElem?,ho.val];rfl)
 have hrun:(execOp a.eval o).run C.P w=.ok .skip w':=by
  have:a.eval (.tmp t)=a.tmps.getD t undef:=rfl;simp only[execOp,hop,hev.1,this,Instr.storeAt,Instr.sureAddr,Sem.run_bind,Sem.run_pure,Result.andThen_ok,h3]
 rw[hval]at h4;have R1:=hR.reset t;have hfree:=hR.reset_free (t:=t) (by rw[ht];rfl);have hwr:=hR.heap.wr _ _ hown
 have hget:∀j,(Zak cs off [a.tmps.getD t undef])[j]? =if j=off then some (a.tmps.getD t undef)else cs[j]? :=fun j=>by
  rw[Za1 _ _ _ _ (by simp;omega)];by_cases hj:j=off
  ·subst hj;rw[if_pos (by simp),if_pos rfl];simp
  ·rw[if_neg (by simp;omega),if_neg hj]
 have R2:Rel C ((s.reset t .any).setK r (c.set off .any)) g a w':=R1.setBox (c':=c.set off .any) hK' hr h4 (Zal _ _ _) (by simp) fun j y hy=>by
  by_cases hj:j=off
  ·subst hj;rw[List.getElem?_set_self hf]at hy;cases hy;exact .inr ⟨rfl,rfl,a.tmps.getD t undef,by rw[hget,if_pos rfl],fun _=>trivial⟩
  ·rw[List.getElem?_set_ne (fun e=>hj e.symm)]at hy;exact .inl ⟨hy,by rw[hget,if_neg hj]⟩
 have hcell:∀b' o',g.Pr b' o'->w'.cell? ⟨b',o',none⟩=w.cell? ⟨b',o',none⟩:=fun b' o' hpr=>h4.cell b' o' (fun e=>hp0 o' (e▸hpr))
 have hfree2:∀q,¬Owns ((s.reset t .any).setK r (c.set off .any)) g q (g.ow (.slot t)):=by
  intro q h1;generalize hb:g.ow (.slot t)=b at h1;cases h1 with
  | @box r' d' h1=>
    by_cases hq:r'=r
    ·subst hq;exact hne hb
    ·exact hfree (.box r') (by rw[hb];exact .box (by simpa[St.setK,Zac _ _ hq]using h1))
  |slot h1=>exact hfree (.slot _) (by rw[hb];exact .slot h1)
  | @cell r' d' j y h1 h2 h5=>
    by_cases hq:r'=r
    ·subst hq;simp only[St.setK,Zad,Option.some.injEq]at h1;subst h1;by_cases hj:j=off
     ·subst hj;rw[List.getElem?_set_self hf]at h2;cases h2;cases h5
     ·rw[List.getElem?_set_ne (fun e=>hj e.symm)]at h2;exact hfree (.cell r' j) (by rw[hb];exact .cell hK' h2 h5)
    ·exact hfree (.cell r' j) (by rw[hb];exact .cell (by simpa[St.setK,Zac _ _ hq]using h1) h2 h5)
 have ho':OwnRep w' g.Pr (g.ow (.slot t)) es nw (a.tmps.getD t undef) cap m ds:=ho.ofWrote h4 hne hcell (fun _ _ h=>h) (fun _=>Iff.rfl);have R3:=R2.protect (fun k=>k<(es++nw).length*m) hfree2 hwr ho'.row.lt;have hk:=g.protect_keeps (g.ow (.slot t)) (fun k=>k<(es++nw).length*m) w' s.gen;have hsz:(es++nw).length=es.length+nw.length:=List.length_append
 have ho'':OwnRep w' (g.protect (g.ow (.slot t)) (fun k=>k<(es++nw).length*m)).Pr (g.ow (.slot t)) (es++nw) [] (a.tmps.getD t undef) cap m ds:=
  ⟨by rw[ho'.val,hsz];rfl,ho'.row,ho'.pos,ho'.size,by rw[hsz];exact ho'.room,fun z hz=>ho'.len z (by simpa using hz),by
   have:=ho'.elems.mono hk.cell hk.pr
   simpa using this,fun k=>⟨fun h=>h.elim (fun h1=>by
    have:=(ho'.prot k).1 h1;exact Nat.lt_of_lt_of_le this (Nat.mul_le_mul_right _ (by rw[hsz];omega))) (fun e=>e.2),fun h=>.inr ⟨rfl,h⟩⟩⟩
 have R4:=R3.giveCell (r:=r) (c:=c.set off .any) (k:=off) (by simp[St.setK]) (by simpa using hf) (v:=a.tmps.getD t undef) (fun es' he'=>by
  rw[he'.unique h4.row,hget,if_pos rfl]) (fun y hy=>by
  rw[List.getElem?_set_self hf]at hy;cases hy;rfl) (fun q hq=>hfree2 q hq.of_protect) hwr ho''
 refine Zik hrun (hK ((g.protect (g.ow (.slot t)) (fun k=>k<(es++nw).length*m)).give (.cell r off) (g.ow (.slot t))) _ w' ?_);rw[hd]
 have e1:((s.reset t .any).setK r (c.set off .any)).setK r ((c.set off .any).set off (.own m (es++nw) []))=(s.reset t .any).setK r (c.set off (.own m (es++nw) [])):=by
  unfold St.setK
  congr 1
  ·funext q
   simp only[upd];split<;>simp
 rw[e1]at R4;exact R4
end Go.Ab
end
section
namespace Go.Ab
open Classical
theorem Zgx{a:Act}{t:Nat}(_h:t<a.tmps.size):a.put (some t) (a.tmps.getD t undef)=a:=by
 cases a with
 |mk tmps defers=>
  simp only[Act.put]
  congr 1
  apply Array.ext
  ·simp
  ·intro k h1 h2;by_cases hk:t=k
   ·subst hk;simp[h2]
   ·rw[Array.getElem_setIfInBounds_ne h2 hk]
theorem Zha{l vs:List D}{off:Nat}(h:off+vs.length<=l.length):(setL l off vs).length=l.length:=by
 simp only[setL,List.length_append,List.length_take,List.length_drop];omega
theorem Zmy{c vs:List D}{off:Nat}(hf:off+vs.length<=c.length)(j:Nat):(setL c off vs)[j]? =if off<=j/\j<off+vs.length then vs[j-off]? else c[j]? :=by
 simp only[setL,List.getElem?_append,List.length_append,List.length_take];by_cases h1:j<off
 ·rw[if_pos (by omega),if_pos (by omega),List.getElem?_take,if_pos h1,if_neg (by omega)]
 ·by_cases h2:j<off+vs.length
  ·rw[if_pos (by omega),if_neg (by omega),if_pos (by omega)]
   congr 1;omega
  ·rw[if_neg (by omega),if_neg (by omega),List.getElem?_drop]
   congr 1;omega
theorem Zok{i i' m j k:Nat}(h:i'≠i)(hj:j<m)(hk:k<m):i'*m+j≠i*m+k:=by
 intro e;rcases Nat.lt_or_gt_of_ne h with h1|h1
 ·have:(i'+1)*m<=i*m:=Nat.mul_le_mul_right _ h1;rw[Nat.add_mul]at this;omega
 ·have:(i+1)*m<=i'*m:=Nat.mul_le_mul_right _ h1;rw[Nat.add_mul]at this;omega
theorem OpOk.storeOpt{C:Ctx}{o:Oper}{s:St}{T:TypeId}{u t n i j m:Nat}{x:Operand}{ag:Bool}{es nw:List (List D)}{e vs:List D}(hop:o.op=.store T (.tmp u) x)(hd:o.dst=none)(hN:t<C.N)
 (hT:szOf C.P T=some (vs.length,ag)) (hp:s.tm u=.opt t n m i j) (hn:n=s.gen t) (ht:s.tm t=.own m es nw) (hi:es.length<=i) (he:nw[i-es.length]? =some e) (hv:s.escs x=some vs)
 (hj:j+vs.length<=m):OpOk C o s ((s.reset t .any).put t (.own m es (nw.set (i-es.length) (setL e j vs)))):=by
 intro g a w hR K Q hK;obtain⟨cap,cs,ho⟩:=hR.own ht;obtain⟨_,h1⟩:=hR.opt u t n m i j hp;obtain⟨_,hpv⟩:=h1 hn;have hx:=hR.escs hv;have hlen:=Zam hx;simp only[Array.length_toList]at hlen;have hown:Owns s g (.slot t) (g.ow (.slot t)):=.slot (by rw[ht];rfl);have hlt:i-es.length<nw.length:=(List.getElem?_eq_some_iff.1 he).1;have hi2:i<es.length+nw.length:=by omega
 have hem:e.length=m:=ho.len e (List.mem_append_right _ (List.mem_of_getElem? he))
 have hcells:∀z∈(a.eval x).cells.toList,isCell z=true:=fun z hz=>by
  obtain⟨k,hk,rfl⟩:=List.mem_iff_getElem.1 hz;simp only[Array.length_toList]at hk;obtain⟨y,h2,h3⟩:=Zat hx k (vs[k]'(by omega)) (List.getElem?_eq_getElem _)
  have e':(a.eval x).cells.toList[k]=y:=by
   rw[List.getElem?_eq_getElem (by simpa using hk)]at h2;exact Option.some.inj h2
  rw[e'];exact h3.isCell
 have hpos:i*m+j+vs.length<=cs.size:=by
  rw[ho.size];have h2:(i+1)*m<=cap*m:=Nat.mul_le_mul_right _ (Nat.le_trans hi2 ho.room);rw[Nat.add_mul]at h2;omega
 obtain⟨w',h3,h4⟩:=Zcf hT (off:=i*m+j) (v:=a.eval x) ho.row hlen.symm (by omega) hcells
 have hrun:(execOp a.eval o).run C.P w=.ok .skip w':=by
  have:a.eval (.tmp u)=.pointer (some ⟨g.ow (.slot t),i*m+j,none⟩):=hpv;simp only[execOp,hop,this,Instr.storeAt,Instr.sureAddr,Sem.run_bind,Sem.run_pure,Result.andThen_ok,h3]
 have hget:∀k,(Zak cs (i*m+j) (a.eval x).cells.toList)[k]? =if i*m+j<=k/\k<i*m+j+vs.length then(a.eval x).cells.toList[k-(i*m+j)]? else cs[k]? :=fun k=>by
  rw[Za1 _ _ _ _ (by simp;omega)];simp only[Array.length_toList,<-hlen]
 have hle:es.length*m<=i*m:=Nat.mul_le_mul_right _ hi
 have hkeep:∀k,g.Pr (g.ow (.slot t)) k->(Zak cs (i*m+j) (a.eval x).cells.toList)[k]? =cs[k]? :=fun k hk=>by
  have:=(ho.prot k).1 hk;rw[hget,if_neg (by omega)]
 have R1:=hR.reset t;have hfree:=hR.reset_free (t:=t) (by rw[ht];rfl);have hwr:=hR.heap.wr _ _ hown;have R2:=R1.write ho.row hfree h4 (Zal _ _ _) hkeep hwr
 have hcell:∀b' o',g.Pr b' o'->w'.cell? ⟨b',o',none⟩=w.cell? ⟨b',o',none⟩:=fun b' o' hpr=>by
  by_cases hb:b'=g.ow (.slot t)
  ·subst hb;rw[h4.row.cell,ho.row.cell,hkeep o' hpr]
  ·exact h4.cell b' o' hb
 have hsl:(setL e j vs).length=m:=by rw[Zha (by omega),hem]
 have hel:Elems w' g.Pr (Zak cs (i*m+j) (a.eval x).cells.toList) m (es++nw.set (i-es.length) (setL e j vs)):=by
  intro i' j' hi' hj';have hi'':i'<es.length+nw.length:=by simpa using hi'
  by_cases hii:i'=i
  ·subst hii
   have e1:(es++nw.set (i'-es.length) (setL e j vs))[i']=setL e j vs:=by
    rw[List.getElem_append_right hi];simp
   simp only[e1]at hj'⊢;have hjm:j'<m:=by omega
   have h5:=Zmy (c:=e) (vs:=vs) (off:=j) (by omega) j';rw[List.getElem?_eq_getElem hj']at h5;by_cases hc:j<=j'/\j'<j+vs.length
   ·rw[if_pos hc]at h5;obtain⟨y,h6,h7⟩:=Zat hx (j'-j) _ h5.symm;refine⟨y,?_,h7.mono hcell fun _ _ h=>h⟩;rw[hget,if_pos (by omega)];have:i'*m+j'-(i'*m+j)=j'-j:=by omega
    rw[this];exact h6
   ·rw[if_neg hc]at h5;have hje:j'<e.length:=by omega
    obtain⟨y,h6,h7⟩:=ho.elems i' j' (by simpa using hi2) (by
     rw[List.getElem_append_right hi];have:=(List.getElem?_eq_some_iff.1 he).2;rw[this];exact hje)
    refine⟨y,by rw[hget,if_neg (by omega)];exact h6,?_⟩
    have e2:(es++nw)[i']'(by simpa using hi2)=e:=by
     rw[List.getElem_append_right hi];exact(List.getElem?_eq_some_iff.1 he).2
    have e3:(setL e j vs)[j']=e[j']:=by
     rw[List.getElem?_eq_getElem hje]at h5;exact Option.some.inj h5
    rw[e3];have h8:=h7.mono hcell (Pr':=g.Pr) fun _ _ h=>h
    simpa only[e2]using h8
  ·have e1:(es++nw.set (i-es.length) (setL e j vs))[i']=(es++nw)[i']'(by simpa using hi''):=by
    by_cases hl:i'<es.length
    ·rw[List.getElem_append_left hl,List.getElem_append_left hl]
    ·rw[List.getElem_append_right (by omega),List.getElem_append_right (by omega),List.getElem_set_ne (by omega)]
   simp only[e1]at hj'⊢;obtain⟨y,h6,h7⟩:=ho.elems i' j' (by simpa using hi'') hj';have hjm:j'<m:=by rw[<-ho.len _ (List.getElem_mem (by simpa using hi''))];exact hj'
   refine⟨y,?_,h7.mono hcell fun _ _ h=>h⟩;rw[hget,if_neg ?_]
   ·exact h6
   ·rintro⟨h8,h9⟩;have:i'*m+j'=i*m+(i'*m+j'-i*m):=by omega
    exact Zok hii hjm (show i'*m+j'-i*m<m by omega) this
 have ho':OwnRep w' g.Pr (g.ow (.slot t)) es (nw.set (i-es.length) (setL e j vs)) (a.tmps.getD t undef) cap m (Zak cs (i*m+j) (a.eval x).cells.toList):=
  ⟨by rw[ho.val];simp,h4.row,ho.pos,by rw[Zal];exact ho.size,by simpa using ho.room,fun z hz=>by
   rcases List.mem_append.1 hz with h|h
   ·exact ho.len z (List.mem_append_left _ h)
   ·rcases List.mem_or_eq_of_mem_set h with h|h
    ·exact ho.len z (List.mem_append_right _ h)
    ·rw[h];exact hsl,hel,ho.prot⟩
 have R3:=R2.putOwn (d:=t) hN hfree hwr ho';rw[Zgx (by rw[hR.size];exact hN)]at R3;refine Zik hrun (hK (g.give (.slot t) (g.ow (.slot t))) _ w' ?_);rw[hd];exact R3
theorem OpOk.of_opt{C:Ctx}{o:Oper}{s:St}{d t n m i j:Nat}(hd:o.dst=some d)(hN:d<C.N)(htd:t≠d)
 (h:∀g a w,Rel C s g a w->n<=s.gen t/\(n=s.gen t->(s.tm t).isOwn=true/\(execOp a.eval o).run C.P w=.ok (.value (.pointer (some ⟨g.ow (.slot t),i*m+j,none⟩))) w)) (hn:n=s.gen t):
 OpOk C o s (s.put d (.opt t n m i j)):=by
 intro g a w hR K Q hK;obtain⟨h1,h2⟩:=h g a w hR;obtain⟨h3,h4⟩:=h2 hn;refine Zbg h4 (hK g _ w ?_);rw[hd];refine hR.put hN rfl trivial (fun t n e=>by cases e) fun t' n' sz' i' j' e=>?_
 cases e;exact⟨htd,h1,fun _=>⟨h3,rfl⟩⟩
end Go.Ab
end
section
namespace Go.Ab
open Classical
def Zdl(P:Program)(t:TypeId):Option (List Pk):=
 if P.eqGuardType P.depth t then none else
 match P.underlying t with
 |some (.array n e)=>(match pkOf P e,szOf P e with
  |some k,some (1,false)=>some (List.replicate n k)
  |_,_=>none)
 |some (.struct fs)=>if P.stoodInHeld t then none else
   (fs.toList.zipIdx.mapM fun(x:Field×Nat)=>match pkOf P x.1.type,szOf P x.1.type with
    |some k,some (1,false)=>if x.1.offset=x.2/\x.1.name≠ "_"then some k else none
    |_,_=>none)
 |_=>none
def Ze4:Pk->D->D->Option Bool
 |.int _,.lit (.int k a),.lit (.int k' b)=>if k=k' then some (a==b)else none
 |.string,.lit (.string a),.lit (.string b)=>some (a.toList==b.toList)
 |.bool,.lit (.bool a),.lit (.bool b)=>some (a==b)
 |_,_,_=>none
def Za6:List Pk->List D->List D->Option Bool
 |[],[],[]=>some true
 |k::ks,x::l,y::m=>match Ze4 k x y,Za6 ks l m with
  |some a,some b=>some (a&&b)
  |_,_=>none
 |_,_,_=>none
theorem Zi6{P:Program}{t:TypeId}{k:Pk}(h:pkOf P t=some k):P.underlying t=some (match k with|.bool=>.bool|.int k=>.int k|.string=>.string):=by
 unfold pkOf at h;split at h<;>first|(rename_i hu;cases h;exact hu)|cases h
theorem Zhb{P:Program}{w:World}{Pr:Nat->Nat->Prop}{t:TypeId}{k:Pk}(hk:pkOf P t=some k){x y:D}{vx vy:Value}{b:Bool}(h:Ze4 k x y=some b)(hx:RepD w Pr x vx)(hy:RepD w Pr y vy)(d:Nat)
 (w':World):(Op.equalIn (d+1) t vx vy).run P w'=.ok b w':=by
 have hu:=Zi6 hk;unfold Ze4 at h;split at h
 ·split at h
  ·rename_i hkk;cases h;cases hx;cases hy;subst hkk;exact run_equalIn_int w' d t _ _ _ _ hu
  ·cases h
 ·cases h;cases hx;cases hy;exact run_equalIn_string w' d t _ _ hu
 ·cases h;cases hx;cases hy;exact run_equalIn_bool' w' d t _ _ hu
 ·cases h
theorem Zbx{P:Program}{t:TypeId}{n:Nat}(h:szOf P t=some (n,false)){cs:Array Value}{off:Nat}{v:Value}(hv:cs[off]? =some v)(w:World):(part t cs off).run P w=.ok v w:=by
 simp[part,Zg7 h,hv]
theorem Zhc{P:Program}{w:World}{Pr:Nat->Nat->Prop}{e:TypeId}{k:Pk}(hk:pkOf P e=some k)(hs:szOf P e=some (1,false))(d:Nat){l m:List D}{xs ys:Array Value}
 (hx:All2 (RepD w Pr) l xs.toList) (hy:All2 (RepD w Pr) m ys.toList):∀(n o:Nat)(b:Bool),Za6 (List.replicate n k) (l.drop o) (m.drop o)=some b->
 (Op.eqItems (d+1) e 1 xs ys (List.range' o n)).run P w=.ok b w
 |0,o,b,h=>by
  simp only[List.replicate_zero]at h;generalize l.drop o=l',m.drop o=m' at h;cases l'<;>cases m'<;>simp[Za6]at h;subst h;simp[Op.eqItems]
 |n+1,o,b,h=>by
  simp only[List.replicate_succ]at h;generalize hl:l.drop o=l' at h;generalize hm:m.drop o=m' at h;cases l' with
  |nil=>cases m'<;>simp[Za6]at h
  |cons x l'=>
   cases m' with
   |nil=>simp[Za6]at h
   |cons y m'=>
    simp only[Za6]at h;split at h
    ·rename_i b1 b2 h1 h2;cases h;have e1:l[o]? =some x:=by have:=congrArg (·[0]?) hl;simpa using this
     have e2:m[o]? =some y:=by have:=congrArg (·[0]?) hm;simpa using this
     have e3:l.drop (o+1)=l':=by have:=congrArg (List.drop 1) hl;simpa[Nat.add_comm]using this
     have e4:m.drop (o+1)=m':=by have:=congrArg (List.drop 1) hm;simpa[Nat.add_comm]using this
     obtain⟨vx,h3,h4⟩:=Zat hx o x e1;obtain⟨vy,h5,h6⟩:=Zat hy o y e2;have ih:=Zhc hk hs d hx hy n (o+1) b2 (by rw[e3,e4];exact h2);have h7:=Zhb hk h1 h4 h6 d w;have p1:=Zbx hs (cs:=xs) (off:=o) (v:=vx) (by simpa using h3) w;have p2:=Zbx hs (cs:=ys) (off:=o) (v:=vy) (by simpa using h5) w;simp only[List.range'_succ,Op.eqItems,Nat.mul_one,Sem.run_bind,p1,p2,h7,Result.andThen_ok];cases b1
     ·simp
     ·simpa using ih
    ·cases h
theorem Zgm{P:Program}{w:World}{Pr:Nat->Nat->Prop}(d:Nat){l m:List D}{xs ys:Array Value}
 (hx:All2 (RepD w Pr) l xs.toList) (hy:All2 (RepD w Pr) m ys.toList):∀(fs:List Field)(o:Nat)(ks:List Pk)(b:Bool),
  ((fs.zipIdx o).mapM fun(x:Field×Nat)=>match pkOf P x.1.type,szOf P x.1.type with
    |some k,some (1,false)=>if x.1.offset=x.2/\x.1.name≠ "_"then some k else none
    |_,_=>none)=some ks->
  Za6 ks (l.drop o) (m.drop o)=some b->(Op.eqFields (d+1) xs ys fs).run P w=.ok b w
 |[],o,ks,b,hks,h=>by
  simp at hks;subst hks;generalize l.drop o=l',m.drop o=m' at h;cases l'<;>cases m'<;>simp[Za6]at h;subst h;simp[Op.eqFields]
 |f::fs,o,ks,b,hks,h=>by
  simp only[List.zipIdx_cons,List.mapM_cons,bind,Option.bind_eq_some_iff,pure,Option.some.injEq]at hks;obtain⟨k,hk1,ks',hk2,rfl⟩:=hks;split at hk1
  ·rename_i k' hpk hsz;split at hk1
   ·rename_i hoff;cases hk1;generalize hl:l.drop o=l' at h;generalize hm:m.drop o=m' at h;cases l' with
    |nil=>cases m'<;>simp[Za6]at h
    |cons x l'=>
     cases m' with
     |nil=>simp[Za6]at h
     |cons y m'=>
      simp only[Za6]at h;split at h
      ·rename_i b1 b2 h1 h2;cases h;have e1:l[o]? =some x:=by have:=congrArg (·[0]?) hl;simpa using this
       have e2:m[o]? =some y:=by have:=congrArg (·[0]?) hm;simpa using this
       have e3:l.drop (o+1)=l':=by have:=congrArg (List.drop 1) hl;simpa[Nat.add_comm]using this
       have e4:m.drop (o+1)=m':=by have:=congrArg (List.drop 1) hm;simpa[Nat.add_comm]using this
       obtain⟨vx,h3,h4⟩:=Zat hx o x e1;obtain⟨vy,h5,h6⟩:=Zat hy o y e2;have ih:=Zgm d hx hy fs (o+1) ks' b2 hk2 (by rw[e3,e4];exact h2);have h7:=Zhb hpk h1 h4 h6 d w;have p1:=Zbx hsz (cs:=xs) (off:=f.offset) (v:=vx) (by rw[hoff.1];simpa using h3) w;have p2:=Zbx hsz (cs:=ys) (off:=f.offset) (v:=vy) (by rw[hoff.1];simpa using h5) w;simp only[Op.eqFields,if_pos hoff.2,Sem.run_bind,p1,p2,h7,Result.andThen_ok];cases b1
       ·simp
       ·simpa using ih
      ·cases h
   ·cases hk1
  ·cases hk1
theorem Zka{P:Program}{w:World}{Pr:Nat->Nat->Prop}{t:TypeId}{ks:List Pk}(hk:Zdl P t=some ks){l m:List D}{xs ys:Array Value}
 (hx:All2 (RepD w Pr) l xs.toList) (hy:All2 (RepD w Pr) m ys.toList) {b:Bool} (h:Za6 ks l m=some b):(Op.equalIn 10000 t (.agg xs) (.agg ys)).run P w=.ok b w:=by
 unfold Zdl at hk;split at hk
 ·cases hk
 ·split at hk
  ·rename_i n e hu;split at hk
   ·rename_i k hpk hsz;cases hk;obtain⟨i,d,h1,h2,_,_⟩:=Zff hsz;rw[run_equalIn_array w 9999 xs ys hu h1];have hc:P.cellsOf e=1:=by simp[Program.cellsOf,h1,h2]
    rw[hc,List.range_eq_range'];exact Zhc hpk hsz 9998 hx hy n 0 b (by simpa using h)
   ·cases hk
  ·rename_i fs hu;split at hk
   ·cases hk
   ·rename_i hst;have hf:P.fieldsOf t=fs:=by simp[Program.fieldsOf,hu]
    rw[run_equalIn_struct w 9999 t xs ys (by rw[hf];exact hu) (by simpa using hst),hf];exact Zgm 9998 hx hy fs.toList 0 ks b hk (by simpa using h)
  ·cases hk
theorem Zd6{P:Program}{t:TypeId}{ks:List Pk}(hk:Zdl P t=some ks):P.eqGuardType P.depth t=false:=by
 unfold Zdl at hk;split at hk
 ·cases hk
 ·rename_i h;simpa using h
end Go.Ab
end
section
namespace Go.Ab
open Classical
def St.bound(s:St)(x:Option Operand)(dflt:Nat):Option Nat:=
 match x with
 |none=>some dflt
 |some o=>(match s.lit o with
  |some (.int _ i)=>if 0<=i then some i.toNat else none
  |_=>none)
theorem RepD.sub{w:World}{Pr:Nat->Nat->Prop}{es:List (List D)}{a:Option Addr}{n cap m l h:Nat}(hr:RepD w Pr (.slc es) (.slice a n cap))(hm:∀e∈es,e.length=m)(hl:l<h)(hh:h<=es.length)(cap':Nat)(hc:h-l<=cap'):
 RepD w Pr (.slc ((es.take h).drop l)) (.slice (a.map (·.add (l*m))) (h-l) cap')/\h<=cap:=by
 cases hr with
 |emp a c=>simp at hh;omega
 |slc _ sz b off cap vs h0 hlen hcap hv hp hre=>
  have hsz:sz=m:=by
   have h1:es[l]'(by omega)∈es:=List.getElem_mem _;rw[<-hlen _ h1,hm _ h1]
  subst hsz;refine⟨?_,by omega⟩;have hlen2:((es.take h).drop l).length=h-l:=by simp;omega
  have key:∀k,k<((es.take h).drop l).length*sz->l*sz+k<es.length*sz:=fun k hk=>by
   rw[hlen2]at hk;have:(l+(h-l))*sz<=es.length*sz:=Nat.mul_le_mul_right _ (by omega);rw[Nat.add_mul]at this;omega
  have:=RepD.slc (w:=w) (Pr:=Pr) ((es.take h).drop l) sz b (off+l*sz) cap' (fun k=>vs (l*sz+k)) h0 (fun e he=>hlen e (List.mem_of_mem_take (List.mem_of_mem_drop he))) (by omega)
   (fun k hk=>by rw[Nat.add_assoc];exact hv _ (key k hk)) (fun k hk=>by rw[Nat.add_assoc];exact hp _ (key k hk)) (fun i j hi hj=>by
    have e1:((es.take h).drop l)[i]=es[l+i]'(by omega):=by simp
    simp only[e1]at hj⊢;have:=hre (l+i) j (by omega) hj;have e2:l*sz+(i*sz+j)=(l+i)*sz+j:=by rw[Nat.add_mul];omega
    rw[e2];exact this)
  rw[hlen2]at this;simpa[Zaz]using this
theorem Zby{C:Ctx}{s:St}{g:Gh}{a:Act}{w:World}(hR:Rel C s g a w){x:Operand}{dflt n y:Nat}(h:s.bound (some x) dflt=some n)(hy:n<=y)(code:BoundsCode)(w':World):
 (Instr.sliceBound (a.eval x) y code).run C.P w'=.ok n w':=by
 simp only[St.bound]at h;split at h
 ·rename_i k i hl;split at h
  ·rename_i h0;cases h;rw[hR.lit hl];simp[Instr.sliceBound,asIntOf,h0,show i<=(y:Int) by omega]
  ·cases h
 ·cases h
theorem Zil{C:Ctx}{s:St}{g:Gh}{a:Act}{w:World}(hR:Rel C s g a w){lo hi:Option Operand}{len cap l h:Nat}(hl:s.bound lo 0=some l)(hh:s.bound hi len=some h)(h1:l<=h)(h2:h<=cap)(b:Bool)(w':World):
 (Instr.sliceBounds b len cap (lo.map a.eval) (hi.map a.eval) none).run C.P w'=.ok (l,h,cap) w':=by
 cases hi with
 |none=>
  simp only[St.bound,Option.some.injEq]at hh;subst hh;cases lo with
  |none=>
   simp only[St.bound,Option.some.injEq]at hl;subst hl;simp[Instr.sliceBounds]
  |some x=>simp[Instr.sliceBounds,Zby hR hl h1]
 |some y=>
  cases lo with
  |none=>
   simp only[St.bound,Option.some.injEq]at hl;subst hl;simp[Instr.sliceBounds,Zby hR hh h2]
  |some x=>simp[Instr.sliceBounds,Zby hR hh h2,Zby hR hl h1]
theorem Zlr{C:Ctx}{s:St}{g:Gh}{a:Act}{w:World}(hR:Rel C s g a w){lo:Option Operand}{hi mx:Operand}{len cap l h m:Nat}(hl:s.bound lo 0=some l)(hh:s.bound (some hi) len=some h)(hm:s.bound (some mx) cap=some m)
 (h1:l<=h) (h2:h<=m) (h3:m<=cap) (w':World):
 (Instr.sliceBounds true len cap (lo.map a.eval) ((some hi).map a.eval) ((some mx).map a.eval)).run C.P w'=.ok (l,h,m) w':=by
 cases lo with
 |none=>
  simp only[St.bound,Option.some.injEq]at hl;subst hl;simp[Instr.sliceBounds,Zby hR hm h3,Zby hR hh h2]
 |some x=>simp[Instr.sliceBounds,Zby hR hm h3,Zby hR hh h2,Zby hR hl h1]
theorem Zpf{C:Ctx}{s:St}{g:Gh}{a:Act}{w:World}(hR:Rel C s g a w){T:TypeId}{x:Operand}{lo hi:Option Operand}{b:ByteArray}{l h:Nat}(hT:C.P.underlying T=some .string)(hx:s.lit x=some (.string b))
 (hl:s.bound lo 0=some l) (hh:s.bound hi b.size=some h) (h1:l<=h) (h2:h<=b.size):
 (Instr.sliceAt T (a.eval x) (lo.map a.eval) (hi.map a.eval) none).run C.P w=.ok (.string (b.extract l h)) w:=by
 rw[hR.lit hx];simp[Instr.sliceAt,run_underlying hT,Instr.slice,Zil hR hl hh h1 h2]
theorem Zpg{C:Ctx}{s:St}{g:Gh}{a:Act}{w:World}(hR:Rel C s g a w){T:TypeId}{x:Operand}{lo hi:Option Operand}{es:List (List D)}{l h m by_:Nat}{c:Bool}{e:TypeId}(hT:slOf C.P T=some (m,by_,c,e))
 (hx:s.esc x=some (.slc es)) (hm:∀z∈es,z.length=m) (hl:s.bound lo 0=some l) (hh:s.bound hi es.length=some h) (h1:l<=h) (h2:h<=es.length):
 ∃v,(Instr.sliceAt T (a.eval x) (lo.map a.eval) (hi.map a.eval) none).run C.P w=.ok v w/\RepD w g.Pr (.slc ((es.take h).drop l)) v:=by
 obtain⟨hu,hs,_⟩:=Zav hT;have hr:=hR.esc hx
 have hlen:∃a0 cap,a.eval x=.slice a0 es.length cap/\es.length<=cap:=by
  generalize a.eval x=v at hr;cases hr with
  |emp a c=>exact⟨a,c,rfl,Nat.zero_le _⟩
  |slc _ sz b off cap vs h0 hl hc hv hp hr=>exact⟨_,cap,rfl,hc⟩
 obtain⟨a0,cap,hv,hcap⟩:=hlen;rw[hv]at hr⊢;refine⟨.slice (if cap=l then a0 else a0.map (·.add (l*m))) (h-l) (cap-l),?_,?_⟩
 ·simp[Instr.sliceAt,run_underlying hu,Instr.slice,Zil hR (len:=es.length) (cap:=cap) hl hh h1 (by omega),Zbe hs]
 ·by_cases hlh:l=h
  ·have e1:(es.take h).drop l=[]:=by subst hlh;simp
   have e2:h-l=0:=by omega
   rw[e1,e2];exact .emp _ _
  ·have:=(hr.sub hm (l:=l) (h:=h) (by omega) h2 (cap-l) (by omega)).1;rw[if_neg (by omega)];exact this
theorem Zol{C:Ctx}{s:St}{g:Gh}{a:Act}{w:World}(hR:Rel C s g a w){T:TypeId}{x hi mx:Operand}{lo:Option Operand}{es:List (List D)}{l h m by_:Nat}{c:Bool}{e:TypeId}(hT:slOf C.P T=some (m,by_,c,e))
 (hx:s.esc x=some (.slc es)) (hm:∀z∈es,z.length=m) (hl:s.bound lo 0=some l) (hh:s.bound (some hi) es.length=some h) (hmx:s.bound (some mx) es.length=some h) (h1:l<=h) (h2:h<=es.length):
 ∃v,(Instr.sliceAt T (a.eval x) (lo.map a.eval) ((some hi).map a.eval) ((some mx).map a.eval)).run C.P w=.ok v w/\RepD w g.Pr (.slc ((es.take h).drop l)) v/\ ∃a n,v=.slice a n n:=by
 obtain⟨hu,hs,_⟩:=Zav hT;have hr:=hR.esc hx
 have hlen:∃a0 cap,a.eval x=.slice a0 es.length cap/\es.length<=cap:=by
  generalize a.eval x=v at hr;cases hr with
  |emp a c=>exact⟨a,c,rfl,Nat.zero_le _⟩
  |slc _ sz b off cap vs h0 hl hc hv hp hr=>exact⟨_,cap,rfl,hc⟩
 obtain⟨a0,cap,hv,hcap⟩:=hlen;rw[hv]at hr⊢;refine⟨.slice (if h=l then a0 else a0.map (·.add (l*m))) (h-l) (h-l),?_,?_,_,_,rfl⟩
 ·have:=Zlr hR (len:=es.length) (cap:=cap) hl hh (by simpa only[St.bound]using hmx) h1 (Nat.le_refl h) (by omega) w;simp only[Option.map_some]at this;simp[Instr.sliceAt,run_underlying hu,Instr.slice,this,Zbe hs]
 ·by_cases hlh:l=h
  ·have e1:(es.take h).drop l=[]:=by subst hlh;simp
   have e2:h-l=0:=by omega
   rw[e1,e2];exact .emp _ _
  ·have:=(hr.sub hm (l:=l) (h:=h) (by omega) h2 (h-l) (by omega)).1;rw[if_neg (by omega)];exact this
end Go.Ab
end
section
namespace Go.Ab
open Classical
noncomputable def St.val(s:St)(x:Operand):Option A:=
 match s.ev x with
 |.any=>some .any
 |.d y=>some (.d y)
 |.agg l=>some (.agg l)
 |.tup l=>some (.tup l)
 |.ptr r o=>some (.ptr r o)
 |.elp l=>some (.elp l)
 |.zs es=>some (.zs es)
 |.fn f c=>some (.fn f c)
 |.opt _ _ _ _ _=>none
 |.ags _ _ _ _ _=>none
 |_=>(s.esc x).map .d
theorem Rel.val{C:Ctx}{s:St}{g:Gh}{a:Act}{w:World}(h:Rel C s g a w){x:Operand}{y:A}(hy:s.val x=some y)(p:Place):RepA w g s.gen p y (a.eval x)/\y.isOwn=false/\y.plain=true:=by
 have key:∀z,s.ev x=z->z.isOwn=false->RepA w g s.gen p z (a.eval x):=fun z e ho=>by subst e;exact h.ev x ho p
 unfold St.val at hy
 split at hy<;>first
  |(rename_i e;cases hy;exact⟨key _ e rfl,rfl,rfl⟩)
  |(cases hy;done)
  |(cases he:s.esc x with
    |none=>rw[he]at hy;cases hy
    |some z=>rw[he]at hy;cases hy;exact⟨h.esc he,rfl,rfl⟩)
def Zom(P:Program)(t:TypeId):Bool:=
 match P.underlying t with
 |some (.struct fs)=>(fs.toList.mapM (fun f=>(P.info? f.type).map fun i=>(f.offset,i.size))).isSome
 |some (.array _ e)=>(P.info? e).isSome
 |_=>false
def Zc9:List A->Option (List Ref)
 |[]=>some []
 |.ptr r 0::l=>(Zc9 l).map (r:: ·)
 |_=>none
def ownT(s:St)(x:Operand):Option (Nat×Nat×List (List D)×List (List D)):=
 match x with
 |.tmp t=>(match s.tm t with
  |.own sz es nw=>some (t,sz,es,nw)
  |_=>none)
 |_=>none
theorem Za2{s:St}{x:Operand}{t sz:Nat}{es nw:List (List D)}(h:ownT s x=some (t,sz,es,nw)):x=.tmp t/\s.tm t=.own sz es nw:=by
 unfold ownT at h;split at h
 ·split at h
  ·rename_i e;cases h;exact⟨rfl,e⟩
  ·cases h
 ·cases h
noncomputable def St.slice(s:St)(x:Operand):Option (List (List D)):=
 match s.esc x with
 |some (.slc es)=>some es
 |_=>none
def Zex:List D->Option (List Value)
 |[]=>some []
 |.lit v::l=>(Zex l).map (v:: ·)
 |_=>none
def Zi7(P:Program)(src dst:TypeId):Bool:=
 match slOf P src,P.underlying src,P.underlying dst with
 |some (1,_,false,_),some (.slice e),some .string=>(match P.underlying e with|some (.int .u8)=>true|_=>false)
 |_,_,_=>false
def bytesOf:List (List D)->Option (List UInt8)
 |[]=>some []
 |[.lit (.int .u8 n)]::l=>(bytesOf l).map (UInt8.ofNat n.toNat:: ·)
 |_=>none
def Zgy(P:Program)(t:TypeId):Bool:=
 match P.underlying t with
 |some (.struct _)|some (.array _ _)=>true
 |_=>false
theorem Zih{P:Program}{t xt:TypeId}{v:Value}(h:Zgy P t=true)(w:World):(Instr.typeAssert (.iface t v) xt t true).run P w=.ok (.tuple #[v,.bool true]) w:=by
 unfold Zgy at h;split at h
 ·rename_i hu;simp[Instr.typeAssert,run_underlying hu]
 ·rename_i hu;simp[Instr.typeAssert,run_underlying hu]
 ·cases h
theorem Zkb{w:World}{Pr:Nat->Nat->Prop}:∀{cs:List Value},cs.all isCell=true->All2 (RepD w Pr) (cs.map D.lit) cs
 |[],_=>trivial
 |v::cs,h=>by
  simp only[List.all_cons,Bool.and_eq_true]at h;exact⟨.lit v h.1,Zkb h.2⟩
noncomputable def Zas(P:Program)(s:St)(o:Oper):Option A:=
 match o.op with
 |.pick c x y=>(match s.lit c with
  |some (.bool b)=>if b then s.val x else s.val y
  |_=>none)
 |.build t parts=>if Zom P t then(Zga P t s parts.toList).map .agg else none
 |.load t p=>Zcm P s t (s.ev p)
 |.nilCheck x=>(match s.ev x with
  |.ptr r k=>some (.ptr r k)
  |.elp l=>some (.elp l)
  |_=>none)
 |.binOp op t x y _=>(match s.ev x,s.ev y with
  |.d (.lit u),.d (.lit v)=>(binV P op t u v).map fun v=>.d (.lit v)
  |.agg l,.agg m=>(match Zdl P t with
   |some ks=>(match op,Za6 ks l m with
    |.eql,some b=>some (.d (.lit (.bool b)))
    |.neq,some b=>some (.d (.lit (.bool (!b))))
    |_,_=>none)
   |none=>none)
  |_,_=>none)
 |.unOp op _ x=>(match s.lit x with
  |some v=>(unV op v).map fun v=>.d (.lit v)
  |none=>none)
 |.convert src dst x=>(match s.lit x with
  |some v=>(Zif P src dst v).map fun v=>.d (.lit v)
  |none=>(match s.slice x with
   |some es=>if Zi7 P src dst then(bytesOf es).map fun l=>.d (.lit (.string ⟨l.toArray⟩))else none
   |none=>none))
 |.makeInterface t x=>if P.concrete t then(match s.ev x with
   |.d (.lit v)=>some (.d (.lit (.iface t v)))
   |.agg l=>(Zex l).map fun vs=>.d (.lit (.iface t (.agg vs.toArray)))
   |_=>none)else none
 |.makeFunc (.func f) first caps=>if first.toList=[]then(Zc9 (caps.toList.map s.ev)).map fun rs=>.fn f rs else none
 |.fieldAddr t x i=>(match Zc7 P t i with
  |some (off,_,_)=>Zj5 (s.ev x) off
  |none=>none)
 |.indexAddr t x ix=>(match s.lit ix with
  |some (.int _ i)=>if 0<=i then(match Zez P t,slOf P t with
   |some (n,m,_),_=>if i<(n:Int)then Zj5 (s.ev x) (i.toNat*m)else none
   |none,some (m,_,_,_)=>(match s.slice x with
    |some es=>(match es[i.toNat]? with
     |some e=>if e.length=m then some (.elp e)else none
     |none=>none)
    |none=>none)
   |none,none=>none)else none
  |_=>none)
 |.index t x ix=>(match s.lit x,s.lit ix with
  |some (.string b),some (.int _ i)=>if pkOf P t=some .string then(if h:0<=i/\i<b.size then some (.d (.lit (.int .u8 (b[i.toNat]'(by omega)).toNat)))else none)else none
  |none,some (.int _ i)=>(match s.ev x,Zez P t with
   |.agg l,some (n,1,false)=>if 0<=i/\i<(n:Int)then(l[i.toNat]?).map A.d else none
   |_,_=>none)
  |_,_=>none)
 |.slice t x lo hi mx=>(match s.lit x with
  |some (.string b)=>if mx.isNone/\P.underlying t=some .string then(match s.bound lo 0,s.bound hi b.size with
    |some l,some h=>if l<=h/\h<=b.size then some (.d (.lit (.string (b.extract l h))))else none
    |_,_=>none)else none
  |_=>(match s.slice x,slOf P t with
   |some es,some (m,_,_,_)=>if∀z∈es,z.length=m then(match s.bound lo 0,s.bound hi es.length with
     |some l,some h=>if l<=h/\h<=es.length then(match hi,mx with
       |_,none=>some (.d (.slc ((es.take h).drop l)))
       |some _,some q=>if s.bound (some q) es.length=some h then some (.zs ((es.take h).drop l))else none
       |_,_=>none)else none
     |_,_=>none)else none
   |_,_=>none))
 |.typeAssert x _ T true=>(match s.lit x with
  |some (.iface t (.agg cs))=>if t=T/\Zgy P T=true/\cs.toList.all isCell=true then some (.tup [(true,cs.toList.map D.lit),(false,[.lit (.bool true)])])else none
  |_=>none)
 |.extract x i=>(match s.ev x with
  |.tup l=>(match l[i]? with
   |some (true,cs)=>some (.agg cs)
   |some (false,[y])=>some (.d y)
   |_=>none)
  |_=>none)
 |.call c=>(match c.callee,c.args.toList,c.argTypes.toList with
  |.builtin .len,[x],[t]=>(match s.lit x with
   |some (.string b)=>if P.underlying t=some .string then some (.d (.lit (.int .i64 b.size)))else none
   |_=>(match s.slice x,slOf P t with
    |some es,some _=>some (.d (.lit (.int .i64 es.length)))
    |none,some _=>(s.nwLen x).map fun n:Nat=>A.d (.lit (.int .i64 (n:Int)))
    |_,_=>none))
  |.builtin .max,[x,y],_=>(match s.lit x,s.lit y with
   |some (.int k a),some (.int _ b)=>some (.d (.lit (.int k (if b>a then b else a))))
   |_,_=>none)
  |.builtin .min,[x,y],_=>(match s.lit x,s.lit y with
   |some (.int k a),some (.int _ b)=>some (.d (.lit (.int k (if b<a then b else a))))
   |_,_=>none)
  |_,_,_=>none)
 |_=>none
theorem Zhd{w:World}{g:Gh}{gen:Nat->Nat}:∀{l:List A}{rs:List Ref}{vs:List Value},Zc9 l=some rs->All2 (fun x v=>∃p,RepA w g gen p x v) l vs->
 vs=(rs.map fun r=>Value.pointer (some ⟨g.bx r,0,none⟩))/\ ∀r∈rs,RefOk g gen r
 |[],rs,[],h,_=>by simp[Zc9]at h;subst h;exact⟨rfl,fun r hr=>by cases hr⟩
 |x::l,rs,v::vs,h,⟨⟨p,h1⟩,h2⟩=>by
  unfold Zc9 at h;split at h
  ·rename_i heq;cases heq
  ·rename_i r l' heq;cases heq;cases he:Zc9 l with
   |none=>rw[he]at h;cases h
   |some rs'=>
    rw[he]at h;cases h;obtain⟨h3,h4⟩:=Zhd he h2;refine⟨by rw[List.map_cons,<-h3,h1.1],fun q hq=>?_⟩;rcases List.mem_cons.1 hq with rfl|hq
    ·exact h1.2
    ·exact h4 q hq
  ·cases h
 |[],_,_::_,_,h=>h.elim
 |_::_,_,[],_,h=>h.elim
theorem Zhe{w:World}{Pr:Nat->Nat->Prop}:∀{l:List D}{us vs:List Value},Zex l=some us->All2 (RepD w Pr) l vs->us=vs
 |[],us,[],h,_=>by simp[Zex]at h;exact h
 |x::l,us,v::vs,h,⟨h1,h2⟩=>by
  unfold Zex at h;split at h
  ·rename_i heq;cases heq
  ·rename_i u l' heq;cases heq;cases he:Zex l with
   |none=>rw[he]at h;cases h
   |some us'=>
    rw[he]at h;cases h;cases h1;rw[Zhe he h2]
  ·cases h
 |[],_,_::_,_,h=>h.elim
 |_::_,_,[],_,h=>h.elim
theorem Zkc{P:Program}{t:TypeId}{ms}(h:P.underlying t=some (.interface ms))(he:ms.isEmpty=true)(w:World)(d:Nat):(Op.eqGuardIn (d+1) t .nilIface .nilIface).run P w=.ok false w:=by
 simp[Op.eqGuardIn,run_underlying h,he]
theorem Zls{P:Program}{op:BinOp}{t:TypeId}{x y:Operand}{u v r:Value}(h:binV P op t u v=some r)(w:World):(eqGuard op t x y u v).run P w=.ok () w:=by
 unfold binV at h;split at h
 ·cases op<;>simp[eqGuard]
 ·cases op<;>simp[eqGuard]
 ·cases op<;>simp[eqGuard]
 ·obtain⟨ms,ht,he,⟨rfl,rfl⟩|⟨rfl,rfl⟩⟩:=Zd2 h
  ·simp only[eqGuard];split
   ·rfl
   ·split
    ·rfl
    ·simp[show Op.maxDepth=9999+1 from rfl,Zkc ht (he rfl) w 9999]
  ·simp only[eqGuard];split
   ·rfl
   ·split
    ·rfl
    ·simp[show Op.maxDepth=9999+1 from rfl,Zkc ht (he rfl) w 9999]
 ·cases op<;>simp[eqGuard]
 ·cases h
theorem Rel.slice{C:Ctx}{s:St}{g:Gh}{a:Act}{w:World}(_h:Rel C s g a w){x:Operand}{es:List (List D)}(hy:s.slice x=some es):s.esc x=some (.slc es):=by
 unfold St.slice at hy;split at hy
 ·rename_i e he;cases hy;exact he
 ·cases hy
theorem Zkd{es:List (List D)}:∀{l:List UInt8},bytesOf es=some l-> ∃ns:List Int,es=ns.map (fun n=>[D.lit (.int .u8 n)])/\l=ns.map fun n=>UInt8.ofNat n.toNat:=by
 induction es with
 |nil=>intro l h;cases h;exact⟨[],rfl,rfl⟩
 |cons e es ih=>
  intro l h;unfold bytesOf at h;split at h
  ·rename_i heq;cases heq
  ·rename_i n l' heq;cases heq;cases hb:bytesOf es with
   |none=>rw[hb]at h;cases h
   |some l2=>
    rw[hb]at h;cases h;obtain⟨ns,h1,h2⟩:=ih hb;exact⟨n::ns,by rw[h1];rfl,by rw[h2];rfl⟩
  ·cases h
theorem Zlt(ns:List Int):∀(b:ByteArray),ns.foldl (fun(r:ByteArray) n=>r.push (UInt8.ofNat n.toNat)) b=⟨(b.data.toList++ns.map fun n=>UInt8.ofNat n.toNat).toArray⟩:=by
 induction ns with
 |nil=>intro b;simp
 |cons n ns ih=>
  intro b;rw[List.foldl_cons,ih];simp[ByteArray.push]
theorem Zi8{P:Program}{w:World}{Pr:Nat->Nat->Prop}{src dst:TypeId}(ht:Zi7 P src dst=true){es:List (List D)}{v:Value}(hr:RepD w Pr (.slc es) v){l:List UInt8}(hl:bytesOf es=some l):
 (convert src dst v).run P w=.ok (.string ⟨l.toArray⟩) w:=by
 unfold Zi7 at ht;split at ht
 ·rename_i by_ e0 e hs hsrc hdst;split at ht
  ·rename_i he;obtain⟨ns,h1,h2⟩:=Zkd hl;cases hr with
   |emp a c=>
    rw[run_convert_bytes_string w src dst e a 0 c hsrc he hdst];have:ns=[]:=by cases ns with|nil=>rfl|cons n ns=>simp at h1
    subst this;subst h2;cases a with
    |none=>rfl
    |some q=>
     rw[run_bytesToString w q 0 c [] (by simp[loadCells,loadCellsFrom])];rfl
   |slc _ sz b off cap vs h0 hlen hcap hv hp hre=>
    rw[run_convert_bytes_string w src dst e _ _ _ hsrc he hdst];subst h1;by_cases hne:ns=[]
    ·subst hne;subst h2;rw[run_bytesToString w ⟨b,off,none⟩ _ cap [] (by simp[loadCells,loadCellsFrom])];rfl
    ·have hsz:sz=1:=by
      cases ns with
      |nil=>exact absurd rfl hne
      |cons n ns=>exact(hlen [D.lit (.int .u8 n)] (by simp)).symm
     subst hsz;simp only[List.length_map,Nat.mul_one]at hv hp hcap hre⊢;rw[run_bytesToString w ⟨b,off,none⟩ ns.length cap ns ?_]
     ·rw[Zlt,h2];simp[ByteArray.empty,ByteArray.emptyWithCapacity]
      try rfl
     ·rw[Zcq vs hv]
      congr 1
      apply Array.toList_inj.1;simp only[List.toList_toArray];refine List.ext_getElem (by simp) fun i h3 h4=>?_
      have hi:i<ns.length:=by simpa using h3
      have:=hre i 0 (by simpa using hi) (by simp);simp only[List.getElem_map,List.getElem_range,List.getElem_cons_zero,Nat.add_zero]at this⊢;generalize vs i=z at this;cases this;rfl
  ·cases ht
 ·cases ht
theorem Zmz{C:Ctx}{s:St}{o:Oper}{y:A}(he:Zas C.P s o=some y){g:Gh}{a:Act}{w:World}(hR:Rel C s g a w)(p:Place):
 ∃v,(execOp a.eval o).run C.P w=.ok (.value v) w/\RepA w g s.gen p y v/\y.isOwn=false/\y.plain=true:=by
 obtain⟨dst,op,type,pos,after,guard⟩:=o;unfold Zas at he;simp only at he;split at he
 ·
  rename_i c x z;split at he
  ·rename_i b hb;have hc:=hR.lit hb;cases b
   ·simp only[Bool.false_eq_true,if_false]at he;exact⟨a.eval z,by simp[execOp,hc,asBool],hR.val he p⟩
   ·simp only[if_true]at he;exact⟨a.eval x,by simp[execOp,hc,asBool],hR.val he p⟩
  ·cases he
 ·
  rename_i t parts;split at he
  ·rename_i hb;cases hev:Zga C.P t s parts.toList with
   |none=>rw[hev]at he;cases he
   |some l=>
    rw[hev]at he;cases he;unfold Zga at hev;split at hev
    ·rename_i z hz;split at hev
     ·rename_i hzc;obtain⟨cs,h1,h2⟩:=Zsr hR parts.toList (Ze3 z) l z.toArray hev (Zj9 z hzc)
      have h3:(Instr.build t (parts.map fun(i,x)=>(i,a.eval x))).run C.P w=.ok (.agg cs) w:=by
       refine Zgl hz (by simpa using h1) ?_ w;unfold Zom at hb;split at hb
       ·rename_i fs hu;exact⟨_,hu,hb⟩
       ·rename_i n e hu;exact⟨_,hu,hb⟩
       ·cases hb
      exact⟨.agg cs,by simp[execOp,h3],⟨cs.toList,by simp,h2⟩,rfl,rfl⟩
     ·cases hev
    ·cases hev
  ·cases he
 ·
  rename_i t q;obtain⟨v,h1,h2,h3,h4⟩:=Zj4 hR he p;exact⟨v,by simp[execOp,h1],h2,h3,h4⟩
 ·
  rename_i x;split at he
  ·rename_i r k hx;cases he;have h1:=hR.ev x (by rw[hx];rfl) p;rw[hx]at h1;exact⟨a.eval x,by rw[h1.1];simp[execOp,h1.1],h1,rfl,rfl⟩
  ·rename_i l hx;cases he;have h1:=hR.ev x (by rw[hx];rfl) p;rw[hx]at h1;obtain⟨b,off,vs,h2,h3⟩:=h1;exact⟨a.eval x,by rw[h2];simp[execOp,h2],⟨b,off,vs,h2,h3⟩,rfl,rfl⟩
  ·cases he
 ·
  rename_i op t x z t2;split at he
  ·rename_i u v hu hv;cases hb:binV C.P op t u v with
   |none=>rw[hb]at he;cases he
   |some r=>
    rw[hb]at he;cases he;have h1:a.eval x=u:=hR.lit (by unfold St.lit;rw[hu]);have h2:a.eval z=v:=hR.lit (by unfold St.lit;rw[hv]);exact⟨r,by simp[execOp,h1,h2,Zls hb,Zrj hb],.lit _ (Zlp hb),rfl,rfl⟩
  ·rename_i l m hl hm;split at he
   ·rename_i ks hks;have h1:=hR.ev x (by rw[hl];rfl) .res;have h2:=hR.ev z (by rw[hm];rfl) .res;rw[hl]at h1;rw[hm]at h2;obtain⟨cs,hc1,hc2⟩:=h1;obtain⟨ds,hd1,hd2⟩:=h2;split at he
    ·rename_i b hb;cases he;refine⟨.bool b,?_,.lit _ rfl,rfl,rfl⟩;simp[execOp,hc1,hd1,run_eqGuard_agg w .eql t x z _ _ (Zd6 hks),run_eql_struct w,Zka (w:=w) (Pr:=g.Pr) hks (xs:=cs.toArray) (ys:=ds.toArray) (by simpa using hc2) (by simpa using hd2) hb]
    ·rename_i b hb;cases he;refine⟨.bool (!b),?_,.lit _ rfl,rfl,rfl⟩;simp[execOp,hc1,hd1,run_eqGuard_agg w .neq t x z _ _ (Zd6 hks),run_neq_struct w,Zka (w:=w) (Pr:=g.Pr) hks (xs:=cs.toArray) (ys:=ds.toArray) (by simpa using hc2) (by simpa using hd2) hb]
    ·cases he
   ·cases he
  ·cases he
 ·
  rename_i op t x;split at he
  ·rename_i v hv;cases hb:unV op v with
   |none=>rw[hb]at he;cases he
   |some r=>
    rw[hb]at he;cases he;exact⟨r,by simp[execOp,hR.lit hv,Ztd hb],.lit _ (Zoh hb),rfl,rfl⟩
  ·cases he
 ·
  rename_i src dst x;split at he
  ·rename_i v hv;cases hb:Zif C.P src dst v with
   |none=>rw[hb]at he;cases he
   |some r=>
    rw[hb]at he;cases he;exact⟨r,by simp[execOp,hR.lit hv,Zpc hb],.lit _ (Zj1 hb),rfl,rfl⟩
  ·split at he
   ·rename_i es hes;split at he
    ·rename_i ht;cases hb:bytesOf es with
     |none=>rw[hb]at he;cases he
     |some l=>
      rw[hb]at he;cases he;exact⟨_,by simp[execOp,Zi8 ht (hR.esc (hR.slice hes)) hb],.lit _ rfl,rfl,rfl⟩
    ·cases he
   ·cases he
 ·
  rename_i t x;split at he
  ·rename_i ht;split at he
   ·rename_i v hv;cases he;have h1:a.eval x=v:=hR.lit (by unfold St.lit;rw[hv]);exact⟨.iface t v,by simp[execOp,run_makeInterface w t _ ht,h1],.lit _ rfl,rfl,rfl⟩
   ·rename_i l hl;cases hb:Zex l with
    |none=>rw[hb]at he;cases he
    |some vs=>
     rw[hb]at he;cases he;have h1:=hR.ev x (by rw[hl];rfl) .res;rw[hl]at h1;obtain⟨cs,hc1,hc2⟩:=h1;have:=Zhe hb hc2;subst this;exact⟨.iface t (.agg vs.toArray),by simp[execOp,run_makeInterface w t _ ht,hc1],.lit _ rfl,rfl,rfl⟩
   ·cases he
  ·cases he
 ·
  rename_i f first caps
  split at he
  ·rename_i hf;cases hb:Zc9 (caps.toList.map s.ev)with
   |none=>rw[hb]at he;cases he
   |some rs=>
    rw[hb]at he;cases he
    have hown:∀(l:List Operand)(rs:List Ref),Zc9 (l.map s.ev)=some rs->All2 (fun x v=>∃p,RepA w g s.gen p x v) (l.map s.ev) (l.map a.eval):=by
     intro l
     induction l with
     |nil=>intro _ _;trivial
     |cons x l ih=>
      intro rs h;simp only[List.map_cons]at h⊢;unfold Zc9 at h;split at h
      ·rename_i heq;cases heq
      ·rename_i r l' heq;simp only[List.cons.injEq]at heq;obtain⟨e1,e2⟩:=heq;subst e2;cases hq:Zc9 (l.map s.ev)with
       |none=>rw[hq]at h;cases h
       |some rs'=>exact⟨⟨p,hR.ev x (by rw[e1];rfl) p⟩,ih rs' hq⟩
      ·cases h
    obtain⟨h1,h2⟩:=Zhd hb (hown _ _ hb)
    have hfirst:first= #[]:=by
     apply Array.toList_inj.1;simpa using hf
    refine⟨.func (.func f) #[] (caps.map a.eval),by simp[execOp,Instr.makeFunc,hfirst],⟨?_,h2⟩,rfl,rfl⟩
    congr 1
    apply Array.toList_inj.1;simpa using h1
  ·cases he
 ·
  rename_i t x i;split at he
  ·rename_i off n c hf
   have hno:(s.ev x).isOwn=false:=by
    generalize s.ev x=z at he;cases z<;>first|rfl|cases he
   obtain⟨b,k,h1,h2,h3,h4⟩:=Zj6 (pl':=p) he (hR.ev x hno .res);exact⟨_,by simp[execOp,h1,Ze1 hf],h2,h3,h4⟩
  ·cases he
 ·
  rename_i t x ix;split at he
  ·rename_i k i hi;split at he
   ·rename_i h0;have hix:=hR.lit hi;split at he
    ·rename_i n m c _ ha;split at he
     ·rename_i hin
      have hno:(s.ev x).isOwn=false:=by
       generalize s.ev x=z at he;cases z<;>first|rfl|cases he
      obtain⟨b,q,h1,h2,h3,h4⟩:=Zj6 (pl':=p) he (hR.ev x hno .res);exact⟨_,by simp[execOp,h1,hix,Zcz ha w b q k i h0 hin],h2,h3,h4⟩
     ·cases he
    ·rename_i m by_ c e ha hs;split at he
     ·rename_i es hes;split at he
      ·rename_i z hz;split at he
       ·rename_i hzm;cases he;obtain⟨_,_,hm0,_⟩:=Zav hs;obtain⟨b,off,len,cap,h1,h2,vs,h3⟩:=Zoj (hR.esc (hR.slice hes)) hz hzm hm0;refine⟨.pointer (some ⟨b,off+i.toNat*m,none⟩),?_,⟨b,off+i.toNat*m,vs,rfl,h3⟩,rfl,rfl⟩;simp[execOp,h1,hix,Zcb hs w b off len cap k i h0 (by omega)]
       ·cases he
      ·cases he
     ·cases he
    ·cases he
   ·cases he
  ·cases he
 ·
  rename_i t x ix;split at he
  ·rename_i b k i hb hi;split at he
   ·rename_i hpk;split at he
    ·rename_i hin;cases he;refine⟨_,?_,.lit _ rfl,rfl,rfl⟩;simp[execOp,hR.lit hb,hR.lit hi,run_index_string w t b k i (Zi6 hpk),hin]
    ·cases he
   ·cases he
  ·rename_i k i hb hi;split at he
   ·rename_i l n hl ha;split at he
    ·rename_i hin;cases hy:l[i.toNat]? with
     |none=>rw[hy]at he;cases he
     |some y=>
      rw[hy]at he;cases he;have h1:=hR.ev x (by rw[hl];rfl) .res;rw[hl]at h1;obtain⟨cs,hc1,hc2⟩:=h1;obtain⟨v,hv1,hv2⟩:=Zat hc2 _ _ hy;unfold Zez at ha;split at ha
      ·rename_i n' e' hu;split at ha
       ·rename_i m b hsz;cases ha;refine⟨v,?_,hv2,rfl,rfl⟩;have hsz2:(sizeOf e').run C.P w=.ok 1 w:=Zbe hsz w;have hp:=Zbx hsz (cs:=cs.toArray) (off:=i.toNat) (by simpa using hv1) w;simp[execOp,hc1,hR.lit hi,Instr.index,asIntOf,run_underlying hu,hin,hsz2,hp]
       ·cases ha
      ·cases ha
    ·cases he
   ·cases he
  ·cases he
 ·
  rename_i t x lo hi mx;split at he
  ·rename_i b hb;split at he
   ·rename_i hc;obtain⟨hmx,hT⟩:=hc;split at he
    ·rename_i l h hl hh;split at he
     ·rename_i hle;cases he;cases mx with
      |some q=>cases hmx
      |none=>exact⟨_,by simp[execOp,Zpf hR hT hb hl hh hle.1 hle.2],.lit _ rfl,rfl,rfl⟩
     ·cases he
    ·cases he
   ·cases he
  ·split at he
   ·rename_i es m by_ c e hes hs;split at he
    ·rename_i hm;split at he
     ·rename_i l h hl hh;split at he
      ·rename_i hle;split at he
       ·cases he;obtain⟨v,h1,h2⟩:=Zpg hR hs (hR.slice hes) hm hl hh hle.1 hle.2;exact⟨v,by simp[execOp,h1],h2,rfl,rfl⟩
       ·rename_i hi' q;split at he
        ·rename_i hq;cases he;obtain⟨v,h1,h2,h3⟩:=Zol hR hs (hR.slice hes) hm hl hh hq hle.1 hle.2;refine⟨v,?_,⟨h2,h3⟩,rfl,rfl⟩;simp only[Option.map_some]at h1;simp[execOp,h1]
        ·cases he
       ·cases he
      ·cases he
     ·cases he
    ·cases he
   ·cases he
 ·
  rename_i x xt T;split at he
  ·rename_i t cs hx;split at he
   ·rename_i hc;cases he;obtain⟨rfl,h2,h3⟩:=hc;refine⟨.tuple #[.agg cs,.bool true],by simp[execOp,hR.lit hx,Zih h2],⟨[.agg cs,.bool true],rfl,⟨cs.toList,rfl,Zkb h3⟩,⟨_,rfl,.lit _ rfl⟩,trivial⟩,rfl,rfl⟩
   ·cases he
  ·cases he
 ·
  rename_i x i;split at he
  ·rename_i l hl;have h1:=hR.ev x (by rw[hl];rfl) .res;rw[hl]at h1;obtain⟨vs,hv,hr⟩:=h1;split at he
   ·rename_i cs hcs;cases he;obtain⟨v,h2,h3⟩:=Zat hr i _ hcs;exact⟨v,by simp[execOp,hv,Instr.extract,h2],h3,rfl,rfl⟩
   ·rename_i z hz;cases he;obtain⟨v,h2,h3⟩:=Zat hr i _ hz;obtain⟨z',h4,h5⟩:=h3;cases h4;exact⟨v,by simp[execOp,hv,Instr.extract,h2],h5,rfl,rfl⟩
   ·cases he
  ·cases he
 ·
  rename_i c;split at he
  ·rename_i x t hcal hargs htys;have ha:c.args= #[x]:=by apply Array.toList_inj.1;simpa using hargs
   have ht:c.argTypes= #[t]:=by apply Array.toList_inj.1;simpa using htys
   split at he
   ·rename_i b hb;split at he
    ·rename_i hT;cases he;refine⟨_,?_,.lit _ rfl,rfl,rfl⟩;simp[execOp,resolve,hcal,invoke,builtin,ha,ht,hR.lit hb,Builtin.len_,run_underlying hT,goInt]
    ·cases he
   ·split at he
    ·rename_i es q hes hs;cases he;obtain⟨m,by_,c',e⟩:=q;obtain⟨hu,_⟩:=Zav hs;have hr:=hR.esc (hR.slice hes)
     have hlen:∃a0 cap,a.eval x=.slice a0 es.length cap:=by
      generalize a.eval x=v at hr;cases hr with
      |emp a c=>exact⟨a,c,rfl⟩
      |slc _ sz b off cap vs h0 hl hc hv hp hr=>exact⟨_,cap,rfl⟩
     obtain⟨a0,cap,hv⟩:=hlen;refine⟨_,?_,.lit _ rfl,rfl,rfl⟩;simp[execOp,resolve,hcal,invoke,builtin,ha,ht,hv,Builtin.len_,run_underlying hu,goInt]
    ·rename_i q hes hs;obtain⟨m,by_,c',e⟩:=q;obtain⟨hu,_⟩:=Zav hs;cases hn:s.nwLen x with
     |none=>rw[hn]at he;cases he
     |some n=>
      rw[hn]at he;cases he;obtain⟨a0,cap,hv⟩:=hR.nwLen hn;refine⟨_,?_,.lit _ rfl,rfl,rfl⟩;simp[execOp,resolve,hcal,invoke,builtin,ha,ht,hv,Builtin.len_,run_underlying hu,goInt]
    ·cases he
  ·rename_i tl x y hcal hargs;have ha:c.args= #[x,y]:=by apply Array.toList_inj.1;simpa using hargs
   split at he
   ·rename_i k n k2 n2 hx hy;cases he;refine⟨_,?_,.lit _ rfl,rfl,rfl⟩;simp[execOp,resolve,hcal,invoke,builtin,ha,hR.lit hx,hR.lit hy,Builtin.max_,Builtin.max2]
   ·cases he
  ·rename_i tl x y hcal hargs;have ha:c.args= #[x,y]:=by apply Array.toList_inj.1;simpa using hargs
   split at he
   ·rename_i k n k2 n2 hx hy;cases he;refine⟨_,?_,.lit _ rfl,rfl,rfl⟩;simp[execOp,resolve,hcal,invoke,builtin,ha,hR.lit hx,hR.lit hy,Builtin.min_,Builtin.min2]
   ·cases he
  ·cases he
 ·cases he
end Go.Ab
end
section
namespace Go.Ab
open Classical
noncomputable def ownS(s:St)(x:Operand):Option (Nat×Nat×List (List D)×List (List D)):=
 match s.ev x with
 |.als t n=>if n=s.gen t then ownT s (.tmp t)else none
 |_=>ownT s x
noncomputable def Zbj(P:Program)(d:Nat)(s:St)(t:TypeId)(x ix:Operand):Option A:=
 match ownS s x,s.lit ix,slOf P t with
 |some (u,sz,es,nw),some (.int _ i),some (m,_,_,_)=>
  if sz=m/\(es.length:Int)<=i/\i<(es.length:Int)+nw.length/\u≠d then some (.opt u (s.gen u) m i.toNat 0)else none
 |_,_,_=>none
noncomputable def Zcc(d:Nat)(s:St)(x:A)(k:Nat):Option A:=
 match x with
 |.opt t n m i j=>if n=s.gen t/\t≠d then some (.opt t n m i (j+k))else none
 |_=>none
noncomputable def Zcs(P:Program)(d:Nat)(poke:Bool)(s:St)(x0 x:Operand)(T T2:TypeId):Option St:=
 match slOf P T,slOf P T2,s.slice x with
 |some (m,by_,_,_),some _,some es2=>(match ownT s x0 with
  |some (t,sz,es,nw)=>if sz=m/\(∀z∈es2,z.length=m)/\fits ((es++nw).length+es2.length) by_ then
    some ((s.reset t .any).put d (.own m (Zaq poke es nw es2).1 (Zaq poke es nw es2).2))else none
  |none=>(match s.ev x0 with
   |.zs es=>(match es2 with
    |[]=>some (s.put d (.zs es))
    |z::r=>if(∀z∈es,z.length=m)/\(∀y∈z::r,y.length=m)/\fits (es.length+(z::r).length) by_ then
      some (s.put d (.own m (Za4 poke es (z::r)).1 (Za4 poke es (z::r)).2))else none)
   |_=>none))
 |_,_,_=>none
noncomputable def Zbk(P:Program)(N:Nat)(s:St)(T:TypeId)(p x:Operand):Option St:=
 match s.ev p,szOf P T with
 |.ptr r off,some (n,ag)=>(match s.K r with
  |some c=>(match ownT s x with
   |some (t,m,es,nw)=>if n=1/\ag=false/\off<c.length then some ((s.reset t .any).setK r (c.set off (.own m (es++nw) [])))else none
   |none=>(match s.boxC x with
    |some vs=>if vs.length=n/\off+n<=c.length then some (s.setK r (Zd5 c off vs))else none
    |none=>none))
  |none=>none)
 |.opt t k m i j,some (n,_)=>(match p,ownT s (.tmp t),s.escs x with
  |.tmp _,some (_,sz,es,nw),some vs=>(match nw[i-es.length]? with
   |some e=>if k=s.gen t/\sz=m/\es.length<=i/\vs.length=n/\j+n<=m/\t<N then
     some ((s.reset t .any).put t (.own m es (nw.set (i-es.length) (setL e j vs))))else none
   |none=>none)
  |_,_,_=>none)
 |_,_=>none
noncomputable def Zke(P:Program)(d:Nat)(s:St)(t:TypeId)(p:Operand):Option St:=
 match s.ev p,szOf P t with
 |.ptr r off,some (_,false)=>(match s.K r with
  |some c=>(match c[off]? with
   |some (.own sz es nw)=>some ((s.setK r (c.set off .any)).put d (.own sz es nw))
   |_=>none)
  |none=>none)
 |_,_=>none
noncomputable def Zbn(P:Program)(N:Nat)(ops:Array Oper)(s:St)(o:Oper):Option St:=
 match o.dst with
 |none=>(match o.op with
  |.store t p x=>Zbk P N s t p x
  |_=>none)
 |some d=>if d<N then(match o.op with
  |.move x=>(match ownT s x with
   |some (t,sz,es,nw)=>if Zoe ops (some d)then some ((s.reset t .any).put d (.own sz es nw))else(s.copy d x).map (s.put d)
   |none=>(s.copy d x).map (s.put d))
  |.assign x=>(match ownT s x with
   |some (t,sz,es,nw)=>some ((s.reset t .any).put d (.own sz es nw))
   |none=>(s.val x).map (s.put d))
  |.alloc t=>(match Zc8 P t with
   |some z=>if z.all isCell then some (s.alloc d (z.map Zcr))else none
   |none=>none)
  |.box _ x=>(s.boxC x).map (s.alloc d)
  |.buildSlice t n parts=>(match slOf P t with
   |some (m,_,_,_)=>(match Zap s m 0 parts.toList with
    |some es=>if es.length=n/\n*m<=16777216 then some (s.put d (.own m es []))else none
    |none=>none)
   |none=>none)
  |.load t p=>if Zoe ops (some d)then(match Zke P d s t p with
    |some s'=>some s'
    |none=>(Zas P s o).map (s.put d))else(Zas P s o).map (s.put d)
  |.indexAddr t x ix=>(match s.ev x with
   |.opt _ _ _ _ _=>(match Zez P t,s.lit ix with
    |some (n,m,_),some (.int _ i)=>if 0<=i/\i<(n:Int)then(Zcc d s (s.ev x) (i.toNat*m)).map (s.put d)else none
    |_,_=>none)
   |_=>(match Zbj P d s t x ix with
    |some y=>some (s.put d y)
    |none=>(Zas P s o).map (s.put d)))
  |.fieldAddr t x i=>(match s.ev x with
   |.opt _ _ _ _ _=>(match Zc7 P t i with
    |some (k,_,_)=>(Zcc d s (s.ev x) k).map (s.put d)
    |none=>none)
   |_=>(Zas P s o).map (s.put d))
  |.call c=>(match c.callee,c.args.toList,c.argTypes.toList with
   |.builtin .append,[x0,x],[T,T2]=>Zcs P d (Zg6 ops (some d)) s x0 x T T2
   |_,_,_=>(Zas P s o).map (s.put d))
  |_=>(Zas P s o).map (s.put d))else none
theorem Zbq{C:Ctx}{s s':St}{o:Oper}{d:Nat}(hd:o.dst=some d)(hN:d<C.N)(h:(Zas C.P s o).map (s.put d)=some s'):OpOk C o s s':=by
 cases he:Zas C.P s o with
 |none=>rw[he]at h;cases h
 |some y=>
  rw[he]at h;cases h;intro g a w hR K Q hK;obtain⟨v,h1,h2,h3,h4⟩:=Zmz he hR (.slot d);refine Zbg h1 (hK g _ w ?_);rw[hd];exact hR.put hN h3 h2 (fun t n e=>by subst e;cases h4) (fun t n sz i j e=>by subst e;cases h4)
theorem Zgb{C:Ctx}{s s':St}{o:Oper}{T:TypeId}{p x:Operand}(hd:o.dst=none)(hop:o.op=.store T p x)(h:Zbk C.P C.N s T p x=some s'):OpOk C o s s':=by
 unfold Zbk at h;split at h
 ·rename_i r off n ag hp hT;split at h
  ·rename_i c hK;split at h
   ·rename_i t m es nw ht;obtain⟨hx,ht'⟩:=Za2 ht;split at h
    ·rename_i hc;cases h;obtain⟨h1,h2,h3⟩:=hc;subst h1;subst h2;subst hx;exact OpOk.storeOwn hop hd hT hp hK ht' h3
    ·cases h
   ·split at h
    ·rename_i vs hv;split at h
     ·rename_i hc;cases h;exact OpOk.storeBox hop hd hT hp hK hv hc.1 hc.2
     ·cases h
    ·cases h
  ·cases h
 ·rename_i t k m i j n ag hp hT;split at h
  ·rename_i u q sz es nw vs ho hv;split at h
   ·rename_i e he;split at h
    ·rename_i hc;cases h;obtain⟨h1,h2,h3,h4,h5,h6⟩:=hc;obtain⟨_,ht'⟩:=Za2 ho
     have hq:q=t:=by
      have:=(Za2 ho).1;cases this;rfl
     subst hq;subst h2;exact OpOk.storeOpt hop hd h6 (by rw[h4];exact hT) hp h1 ht' h3 he hv (by rw[h4];exact h5)
    ·cases h
   ·cases h
  ·cases h
 ·cases h
theorem Zlu{C:Ctx}{s s':St}{o:Oper}{d:Nat}{poke:Bool}{x0 x:Operand}{T T2:TypeId}(hd:o.dst=some d)(hN:d<C.N)
 (hop:o.op=.call {callee:=.builtin .append,args:= #[x0,x],argTypes:= #[T,T2]}) (h:Zcs C.P d poke s x0 x T T2=some s'):OpOk C o s s':=by
 unfold Zcs at h;split at h
 ·rename_i m by_ c e q es2 hT hT2 hx;obtain⟨m2,by2,c2,e2⟩:=q
  have hesc:s.esc x=some (.slc es2):=by
   unfold St.slice at hx;split at hx
   ·rename_i z hz;cases hx;exact hz
   ·cases hx
  split at h
  ·rename_i t sz es nw ht;obtain⟨hx0,ht'⟩:=Za2 ht;split at h
   ·rename_i hc;cases h;obtain⟨h1,h2,h3⟩:=hc;subst h1;subst hx0;exact OpOk.append_own hop hd hN hT hT2 ht' hesc h2 h3 poke
   ·cases h
  ·split at h
   ·rename_i es hz;split at h
    ·cases h;exact OpOk.append_zs_nil hop hd hN hT hT2 hz hesc
    ·split at h
     ·rename_i hc;cases h;exact OpOk.append_zs hop hd hN hT hT2 hz hesc (by simp) hc.1 hc.2.1 hc.2.2 poke
     ·cases h
   ·cases h
 ·cases h
theorem Zm0{C:Ctx}{s:St}{g:Gh}{a:Act}{w:World}(hR:Rel C s g a w){x:Operand}{t sz:Nat}{es nw:List (List D)}(h:ownS s x=some (t,sz,es,nw)):
 s.tm t=.own sz es nw/\a.eval x=a.tmps.getD t undef:=by
 unfold ownS at h;split at h
 ·rename_i u n hx;split at h
  ·rename_i hn;obtain⟨e,ht⟩:=Za2 h;cases e;refine⟨ht,?_⟩;cases x with
   |tmp v=>
    obtain⟨_,h2⟩:=hR.als v _ n hx;exact(h2 hn).2
   |const v=>have:=Zcy v;simp only[St.ev]at hx;rw[hx]at this;cases this
   |global n=>cases hx
   |func f=>cases hx
  ·cases h
 ·obtain⟨e,ht⟩:=Za2 h;subst e;exact⟨ht,rfl⟩
theorem Zhf{C:Ctx}{s:St}{o:Oper}{d:Nat}{y:A}{T:TypeId}{x ix:Operand}(hd:o.dst=some d)(hN:d<C.N)(hop:o.op=.indexAddr T x ix)(h:Zbj C.P d s T x ix=some y):OpOk C o s (s.put d y):=by
 unfold Zbj at h;split at h
 ·rename_i u sz es nw k i m by_ c e ho hi hs;split at h
  ·rename_i hc;cases h;obtain⟨h1,h2,h3,h4⟩:=hc;subst h1;refine OpOk.of_opt hd hN h4 (fun g a w hR=>⟨Nat.le_refl _,fun _=>?_⟩) rfl;obtain⟨ht,hv⟩:=Zm0 hR ho;obtain⟨cap,cs,hw⟩:=hR.own ht;refine⟨by rw[ht];rfl,?_⟩;have:=Zcb hs w (g.ow (.slot u)) 0 (es.length+nw.length) cap k i (by omega) (by omega);rw[<-hw.val]at this;simp only[execOp,hop,hR.lit hi,hv,Sem.run_bind,this,Result.andThen_ok,Sem.run_pure,Nat.zero_add,Nat.add_zero]
  ·cases h
 ·cases h
theorem Ze5{C:Ctx}{s:St}{o:Oper}{d k:Nat}{y:A}{x:Operand}(hd:o.dst=some d)(hN:d<C.N)(h:Zcc d s (s.ev x) k=some y)
 (hrun:∀(g:Gh)(a:Act)(w:World)(b off:Nat),Rel C s g a w->a.eval x=.pointer (some ⟨b,off,none⟩)->(execOp a.eval o).run C.P w=.ok (.value (.pointer (some ⟨b,off+k,none⟩))) w):OpOk C o s (s.put d y):=by
 unfold Zcc at h;split at h
 ·rename_i t n m i j hx;split at h
  ·rename_i hc;cases h;refine OpOk.of_opt hd hN hc.2 (fun g a w hR=>?_) hc.1;cases x with
   |tmp v=>
    obtain⟨h1,h2⟩:=hR.opt v t n m i j hx;refine⟨h1,fun hn=>⟨(h2 hn).1,?_⟩⟩;rw[<-Nat.add_assoc];exact hrun g a w _ _ hR (h2 hn).2
   |const v=>have:=Zcy v;simp only[St.ev]at hx;rw[hx]at this;cases this
   |global n=>cases hx
   |func f=>cases hx
  ·cases h
 ·cases h
theorem Zph{C:Ctx}{s s':St}{o:Oper}{d:Nat}{t:TypeId}{p:Operand}(hd:o.dst=some d)(hN:d<C.N)(hop:o.op=.load t p)(h:Zke C.P d s t p=some s'):OpOk C o s s':=by
 unfold Zke at h;split at h
 ·rename_i r off n hp hs;split at h
  ·rename_i c hK;split at h
   ·rename_i sz es nw hc;cases h;exact OpOk.take hd hN hop hs hp hK hc
   ·cases h
  ·cases h
 ·cases h
theorem Zbz{C:Ctx}{ops:Array Oper}{s s':St}{o:Oper}(h:Zbn C.P C.N ops s o=some s'):OpOk C o s s':=by
 unfold Zbn at h;split at h
 ·rename_i hd;split at h
  ·rename_i t p x hop;exact Zgb hd hop h
  ·cases h
 ·rename_i d hd;split at h
  ·rename_i hN
   have copyCase:∀{x:Operand},o.op=.move x->(s.copy d x).map (s.put d)=some s'->OpOk C o s s':=fun{x} hop hc=>by
    cases he:s.copy d x with
    |none=>rw[he]at hc;cases hc
    |some y=>
     rw[he]at hc;cases hc;exact OpOk.of_copy hd hN he fun g a w hR=>by simp only[execOp,hop];rfl
   split at h
   ·rename_i x hop;split at h
    ·rename_i t sz es nw ht;split at h
     ·cases h;obtain⟨e,ht'⟩:=Za2 ht;subst e;exact OpOk.hand hd hN (.inl hop) ht'
     ·exact copyCase hop h
    ·exact copyCase hop h
   ·rename_i x hop;split at h
    ·rename_i t sz es nw ht;cases h;obtain⟨e,ht'⟩:=Za2 ht;subst e;exact OpOk.hand hd hN (.inr hop) ht'
    ·cases he:s.val x with
     |none=>rw[he]at h;cases h
     |some y=>
      rw[he]at h;cases h;intro g a w hR K Q hK;obtain⟨h1,h2,h3⟩:=hR.val he (.slot d);refine Zbg (v:=a.eval x) (w':=w) (by simp only[execOp,hop];rfl) (hK g _ w ?_);rw[hd];exact hR.put hN h2 h1 (fun t n e=>by subst e;cases h3) (fun t n sz i j e=>by subst e;cases h3)
   ·rename_i t hop;split at h
    ·rename_i z hz;split at h
     ·rename_i hzc;cases h;obtain⟨i,zv,hi,hzv,_,hzl⟩:=Ze2 hz;refine OpOk.of_box hd hN fun g a w hR=>⟨zv.cells,t,?_,by rw[<-hzl];simp,fun j x hx=>?_⟩
      ·simp only[execOp,hop];simp[Instr.alloc,zeroValue,typeInfo,hi,hzv,newVar,newRow]
      ·simp only[List.getElem?_map,Option.map_eq_some_iff]at hx;obtain⟨v,hv,rfl⟩:=hx;have hcell:isCell v=true:=List.all_eq_true.1 hzc v (List.mem_of_getElem? hv);obtain⟨h1,h2,h3⟩:=Zj7 (w:=w) (g:=g) (gen:=s.gen) v hcell;exact⟨h1,h2,v,by rw[<-hzl]at hv;simpa using hv,h3⟩
     ·cases h
    ·cases h
   ·rename_i t x hop;cases he:s.boxC x with
    |none=>rw[he]at h;cases h
    |some c=>
     rw[he]at h;cases h;refine OpOk.of_box hd hN fun g a w hR=>⟨(a.eval x).cells,t,?_,(hR.boxC he).1,fun j y hy=>?_⟩
     ·simp only[execOp,hop];simp[Instr.box,newVar,newRow]
     ·obtain⟨h1,h2,v,h3,_,h4⟩:=(hR.boxC he).2 j y hy;exact⟨h1,h2,v,h3,h4⟩
   ·rename_i t n parts hop;split at h
    ·rename_i m by_ c e hs;split at h
     ·rename_i es hes;split at h
      ·rename_i hc;cases h;exact OpOk.buildSlice hop hd hN hs hes hc.1 hc.2
      ·cases h
     ·cases h
    ·cases h
   ·rename_i t p hop;split at h
    ·split at h
     ·rename_i s2 ht;cases h;exact Zph hd hN hop ht
     ·exact Zbq hd hN h
    ·exact Zbq hd hN h
   ·rename_i t x ix hop;split at h
    ·rename_i hx;split at h
     ·rename_i n m c k i ha hi;split at h
      ·rename_i hc;cases he:Zcc d s (s.ev x) (i.toNat*m)with
       |none=>rw[he]at h;cases h
       |some y=>
        rw[he]at h;cases h
        exact Ze5 (x:=x) (k:=i.toNat*m) hd hN he fun g a w b off hR hv=>by
         simp only[execOp,hop,hv,hR.lit hi,Sem.run_bind,Zcz ha w b off k i hc.1 hc.2,Result.andThen_ok,Sem.run_pure]
      ·cases h
     ·cases h
    ·split at h
     ·rename_i y hy;cases h;exact Zhf hd hN hop hy
     ·exact Zbq hd hN h
   ·rename_i t x i hop;split at h
    ·split at h
     ·rename_i k n c hf;cases he:Zcc d s (s.ev x) k with
      |none=>rw[he]at h;cases h
      |some y=>
       rw[he]at h;cases h
       exact Ze5 (x:=x) (k:=k) hd hN he fun g a w b off _ hv=>by
        simp only[execOp,hop,hv,Sem.run_bind,Ze1 hf,Result.andThen_ok,Sem.run_pure]
     ·cases h
    ·exact Zbq hd hN h
   ·rename_i c hop;split at h
    ·rename_i x0 x T T2 hcal hargs htys
     have hc:c={callee:=.builtin .append,args:= #[x0,x],argTypes:= #[T,T2]}:=by
      obtain⟨cal,args,tys⟩:=c;simp only at hcal hargs htys;subst hcal;have h1:args= #[x0,x]:=by apply Array.toList_inj.1;simpa using hargs
      have h2:tys= #[T,T2]:=by apply Array.toList_inj.1;simpa using htys
      rw[h1,h2]
     subst hc;exact Zlu hd hN hop h
    ·exact Zbq hd hN h
   ·exact Zbq hd hN h
  ·cases h
end Go.Ab
end
section
namespace Go.Ab
open Classical
def A.lift:A->A
 |.ptr r o=>.ptr (.up r) o
 |.fn f rs=>.fn f (rs.map .up)
 |.als _ _=>.any
 |.opt _ _ _ _ _=>.any
 |x=>x
theorem Zi9{x:A}:x.lift.isOwn=x.isOwn:=by cases x<;>rfl
theorem Zon{x:A}:x.lift.plain=true:=by cases x<;>rfl
noncomputable def kOf:List (Ref×List A)->Ref->Option (List A)
 |[]=>fun _=>none
 |(r,c)::l=>upd (kOf l) r (some c)
theorem Zd7:∀{H:List (Ref×List A)}{r:Ref}{c:List A},kOf H r=some c->(r,c)∈H
 |[],r,c,h=>by simp[kOf]at h
 |(q,d)::l,r,c,h=>by
  by_cases hq:r=q
  ·subst hq;simp[kOf]at h;subst h;exact List.mem_cons_self ..
  ·simp only[kOf,Zac _ _ hq]at h;exact List.mem_cons_of_mem _ (Zd7 h)
theorem Zbf:∀{H:List (Ref×List A)}{r:Ref}{c:List A},(H.map (·.1)).Nodup->(r,c)∈H->kOf H r=some c
 |(q,d)::l,r,c,hn,h=>by
  simp only[List.map_cons,List.nodup_cons]at hn;rcases List.mem_cons.1 h with h|h
  ·cases h;simp[kOf]
  ·have:r≠q:=fun e=>hn.1 (e▸List.mem_map.2 ⟨(r,c),h,rfl⟩)
   simp only[kOf,Zac _ _ this];exact Zbf hn.2 h
inductive Out where
 |ret (v:A)
 |pan (v:Value)
noncomputable def Zax(H:List (Ref×List A)):St:=⟨fun _=>.any,kOf H,fun _=>0⟩
def Zag(P:Program)(w:World)(g:Gh)(H:List (Ref×List A))(N:Nat):Ctx:=
 {P,w0:=w,E:=fun b=>∃o,Owns (Zax H) g o b,Pr0:=g.Pr,bx0:=g.bx,U:=g.U,N}
def CallsX(P:Program)(f:FuncId)(args:Array Value)(w:World)(R:Ending->World->Prop):Prop:=
 match(callFunc f args).run P w with
 |.ok (.enter f' args') w'=>Calls P f' args' w' R
 |.ok (.value v) w'=>R (.returned v) w'
 |.ok (.row row args') w'=>Rows P row args' w' fun v w''=>R (.returned v) w''
 |_=>False
theorem CallsX.mono{P:Program}{f:FuncId}{args:Array Value}{w:World}{R R':Ending->World->Prop}(h:CallsX P f args w R)(hr:∀e w',R e w'->R' e w'):CallsX P f args w R':=by
 unfold CallsX at*;split at h
 ·exact h.mono hr
 ·exact hr _ _ h
 ·exact h.mono fun v w'=>hr _ _
 ·exact h.elim
def Zm1(C:Ctx)(s:St)(g:Gh)(w:World):Out->Ending->Prop
 |.ret v,e=>∃cv,e=.returned cv/\RepA w g s.gen .res v cv/\(v.isOwn=true->(∀o,¬Owns s g o (g.ow .res))/\(C.w0.heap.size<=g.ow .res\/C.E (g.ow .res)))
 |.pan v,e=>e=.panicked [{v,recovered:=false}]
def Holds(P:Program)(f:FuncId)(args:List A)(H:List (Ref×List A))(R:Out->List (Ref×List A)->Prop):Prop:=
 ∀(w:World)(cargs:Array Value)(g:Gh),All2 (fun x v=>∀p,RepA w g (fun _=>0) p x v) args cargs.toList->HeapRel (Zag P w g H 0) (Zax H) g w->
  CallsX P f cargs w fun e w'=>∃out H' g',R out H'/\H'.map (·.1)=H.map (·.1)/\HeapRel (Zag P w g H 0) (Zax H') g' w'/\Zm1 (Zag P w g H 0) (Zax H') g' w' out e
theorem Holds.mono{P:Program}{f:FuncId}{args:List A}{H:List (Ref×List A)}{R R':Out->List (Ref×List A)->Prop}(h:Holds P f args H R)(hr:∀o H',R o H'->R' o H'):Holds P f args H R':=
 fun w cargs g h1 h2=>(h w cargs g h1 h2).mono fun _ _ ⟨out,H',g',a,b⟩=>⟨out,H',g',hr _ _ a,b⟩
def Gh.down(g:Gh)(gen:Nat->Nat):Gh:=
 {Pr:=g.Pr
  ow:=fun p=>match p with|.cell (.up r) j=>g.ow (.cell r j)|_=>0
  bx:=fun r=>match r with|.up r=>g.bx r|.own _ _=>0
  U:=RefOk g gen}
theorem RepA.lift{w:World}{g:Gh}{gen:Nat->Nat}{p p':Place}{x:A}{v:Value}(h:RepA w g gen p x v)(ho:x.isOwn=true->(g.down gen).ow p'=g.ow p):RepA w (g.down gen) (fun _=>0) p' x.lift v:=by
 cases x with
 |any=>trivial
 |d x=>exact h
 |agg l=>exact h
 |tup l=>exact h
 |ptr r off=>exact⟨h.1,h.2⟩
 |elp l=>exact h
 |own sz es nw=>
  obtain⟨cap,cs,h1⟩:=h;exact⟨cap,cs,by rw[ho rfl];exact h1⟩
 |zs es=>exact h
 |als t n=>trivial
 |opt t n sz i j=>trivial
 |fn f rs=>
  refine⟨?_,fun r hr=>?_⟩
  ·rw[h.1,List.map_map];rfl
  ·obtain⟨q,hq,rfl⟩:=List.mem_map.1 hr;exact h.2 q hq
 |ags pre sz es nw post=>
  obtain⟨c1,c2,u,cap,cs,e,p1,p2,h1⟩:=h;exact⟨c1,c2,u,cap,cs,e,p1,p2,by rw[ho rfl];exact h1⟩
theorem RepA.unlift{w:World}{g g' g1:Gh}{gen:Nat->Nat}{p p':Place}{x:A}{v:Value}(h:RepA w g' (fun _=>0) p x.lift v)(hPr:g1.Pr=g'.Pr)(hbx:∀r,g'.bx (.up r)=g1.bx r)
 (hU:∀r,g'.U r->RefOk g gen r) (hU1:g1.U=g.U) (ho:x.isOwn=true->g1.ow p'=g'.ow p):RepA w g1 gen p' x v:=by
 have hok:∀r,RefOk g' (fun _=>0) (.up r)->RefOk g1 gen r:=fun r hr=>by
  have:=hU r hr;cases r with
  |own t n=>exact this
  |up r=>show g1.U r;rw[hU1];exact this
 cases x with
 |any=>trivial
 |d x=>show RepD w g1.Pr x v;rw[hPr];exact h
 |agg l=>obtain⟨cs,h1,h2⟩:=h;exact⟨cs,h1,by rw[hPr];exact h2⟩
 |tup l=>obtain⟨cs,h1,h2⟩:=h;exact⟨cs,h1,by rw[hPr];exact h2⟩
 |ptr r off=>exact⟨by rw[<-hbx];exact h.1,hok r h.2⟩
 |elp l=>obtain⟨b,off,vs,h1,h2⟩:=h;exact⟨b,off,vs,h1,by rw[hPr];exact h2⟩
 |own sz es nw=>
  obtain⟨cap,cs,h1⟩:=h;exact⟨cap,cs,by rw[ho rfl,hPr];exact h1⟩
 |zs es=>exact⟨by rw[hPr];exact h.1,h.2⟩
 |als t n=>trivial
 |opt t n sz i j=>trivial
 |fn f rs=>
  refine⟨?_,fun r hr=>hok r (h.2 (.up r) (List.mem_map_of_mem hr))⟩;rw[h.1,List.map_map]
  congr 2
  exact List.map_congr_left fun r _=>by simp only[Function.comp];rw[hbx]
 |ags pre sz es nw post=>
  obtain⟨c1,c2,u,cap,cs,e,p1,p2,h1⟩:=h;exact⟨c1,c2,u,cap,cs,e,by rw[hPr];exact p1,by rw[hPr];exact p2,by rw[ho rfl,hPr];exact h1⟩
def Zao(H:List (Ref×List A)):List (Ref×List A):=H.map fun x=>(.up x.1,x.2.map A.lift)
theorem Zkf(H:List (Ref×List A)):(Zao H).map (·.1)=(H.map (·.1)).map .up:=by simp[Zao]
theorem Zhg{H:List (Ref×List A)}(h:(H.map (·.1)).Nodup):((Zao H).map (·.1)).Nodup:=by
 rw[Zkf];exact List.Pairwise.map _ (fun a b hab e=>hab (by cases e;rfl)) h
theorem Owns.down{s:St}{g:Gh}{H:List (Ref×List A)}(hK:∀x∈H,s.K x.1=some x.2){o:Owner}{b:Nat}(h:Owns (Zax (Zao H)) (g.down s.gen) o b):
 ∃r∈H.map (·.1),(o=.box (.up r)/\Owns s g (.box r) b)\/ ∃j,o=.cell (.up r) j/\Owns s g (.cell r j) b:=by
 cases h with
 | @box q c h=>
   obtain⟨x,hx,e⟩:=List.mem_map.1 (Zd7 h);cases e;exact⟨x.1,List.mem_map_of_mem hx,.inl ⟨rfl,.box (hK x hx)⟩⟩
 |slot h=>cases h
 | @cell q c j y h h1 h2=>
   obtain⟨x,hx,e⟩:=List.mem_map.1 (Zd7 h);cases e;simp only[List.getElem?_map,Option.map_eq_some_iff]at h1;obtain⟨z,hz,rfl⟩:=h1;rw[Zi9]at h2;exact⟨x.1,List.mem_map_of_mem hx,.inr ⟨j,rfl,.cell (hK x hx) hz h2⟩⟩
theorem Owner.down_inj{s:St}{g:Gh}{H:List (Ref×List A)}(hK:∀x∈H,s.K x.1=some x.2)(hinj:∀o o' b,Owns s g o b->Owns s g o' b->o=o'){o o':Owner}{b:Nat}(h:Owns (Zax (Zao H)) (g.down s.gen) o b)
 (h':Owns (Zax (Zao H)) (g.down s.gen) o' b):o=o':=by
 obtain⟨r,_,h1⟩:=h.down hK;obtain⟨r',_,h2⟩:=h'.down hK;rcases h1 with⟨rfl,h1⟩|⟨j,rfl,h1⟩<;>rcases h2 with⟨rfl,h2⟩|⟨j',rfl,h2⟩
 ·have:=hinj _ _ _ h1 h2;cases this;rfl
 ·have:=hinj _ _ _ h1 h2;cases this
 ·have:=hinj _ _ _ h1 h2;cases this
 ·have:=hinj _ _ _ h1 h2;cases this;rfl
theorem Rel.down{C:Ctx}{s:St}{g:Gh}{a:Act}{w:World}(h:Rel C s g a w){H:List (Ref×List A)}(hK:∀x∈H,s.K x.1=some x.2):
 HeapRel (Zag C.P w (g.down s.gen) (Zao H) 0) (Zax (Zao H)) (g.down s.gen) w:=by
 refine⟨fun q c hc=>?_,fun o o' b h1 h2=>Owner.down_inj hK h.heap.inj h1 h2,fun o b h1=>.inr ⟨o,h1⟩,h.heap.prs,fun _ _ h=>h,fun _ _ h=>.inl h,fun _=>rfl,fun _ h=>h,Fr.refl _ _ _⟩;obtain⟨x,hx,e⟩:=List.mem_map.1 (Zd7 hc);cases e;obtain⟨cs,h1,h2,h3,h4,h5⟩:=h.heap.box x.1 x.2 (hK x hx);refine⟨cs,h1,by simpa using h2,fun j y hy=>?_,h4,h5⟩;simp only[List.getElem?_map,Option.map_eq_some_iff]at hy;obtain⟨z,hz,rfl⟩:=hy;obtain⟨_,v,h6,h7⟩:=h3 j z hz;exact⟨Zon,v,h6,h7.lift fun _=>rfl⟩
noncomputable def St.setH(s:St)(H:List (Ref×List A)):St:={s with K:=fun r=>match kOf H r with|some c=>some c|none=>s.K r}
end Go.Ab
end
