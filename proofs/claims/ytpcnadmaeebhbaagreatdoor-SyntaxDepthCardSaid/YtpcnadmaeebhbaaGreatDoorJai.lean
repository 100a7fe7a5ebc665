/- Proved: the given card SyntaxDepthCardSaid, without conditions. -/
import Derived.Test.YtpcnadmaeebhbaaGreatDoorRows
import Derived.WalkKit
import Derived.ProofKit
import Derived.OpenShut
import Derived.JoinedOf
import Derived.Deep.Slices
import Derived.Test.YtpcnadmaeebhbaaGreatDoorCards
import Derived.Test.YtpcnadmaeebhbaaGreatDoorTie
import Derived.Carry
import Derived.Deep.DeepHandedRow
import Derived.Lib.LaidTab
import Derived.Laws.Externs
import Derived.Test.YtpcnadmaeebhbaaGreatDoorJah
set_option linter.unusedVariables false
set_option linter.unusedSimpArgs false
section
open Go Go.Proofs Go.Ab Go.Rf
set_option linter.unusedSimpArgs false
set_option maxRecDepth 100000
namespace Go.Sy
theorem getT{l:List Tx}{i:Nat}(h:i<l.length):Rf.isK .str ((gAt (txs l) (i:Int)).getD 0 D0)=true/\Rf.dstr ((gAt (txs l) (i:Int)).getD 0 D0)=l[i]:=by rw[gT0 h];simp[dS]
def mkE(k:Int)(t:Tx)(n:Int)(s d:List Nd):Nd:=.mk k n t [] [] [] [] [] 0 s d
def numN(n:Int):Nd:=mkE 3 [] (n*10000) [] []
def Yav(e:Nd):Nd:=.mk 1 1 [120] [] [] [] [] [] 0 [e] []
def encF(p:Tx)(im:List (List D))(d:List Nd)(t:List Tx):List D:=[dS p,.slc im,.slc (Ya2 d),.slc (txs t)]
theorem c46(n:Int)(h1: -1000<=n)(h2:n<=1000):Holds Tryz.prog 46 [intA n] [] (Ret (.agg (encE (numN n)))):=w46 n ⟨tle (by omega),tle (by omega),rfl,rfl⟩
theorem c33b(e:Nd):Holds Tryz.prog 33 [.agg (encE e)] [] (Ret (.agg (encF [] [] [Yav e] []))):=w33b _ ⟨teq (by simp),rfl,rfl⟩
end Go.Sy
end
section
open Go Go.Proofs Go.Ab Go.Rf
set_option linter.unusedSimpArgs false
set_option maxRecDepth 100000
namespace Go.Sy
structure Im where
 name:Tx
 path:Tx
 pos:Int
def encI(i:Im):List D:=[dS i.name,dS i.path,dI i.pos]
def Yda(l:List Im):List (List D):=l.map encI
structure Fl where
 pkg:Tx
 imps:List Im
 decls:List Nd
 tail:List Tx
def Ycw(f:Fl):List D:=encF f.pkg (Yda f.imps) f.decls f.tail
@[simp] theorem Yb9 (f:Fl):(Ycw f).length=4:=rfl
@[simp] theorem f0 (f:Fl):(Ycw f).getD 0 D0=dS f.pkg:=rfl
@[simp] theorem f1 (f:Fl):(Ycw f).getD 1 D0=.slc (Yda f.imps):=rfl
@[simp] theorem f2 (f:Fl):(Ycw f).getD 2 D0=.slc (Ya2 f.decls):=rfl
@[simp] theorem f3 (f:Fl):(Ycw f).getD 3 D0=.slc (txs f.tail):=rfl
@[simp] theorem Yca (l:List Im):(Yda l).length=l.length:=by simp[Yda]
theorem Ygp{l:List Im}{i:Nat}{x:Int}(hx:x=i)(h:i<l.length):gAt (Yda l) x=encI l[i]:=by
 subst hx;simp[gAt,Yda,List.getD,h]
@[simp] theorem Ye2 (i:Im):(encI i).length=3:=rfl
@[simp] theorem i0 (i:Im):(encI i).getD 0 D0=dS i.name:=rfl
@[simp] theorem i1 (i:Im):(encI i).getD 1 D0=dS i.path:=rfl
@[simp] theorem i2 (i:Im):(encI i).getD 2 D0=dI i.pos:=rfl
def LmF(f:Fl):Prop:=(f.imps.length<=2^50/\f.decls.length<=2^50/\f.tail.length<=2^50)/\ ∀x∈f.decls,Lm x
end Go.Sy
end
section
open Go Go.Proofs Go.Ab Go.Rf
set_option linter.unusedSimpArgs false
set_option maxRecDepth 100000
namespace Go.Sy
end Go.Sy
end
section
open Go Go.Proofs Go.Ab Go.Rf Go.ChangeShapes Go.WideShapes
set_option maxRecDepth 100000
set_option linter.unusedSimpArgs false
namespace Go.Sy
def prW(w:World):Nat->Nat->Prop:=fun b _=>b<w.heap.size
def ghW(w:World):Gh:=⟨prW w,fun _=>0,fun _=>0,fun _=>False⟩
section
variable {H:Type} {en:TypeId×Value->H} {w:World}
end
end Go.Sy
end
section
open Go Go.Proofs Go.Ab Go.Rf Go.ChangeShapes Go.WideShapes Go.ChangeAt
set_option maxRecDepth 100000
namespace Go.Sy
theorem lay:laidOutB Tryz.prog=true:=by kernel_rfl
theorem own:ownKnob Tryz.prog.godebug=none:=by kernel_rfl
theorem Holds.out{P:Program}{f:FuncId}{args:List A}{v:A}(h:Holds P f args [] (Ret v)){w:World}{cargs:Array Value}
 (ha:All2 (fun x v=>∀p,RepA w (ghW w) (fun _=>0) p x v) args cargs.toList):
 CallsX P f cargs w fun e w'=>∃cv g',e=.returned cv/\RepA w' g' (fun _=>0) .res v cv/\RowKit.Below w.heap.size w w':=by
 have hh:HeapRel (Zag P w (ghW w) [] 0) (Zax []) (ghW w) w:=by
  have no:∀{o b},¬Owns (Zax []) (ghW w) o b:=fun ho=>by
   cases ho with
   |box h=>cases h
   |slot h=>cases h
   |cell h _ _=>cases h
  exact⟨fun r c h=>(by cases h),fun o o' b h _=>(no h).elim,fun o b h=>(no h).elim,fun b o h=>h,fun _ _ h=>h,fun _ _ h=>.inl h,fun _=>rfl,fun _ h=>h,Fr.refl _ _ _⟩
 refine(h w cargs (ghW w) ha hh).mono fun e w' ⟨out,H',g',hR,hH,hr,he⟩=>?_
 obtain⟨rfl,rfl⟩:=hR;obtain⟨cv,rfl,h1,_⟩:=he;refine⟨cv,g',rfl,h1,hr.fr.os,hr.fr.tape,hr.fr.output,hr.fr.size,fun b hb=>hr.fr.same b hb ?_⟩;rintro⟨o,ho⟩;cases ho with
 |box h=>cases h
 |slot h=>cases h
 |cell h _ _=>cases h
theorem Ycx{P:Program}{f:FuncId}{fn:Func}{c:Code}(hf:P.funcs[f]? =some fn)(hb:fn.body=some c)(hn:(fn.name== "runtime.NumGoroutine")=false){args:Array Value}{w:World}{R:Ending->World->Prop}
 (h:CallsX P f args w R):Calls P f args w R:=by
 unfold CallsX at h;rw[Zea hf hb hn]at h;exact h
section
variable {H:Type} {en:TypeId×Value->H} {w:World} {base:Nat} {sp:Nat->Bool}
theorem Ydl{t:TypeId}{k:IntKind}{v:Value}{d:DataW H}{p:List MemPlace}(ht:Tryz.prog.underlying t=some (.int k))(hv:Value.okWide Tryz.prog w .any base t v)(h:DataW.Trod en Tryz.prog w 0 (fun _=>true) true t v d p):
 ∃n:Int,(Lit.int k n).wf=true/\ ∀q,RepA w (ghW w) (fun _=>0) q (.d (.lit (.int k n))) v:=by
 obtain⟨fuel,h⟩:=h;obtain⟨n,h1,_,h2⟩:=DataW.trod_int ht h
 have:v=.int k n:=by
  simp only[Value.okWide,ht,Cell.okWide,Cell.ok]at hv;cases v<;>simp_all[Value.cells]
 subst this;exact⟨n,h2,fun q=>.lit _ rfl⟩
theorem Ycb(hl:laidOutB Tryz.prog=true){W W':World}:∀{ts:List TypeId}{vs:List Value}{ds:List (DataW H)}{ps:List MemPlace},(∀t∈ts,Tryz.prog.readableRec t=true/\t<Tryz.prog.types.size)->
 DataW.TrodAll en Tryz.prog W 0 (fun _=>true) true ts vs ds ps->RowKit.Below W.heap.size W W'->(∀p∈ps,p.block<W.heap.size)->(∀p∈ps,sp p.block=true)->DataW.TrodAll en Tryz.prog W' 0 sp true ts vs ds ps
 |[],_,_,_,_,h,_,_,_=>by
  obtain⟨rfl,rfl,rfl⟩:=trodAll_nil h;rfl
 |t::ts,_,_,_,ht,h,hb,hlt,hs=>by
  obtain⟨v,vs1,d,ds1,a,b,rfl,rfl,rfl,h1,h2⟩:=trodAll_cons h;refine⟨a,b,?_,Ycb hl (fun t h=>ht t (List.mem_cons_of_mem _ h)) h2 hb (fun p hp=>hlt p (List.mem_append_right _ hp)) (fun p hp=>hs p (List.mem_append_right _ hp)),rfl⟩;exact WideElems.Trod_stays hl (ht t (List.mem_cons_self ..)).1 (ht t (List.mem_cons_self ..)).2 h1 (fun p hp=>hb.same (hlt p (List.mem_append_left _ hp))) (fun p hp=>hs p (List.mem_append_left _ hp))
theorem Yeg{fn:Func}{s:ChangeSpec}{W W':World}{args:Array Value}{ds gs:List (DataW H)}{before:List MemPlace}(hvs:s.vars=[])
 (hW:DataW.Whole en Tryz.prog fn.params.toList s.vars false W args.toList ds gs before) (hres:fn.resultTypes= #[4])
 (hspec:s.fn H ds=⟨[.lit (.bool true)],ds,[]⟩) (hl:laidOutB Tryz.prog=true) (hrd0:(fn.params.toList.all fun t=>Tryz.prog.readableRec t&&decide (t<Tryz.prog.types.size))=true)
 (hb:RowKit.Below W.heap.size W W'):s.post en Tryz.prog fn false true false false W args (.bool true) W':=by
 have hlt:=hW.lt
 have hrd:∀t∈fn.params.toList,Tryz.prog.readableRec t=true/\t<Tryz.prog.types.size:=fun t ht=>by
  have:=List.all_eq_true.1 hrd0 t ht;simpa using this
 obtain⟨p,q,hA,hV,rfl,hfz,hnd⟩:=id hW;rw[hvs]at hV;obtain⟨rfl,rfl⟩:=trodVars_none hV;have hold:∀x∈p++[],(fun b=>decide (b<W.heap.size)) x.block=true:=fun x hx=>by simpa using hlt x hx
 have hr:∀(b:Nat)(sp:Nat->Bool)(hd:Bool),DataW.TrodAll en Tryz.prog W' b sp hd fn.resultTypes.toList ((Value.bool true).resultList fn.resultTypes.size) (s.fn H (ds++[])).results []:=fun b sp hd=>by
  rw[List.append_nil,hspec,hres];exact trodAll_cons_mk (RowKit.shut_bool Tryz.underlying4 _) trodAll_mk0
 have ha:∀sp:Nat->Bool,(∀x∈p++[],sp x.block=true)->DataW.TrodAll en Tryz.prog W' 0 sp true fn.params.toList args.toList (s.fn H (ds++[])).args p:=fun sp hs=>by
  rw[List.append_nil,hspec];exact Ycb hl hrd hA hb (fun x hx=>hlt x (by simpa using hx)) (fun x hx=>hs x (by simpa using hx))
 have hv:∀sp:Nat->Bool,DataW.TrodVars en Tryz.prog W' sp s.vars (s.fn H (ds++[])).vars []:=fun sp=>by
  rw[List.append_nil,hspec,hvs];rfl
 refine⟨ds,[],p++[],[],p,[],hW,hr _ _ _,ha _ hold,hv _,hb.frame _,fun _=>⟨RowKit.ok_one hres rfl (RowKit.okWide_bool_mk Tryz.underlying4 _),_,_,([]++p)++[],⟨[]++p,[],trodAll_append (ha _ (fun _ _=>rfl)) (hr _ _ _),hv _,rfl,?_,?_⟩,?_⟩⟩
 ·intro b off hx;have hx':MemPlace.cell b off∈p++[]:=by simpa using hx
  rw[hb.frozen (hlt _ hx')];exact hfz b off hx'
 ·intro h;cases h
 ·intro x hx _;simpa using hx
end
def Yfv:Array Value:=(Pinned.utf8FirstZ.map fun(n:Nat)=>Value.int .u8 n).toArray
def Ye3:Array Value:=((([128,191,160,191,128,159,144,191,128,143]:List Nat)++List.replicate 22 0).map fun(n:Nat)=>Value.int .u8 n).toArray
def setC(v:Array Value):Obj->Obj
 |.cells _ t fr=>.cells v t fr
 |o=>o
noncomputable def Ybq(os:Os):World:=
 {World.holding Tryz.prog os ⟨#[],#[],[]⟩with heap:=((World.holding Tryz.prog os ⟨#[],#[],[]⟩).heap.modify 1 (setC Yfv)).modify 2 (setC Ye3)}
def zU:Value:=.int .u8 0
def dU{H:Type}:DataW H:=.lit (.int .u8 0)
end Go.Sy
end
section
open Go Go.Proofs Go.Ab Go.Rf
set_option linter.unusedSimpArgs false
set_option maxRecDepth 100000
namespace Go.Sy
end Go.Sy
end
section
open Go Go.Proofs Go.Ab Go.Rf
set_option linter.unusedSimpArgs false
set_option maxRecDepth 100000
namespace Go.Sy
end Go.Sy
end
section
open Go Go.Proofs Go.Ab Go.Rf
set_option linter.unusedSimpArgs false
set_option maxRecDepth 100000
namespace Go.Sy
theorem Ybr(l:List Nd):l.length<=sizes l:=by
 induction l with
 |nil=>simp
 |cons x l ih=>have:=size_pos x;simp only[List.length_cons,sizes];omega
end Go.Sy
end
section
open Go Go.Proofs Go.Ab Go.Rf
set_option linter.unusedSimpArgs false
set_option maxRecDepth 100000
namespace Go.Sy
def LET:Tx:=[108,101,116]
end Go.Sy
end
section
open Go Go.Proofs Go.Ab Go.Rf
set_option linter.unusedSimpArgs false
set_option maxRecDepth 100000
namespace Go.Sy
end Go.Sy
end
section
open Go Go.Proofs Go.Ab Go.Rf
set_option linter.unusedSimpArgs false
set_option maxRecDepth 100000
namespace Go.Sy
def RB(K:List (Ref×List A)):Out->List (Ref×List A)->Prop:=fun o H=>o=.ret (.tup [])/\H=K
end Go.Sy
end
section
open Go Go.Proofs Go.Ab Go.Rf
set_option linter.unusedSimpArgs false
set_option linter.unusedVariables false
set_option maxRecDepth 100000
namespace Go.Sy
theorem c104(s:Tx)(l:List Tx)(hl:l.length<=2^50):Holds Tryz.prog 104 [slA (txs l),strA s] [] (fun o H=>∃n:Int,o=.ret (intA n)/\H=[]/\(0<=n↔s∈l)):=by
 refine w104 (txs l) s ?_;refine⟨fun x=>∃i:Nat,x=i/\i<=l.length/\(s∈l.drop i↔s∈l),fun x=>l.length-x.toNat,⟨0,rfl,Nat.zero_le _,by simp⟩,?_,trivial⟩;rintro x ⟨i,rfl,hi,hr⟩;refine⟨fun hc=>?_,fun hc=>?_⟩
 ·have h1:i<l.length:=by have:=of_tlt hc;simp at this;omega
  refine⟨tle (by omega),teq (by rw[gT1 h1];rfl),(getT h1).1,fun hn=>?_,fun hn=>⟨tle (by omega),tle (by omega),⟨i+1,rfl,h1,?_⟩,dec h1⟩⟩
  ·rw[(getT h1).2]at hn;have:s∈l:=Ya4 hn▸List.getElem_mem h1;exact⟨i,rfl,rfl,by simp[this]⟩
  ·rw[(getT h1).2]at hn;have hne:=Ybh hn;rw[<-hr]
   conv=>rhs;rw[Ydi h1]
   simp only[List.mem_cons,hne,false_or]
 ·have h1:l.length<=i:=by have:=of_flt hc;simp at this;omega
  have:¬s∈l:=fun h=>by rw[<-hr,Yec h1]at h;cases h
  exact⟨-1,rfl,rfl,by simp[this]⟩
theorem c71(s:Tx)(l:List Tx)(hl:l.length<=2^50):Holds Tryz.prog 71 [slA (txs l),strA s] [] (Ret (Yan (decide (s∈l)))):=
 w71 (txs l) s fun _=>⟨_,c104 s l hl,fun v H' ⟨n,e1,e2,e3⟩=>⟨n,Out.ret.inj e1,e2,by
  have:(tB (decide (0<=n)))=decide (s∈l):=by simp[e3]
  rw[this];exact⟨rfl,rfl⟩⟩,fun u H' ⟨n,e1,_⟩=>by cases e1⟩
end Go.Sy
end
section
open Go Go.Ab Go.Rf
set_option linter.unusedSimpArgs false
namespace Go.Rx
inductive Rx where
 |mk (kind s0 s1 s2 s3:Int) (subs:List Rx)
mutual
def enc:Rx->List D
 |.mk k a b c d l=>[.lit (.int .i64 k),.lit (.int .u64 a),.lit (.int .u64 b),.lit (.int .u64 c),.lit (.int .u64 d),.slc (encs l)]
def encs:List Rx->List (List D)
 |[]=>[]
 |r::l=>enc r::encs l
end
mutual
def size:Rx->Nat
 |.mk _ _ _ _ _ l=>1+sizes l
def sizes:List Rx->Nat
 |[]=>0
 |r::l=>size r+sizes l
end
def Rx.kind:Rx->Int|.mk k _ _ _ _ _=>k
def Rx.subs:Rx->List Rx|.mk _ _ _ _ _ l=>l
def Rx.w(r:Rx)(i:Nat):Int:=match r,i with|.mk _ a _ _ _ _,0=>a|.mk _ _ b _ _ _,1=>b|.mk _ _ _ c _ _,2=>c|.mk _ _ _ _ d _,_=>d
@[simp] theorem Yaw:∀l,(encs l).length=l.length
  |[]=>rfl
  |r::l=>by simp[encs,Yaw l]
@[simp] theorem Yc2:∀(l:List Rx)(i:Nat),(encs l)[i]? =(l[i]?).map enc
  |[],i=>by simp[encs]
  |r::l,0=>by simp[encs]
  |r::l,i+1=>by simp[encs,Yc2 l i]
@[simp] theorem Ybi:∀(l m:List Rx),encs l++encs m=encs (l++m)
  |[],m=>rfl
  |r::l,m=>by simp[encs,Ybi l m]
@[simp] theorem Yf8:([]:List (List D))=encs []:=rfl
@[simp] theorem Ydb (r:Rx):(enc r).length=6:=by cases r;simp[enc]
@[simp] theorem enc0 (r:Rx):(enc r).getD 0 D0=.lit (.int .i64 r.kind):=by cases r;simp[enc,Rx.kind]
@[simp] theorem enc1 (r:Rx):(enc r).getD 1 D0=.lit (.int .u64 (r.w 0)):=by cases r;simp[enc,Rx.w]
@[simp] theorem enc2 (r:Rx):(enc r).getD 2 D0=.lit (.int .u64 (r.w 1)):=by cases r;simp[enc,Rx.w]
@[simp] theorem enc3 (r:Rx):(enc r).getD 3 D0=.lit (.int .u64 (r.w 2)):=by cases r;simp[enc,Rx.w]
@[simp] theorem enc4 (r:Rx):(enc r).getD 4 D0=.lit (.int .u64 (r.w 3)):=by cases r;simp[enc,Rx.w]
@[simp] theorem enc5 (r:Rx):(enc r).getD 5 D0=.slc (encs r.subs):=by cases r;simp[enc,Rx.subs]
@[simp] theorem Yg3 (r:Rx) (h:0<(enc r).length):(enc r)[0]=.lit (.int .i64 r.kind):=by cases r;simp[enc,Rx.kind,Rx.w,Rx.subs]
@[simp] theorem Yg4 (r:Rx) (h:1<(enc r).length):(enc r)[1]=.lit (.int .u64 (r.w 0)):=by cases r;simp[enc,Rx.kind,Rx.w,Rx.subs]
@[simp] theorem Yg5 (r:Rx) (h:2<(enc r).length):(enc r)[2]=.lit (.int .u64 (r.w 1)):=by cases r;simp[enc,Rx.kind,Rx.w,Rx.subs]
@[simp] theorem Yg6 (r:Rx) (h:3<(enc r).length):(enc r)[3]=.lit (.int .u64 (r.w 2)):=by cases r;simp[enc,Rx.kind,Rx.w,Rx.subs]
@[simp] theorem Yg7 (r:Rx) (h:4<(enc r).length):(enc r)[4]=.lit (.int .u64 (r.w 3)):=by cases r;simp[enc,Rx.kind,Rx.w,Rx.subs]
@[simp] theorem Yg8 (r:Rx) (h:5<(enc r).length):(enc r)[5]=.slc (encs r.subs):=by cases r;simp[enc,Rx.kind,Rx.w,Rx.subs]
theorem Yeh{l:List Rx}{i:Nat}{x:Int}(hx:x=i)(h:i<l.length):gAt (encs l) x=enc l[i]:=by
 subst hx;have h2:=Yc2 l i;rw[List.getElem?_eq_getElem h]at h2;simp only[gAt,List.getD,Int.toNat_natCast,h2];rfl
@[simp] theorem isK_int (k:IntKind) (n:Int):Rf.isK (.int k) (.lit (.int k n))=true:=by simp[Rf.isK]
@[simp] theorem isK_bool (b:Bool):Rf.isK .bool (.lit (.bool b))=true:=rfl
@[simp] theorem isK_slc (l:List (List D)):Rf.isK .slc (.slc l)=true:=rfl
@[simp] theorem dint_int (k:IntKind) (n:Int):Rf.dint (.lit (.int k n))=n:=rfl
@[simp] theorem dbool_bool (b:Bool):Rf.dbool (.lit (.bool b))=b:=rfl
@[simp] theorem dlst_slc (l:List (List D)):Rf.dlst (.slc l)=l:=rfl
def Ret(v:A):Out->List (Ref×List A)->Prop:=fun o H=>o=.ret v/\H=[]
@[simp] theorem ret_iff {v u:A} {H:List (Ref×List A)}:Ret v (.ret u) H↔u=v/\H=[]:=by simp[Ret]
@[simp] theorem pan_iff {v:A} {u:Value} {H:List (Ref×List A)}:Ret v (.pan u) H↔False:=by simp[Ret]
theorem call1{P:Program}{f:Nat}{args:List A}{v:A}(hc:Holds P f args [] (Ret v)){Q1:A->List (Ref×List A)->Prop}{Q2:Value->List (Ref×List A)->Prop}(h:Q1 v []):
 ∀_:Nat->Nat,∃R':Out->List (Ref×List A)->Prop,Holds P f args [] R'/\(∀v H',R' (.ret v) H'->Q1 v H')/\(∀u H',R' (.pan u) H'->Q2 u H'):=
 fun _=>⟨_,hc,fun v' H' e=>by obtain⟨e1,rfl⟩:=e;cases e1;exact h,fun u H' e=>by cases e.1⟩
theorem Ybx:∀(l:List Rx)(k:Nat)(h:k<l.length),sizes (l.take (k+1))=sizes (l.take k)+size l[k]
 |r::l,0,_=>by simp[sizes]
 |r::l,k+1,h=>by
  have:=Ybx l k (by simpa using h);simp[sizes,this];omega
theorem Yc3:∀(l:List Rx)(k:Nat),sizes (l.take k)<=sizes l
 |[],k=>by simp[sizes]
 |r::l,0=>by simp[sizes]
 |r::l,k+1=>by have:=Yc3 l k;simp[sizes];omega
theorem size_pos(r:Rx):1<=size r:=by cases r;simp[size]
theorem size_eq(r:Rx):size r=1+sizes r.subs:=by cases r;rfl
theorem size_sub{r:Rx}{i:Nat}(h:i<r.subs.length):size r.subs[i]<size r:=by
 have h1:=Ybx r.subs i h;have h2:=Yc3 r.subs (i+1);have h3:=size_eq r;omega
mutual
def lens(B:Nat):Rx->Prop
 |.mk _ _ _ _ _ l=>l.length<=B/\Ydm B l
def Ydm(B:Nat):List Rx->Prop
 |[]=>True
 |r::l=>lens B r/\Ydm B l
end
theorem Ycc{B:Nat}:∀{l:List Rx},Ydm B l↔∀r∈l,lens B r
 |[]=>by simp[Ydm]
 |r::l=>by simp[Ydm,Ycc (l:=l)]
theorem Ybk{B:Nat}{r:Rx}:lens B r↔r.subs.length<=B/\ ∀x∈r.subs,lens B x:=by
 cases r with|mk k a b c d l=>simp[lens,Rx.subs,Ycc]
theorem Yei{B:Nat}{r:Rx}(h:lens B r){i:Nat}(hi:i<r.subs.length):lens B r.subs[i]:=(Ybk.1 h).2 _ (List.getElem_mem hi)
theorem Ycd{B C:Nat}(h:B<=C):∀(n:Nat)(r:Rx),size r<=n->lens B r->lens C r
 |0,r,hs,_=>by have:=size_pos r;omega
 |n+1,r,hs,hr=>by
  rw[Ybk]at hr⊢;refine⟨Nat.le_trans hr.1 h,fun x hx=>?_⟩;obtain⟨i,hi,rfl⟩:=List.mem_iff_getElem.1 hx;exact Ycd h n _ (by have:=size_sub hi;omega) (hr.2 _ hx)
end Go.Rx
end
section
open Go Go.Proofs Go.Ab Go.Rf
set_option maxRecDepth 100000
namespace Go.Rx
def wdA(p:Nat->Bool)(k:Nat):Nat->Nat
 |0=>0
 |n+1=>wdA p k n+if p (64*k+n)then 2^n else 0
def wd(p:Nat->Bool)(k:Nat):Nat:=wdA p k 64
theorem Ydn(p:Nat->Bool)(k:Nat):∀n,wdA p k n<2^n
 |0=>by simp[wdA]
 |n+1=>by
  have:=Ydn p k n;simp only[wdA,Nat.pow_succ];split<;>omega
theorem Ydo(p:Nat->Bool)(k:Nat):∀n j,(wdA p k n).testBit j=(decide (j<n)&&p (64*k+j))
 |0,j=>by simp[wdA]
 |n+1,j=>by
  have hlt:=Ydn p k n;have ih:=Ydo p k n;simp only[wdA];by_cases hp:p (64*k+n)=true
  ·rw[if_pos hp,Nat.add_comm];by_cases hj:j=n
   ·subst hj;rw[Nat.testBit_two_pow_add_eq,ih];simp[hp]
   ·rcases Nat.lt_or_gt_of_ne hj with h|h
    ·rw[Nat.testBit_two_pow_add_gt h,ih];simp[h,Nat.lt_succ_of_lt h]
    ·rw[Nat.testBit_lt_two_pow (Nat.lt_of_lt_of_le (show 2^n+wdA p k n<2^(n+1) by rw[Nat.pow_succ];omega) (Nat.pow_le_pow_right (by decide) h))];have:¬j<n+1:=by omega
     simp[this]
  ·rw[if_neg hp,Nat.add_zero,ih];by_cases hj:j=n
   ·subst hj;simp[hp]
   ·have:(j<n+1)=(j<n):=by simp;omega
    simp[this]
theorem Yce(p:Nat->Bool)(k j:Nat):(wd p k).testBit j=(decide (j<64)&&p (64*k+j)):=Ydo p k 64 j
theorem Yb1(p:Nat->Bool)(k:Nat):wd p k<2^64:=Ydn p k 64
theorem Ycy{p:Nat->Bool}{k w:Nat}(h:w<2^64)(hb:∀j<64,w.testBit j=p (64*k+j)):wd p k=w:=by
 refine Nat.eq_of_testBit_eq fun j=>?_
 rw[Yce];by_cases hj:j<64
 ·simp[hj,hb j hj]
 ·rw[Nat.testBit_lt_two_pow (Nat.lt_of_lt_of_le h (Nat.pow_le_pow_right (by decide) (by omega)))];simp[hj]
def row4(p:Nat->Bool):List D:=[.lit (.int .u64 (wd p 0)),.lit (.int .u64 (wd p 1)),.lit (.int .u64 (wd p 2)),.lit (.int .u64 (wd p 3))]
theorem Yb2(n:Nat)(h:n<2^64):IntKind.wrap .u64 (n:Int)=n:=by
 have e1:IntKind.signed .u64=false:=rfl;have e2:IntKind.bits .u64=64:=rfl;simp[IntKind.wrap,e1,e2];omega
theorem Ydp(a b:Nat)(ha:a<2^64)(hb:b<2^64):gOr .u64 (a:Int) (b:Int)=((a|||b:Nat):Int):=by
 have e2:IntKind.bits .u64=64:=rfl;unfold gOr;rw[e2]
 have:(BitVec.ofInt 64 (a:Int)|||BitVec.ofInt 64 (b:Int)).toNat=a|||b:=by
  rw[BitVec.toNat_or,BitVec.ofInt_natCast,BitVec.ofInt_natCast,BitVec.toNat_ofNat,BitVec.toNat_ofNat,Nat.mod_eq_of_lt ha,Nat.mod_eq_of_lt hb]
 rw[this];exact Yb2 _ (Nat.or_lt_two_pow ha hb)
theorem Yej(j:Nat)(h:j<64):gShl .u64 1 (j:Int)=((2^j:Nat):Int):=by
 have e2:IntKind.bits .u64=64:=rfl;unfold gShl;rw[e2];have e:(min ((j:Int).toNat) 64)=j:=by omega
 rw[e,Int.one_mul];have:=Yb2 (2^j) (Nat.pow_lt_pow_right (by decide) h);rw[<-this]
 congr 1
theorem Yek(a:Nat)(h:a<2^64):gNot .u64 (a:Int)=((2^64-1-a:Nat):Int):=by
 have e2:IntKind.bits .u64=64:=rfl;have e1:(if IntKind.signed .u64=true then(-1:Int)else IntKind.max .u64)=((2^64-1:Nat):Int):=rfl
 unfold gNot;rw[e2,e1]
 have:(BitVec.ofInt 64 ((2^64-1:Nat):Int)^^^BitVec.ofInt 64 (a:Int)).toNat=2^64-1-a:=by
  rw[BitVec.ofInt_natCast,BitVec.ofInt_natCast];have:BitVec.ofNat 64 (2^64-1)=BitVec.allOnes 64:=rfl;rw[this,BitVec.allOnes_xor,BitVec.toNat_not,BitVec.toNat_ofNat,Nat.mod_eq_of_lt h]
 rw[this];exact Yb2 _ (by omega)
theorem Yfw(p q:Nat->Bool)(k:Nat):wd p k|||wd q k=wd (fun i=>p i||q i) k:=by
 refine(Ycy (Nat.or_lt_two_pow (Yb1 _ _) (Yb1 _ _)) fun j hj=>?_).symm;rw[Nat.testBit_or,Yce,Yce];simp[hj]
theorem Yfx(p:Nat->Bool)(k:Nat):2^64-1-wd p k=wd (fun i=>!p i) k:=by
 refine(Ycy (by have:=Yb1 p k;omega) fun j hj=>?_).symm;rw[show 2^64-1-wd p k=2^64-(wd p k+1) by omega,Nat.testBit_two_pow_sub_succ (Yb1 _ _),Yce];simp[hj]
theorem Yfy(k j:Nat)(h:j<64):wd (fun i=>decide (i=64*k+j)) k=2^j:=by
 refine Ycy (Nat.pow_lt_pow_right (by decide) h) fun i hi=>?_
 rw[Nat.testBit_two_pow];by_cases e:j=i
 ·subst e;simp
 ·have:¬i=j:=fun h=>e h.symm
  simp[e,this]
theorem Ybb{p q:Nat->Bool}{k:Nat}(h:∀i,64*k<=i->i<64*k+64->p i=q i):wd p k=wd q k:=
 Ycy (Yb1 _ _) fun j hj=>by rw[Yce,h _ (by omega) (by omega)];simp[hj]
theorem Ydc{p q:Nat->Bool}(h:∀i<256,p i=q i):row4 p=row4 q:=by
 unfold row4;rw[Ybb (p:=p) (q:=q) (k:=0) fun i _ h2=>h i (by omega),Ybb (p:=p) (q:=q) (k:=1) fun i _ h2=>h i (by omega),Ybb (p:=p) (q:=q) (k:=2) fun i _ h2=>h i (by omega),Ybb (p:=p) (q:=q) (k:=3) fun i _ h2=>h i (by omega)]
@[simp] theorem Ye4 (p:Nat->Bool):(row4 p).length=4:=rfl
@[simp] theorem Ygz (p:Nat->Bool):(row4 p).getD 0 D0=.lit (.int .u64 (wd p 0)):=rfl
@[simp] theorem Yg0 (p:Nat->Bool):(row4 p).getD 1 D0=.lit (.int .u64 (wd p 1)):=rfl
@[simp] theorem Yg1 (p:Nat->Bool):(row4 p).getD 2 D0=.lit (.int .u64 (wd p 2)):=rfl
@[simp] theorem Yg2 (p:Nat->Bool):(row4 p).getD 3 D0=.lit (.int .u64 (wd p 3)):=rfl
theorem Yfz(x:Nat):Int.tdiv (x:Int) 64=((x/64:Nat):Int):=rfl
theorem Yf0(x:Nat):Int.tmod (x:Int) 64=((x % 64:Nat):Int):=rfl
theorem Ydq(n:Nat)(h:n<256):IntKind.wrap .u8 (n:Int)=n:=by
 have e1:IntKind.signed .u8=false:=rfl;have e2:IntKind.bits .u8=8:=rfl;simp[IntKind.wrap,e1,e2];omega
def part(lo hi n:Nat):Nat->Bool:=fun i=>decide (lo<=i/\i<=hi/\i<n)
theorem Yb3{lo hi n:Nat}(h:lo<=n)(h':n<=hi){k:Nat}(hk:n/64=k):gOr .u64 (wd (part lo hi n) k:Int) (gShl .u64 1 ((n % 64:Nat):Int))=wd (part lo hi (n+1)) k:=by
 have hj:n % 64<64:=Nat.mod_lt _ (by decide);rw[Yej _ hj,Ydp _ _ (Yb1 _ _) (Nat.pow_lt_pow_right (by decide) hj),<-Yfy k _ hj,Yfw]
 congr 1
 refine Ybb fun i h1 h2=>?_
 simp only[part];rw[Bool.eq_iff_iff];simp only[Bool.or_eq_true,decide_eq_true_eq];omega
theorem Yae(lo hi:Nat){n k:Nat}(hk:n/64≠k\/ ¬(lo<=n/\n<=hi)):wd (part lo hi (n+1)) k=wd (part lo hi n) k:=by
 refine Ybb fun i h1 h2=>?_
 simp only[part];rw[Bool.eq_iff_iff];simp only[decide_eq_true_eq];omega
theorem Yel(lo hi k:Nat):wd (part lo hi 0) k=0:=by
 refine Ycy (by decide) fun i hi=>?_
 rw[Nat.zero_testBit]
 symm
 simp only[part,decide_eq_false_iff_not];omega
theorem c79(lo hi:Nat)(h:hi<256)(hl:lo<256):Holds Tryz.prog 160 [A.d (.lit (.int .u8 lo)),A.d (.lit (.int .u8 hi))] [] (Ret (.agg (row4 (fun i=>decide (lo<=i/\i<=hi))))):=by
 refine w79 lo hi ⟨fun x a b c d=>∃n:Nat,x=n/\n<=256/\a=wd (part lo hi n) 0/\b=wd (part lo hi n) 1/\c=wd (part lo hi n) 2/\d=wd (part lo hi n) 3,fun x _ _ _ _=>(256-x.toNat),⟨0,rfl,by omega,by simp[Yel]⟩,?_,trivial⟩;rintro x a b c d ⟨n,rfl,hn,rfl,rfl,rfl,rfl⟩;simp only[Yfz,Yf0,Zwb,decide_eq_true_eq,decide_eq_false_iff_not,beq_iff_eq,beq_eq_false_iff_ne,Int.toNat_natCast,Bool.or_eq_true,Bool.not_eq_true',Bool.and_eq_true,Bool.and_eq_false_iff];refine⟨fun hc=>⟨by omega,by omega,by omega,by omega,fun hin=>⟨by omega,by omega,by omega,by omega,fun h0=>⟨by omega,by omega,by omega,⟨n+1,rfl,by omega,?_⟩,by omega⟩,fun h0=>⟨fun h1=>⟨by omega,by omega,by omega,⟨n+1,rfl,by omega,?_⟩,by omega⟩,fun h1=>⟨fun h2=>⟨by omega,by omega,by omega,⟨n+1,rfl,by omega,?_⟩,by omega⟩,fun h2=>⟨by omega,by omega,by omega,by omega,⟨n+1,rfl,by omega,?_⟩,by omega⟩⟩⟩⟩,fun hin=>⟨by omega,by omega,⟨n+1,rfl,by omega,?_⟩,by omega⟩⟩,fun hc=>?_⟩
 ·have hk:n/64=0:=by omega
  rw[Yb3 (by omega) (by omega) hk,Yae lo hi (k:=1) (by omega),Yae lo hi (k:=2) (by omega),Yae lo hi (k:=3) (by omega)];simp
 ·have hk:n/64=1:=by omega
  rw[Yb3 (by omega) (by omega) hk,Yae lo hi (k:=0) (by omega),Yae lo hi (k:=2) (by omega),Yae lo hi (k:=3) (by omega)];simp
 ·have hk:n/64=2:=by omega
  rw[Yb3 (by omega) (by omega) hk,Yae lo hi (k:=0) (by omega),Yae lo hi (k:=1) (by omega),Yae lo hi (k:=3) (by omega)];simp
 ·have hk:n/64=3:=by omega
  rw[Yb3 (by omega) (by omega) hk,Yae lo hi (k:=0) (by omega),Yae lo hi (k:=1) (by omega),Yae lo hi (k:=2) (by omega)];simp
 ·rw[Yae lo hi (k:=0) (by omega),Yae lo hi (k:=1) (by omega),Yae lo hi (k:=2) (by omega),Yae lo hi (k:=3) (by omega)];simp
 ·have e:row4 (fun i=>decide (lo<=i/\i<=hi))=row4 (part lo hi n):=Ydc fun i hi=>by
   simp only[part];rw[Bool.eq_iff_iff];simp only[decide_eq_true_eq];omega
  rw[e];simp[row4]
@[simp] theorem Ygq (p:Nat->Bool):(row4 p)[0]? =some (.lit (.int .u64 (wd p 0))):=rfl
@[simp] theorem Ygr (p:Nat->Bool):(row4 p)[1]? =some (.lit (.int .u64 (wd p 1))):=rfl
@[simp] theorem Ygs (p:Nat->Bool):(row4 p)[2]? =some (.lit (.int .u64 (wd p 2))):=rfl
@[simp] theorem Ygt (p:Nat->Bool):(row4 p)[3]? =some (.lit (.int .u64 (wd p 3))):=rfl
def wq(p p':Nat->Bool)(n k:Nat):D:=.lit (.int .u64 (wd (if k<n then p' else p) k))
theorem c91(p q:Nat->Bool):Holds Tryz.prog 173 [A.agg (row4 p),A.agg (row4 q)] [] (Ret (.agg (row4 fun i=>p i||q i))):=by
 refine w91 (row4 p) (row4 q) ⟨rfl,rfl,fun x a b c d=>∃n:Nat,x=n/\n<=4/\a=wq p (fun i=>p i||q i) n 0/\b=wq p (fun i=>p i||q i) n 1/\c=wq p (fun i=>p i||q i) n 2/\d=wq p (fun i=>p i||q i) n 3,fun x _ _ _ _=>(4-x.toNat),⟨0,rfl,by omega,rfl,rfl,rfl,rfl⟩,?_,trivial⟩;rintro x a b c d ⟨n,rfl,hn,rfl,rfl,rfl,rfl⟩;have hor:∀k,gOr .u64 (wd p k:Int) (wd q k:Int)=wd (fun i=>p i||q i) k:=fun k=>by rw[Ydp _ _ (Yb1 _ _) (Yb1 _ _),Yfw]
 rcases(show n=0\/n=1\/n=2\/n=3\/n=4 by omega)with rfl|rfl|rfl|rfl|rfl
 ·simp[wq,hor];exact⟨1,rfl,by omega,by simp⟩
 ·simp[wq,hor];exact⟨2,rfl,by omega,by simp⟩
 ·simp[wq,hor];exact⟨3,rfl,by omega,by simp⟩
 ·simp[wq,hor];exact⟨4,rfl,by omega,by simp⟩
 ·simp[wq,row4]
theorem c92(p:Nat->Bool):Holds Tryz.prog 174 [A.agg (row4 p)] [] (Ret (.agg (row4 fun i=>!p i))):=by
 refine w92 (row4 p) ⟨rfl,fun x a b c d=>∃n:Nat,x=n/\n<=4/\a=wq p (fun i=>!p i) n 0/\b=wq p (fun i=>!p i) n 1/\c=wq p (fun i=>!p i) n 2/\d=wq p (fun i=>!p i) n 3,fun x _ _ _ _=>(4-x.toNat),⟨0,rfl,by omega,rfl,rfl,rfl,rfl⟩,?_,trivial⟩;rintro x a b c d ⟨n,rfl,hn,rfl,rfl,rfl,rfl⟩;have hor:∀k,gNot .u64 (wd p k:Int)=wd (fun i=>!p i) k:=fun k=>by rw[Yek _ (Yb1 _ _),Yfx]
 rcases(show n=0\/n=1\/n=2\/n=3\/n=4 by omega)with rfl|rfl|rfl|rfl|rfl
 ·simp[wq,hor];exact⟨1,rfl,by omega,by simp⟩
 ·simp[wq,hor];exact⟨2,rfl,by omega,by simp⟩
 ·simp[wq,hor];exact⟨3,rfl,by omega,by simp⟩
 ·simp[wq,hor];exact⟨4,rfl,by omega,by simp⟩
 ·simp[wq,row4]
end Go.Rx
end
section
open Go Go.Proofs Go.Ab Go.Rf
set_option maxRecDepth 100000
namespace Go.Rx
def hexV(x:Nat):Option Nat:=if 48<=x/\x<=57 then some (x-48)else if 97<=x/\x<=102 then some (x-97+10)else if 65<=x/\x<=70 then some (x-65+10)else none
theorem Yb4(x c:Nat)(h:x<256)(hc:c<=x):IntKind.wrap .u8 ((x:Int)-(c:Int))=((x-c:Nat):Int):=by
 rw[<-Ydq (x-c) (by omega)]
 congr 1
 omega
def ctlV(x:Nat):Option Nat:=if x=110 then some 10 else if x=116 then some 9 else if x=114 then some 13 else none
def spcL:List UInt8:=[40,41,91,93,123,125,124,42,43,63,46,92]
def spcV(x:Nat):Bool:=spcL.any fun b=>b.toNat==x
theorem c101(x:Nat)(h:x<256):Holds Tryz.prog 183 [A.d (.lit (.int .u8 x))] [] (Ret (.tup [(false,[.lit (.int .u8 ((hexV x).getD 0:Nat))]),(false,[.lit (.bool (hexV x).isSome)])])):=by
 refine w101 x ?_;have e48:48<=x->IntKind.wrap .u8 ((x:Int)-48)=((x-48:Nat):Int):=Yb4 x 48 h;have e97:97<=x->IntKind.wrap .u8 ((x:Int)-97)=((x-97:Nat):Int):=Yb4 x 97 h;have e65:65<=x->IntKind.wrap .u8 ((x:Int)-65)=((x-65:Nat):Int):=Yb4 x 65 h;have ten:∀n:Nat,n<200->IntKind.wrap .u8 ((n:Int)+10)=((n+10:Nat):Int):=fun n hn=>Ydq (n+10) (by omega)
 simp only[Zwb,decide_eq_true_eq,Bool.and_eq_true,Bool.and_eq_false_iff,decide_eq_false_iff_not,ret_iff,and_true];refine⟨fun h0=>?_,fun h0=>⟨fun h1=>?_,fun h1=>⟨fun h2=>?_,fun h2=>?_⟩⟩⟩
 ·rw[e48 (by omega)];have e:hexV x=some (x-48):=by unfold hexV;rw[if_pos (by omega)]
  rw[e];rfl
 ·rw[e97 (by omega),ten _ (by omega)];have e:hexV x=some (x-97+10):=by unfold hexV;rw[if_neg (by omega),if_pos (by omega)]
  rw[e];rfl
 ·rw[e65 (by omega),ten _ (by omega)];have e:hexV x=some (x-65+10):=by unfold hexV;rw[if_neg (by omega),if_neg (by omega),if_pos (by omega)]
  rw[e];rfl
 ·have e:hexV x=none:=by unfold hexV;rw[if_neg (by omega),if_neg (by omega),if_neg (by omega)]
  rw[e];rfl
end Go.Rx
end
section
open Go Go.Proofs Go.Ab Go.Rf
set_option maxRecDepth 100000
namespace Go.Rx
def rng(lo hi:Nat):Nat->Bool:=fun i=>decide (lo<=i/\i<=hi)
def orP(p q:Nat->Bool):Nat->Bool:=fun i=>p i||q i
def clsV(x:Nat):Option (Nat->Bool):=
 if x=100 then some (rng 48 57)else if x=119 then some (orP (orP (rng 48 57) (orP (rng 97 122) (rng 65 90))) (rng 95 95))else if x=115 then some (orP (orP (rng 9 10) (rng 13 13)) (rng 32 32))else none
def clsA(x:Nat):A:=.tup [(true,row4 ((clsV x).getD fun _=>false)),(false,[.lit (.bool (clsV x).isSome)])]
theorem c79'(lo hi:Nat)(h:hi<256)(hl:lo<256):Holds Tryz.prog 160 [A.d (.lit (.int .u8 lo)),A.d (.lit (.int .u8 hi))] [] (Ret (.agg (row4 (rng lo hi)))):=c79 lo hi h hl
theorem c91'(p q:Nat->Bool):Holds Tryz.prog 173 [A.agg (row4 p),A.agg (row4 q)] [] (Ret (.agg (row4 (orP p q)))):=c91 p q
theorem Ydr:row4 (fun _=>false)=[.lit (.int .u64 0),.lit (.int .u64 0),.lit (.int .u64 0),.lit (.int .u64 0)]:=by
 have:∀k,wd (fun _=>false) k=0:=fun k=>Ycy (by decide) fun j _=>Nat.zero_testBit j
 simp[row4,this]
theorem c80(x:Nat)(h:x<256):Holds Tryz.prog 161 [A.d (.lit (.int .u8 x))] [] (Ret (clsA x)):=by
 refine w80 x (call1 (c79' 48 57 (by decide) (by decide)) ⟨_,rfl,rfl,rfl,fun h0=>?_,fun h0=>⟨fun h1=>call1 (c79' 97 122 (by decide) (by decide)) ⟨_,rfl,rfl,call1 (c79' 65 90 (by decide) (by decide)) ⟨_,rfl,rfl,call1 (c91' _ _) ⟨_,rfl,rfl,rfl,call1 (c91' _ _) ⟨_,rfl,rfl,call1 (c79' 95 95 (by decide) (by decide)) ⟨_,rfl,rfl,call1 (c91' _ _) ⟨_,rfl,rfl,rfl,?_⟩⟩⟩⟩⟩⟩,
  fun h1=>⟨fun h2=>call1 (c79' 9 10 (by decide) (by decide)) ⟨_,rfl,rfl,call1 (c79' 13 13 (by decide) (by decide)) ⟨_,rfl,rfl,call1 (c91' _ _) ⟨_,rfl,rfl,call1 (c79' 32 32 (by decide) (by decide)) ⟨_,rfl,rfl,call1 (c91' _ _) ⟨_,rfl,rfl,rfl,?_⟩⟩⟩⟩⟩,fun h2=>?_⟩⟩⟩)
 all_goals simp only[Zwb,beq_iff_eq,beq_eq_false_iff_ne]at*
 ·have e:clsV x=some (rng 48 57):=by unfold clsV;rw[if_pos (by omega)]
  simp[clsA,e]
 ·have e:clsV x=some (orP (orP (rng 48 57) (orP (rng 97 122) (rng 65 90))) (rng 95 95)):=by unfold clsV;rw[if_neg (by omega),if_pos (by omega)]
  simp[clsA,e]
 ·have e:clsV x=some (orP (orP (rng 9 10) (rng 13 13)) (rng 32 32)):=by unfold clsV;rw[if_neg (by omega),if_neg (by omega),if_pos (by omega)]
  simp[clsA,e]
 ·have e:clsV x=none:=by unfold clsV;rw[if_neg (by omega),if_neg (by omega),if_neg (by omega)]
  simp[clsA,e,Ydr]
end Go.Rx
end
section
open Go Go.Proofs Go.Ab Go.Rf
set_option maxRecDepth 100000
namespace Go.Rx
def idxV(l:List UInt8)(c:Nat):Int:=firstIdx ⟨l.toArray⟩ c.toUInt8
theorem c102(l:List UInt8)(c:Nat):Holds Tryz.prog 146 [A.d (.lit (Zco l)),A.d (.lit (.int .u8 c))] [] (Ret (.d (.lit (.int .i64 (idxV l c))))):=by
 intro w cargs g h1 h2
 have hc:cargs= #[Zco l,.int .u8 c]:=by
  rcases cargs with⟨cl⟩
  match cl,h1 with
  |[a,b],⟨ha,hb,_⟩=>
   have ha:=ha .res;have hb:=hb .res;cases ha;cases hb;rfl
 subst hc;unfold CallsX;rw[run_callFunc_extern (P:=Tryz.prog) (f:=146) (fn:=Tryz.f146) (e:=Extern.BytealgIndexByte.indexByte) rfl (by decide) rfl rfl rfl];rw[Zco,run_indexByte_string];refine⟨.ret (.d (.lit (.int .i64 (idxV l c)))),[],g,⟨rfl,rfl⟩,rfl,?_,_,rfl,?_,fun h=>by cases h⟩
 ·exact⟨h2.box,h2.inj,h2.wr,h2.prs,h2.pr0,h2.prn,h2.up,h2.uu,h2.fr⟩
 ·exact .lit _ rfl
theorem c94(l:List UInt8)(c:Nat):Holds Tryz.prog 133 [A.d (.lit (Zco l)),A.d (.lit (.int .u8 c))] [] (Ret (.d (.lit (.int .i64 (idxV l c))))):=
 w94 l c (call1 (c102 l c) ⟨_,rfl,rfl,by simp⟩)
theorem c83(l:List UInt8)(c:Nat):Holds Tryz.prog 164 [A.d (.lit (Zco l)),A.d (.lit (.int .u8 c))] [] (Ret (.d (.lit (.int .i64 (idxV l c))))):=
 w83 l c (call1 (c94 l c) ⟨_,rfl,rfl,by simp⟩)
theorem idxV_nonneg(l:List UInt8)(c:Nat)(h:c<256):0<=idxV l c↔(l.any fun b=>b.toNat==c)=true:=by
 unfold idxV firstIdx
 have key:∀b:UInt8,b=c.toUInt8↔b.toNat=c:=fun b=>by
  constructor
  ·rintro rfl;simp;omega
  ·rintro rfl;simp
 split
 ·rename_i i hi;have h1:=List.find?_some hi;have h2:=List.mem_range.1 (List.mem_of_find?_eq_some hi);simp only[beq_iff_eq,key]at h1;refine⟨fun _=>List.any_eq_true.2 ⟨_,?_,by simpa using h1⟩,fun _=>by omega⟩
  have e:(⟨l.toArray⟩:ByteArray)[i]! =l[i]'h2:=by
   rw[getElem!_pos _ i h2];rfl
  rw[e];exact List.getElem_mem _
 ·rename_i hi;refine⟨fun h=>by omega,fun h=>?_⟩;obtain⟨b,hb,hx⟩:=List.any_eq_true.1 h;obtain⟨j,hj,rfl⟩:=List.mem_iff_getElem.1 hb;have:=List.find?_eq_none.1 hi j (List.mem_range.2 hj)
  have e:(⟨l.toArray⟩:ByteArray)[j]! =l[j]'hj:=by
   rw[getElem!_pos _ j hj];rfl
  rw[e]at this;simp only[beq_iff_eq,key]at this;exact absurd (by simpa using hx) this
end Go.Rx
end
section
open Go Go.Proofs Go.Ab Go.Rf
set_option maxRecDepth 100000
namespace Go.Rx
def Yak(r:Rx):Int:=
 if r.kind<0\/5<r.kind\/(r.kind≠2/\ ¬(r.w 0=0/\r.w 1=0/\r.w 2=0/\r.w 3=0))then 11
 else if r.kind=3\/r.kind=4 then(if r.subs.length<2 then 2 else 0)
 else if r.kind=5 then(if r.subs.length≠1 then 2 else 0)
 else if r.subs.length≠0 then 2 else 0
mutual
def chk(lvl:Int):Rx->Int
 |.mk k a b c d l=>if 16<lvl then 9 else if Yak (.mk k a b c d l)≠0 then Yak (.mk k a b c d l)else chks (lvl+1) l
def chks(lvl:Int):List Rx->Int
 |[]=>0
 |r::l=>if chk lvl r≠0 then chk lvl r else chks lvl l
end
theorem Yc4(lvl:Int)(r:Rx):chk lvl r=if 16<lvl then 9 else if Yak r≠0 then Yak r else chks (lvl+1) r.subs:=by cases r;simp only[chk,Rx.subs]
theorem Ycf{lvl:Int}:∀(l:List Rx),(∀i (h:i<l.length),chk lvl l[i]=0)->chks lvl l=0
 |[],_=>rfl
 |r::l,h=>by
  simp only[chks];rw[if_neg (fun hne=>hne (h 0 (Nat.succ_pos _)))];exact Ycf l fun i hi=>h (i+1) (Nat.succ_lt_succ hi)
theorem Yby{lvl:Int}:∀(l:List Rx)(j:Nat)(hj:j<l.length),(∀i (h:i<j),chk lvl (l[i]'(by omega))=0)->chk lvl l[j]≠0->chks lvl l=chk lvl l[j]
 |r::l,0,_,_,h=>by simp only[chks];rw[if_pos (by simpa using h)];rfl
 |r::l,j+1,hj,h0,h=>by
  simp only[chks];rw[if_neg (by simpa using h0 0 (by omega))];exact Yby l j (by simpa using hj) (fun i hi=>by simpa using h0 (i+1) (by omega)) h
end Go.Rx
end
section
open Go Go.Proofs Go.Ab Go.Rf
set_option maxRecDepth 100000
namespace Go.Rx
theorem c33:∀(n:Nat)(r:Rx)(lvl:Int),size r<=n->lens (2^40) r-> -100<=lvl->lvl<=100->Holds Tryz.prog 140 [A.agg (enc r),A.d (.lit (.int .i64 lvl))] [] (Ret (.d (.lit (.int .i64 (chk lvl r))))):=by
 intro n
 induction n with
 |zero=>intro r lvl h;have:=size_pos r;omega
 |succ n ih=>
  intro r lvl hs hn h1 h2;refine w33 (enc r) lvl ⟨by simp,fun h=>?_,fun h=>?_⟩
  ·simp at h;have e:chk lvl r=9:=by rw[Yc4,if_pos h]
   simp[e]
  ·simp at h;have hbad:Yak r≠0->chk lvl r=Yak r:=fun he=>by rw[Yc4,if_neg (by omega),if_pos he]
   refine⟨by simp,by simp,by simp,by simp,by simp,fun hk=>?_,fun hk=>?_⟩
   ·have e:Yak r=11:=by
     simp only[enc0,enc1,enc2,enc3,enc4,dint_int,Zwb,decide_eq_true_eq,Bool.and_eq_true,Bool.or_eq_true,Bool.not_eq_true',Bool.and_eq_false_iff,beq_iff_eq,beq_eq_false_iff_ne]at hk;unfold Yak;rw[if_pos];rcases hk with(h|h)|⟨h,h'⟩
     ·exact .inl h
     ·exact .inr (.inl h)
     ·exact .inr (.inr ⟨h,by rintro⟨a,b,c,d⟩;rcases h' with h'|h'|h'|h'<;>contradiction⟩)
    have e2:chk lvl r=11:=by rw[hbad (by omega),e]
    simp[e2]
   ·have e:Yak r=if r.kind=3\/r.kind=4 then(if r.subs.length<2 then 2 else 0)else if r.kind=5 then(if r.subs.length≠1 then 2 else 0)else if r.subs.length≠0 then 2 else 0:=by
     simp only[enc0,enc1,enc2,enc3,enc4,dint_int,Zwb,decide_eq_false_iff_not,Bool.and_eq_true,Bool.or_eq_false_iff,Bool.not_eq_true',Bool.and_eq_false_iff,Bool.not_eq_false',beq_iff_eq]at hk;unfold Yak;rw[if_neg];rintro(h'|h'|⟨h',h''⟩)
     ·exact hk.1.1 h'
     ·exact hk.1.2 h'
     ·rcases hk.2 with h3|h3
      ·exact h' h3
      ·exact h'' h3
    have hlen:r.subs.length<=2^40:=(Ybk.1 hn).1;refine⟨by simp,fun _=>Yak r=0,⟨fun hk=>⟨fun hl=>?_,fun hl=>?_⟩,fun hk3=>⟨fun hk=>⟨fun hl=>?_,fun hl=>?_⟩,fun hk4=>⟨fun hk=>⟨fun hl=>?_,fun hl=>?_⟩,fun hk5=>⟨fun hl=>?_,fun hl=>?_⟩⟩⟩⟩,?_,trivial⟩
    ·simp at hk hl;have e2:Yak r=2:=by rw[e,if_pos (.inl hk),if_pos (by omega)]
     have e3:chk lvl r=2:=by rw[hbad (by omega),e2]
     simp[e3]
    ·simp at hk hl;rw[e,if_pos (.inl hk),if_neg (by omega)]
    ·simp at hk hl;have e2:Yak r=2:=by rw[e,if_pos (.inr hk),if_pos (by omega)]
     have e3:chk lvl r=2:=by rw[hbad (by omega),e2]
     simp[e3]
    ·simp at hk hl;rw[e,if_pos (.inr hk),if_neg (by omega)]
    ·simp at hk3 hk4 hk hl;have e2:Yak r=2:=by rw[e,if_neg (by omega),if_pos hk,if_pos (by omega)]
     have e3:chk lvl r=2:=by rw[hbad (by omega),e2]
     simp[e3]
    ·simp at hk3 hk4 hk hl;rw[e,if_neg (by omega),if_pos hk,if_neg (by omega)]
    ·simp only[enc0,enc5,dint_int,dlst_slc,Zwb,Yaw,beq_eq_false_iff_ne,Bool.not_eq_true']at hk3 hk4 hk5 hl;have e2:Yak r=2:=by rw[e,if_neg (by omega),if_neg hk5,if_pos (by omega)]
     have e3:chk lvl r=2:=by rw[hbad (by omega),e2]
     simp[e3]
    ·simp only[enc0,enc5,dint_int,dlst_slc,Zwb,Yaw,beq_eq_false_iff_ne,Bool.not_eq_false',beq_iff_eq]at hk3 hk4 hk5 hl;rw[e,if_neg (by omega),if_neg hk5,if_neg (by omega)]
    ·intro _ he;refine⟨fun x=>∃i:Nat,x=i/\i<=r.subs.length/\ ∀j (hj:j<r.subs.length),j<i->chk (lvl+1) r.subs[j]=0,fun x=>(r.subs.length-x.toNat),⟨0,rfl,Nat.zero_le _,fun j _ hj=>absurd hj (Nat.not_lt_zero _)⟩,?_,trivial⟩;rintro x ⟨i,rfl,hi,hall⟩;refine⟨fun hc=>?_,fun hc=>?_⟩
     ·simp at hc;have hsub:=size_sub hc;simp only[enc5,dlst_slc];rw[Yeh rfl hc];refine⟨by simp,by simp,by simp;omega,by simp;omega,call1 (ih r.subs[i] (lvl+1) (by omega) (Yei hn hc) (by omega) (by omega)) ⟨_,rfl,rfl,fun hne=>?_,fun heq=>?_⟩⟩
      ·simp at hne;have e:chk lvl r=chk (lvl+1) r.subs[i]:=by rw[Yc4,if_neg (by omega),if_neg (by simp[he]),Yby r.subs i hc (fun j hj=>hall j (by omega) hj) hne]
       simp[e]
      ·simp at heq;refine⟨by simp;omega,by simp;omega,⟨i+1,rfl,hc,fun j hj hji=>?_⟩,by simp;omega⟩;by_cases e:j=i
       ·subst e;exact heq
       ·exact hall j hj (by omega)
     ·simp at hc;have e:chk lvl r=0:=by rw[Yc4,if_neg (by omega),if_neg (by simp[he]),Ycf r.subs fun j hj=>hall j hj (by omega)]
      simp[e]
end Go.Rx
end
section
open Go Go.Proofs Go.Ab Go.Rf
set_option maxRecDepth 100000
namespace Go.Rx
theorem c15(r:Rx)(h:lens (2^40) r):Holds Tryz.prog 129 [A.agg (enc r)] [] (Ret (.d (.lit (.int .i64 (chk 1 r))))):=
 w15 (enc r) ⟨by simp,call1 (c33 _ r 1 (Nat.le_refl _) h (by omega) (by omega)) ⟨_,rfl,rfl,by simp⟩⟩
end Go.Rx
end
section
open Go Go.Proofs Go.Ab Go.Rf
set_option maxRecDepth 100000
namespace Go.Rx
inductive Res (α:Type) where
 |ok (a:α) (t:List UInt8)
 |bad (t:List UInt8)
def hd(t:List UInt8):Nat:=match t with|[]=>0|c::_=>c.toNat
def escV(x:Nat):Option Nat:=match ctlV x with|some n=>some n|none=>if spcV x||x==94||x==45 then some x else none
def hexR(lo:Nat)(t:List UInt8):Res Nat:=
 match hexV (hd t)with
 |none=>.bad t
 |some d=>if d*16+15<lo then .bad t else match hexV (hd t.tail)with
  |none=>.bad t.tail
  |some e=>if d*16+e<lo then .bad t.tail else .ok (d*16+e) t.tail.tail
def escR(lo:Nat)(t:List UInt8):Res Nat:=
 if hd t=120 then hexR lo t.tail else match escV (hd t)with
  |none=>.bad t
  |some n=>if n<lo then .bad t else .ok n t.tail
def Yay(lo:Nat)(t:List UInt8):Res Nat:=
 if hd t=92 then escR lo t.tail
 else if hd t<32\/126<hd t\/hd t<lo\/(spcV (hd t)||hd t==94||hd t==45)=true then .bad t else .ok (hd t) t.tail
def mk0(k:Int)(l:List Rx):Rx:=.mk k 0 0 0 0 l
def setX(p:Nat->Bool):Rx:=.mk 2 (wd p 0) (wd p 1) (wd p 2) (wd p 3) []
def hiR(lo:Nat)(t:List UInt8):Res Nat:=if hd t=45 then Yay lo t.tail else .ok lo t
def negP(neg:Bool)(p:Nat->Bool):Nat->Bool:=if neg then fun i=>!p i else p
def setL:Nat->Bool->(Nat->Bool)->List UInt8->Option (Res Rx)
 |0,_,_,_=>none
 |n+1,neg,p,t=>match Yay 0 t with
  |.bad q=>some (.bad q)
  |.ok lo t1=>match hiR lo t1 with
   |.bad q=>some (.bad q)
   |.ok hi t3=>if hd t3=93 then some (.ok (setX (negP neg (orP p (rng lo hi)))) t3.tail)else setL n neg (orP p (rng lo hi)) t3
def no:Nat->Bool:=fun _=>false
def setR(n:Nat)(t:List UInt8):Option (Res Rx):=
 if hd t=94 then setL n true no t.tail else if hd t=93 then some (.ok (mk0 0 []) t.tail)else setL n false no t
def Ydd(k:Int)(l:List Rx):Rx:=match l with|[r]=>r|l=>mk0 k l
def Yds(r:Rx):Rx:=mk0 5 [r]
def opX(c:Nat)(r:Rx):Option Rx:=if c=42 then some (Yds r)else if c=43 then some (mk0 3 [r,Yds r])else if c=63 then some (mk0 4 [r,mk0 1 []])else none
def opsL:Nat->Rx->List UInt8->Option (Res Rx)
 |0,_,_=>none
 |n+1,r,t=>match opX (hd t) r with|some r'=>opsL n r' t.tail|none=>some (.ok r t)
def oneX(c:Nat):Rx:=setX (rng c c)
def Ybz(r:Rx)(t:List UInt8):Res Rx:=if hd t=41 then .ok r t.tail else .bad t
mutual
def alts:Nat->List UInt8->Option (Res Rx)
 |0,_=>none
 |n+1,t=>match seqs n t with
  |none=>none
  |some (.bad q)=>some (.bad q)
  |some (.ok r t1)=>altL n [r] t1
def altL:Nat->List Rx->List UInt8->Option (Res Rx)
 |0,_,_=>none
 |n+1,l,t=>if hd t=124 then(match seqs n t.tail with
  |none=>none
  |some (.bad q)=>some (.bad q)
  |some (.ok r t1)=>altL n (l++[r]) t1)else some (.ok (Ydd 4 l) t)
def seqs:Nat->List UInt8->Option (Res Rx)
 |0,_=>none
 |n+1,t=>match Ya5 n t with
  |none=>none
  |some (.bad q)=>some (.bad q)
  |some (.ok r t1)=>seqL n [r] t1
def seqL:Nat->List Rx->List UInt8->Option (Res Rx)
 |0,_,_=>none
 |n+1,l,t=>if t≠[]/\hd t≠124/\hd t≠41 then(match Ya5 n t with
  |none=>none
  |some (.bad q)=>some (.bad q)
  |some (.ok r t1)=>seqL n (l++[r]) t1)else some (.ok (Ydd 3 l) t)
def Ya5:Nat->List UInt8->Option (Res Rx)
 |0,_=>none
 |n+1,t=>match atom n t with
  |none=>none
  |some (.bad q)=>some (.bad q)
  |some (.ok r t1)=>opsL n r t1
def atom:Nat->List UInt8->Option (Res Rx)
 |0,_=>none
 |n+1,t=>
  if hd t=40 then(if hd t.tail=41 then some (.ok (mk0 1 []) t.tail.tail)else match alts n t.tail with
   |none=>none
   |some (.bad q)=>some (.bad q)
   |some (.ok r t1)=>some (Ybz r t1))
  else if hd t=91 then setR n t.tail
  else if hd t=46 then some (.ok (setX (rng 0 255)) t.tail)
  else if hd t=92 then(match clsV (hd t.tail)with
   |some p=>some (.ok (setX p) t.tail.tail)
   |none=>match escR 0 t.tail with
    |.bad q=>some (.bad q)
    |.ok c t1=>some (.ok (oneX c) t1))
  else if hd t<32\/126<hd t\/spcV (hd t)=true then some (.bad t)
  else some (.ok (oneX (hd t)) t.tail)
end
def Res.Lt{α:Type}(t:List UInt8):Res α->Prop
 |.ok _ t'=>t'.length<t.length/\t'<:+t
 |.bad t'=>t'<:+t
def Res.Le{α:Type}(t:List UInt8):Res α->Prop
 |.ok _ t'=>t'<:+t
 |.bad t'=>t'<:+t
theorem Ybl{t:List UInt8}(h:hd t≠0):t.tail.length<t.length:=by
 cases t with
 |nil=>exact absurd rfl h
 |cons c t=>simp
theorem Yab(t:List UInt8):t.tail<:+t:=List.tail_suffix t
theorem Yb5{x d:Nat}(h:hexV x=some d):x≠0:=by
 rintro rfl;simp[hexV]at h
theorem Ye5(lo:Nat)(t:List UInt8):(hexR lo t).Lt t:=by
 unfold hexR;split
 ·exact List.suffix_refl _
 ·rename_i d hd1;split
  ·exact List.suffix_refl _
  ·split
   ·exact Yab _
   ·rename_i e he;split
    ·exact Yab _
    ·have h1:=Ybl (Yb5 hd1);have h2:=Ybl (Yb5 he);exact⟨by omega,(Yab _).trans (Yab _)⟩
theorem Ye6{x d:Nat}(h:escV x=some d):x≠0:=by
 rintro rfl;revert h;simp[escV,ctlV,spcV,spcL]
theorem Res.Lt.tail{α:Type}{t:List UInt8}{r:Res α}(h:r.Lt t.tail):r.Lt t:=by
 cases r with
 |ok a t'=>exact⟨by have:=h.1;have:t.tail.length<=t.length:=by simp
                    omega,h.2.trans (Yab _)⟩
 |bad t'=>exact List.IsSuffix.trans (show t'<:+t.tail from h) (Yab _)
theorem Ydt(lo:Nat)(t:List UInt8):(escR lo t).Lt t:=by
 unfold escR;split
 ·exact(Ye5 _ _).tail
 ·split
  ·exact List.suffix_refl _
  ·rename_i n hn;split
   ·exact List.suffix_refl _
   ·exact⟨Ybl (Ye6 hn),Yab _⟩
theorem Ybm(lo:Nat)(t:List UInt8):(Yay lo t).Lt t:=by
 unfold Yay;split
 ·exact(Ydt _ _).tail
 ·split
  ·exact List.suffix_refl _
  ·rename_i h;exact⟨Ybl (by omega),Yab _⟩
theorem Res.Lt.trans{α:Type}{t t':List UInt8}{r:Res α}(h:r.Lt t')(h2:t'<:+t):r.Lt t:=by
 cases r with
 |ok a q=>exact⟨Nat.lt_of_lt_of_le h.1 h2.length_le,h.2.trans h2⟩
 |bad q=>exact List.IsSuffix.trans (show q<:+t' from h) h2
theorem Yc5(lo:Nat)(t:List UInt8):(hiR lo t).Le t:=by
 unfold hiR;split
 ·have:=(Ybm lo t.tail).tail;cases hb:Yay lo t.tail with
  |ok a q=>rw[hb]at this;exact this.2
  |bad q=>rw[hb]at this;exact this
 ·exact List.suffix_refl _
theorem Ycz:∀(n:Nat)(neg:Bool)(p:Nat->Bool)(t:List UInt8)(r:Res Rx),setL n neg p t=some r->r.Lt t
 |0,_,_,_,_,h=>by simp[setL]at h
 |n+1,neg,p,t,r,h=>by
  unfold setL at h;have h1:=Ybm 0 t;split at h
  ·rename_i q hq;rw[hq]at h1;cases h;exact h1
  ·rename_i lo t1 hq;rw[hq]at h1;have h2:=Yc5 lo t1;split at h
   ·rename_i q hq;rw[hq]at h2;cases h;exact List.IsSuffix.trans h2 h1.2
   ·rename_i hi t3 hq;rw[hq]at h2;have h3:t3<:+t1:=h2;split at h
    ·cases h
     exact⟨by have:=h1.1;have:=h3.length_le;have:t3.tail.length<=t3.length:=by simp
              omega,(Yab _).trans (h3.trans h1.2)⟩
    ·exact(Ycz n neg _ t3 r h).trans (h3.trans h1.2)
theorem Ye7(n:Nat)(t:List UInt8)(r:Res Rx)(h:setR n t=some r):r.Lt t:=by
 unfold setR at h;split at h
 ·exact(Ycz _ _ _ _ _ h).tail
 ·split at h
  ·cases h;exact⟨Ybl (by omega),Yab _⟩
  ·exact Ycz _ _ _ _ _ h
theorem Yf1{c:Nat}{r r':Rx}(h:opX c r=some r'):c≠0:=by
 rintro rfl;simp[opX]at h
theorem Ydu:∀(n:Nat)(r:Rx)(t:List UInt8)(o:Res Rx),opsL n r t=some o->o.Le t
 |0,_,_,_,h=>by simp[opsL]at h
 |n+1,r,t,o,h=>by
  unfold opsL at h;split at h
  ·rename_i r' _;have:=Ydu n r' t.tail o h;cases o with
   |ok a q=>exact List.IsSuffix.trans this (Yab _)
   |bad q=>exact List.IsSuffix.trans this (Yab _)
  ·cases h;exact List.suffix_refl _
theorem Res.Le.trans{α:Type}{t t':List UInt8}{r:Res α}(h:r.Le t')(h2:t'<:+t):r.Le t:=by
 cases r with
 |ok a q=>exact List.IsSuffix.trans h h2
 |bad q=>exact List.IsSuffix.trans h h2
theorem Res.Le.lt{α:Type}{t t':List UInt8}{r:Res α}(h:r.Le t')(h2:t'<:+t)(h3:t'.length<t.length):r.Lt t:=by
 cases r with
 |ok a q=>exact⟨Nat.lt_of_le_of_lt (List.IsSuffix.length_le h) h3,List.IsSuffix.trans h h2⟩
 |bad q=>exact List.IsSuffix.trans h h2
theorem Ya1:∀(n:Nat),(∀t r,alts n t=some r->r.Lt t)/\(∀l t r,altL n l t=some r->r.Le t)/\(∀t r,seqs n t=some r->r.Lt t)/\(∀l t r,seqL n l t=some r->r.Le t)/\
 (∀t r,Ya5 n t=some r->r.Lt t)/\(∀t r,atom n t=some r->r.Lt t):=by
 intro n
 induction n with
 |zero=>exact⟨fun t r h=>by simp[alts]at h,fun l t r h=>by simp[altL]at h,fun t r h=>by simp[seqs]at h,fun l t r h=>by simp[seqL]at h,fun t r h=>by simp[Ya5]at h,fun t r h=>by simp[atom]at h⟩
 |succ n ih=>
  obtain⟨ih1,ih2,ih3,ih4,ih5,ih6⟩:=ih;refine⟨fun t r h=>?_,fun l t r h=>?_,fun t r h=>?_,fun l t r h=>?_,fun t r h=>?_,fun t r h=>?_⟩
  ·unfold alts at h;split at h
   ·cases h
   ·rename_i hq;cases h;exact ih3 _ _ hq
   ·rename_i hq;have:=ih3 _ _ hq;exact(ih2 _ _ _ h).lt this.2 this.1
  ·unfold altL at h;split at h
   ·split at h
    ·cases h
    ·rename_i hq;cases h;exact(ih3 _ _ hq).tail
    ·rename_i hq;have:=(ih3 _ _ hq).tail;exact(ih2 _ _ _ h).trans this.2
   ·cases h;exact List.suffix_refl _
  ·unfold seqs at h;split at h
   ·cases h
   ·rename_i hq;cases h;exact ih5 _ _ hq
   ·rename_i hq;have:=ih5 _ _ hq;exact(ih4 _ _ _ h).lt this.2 this.1
  ·unfold seqL at h;split at h
   ·split at h
    ·cases h
    ·rename_i hq;cases h;exact(ih5 _ _ hq)
    ·rename_i hq;have:=(ih5 _ _ hq);exact(ih4 _ _ _ h).trans this.2
   ·cases h;exact List.suffix_refl _
  ·unfold Ya5 at h;split at h
   ·cases h
   ·rename_i hq;cases h;exact ih6 _ _ hq
   ·rename_i hq;have:=ih6 _ _ hq;exact(Ydu _ _ _ _ h).lt this.2 this.1
  ·unfold atom at h;split at h
   ·have h0:=Ybl (show hd t≠0 by omega);split at h
    ·have h1:=Ybl (show hd t.tail≠0 by omega);cases h;exact⟨by omega,(Yab _).trans (Yab _)⟩
    ·split at h
     ·cases h
     ·rename_i hq;cases h;exact(ih1 _ _ hq).tail
     ·rename_i hq;have h2:=(ih1 _ _ hq).tail;cases h;unfold Ybz;split
      ·rename_i t1 _
       exact⟨by have:=h2.1;have:t1.tail.length<=t1.length:=by simp
                omega,(Yab _).trans h2.2⟩
      ·exact h2.2
   ·split at h
    ·exact(Ye7 _ _ _ h).tail
    ·split at h
     ·cases h;exact⟨Ybl (by omega),Yab _⟩
     ·split at h
      ·split at h
       ·cases h;exact⟨by have h1:=Ybl (show hd t≠0 by omega);have:t.tail.tail.length<=t.tail.length:=by simp
                         omega,(Yab _).trans (Yab _)⟩
       ·have h1:=(Ydt 0 t.tail).tail;split at h
        ·rename_i q hq;rw[hq]at h1;cases h;exact h1
        ·rename_i q hq;rw[hq]at h1;cases h;exact h1
      ·split at h
       ·cases h;exact List.suffix_refl _
       ·cases h;exact⟨Ybl (by omega),Yab _⟩
end Go.Rx
end
section
open Go Go.Proofs Go.Ab Go.Rf
set_option maxRecDepth 100000
namespace Go.Rx
theorem tle{a b:Int}(h:a<=b):(tB (decide (a<=b)))=true:=by simp[h]
theorem tlt{a b:Int}(h:a<b):(tB (decide (a<b)))=true:=by simp[h]
theorem teq{a b:Int}(h:a=b):(tB (a==b))=true:=by simp[h]
theorem Ycg{a b:Int}(h:(tB (decide (a<=b)))=true):a<=b:=by simpa using h
theorem of_tlt{a b:Int}(h:(tB (decide (a<b)))=true):a<b:=by simpa using h
theorem of_teq{a b:Int}(h:(tB (a==b))=true):a=b:=by simpa using h
theorem Ybf{a b:Int}(h:(tB (decide (a<=b)))=false):b<a:=by simpa using h
theorem of_flt{a b:Int}(h:(tB (decide (a<b)))=false):b<=a:=by simpa using h
theorem of_feq{a b:Int}(h:(tB (a==b))=false):a≠b:=by simpa using h
structure At (s t:List UInt8) (i:Int):Prop where
 suf:t<:+s
 pos:i+t.length=s.length
 sm:s.length<=1048576
theorem At.next{s t:List UInt8}{i:Int}(h:At s t i)(hn:t≠[]):At s t.tail (i+1):=by
 refine⟨(Yab _).trans h.suf,?_,h.sm⟩;have:=h.pos
 have:t.tail.length+1=t.length:=by cases t with
  |nil=>exact absurd rfl hn
  |cons c t=>simp
 omega
theorem At.lo{s t:List UInt8}{i:Int}(h:At s t i):0<=i/\i<=1048576:=by
 have:=h.pos;have:=h.sm;have:=h.suf.length_le;omega
theorem At.lt{s t:List UInt8}{i:Int}(h:At s t i):i<(s.length:Int)↔t≠[]:=by
 have h1:=h.pos;cases t with
 |nil=>simp at h1;simp;omega
 |cons c t=>simp at h1;simp;omega
theorem At.byte{s t:List UInt8}{i:Int}(h:At s t i)(hn:t≠[]):Zwc s i=hd t:=by
 obtain⟨u,hu⟩:=h.suf;cases t with
 |nil=>exact absurd rfl hn
 |cons c t=>
  have h1:=h.pos;rw[<-hu]at h1⊢;simp only[List.length_append,List.length_cons]at h1;have e:i.toNat=u.length:=by omega
  simp[Zwc,e,hd]
theorem Yal{t:List UInt8}(h:hd t≠0):t≠[]:=by rintro rfl;exact h rfl
theorem Ych(t:List UInt8):hd t<256:=by
 cases t with
 |nil=>simp[hd]
 |cons c t=>exact c.toNat_lt
def PB(q:Ref)(s:List UInt8)(i:Int):List (Ref×List A):=[(.up q,[A.d (.lit (Zco s)),A.d (.lit (.int .i64 i))])]
def Yax(i:Int):Value:=dval (D.lit (.iface 135 (.agg (([D.lit (.int .i64 i)]:List D).map dval).toArray)))
def Res.map{α β:Type}(f:α->β):Res α->Res β|.ok a t=>.ok (f a) t|.bad t=>.bad t
def RetB(v:A)(B:List (Ref×List A)):Out->List (Ref×List A)->Prop:=fun o H=>o=.ret v/\H=B
def PAft(q:Ref)(s:List UInt8)(res:Res A):Out->List (Ref×List A)->Prop:=fun o H=>match res with
 |.ok v t=>o=.ret v/\ ∃i,At s t i/\H=PB q s i
 |.bad t=>∃i j,At s t i/\o=.pan (Yax i)/\H=PB q s j
theorem callB{P:Program}{f:Nat}{args:List A}{v:A}{B B':List (Ref×List A)}(hc:Holds P f args B (RetB v B')){Q1:A->List (Ref×List A)->Prop}{Q2:Value->List (Ref×List A)->Prop}(h:Q1 v B'):
 ∀_:Nat->Nat,∃R':Out->List (Ref×List A)->Prop,Holds P f args B R'/\(∀v H',R' (.ret v) H'->Q1 v H')/\(∀u H',R' (.pan u) H'->Q2 u H'):=
 fun _=>⟨_,hc,fun v' H' e=>by obtain⟨e1,rfl⟩:=e;cases e1;exact h,fun u H' e=>by cases e.1⟩
theorem Ybc{P:Program}{f:Nat}{args:List A}{v:Value}{B B':List (Ref×List A)}(hc:Holds P f args B fun o H=>o=.pan v/\H=B'){Q1:A->List (Ref×List A)->Prop}{Q2:Value->List (Ref×List A)->Prop}(h:Q2 v B'):
 ∀_:Nat->Nat,∃R':Out->List (Ref×List A)->Prop,Holds P f args B R'/\(∀v H',R' (.ret v) H'->Q1 v H')/\(∀u H',R' (.pan u) H'->Q2 u H'):=
 fun _=>⟨_,hc,fun v' H' e=>(by cases e.1),fun u H' e=>by obtain⟨e1,rfl⟩:=e;cases e1;exact h⟩
theorem Ybd{P:Program}{f:Nat}{args:List A}{B:List (Ref×List A)}{q:Ref}{s:List UInt8}{res:Res A}(hc:Holds P f args B (PAft q s res)){Q1:A->List (Ref×List A)->Prop}{Q2:Value->List (Ref×List A)->Prop}
 (h1:∀v t i,res=.ok v t->At s t i->Q1 v (PB q s i)) (h2:∀t i j,res=.bad t->At s t i->Q2 (Yax i) (PB q s j)):
 ∀_:Nat->Nat,∃R':Out->List (Ref×List A)->Prop,Holds P f args B R'/\(∀v H',R' (.ret v) H'->Q1 v H')/\(∀u H',R' (.pan u) H'->Q2 u H'):=by
 refine fun _=>⟨_,hc,fun v' H' e=>(by
  cases res with
  |ok v t=>obtain⟨e1,i,hi,rfl⟩:=e;cases e1;exact h1 _ t i rfl hi
  |bad t=>obtain⟨i,j,hi,e1,_⟩:=e;cases e1),fun u H' e=>by
  cases res with
  |ok v t=>cases e.1
  |bad t=>obtain⟨i,j,hi,e1,rfl⟩:=e;cases e1;exact h2 t i j rfl hi⟩
theorem Yao{q:Ref}{s t:List UInt8}{v:A}{res:Res A}{i:Int}(h:res=.ok v t)(hi:At s t i):PAft q s res (.ret v) (PB q s i):=by subst h;exact⟨rfl,i,hi,rfl⟩
theorem Yac{q:Ref}{s t:List UInt8}{res:Res A}{i j:Int}(h:res=.bad t)(hi:At s t i):PAft q s res (.pan (Yax i)) (PB q s j):=by subst h;exact⟨i,j,hi,rfl,rfl⟩
theorem Yar{α β:Type}{f:α->β}{r:Res α}{b:β}{t:List UInt8}(h:r.map f=.ok b t):∃a,r=.ok a t/\f a=b:=by
 cases r with
 |ok a t'=>cases h;exact⟨a,rfl,rfl⟩
 |bad t'=>cases h
theorem Yaq{α β:Type}{f:α->β}{r:Res α}{t:List UInt8}(h:r.map f=.bad t):r=.bad t:=by
 cases r with
 |ok a t'=>cases h
 |bad t'=>cases h;rfl
theorem c49{q:Ref}{s t:List UInt8}{i:Int}(h:At s t i):Holds Tryz.prog 138 [A.ptr (.up q) 0] (PB q s i) (RetB (.d (.lit (.int .u8 (hd t)))) (PB q s i)):=by
 refine w49 s i q ⟨fun hc=>?_,fun hc=>?_⟩
 ·have hn:=h.lt.1 (of_tlt hc);exact⟨tle h.lo.1,by rw[h.byte hn];exact⟨rfl,rfl⟩⟩
 ·have hn:t=[]:=Classical.byContradiction fun hn=>by have:=h.lt.2 hn;have:=of_flt hc;omega
  subst hn;exact⟨rfl,rfl⟩
theorem c38{q:Ref}{s:List UInt8}{i j:Int}:Holds Tryz.prog 128 [A.ptr (.up q) 0,A.d (.lit (.int .i64 j))] (PB q s i) (fun o H=>o=.pan (Yax j)/\H=PB q s i):=
 w38 s i j q ⟨rfl,rfl,rfl⟩
theorem c50(k:Int)(l:List Rx):Holds Tryz.prog 139 [A.d (.lit (.int .i64 k)),A.d (.slc (encs l))] [] (Ret (.agg (enc (Ydd k l)))):=by
 refine w50 k (encs l) ⟨fun h=>?_,fun h=>?_⟩
 ·have h:=of_teq h;simp only[Yaw]at h
  match l,h with
  |[r],_=>
   have e:gAt (encs [r]) 0=enc r:=rfl;rw[e];exact⟨tlt (by simp),teq (by simp),rfl,rfl⟩
 ·have h:=of_feq h;simp only[Yaw]at h
  match l,h with
  |[],_=>exact⟨rfl,rfl⟩
  |[r],h=>exact absurd rfl h
  |_::_::_,_=>exact⟨rfl,rfl⟩
theorem c81(c:Nat)(h:c<256):Holds Tryz.prog 162 [A.d (.lit (.int .u8 c))] [] (Ret (.agg (enc (oneX c)))):=
 w81 c (call1 (c79' c c h h) ⟨_,rfl,rfl,rfl,rfl,rfl⟩)
theorem nib(n d:Nat)(hn:n<16)(hd:d<16):gOr .u8 (gShl .u8 (n:Int) 4) (d:Int)=((n*16+d:Nat):Int):=by
 have:∀n<16,∀d<16,gOr .u8 (gShl .u8 ((n:Nat):Int) 4) ((d:Nat):Int)=((n*16+d:Nat):Int):=by decide
 exact this n hn d hd
theorem Ybj{x d:Nat}(h:hexV x=some d):d<16:=by
 unfold hexV at h
 repeat' split at h
 all_goals first|cases h;omega|cases h
def u8A(n:Nat):A:=.d (.lit (.int .u8 n))
theorem c93{q:Ref}{s t:List UInt8}{i:Int}(lo:Nat)(h:At s t (i+1)):Holds Tryz.prog 175 [A.ptr (.up q) 0,A.d (.lit (.int .u8 lo))] (PB q s i) (PAft q s ((hexR lo t).map u8A)):=by
 refine w93 s i lo q ⟨fun x k s' i'=>s'=s/\((k=0/\x=0/\i'=i)\/(∃d,hexV (hd t)=some d/\ ¬d*16+15<lo/\k=1/\x=(d:Nat)/\i'=i+1)\/(∃d,hexR lo t=.ok d t.tail.tail/\k=2/\x=(d:Nat)/\At s t.tail.tail (i'+1))),fun _ k _ _=>2-k.toNat,⟨rfl,.inl ⟨rfl,rfl,rfl⟩⟩,?_,trivial⟩;have hlo:=h.lo;rintro x k s' i' ⟨rfl,⟨rfl,rfl,rfl⟩|⟨d,hd1,hd2,rfl,rfl,rfl⟩|⟨d,hd1,rfl,rfl,hd2⟩⟩
 ·refine⟨fun _=>⟨tle (by omega),fun _=>⟨tle (by omega),tle (by omega),callB (c49 h) ⟨_,_,_,rfl,rfl,call1 (c101 (hd t) (Ych t)) ⟨_,_,rfl,rfl,fun hc=>?_,fun hc=>?_⟩⟩⟩,fun h0=>absurd rfl (of_feq h0)⟩,fun h0=>absurd (of_flt h0) (by decide)⟩
  ·refine Ybc c38 ⟨_,_,rfl,?_⟩;refine Yac (t:=t) ?_ h;unfold hexR;cases hv:hexV (hd t)with
   |none=>rfl
   |some d=>
    have h1:=Ybj hv;rw[hv]at hc;rw[show((0:Int))=((0:Nat):Int)from rfl]at hc
    simp only[Option.getD_some,Option.isSome_some,nib 0 d (by decide) h1,show(15:Int)=((15:Nat):Int)from rfl,nib (0*16+d) 15 (by omega) (by decide),Bool.not_true,Bool.false_or]at hc
    have hc:=of_tlt hc;dsimp only;rw[if_pos (by omega)];rfl
  ·refine⟨tle (by omega),tle (by omega),⟨rfl,.inr (.inl ?_)⟩,by simp⟩;cases hv:hexV (hd t)with
   |none=>rw[hv]at hc;cases hc
   |some d=>
    have h1:=Ybj hv;rw[hv]at hc;rw[show((0:Int))=((0:Nat):Int)from rfl]at hc⊢
    simp only[Option.getD_some,Option.isSome_some,nib 0 d (by decide) h1,show(15:Int)=((15:Nat):Int)from rfl,nib (0*16+d) 15 (by omega) (by decide),Bool.not_true,Bool.false_or]at hc⊢
    have hc:=of_flt hc;exact⟨d,rfl,by omega,by omega,by omega,trivial⟩
 ·have hne:=Yal (Yb5 hd1);have h2:=h.next hne
  have h1:=Ybj hd1;have hlo2:=h2.lo;refine⟨fun _=>⟨tle (by omega),fun h0=>absurd (of_teq h0) (by decide),fun _=>⟨teq rfl,tle (by omega),tle (by omega),callB (c49 h2) ⟨_,_,_,rfl,rfl,call1 (c101 (hd t.tail) (Ych _)) ⟨_,_,rfl,rfl,fun hc=>?_,fun hc=>?_⟩⟩⟩⟩,fun h0=>absurd (of_flt h0) (by decide)⟩
  ·refine Ybc c38 ⟨_,_,rfl,?_⟩;refine Yac (t:=t.tail) ?_ h2;unfold hexR;rw[hd1];dsimp only;rw[if_neg hd2];cases hv:hexV (hd t.tail)with
   |none=>rfl
   |some e=>
    have h3:=Ybj hv;rw[hv]at hc;simp only[Option.getD_some,Option.isSome_some,nib d e h1 h3,Bool.not_true,Bool.false_or]at hc;have hc:=of_tlt hc;dsimp only;rw[if_pos (by omega)];rfl
  ·refine⟨tle (by omega),tle (by omega),⟨rfl,.inr (.inr ?_)⟩,by simp⟩;cases hv:hexV (hd t.tail)with
   |none=>rw[hv]at hc;cases hc
   |some e=>
    have h3:=Ybj hv;rw[hv]at hc;simp only[Option.getD_some,Option.isSome_some,nib d e h1 h3,Bool.not_true,Bool.false_or]at hc⊢;have hc:=of_flt hc;refine⟨d*16+e,?_,by omega,by omega,h2.next (Yal (Yb5 hv))⟩
    unfold hexR;rw[hd1];dsimp only;rw[if_neg hd2,hv];dsimp only;rw[if_neg (by omega)]
 ·refine⟨fun h0=>absurd (of_tlt h0) (by decide),fun _=>⟨?_,?_,?_⟩⟩
  ·have:=hd2.lo;exact tle (by omega)
  ·have:=hd2.lo;exact tle (by omega)
  ·exact Yao (by rw[hd1];rfl) hd2
end Go.Rx
end
section
open Go Go.Proofs Go.Ab Go.Rf
set_option maxRecDepth 100000
namespace Go.Rx
theorem At.end_{s t:List UInt8}{i:Int}(h:At s t i)(hc:(s.length:Int)<=i):t=[]:=Classical.byContradiction fun hn=>by have:=h.lt.2 hn;omega
theorem At.more{s t:List UInt8}{i:Int}(h:At s t i)(hc:i<(s.length:Int)):t≠[]:=h.lt.1 hc
theorem Ydv{x:Nat}(h1:x≠110)(h2:x≠116)(h3:x≠114):ctlV x=none:=by
 unfold ctlV;rw[if_neg h1,if_neg h2,if_neg h3]
def escL:List UInt8:=[40,41,91,93,123,125,124,42,43,63,46,92,45,94]
theorem Yem(x:Nat):(escL.any fun b=>b.toNat==x)=(spcV x||x==94||x==45):=by
 simp only[escL,spcV,spcL,List.any_cons,List.any_nil,Bool.or_false];have e1:((45:UInt8).toNat==x)=(x==45):=Bool.eq_iff_iff.2 (by simp;exact eq_comm);have e2:((94:UInt8).toNat==x)=(x==94):=Bool.eq_iff_iff.2 (by simp;exact eq_comm);rw[e1,e2];cases x==94<;>cases x==45<;>simp
theorem c82{q:Ref}{s t:List UInt8}{i:Int}(lo:Nat)(h:At s t (i+1)):Holds Tryz.prog 163 [A.ptr (.up q) 0,A.d (.lit (.int .u8 lo))] (PB q s i) (PAft q s ((escR lo t).map u8A)):=by
 have hlo:=h.lo
 have fin:∀n:Nat,t≠[]->hd t≠120->escV (hd t)=some n->(lo:Int)<=(n:Int)->PAft q s ((escR lo t).map u8A) (.ret (u8A n)) (PB q s (i+1+1)):=fun n hn h1 h2 h3=>by
  refine Yao (t:=t.tail) ?_ (h.next hn)
  unfold escR;rw[if_neg h1,h2];dsimp only;rw[if_neg (by omega)];rfl
 have low:∀(n:Nat)(j:Int),hd t≠120->escV (hd t)=some n->(n:Int)<(lo:Int)->PAft q s ((escR lo t).map u8A) (.pan (Yax (i+1))) (PB q s j):=fun n j h1 h2 h3=>by
  refine Yac (t:=t) ?_ h;unfold escR;rw[if_neg h1,h2];dsimp only;rw[if_pos (by omega)];rfl
 have non:∀(j:Int),hd t≠120->escV (hd t)=none->PAft q s ((escR lo t).map u8A) (.pan (Yax (i+1))) (PB q s j):=fun j h1 h2=>by
  refine Yac (t:=t) ?_ h;unfold escR;rw[if_neg h1,h2];rfl
 refine w82 s i lo q ⟨tle (by omega),tle (by omega),callB (c49 h) ⟨_,_,_,rfl,rfl,fun hc=>?_,fun hc=>⟨fun h0=>?_,fun h0=>⟨fun h1=>⟨fun h2=>?_,fun h2=>?_⟩,fun h1=>⟨fun h2=>⟨fun h3=>?_,fun h3=>?_⟩,fun h2=>⟨fun h3=>⟨fun h4=>?_,fun h4=>?_⟩,fun h3=>?_⟩⟩⟩⟩⟩⟩
 ·have ht:=h.end_ (Ycg hc);subst ht;have e:(s.length:Int)=i+1:=by have:=h.pos;simp at this;omega
  rw[e];exact Ybc c38 ⟨_,_,rfl,non _ (by decide) rfl⟩
 ·have h0:=of_teq h0;have e:escR lo t=hexR lo t.tail:=by unfold escR;rw[if_pos (by omega)]
  have hn:=h.more (Ybf hc);rw[e];exact Ybd (c93 lo (h.next hn)) (fun v t' i' e hi=>by obtain⟨n,e1,rfl⟩:=Yar e;exact⟨_,_,_,rfl,rfl,Yao e hi⟩) (fun t' i' j e hi=>⟨_,_,rfl,Yac e hi⟩)
 ·exact Ybc c38 ⟨_,_,rfl,low 10 _ (by have:=of_feq h0;omega) (by rw[show hd t=110 by have:=of_teq h1;omega];rfl) (of_tlt h2)⟩
 ·exact⟨tle (by omega),tle (by omega),fin 10 (h.more (Ybf hc)) (by have:=of_feq h0;omega) (by rw[show hd t=110 by have:=of_teq h1;omega];rfl) (of_flt h2)⟩
 ·exact Ybc c38 ⟨_,_,rfl,low 9 _ (by have:=of_feq h0;omega) (by rw[show hd t=116 by have:=of_teq h2;omega];rfl) (of_tlt h3)⟩
 ·exact⟨tle (by omega),tle (by omega),fin 9 (h.more (Ybf hc)) (by have:=of_feq h0;omega) (by rw[show hd t=116 by have:=of_teq h2;omega];rfl) (of_flt h3)⟩
 ·exact Ybc c38 ⟨_,_,rfl,low 13 _ (by have:=of_feq h0;omega) (by rw[show hd t=114 by have:=of_teq h3;omega];rfl) (of_tlt h4)⟩
 ·exact⟨tle (by omega),tle (by omega),fin 13 (h.more (Ybf hc)) (by have:=of_feq h0;omega) (by rw[show hd t=114 by have:=of_teq h3;omega];rfl) (of_flt h4)⟩
 ·have hx:hd t≠120:=by have:=of_feq h0;omega
  have ec:ctlV (hd t)=none:=Ydv (by have:=of_feq h1;omega) (by have:=of_feq h2;omega) (by have:=of_feq h3;omega);have hidx:=idxV_nonneg escL (hd t) (Ych t);rw[Yem]at hidx;refine call1 (c83 escL (hd t)) ⟨_,rfl,rfl,fun h4=>?_,fun h4=>⟨fun h5=>?_,fun h5=>?_⟩⟩
  ·have h4:=of_tlt h4;have hb:¬((spcV (hd t)||hd t==94||hd t==45)=true):=fun hb=>by have:=hidx.2 hb;omega
   refine Ybc c38 ⟨_,_,rfl,non _ hx ?_⟩;unfold escV;rw[ec];dsimp only;rw[if_neg hb]
  ·have h4:=of_flt h4;have es:escV (hd t)=some (hd t):=by unfold escV;rw[ec];dsimp only;rw[if_pos (hidx.1 h4)]
   exact Ybc c38 ⟨_,_,rfl,low _ _ hx es (of_tlt h5)⟩
  ·have h4:=of_flt h4;have es:escV (hd t)=some (hd t):=by unfold escV;rw[ec];dsimp only;rw[if_pos (hidx.1 h4)]
   exact⟨tle (by omega),tle (by omega),fin _ (h.more (Ybf hc)) hx es (of_flt h5)⟩
def itemL:List UInt8:=[40,41,91,93,123,125,124,42,43,63,46,94,45]
theorem Ydw(x:Nat)(h:x≠92):(itemL.any fun b=>b.toNat==x)=(spcV x||x==94||x==45):=by
 simp only[itemL,spcV,spcL,List.any_cons,List.any_nil,Bool.or_false];have e1:((45:UInt8).toNat==x)=(x==45):=Bool.eq_iff_iff.2 (by simp;exact eq_comm);have e2:((94:UInt8).toNat==x)=(x==94):=Bool.eq_iff_iff.2 (by simp;exact eq_comm);have e3:((92:UInt8).toNat==x)=false:=by simpa using fun e=>h e.symm
 rw[e1,e2,e3];simp[Bool.or_assoc]
theorem c90{q:Ref}{s t:List UInt8}{i:Int}(lo:Nat)(h:At s t i):Holds Tryz.prog 172 [A.ptr (.up q) 0,A.d (.lit (.int .u8 lo))] (PB q s i) (PAft q s ((Yay lo t).map u8A)):=by
 have hlo:=h.lo
 have bad:∀(j:Int),hd t≠92->(hd t<32\/126<hd t\/hd t<lo\/(spcV (hd t)||hd t==94||hd t==45)=true)->PAft q s ((Yay lo t).map u8A) (.pan (Yax i)) (PB q s j):=fun j h1 h2=>by
  refine Yac (t:=t) ?_ h;unfold Yay;rw[if_neg h1,if_pos h2];rfl
 refine w90 s i lo q (callB (c49 h) ⟨_,_,_,rfl,rfl,fun hc=>?_,fun hc=>⟨fun h0=>?_,fun h0=>⟨fun h1=>?_,fun h1=>?_⟩⟩⟩)
 ·have ht:=h.end_ (Ycg hc);subst ht;have e:(s.length:Int)=i:=by have:=h.pos;simp at this;omega
  rw[e];exact Ybc c38 ⟨_,_,rfl,bad _ (by decide) (.inl (by decide))⟩
 ·have h0:=of_teq h0;have e:Yay lo t=escR lo t.tail:=by unfold Yay;rw[if_pos (by omega)]
  rw[e];exact Ybd (c82 lo (h.next (h.more (Ybf hc)))) (fun v t' i' e hi=>by obtain⟨n,e1,rfl⟩:=Yar e;exact⟨_,_,_,rfl,rfl,Yao e hi⟩) (fun t' i' j e hi=>⟨_,_,rfl,Yac e hi⟩)
 ·have hx:hd t≠92:=by have:=of_feq h0;omega
  have hidx:=idxV_nonneg itemL (hd t) (Ych t);rw[Ydw _ hx]at hidx;simp only[Zwb,Bool.not_eq_true',Bool.or_eq_false_iff,decide_eq_false_iff_not]at h1;refine call1 (c83 itemL (hd t)) ⟨_,rfl,rfl,fun h4=>?_,fun h4=>?_⟩
  ·exact Ybc c38 ⟨_,_,rfl,bad _ hx (.inr (.inr (.inr (hidx.1 (Ycg h4)))))⟩
  ·have h4:=Ybf h4;refine⟨tle (by omega),tle (by omega),Yao (t:=t.tail) ?_ (h.next (h.more (Ybf hc)))⟩
   unfold Yay;rw[if_neg hx,if_neg]
   ·rfl
   ·rintro(h5|h5|h5|h5)
    ·omega
    ·omega
    ·omega
    ·have:=hidx.2 h5;omega
 ·have hx:hd t≠92:=by have:=of_feq h0;omega
  simp only[Zwb,Bool.not_eq_false',Bool.or_eq_true,decide_eq_true_eq]at h1;exact Ybc c38 ⟨_,_,rfl,bad _ hx (by omega)⟩
def setC(n:Nat)(neg:Bool)(p:Nat->Bool)(t:List UInt8):Option (Res Rx):=if hd t=93 then some (.ok (setX (negP neg p)) t.tail)else setL n neg p t
structure SetI (s:List UInt8) (neg:Bool) (res:Res Rx) (b:Bool) (a0 a1 a2 a3:D) (s':List UInt8) (i:Int) (n:Nat) (p:Nat->Bool) (t:List UInt8):Prop where
 es:s'=s
 e0:a0=.lit (.int .u64 (wd p 0))
 e1:a1=.lit (.int .u64 (wd p 1))
 e2:a2=.lit (.int .u64 (wd p 2))
 e3:a3=.lit (.int .u64 (wd p 3))
 at_:At s t i
 run:(if b then setL n neg p t else setC n neg p t)=some res
theorem Yci{n:Nat}{neg:Bool}{p:Nat->Bool}{t t1 t3:List UInt8}{lo hi:Nat}{res:Res Rx}(h:setL n neg p t=some res)(h1:Yay 0 t=.ok lo t1)(h2:hiR lo t1=.ok hi t3):∃m,setC m neg (orP p (rng lo hi)) t3=some res:=by
 cases n with
 |zero=>simp[setL]at h
 |succ m=>
  refine⟨m,?_⟩;unfold setL at h;rw[h1]at h;dsimp only at h;rw[h2]at h;exact h
theorem Ycj{n:Nat}{neg:Bool}{p:Nat->Bool}{t q:List UInt8}{res:Res Rx}(h:setL n neg p t=some res)(h1:Yay 0 t=.bad q):res=.bad q:=by
 cases n with
 |zero=>simp[setL]at h
 |succ m=>
  unfold setL at h;rw[h1]at h;cases h;rfl
theorem Yck{n:Nat}{neg:Bool}{p:Nat->Bool}{t t1 q:List UInt8}{lo:Nat}{res:Res Rx}(h:setL n neg p t=some res)(h1:Yay 0 t=.ok lo t1)(h2:hiR lo t1=.bad q):res=.bad q:=by
 cases n with
 |zero=>simp[setL]at h
 |succ m=>
  unfold setL at h;rw[h1]at h;dsimp only at h;rw[h2]at h;cases h;rfl
theorem SetI.lt{s t:List UInt8}{i i':Int}{t':List UInt8}(h:At s t i)(h':At s t' i')(hl:t'.length<t.length):((s.length:Int)-i').toNat<((s.length:Int)-i).toNat:=by
 have:=h.pos;have:=h'.pos;omega
theorem Yas(lo:Nat){t t':List UInt8}{n:Nat}(h:Yay lo t=.ok n t'):n<256:=by
 have h0:=Ych t
 have hx:∀t:List UInt8,hexR lo t=.ok n t'->n<256:=fun t h=>by
  unfold hexR at h;split at h
  ·cases h
  ·rename_i d hd1;split at h
   ·cases h
   ·split at h
    ·cases h
    ·rename_i e hd2;have:=Ybj hd1;have:=Ybj hd2;split at h
     ·cases h
     ·cases h;omega
 unfold Yay at h;split at h
 ·unfold escR at h;split at h
  ·exact hx _ h
  ·split at h
   ·cases h
   ·rename_i m hm;split at h
    ·cases h
    ·cases h;have h1:=Ych t.tail;unfold escV at hm;split at hm
     ·rename_i k hk;cases hm;unfold ctlV at hk
      repeat' split at hk
      all_goals first|cases hk;decide|cases hk
     ·split at hm
      ·cases hm;exact h1
      ·cases hm
 ·split at h
  ·cases h
  ·cases h;exact h0
theorem c79r(lo hi:Nat)(h:hi<256)(hl:lo<256):∀_:Nat->Nat,Holds Tryz.prog 160 [A.d (.lit (.int .u8 lo)),A.d (.lit (.int .u8 hi))] [] (Zpq [] (.agg (row4 (rng lo hi)))):=fun _=>c79' lo hi h hl
theorem Ycl(k:Nat):wd no k=0:=Ycy (by decide) fun j _=>Nat.zero_testBit j
theorem c78{q:Ref}{s t:List UInt8}{i:Int}(n:Nat)(res:Res Rx)(hr:setR n t=some res)(h:At s t (i+1)):Holds Tryz.prog 159 [A.ptr (.up q) 0] (PB q s i) (PAft q s (res.map fun r=>A.agg (enc r))):=by
 have hlo:=h.lo;refine w78 s i q ⟨tle (by omega),tle (by omega),callB (c49 h) ⟨_,_,_,rfl,rfl,fun h0=>⟨tle (by omega),tle (by omega),?_⟩,fun h0=>callB (c49 h) ⟨_,_,_,rfl,rfl,fun h1=>?_,fun h1=>?_⟩⟩⟩
 ·have h0:=of_teq h0;have hn:t≠[]:=Yal (by omega);have hr':setL n true no t.tail=some res:=by unfold setR at hr;rw[if_pos (by omega)]at hr;exact hr
  refine⟨fun b a0 a1 a2 a3 s' i'=>∃n p t,SetI s true res b a0 a1 a2 a3 s' i' n p t,fun _ _ _ _ _ s' i'=>((s'.length:Int)-i').toNat,⟨n,no,t.tail,rfl,by simp[Ycl],by simp[Ycl],by simp[Ycl],by simp[Ycl],h.next hn,hr'⟩,?_,trivial⟩
  rintro b a0 a1 a2 a3 s' i' ⟨m,p,t',rfl,rfl,rfl,rfl,rfl,hat,hrun⟩;have hlo':=hat.lo
  have key:∀n,setL n true p t'=some res-> ∀lo t1 i1,Yay 0 t'=.ok lo t1->At s' t1 i1-> ∀hi t3 i3,hiR lo t1=.ok hi t3->At s' t3 i3->
   (∃n p' t,SetI s' true res false ((row4 (orP p (rng lo hi))).getD 0 D0) ((row4 (orP p (rng lo hi))).getD 1 D0) ((row4 (orP p (rng lo hi))).getD 2 D0) ((row4 (orP p (rng lo hi))).getD 3 D0) s' i3 n p' t)/\((s'.length:Int)-i3).toNat<((s'.length:Int)-i').toNat:=fun n hs lo t1 i1 e1 h1 hi t3 i3 e2 h2=>by
   obtain⟨m,hm⟩:=Yci hs e1 e2;refine⟨⟨m,orP p (rng lo hi),t3,rfl,rfl,rfl,rfl,rfl,h2,hm⟩,SetI.lt hat h2 ?_⟩;have hl1:=Ybm 0 t';rw[e1]at hl1;have hl2:=Yc5 lo t1;rw[e2]at hl2;have:=hl1.1;have:=List.IsSuffix.length_le hl2;omega
  refine⟨fun hb=>callB (c49 hat) ⟨_,_,_,rfl,rfl,fun hc=>?_,fun hc=>?_⟩,fun hb=>?_⟩
  rotate_left
  ·have hc:hd t'=93:=by simp at hc;omega
   have hn':t'≠[]:=Yal (by omega);have hb:b=false:=by simpa using hb
   subst hb;simp only[Bool.false_eq_true,if_false,setC,if_pos hc]at hrun;cases hrun;refine⟨tle (by omega),tle (by omega),call1 (c92 p) ⟨_,rfl,rfl,rfl,?_⟩⟩;exact⟨rfl,_,hat.next hn',rfl⟩
  all_goals
   have hrun':setL m true p t'=some res:=by
    first
     |(have hb:b=true:=by simpa using hb
       subst hb;exact hrun)
     |(have hb:b=false:=by simpa using hb
       subst hb;have hc:hd t'≠93:=by simp at hc;omega
       simp only[Bool.false_eq_true,if_false,setC,if_neg hc]at hrun;exact hrun)
   refine Ybd (c90 0 hat) (fun v t1 i1 e1 hi1=>?_) (fun t1 i1 j e1 hi1=>?_)
   ·obtain⟨lo,f1,rfl⟩:=Yar e1;have hlo1:=hi1.lo;refine⟨_,_,_,rfl,rfl,callB (c49 hi1) ⟨_,_,_,rfl,rfl,fun h2=>?_,fun h2=>?_⟩⟩
    ·have h2:=of_teq h2;have hn1:t1≠[]:=Yal (by omega);have eh:hiR lo t1=Yay lo t1.tail:=by unfold hiR;rw[if_pos (by omega)]
     refine⟨tle (by omega),tle (by omega),Ybd (c90 lo (hi1.next hn1)) (fun v t3 i3 e3 hi3=>?_) (fun t3 i3 j e3 hi3=>?_)⟩
     ·obtain⟨hi,f3,rfl⟩:=Yar e3;exact⟨_,_,_,rfl,rfl,_,c79r lo hi (Yas _ f3) (Yas _ f1),call1 (c91' p (rng lo hi)) ⟨_,rfl,rfl,rfl,(key m hrun' lo t1 i1 f1 hi1 hi t3 i3 (by rw[eh,f3]) hi3)⟩⟩
     ·have e3:=Yaq e3;have:=Yck hrun' f1 (by rw[eh,e3]);subst this;exact⟨_,_,rfl,Yac rfl hi3⟩
    ·have h2:=of_feq h2;have eh:hiR lo t1=.ok lo t1:=by unfold hiR;rw[if_neg (by omega)]
     exact⟨_,c79r lo lo (Yas _ f1) (Yas _ f1),call1 (c91' p (rng lo lo)) ⟨_,rfl,rfl,rfl,(key m hrun' lo t1 i1 f1 hi1 lo t1 i1 eh hi1)⟩⟩
   ·have e1:=Yaq e1;have:=Ycj hrun' e1;subst this;exact⟨_,_,rfl,Yac rfl hi1⟩
 ·have h0:=of_feq h0;have h1:=of_teq h1;have hn:t≠[]:=Yal (by omega);unfold setR at hr;rw[if_neg (by omega),if_pos (by omega)]at hr;cases hr;exact⟨tle (by omega),tle (by omega),Yao rfl (h.next hn)⟩
 ·have h0:=of_feq h0;have h1:=of_feq h1;have hr':setL n false no t=some res:=by unfold setR at hr;rw[if_neg (by omega),if_neg (by omega)]at hr;exact hr
  refine⟨fun b a0 a1 a2 a3 s' i'=>∃n p t,SetI s false res b a0 a1 a2 a3 s' i' n p t,fun _ _ _ _ _ s' i'=>((s'.length:Int)-i').toNat,⟨n,no,t,rfl,by simp[Ycl],by simp[Ycl],by simp[Ycl],by simp[Ycl],h,hr'⟩,?_,trivial⟩;rintro b a0 a1 a2 a3 s' i' ⟨m,p,t',rfl,rfl,rfl,rfl,rfl,hat,hrun⟩;have hlo':=hat.lo
  have key:∀n,setL n false p t'=some res-> ∀lo t1 i1,Yay 0 t'=.ok lo t1->At s' t1 i1-> ∀hi t3 i3,hiR lo t1=.ok hi t3->At s' t3 i3->
   (∃n p' t,SetI s' false res false ((row4 (orP p (rng lo hi))).getD 0 D0) ((row4 (orP p (rng lo hi))).getD 1 D0) ((row4 (orP p (rng lo hi))).getD 2 D0) ((row4 (orP p (rng lo hi))).getD 3 D0) s' i3 n p' t)/\((s'.length:Int)-i3).toNat<((s'.length:Int)-i').toNat:=fun n hs lo t1 i1 e1 h1 hi t3 i3 e2 h2=>by
   obtain⟨m,hm⟩:=Yci hs e1 e2;refine⟨⟨m,orP p (rng lo hi),t3,rfl,rfl,rfl,rfl,rfl,h2,hm⟩,SetI.lt hat h2 ?_⟩;have hl1:=Ybm 0 t';rw[e1]at hl1;have hl2:=Yc5 lo t1;rw[e2]at hl2;have:=hl1.1;have:=List.IsSuffix.length_le hl2;omega
  refine⟨fun hb=>callB (c49 hat) ⟨_,_,_,rfl,rfl,fun hc=>?_,fun hc=>?_⟩,fun hb=>?_⟩
  rotate_left
  ·have hc:hd t'=93:=by simp at hc;omega
   have hn':t'≠[]:=Yal (by omega);have hb:b=false:=by simpa using hb
   subst hb;simp only[Bool.false_eq_true,if_false,setC,if_pos hc]at hrun;cases hrun;exact⟨tle (by omega),tle (by omega),rfl,_,hat.next hn',rfl⟩
  all_goals
   have hrun':setL m false p t'=some res:=by
    first
     |(have hb:b=true:=by simpa using hb
       subst hb;exact hrun)
     |(have hb:b=false:=by simpa using hb
       subst hb;have hc:hd t'≠93:=by simp at hc;omega
       simp only[Bool.false_eq_true,if_false,setC,if_neg hc]at hrun;exact hrun)
   refine Ybd (c90 0 hat) (fun v t1 i1 e1 hi1=>?_) (fun t1 i1 j e1 hi1=>?_)
   ·obtain⟨lo,f1,rfl⟩:=Yar e1;have hlo1:=hi1.lo;refine⟨_,_,_,rfl,rfl,callB (c49 hi1) ⟨_,_,_,rfl,rfl,fun h2=>?_,fun h2=>?_⟩⟩
    ·have h2:=of_teq h2;have hn1:t1≠[]:=Yal (by omega);have eh:hiR lo t1=Yay lo t1.tail:=by unfold hiR;rw[if_pos (by omega)]
     refine⟨tle (by omega),tle (by omega),Ybd (c90 lo (hi1.next hn1)) (fun v t3 i3 e3 hi3=>?_) (fun t3 i3 j e3 hi3=>?_)⟩
     ·obtain⟨hi,f3,rfl⟩:=Yar e3;exact⟨_,_,_,rfl,rfl,_,c79r lo hi (Yas _ f3) (Yas _ f1),call1 (c91' p (rng lo hi)) ⟨_,rfl,rfl,rfl,(key m hrun' lo t1 i1 f1 hi1 hi t3 i3 (by rw[eh,f3]) hi3)⟩⟩
     ·have e3:=Yaq e3;have:=Yck hrun' f1 (by rw[eh,e3]);subst this;exact⟨_,_,rfl,Yac rfl hi3⟩
    ·have h2:=of_feq h2;have eh:hiR lo t1=.ok lo t1:=by unfold hiR;rw[if_neg (by omega)]
     exact⟨_,c79r lo lo (Yas _ f1) (Yas _ f1),call1 (c91' p (rng lo lo)) ⟨_,rfl,rfl,rfl,(key m hrun' lo t1 i1 f1 hi1 lo t1 i1 eh hi1)⟩⟩
   ·have e1:=Yaq e1;have:=Ycj hrun' e1;subst this;exact⟨_,_,rfl,Yac rfl hi1⟩
end Go.Rx
end
section
open Go Go.Proofs Go.Ab Go.Rf
set_option maxRecDepth 100000
namespace Go.Rx
def encA(r:Rx):A:=.agg (enc r)
def K37(n:Nat):Prop:=∀(q:Ref)(s t:List UInt8)(i:Int)(res:Res Rx),alts n t=some res->At s t i->Holds Tryz.prog 127 [A.ptr (.up q) 0] (PB q s i) (PAft q s (res.map encA))
def K48(n:Nat):Prop:=∀(q:Ref)(s t:List UInt8)(i:Int)(res:Res Rx),seqs n t=some res->At s t i->Holds Tryz.prog 137 [A.ptr (.up q) 0] (PB q s i) (PAft q s (res.map encA))
def K65(n:Nat):Prop:=∀(q:Ref)(s t:List UInt8)(i:Int)(res:Res Rx),Ya5 n t=some res->At s t i->Holds Tryz.prog 149 [A.ptr (.up q) 0] (PB q s i) (PAft q s (res.map encA))
def K73(n:Nat):Prop:=∀(q:Ref)(s t:List UInt8)(i:Int)(res:Res Rx),atom n t=some res->At s t i->Holds Tryz.prog 154 [A.ptr (.up q) 0] (PB q s i) (PAft q s (res.map encA))
theorem teq6(r:Rx):(tB (((enc r).length:Int)==6))=true:=teq (by simp)
def Yc6(n:Nat)(t:List UInt8):Option (Res Rx):=
 if hd t=41 then some (.ok (mk0 1 []) t.tail)else match alts n t with
  |none=>none
  |some (.bad q)=>some (.bad q)
  |some (.ok r t1)=>some (Ybz r t1)
theorem c77{n:Nat}(K:K37 n){q:Ref}{s t:List UInt8}{i:Int}{res:Res Rx}(hr:Yc6 n t=some res)(h:At s t (i+1)):Holds Tryz.prog 158 [A.ptr (.up q) 0] (PB q s i) (PAft q s (res.map encA)):=by
 have hlo:=h.lo;refine w77 s i q ⟨tle (by omega),tle (by omega),callB (c49 h) ⟨_,_,_,rfl,rfl,fun h0=>?_,fun h0=>?_⟩⟩
 ·have h0:=of_teq h0;unfold Yc6 at hr;rw[if_pos (by omega)]at hr;cases hr;exact⟨tle (by omega),tle (by omega),Yao rfl (h.next (Yal (by omega)))⟩
 ·have h0:=of_feq h0;unfold Yc6 at hr;rw[if_neg (by omega)]at hr;cases ha:alts n t with
  |none=>rw[ha]at hr;cases hr
  |some ra=>
   rw[ha]at hr;refine Ybd (K (.up q) s t (i+1) ra ha h) (fun v t1 i1 e1 hi1=>?_) (fun t1 i1 j e1 hi1=>?_)
   ·obtain⟨r,f1,rfl⟩:=Yar e1;subst f1;cases hr;have hlo1:=hi1.lo;refine⟨_,_,_,rfl,rfl,teq6 r,callB (c49 hi1) ⟨_,_,_,rfl,rfl,fun h2=>?_,fun h2=>?_⟩⟩
    ·have h2:hd t1≠41:=by simp at h2;omega
     refine Ybc c38 ⟨_,_,rfl,Yac (t:=t1) ?_ hi1⟩;unfold Ybz;rw[if_neg h2];rfl
    ·have h2:hd t1=41:=by simp at h2;omega
     refine⟨tle (by omega),tle (by omega),Yao (t:=t1.tail) ?_ (hi1.next (Yal (by omega)))⟩
     unfold Ybz;rw[if_pos h2];rfl
   ·have f1:=Yaq e1;subst f1;cases hr;exact⟨_,_,rfl,Yac rfl hi1⟩
theorem c73{n:Nat}(K:K37 n):K73 (n+1):=by
 intro q s t i res hr h;have hlo:=h.lo;have hx:=Ych t;unfold atom at hr
 have bad:hd t≠40->hd t≠91->hd t≠46->hd t≠92->(hd t<32\/126<hd t\/spcV (hd t)=true)-> ∀j,PAft q s (res.map encA) (.pan (Yax i)) (PB q s j):=fun h1 h2 h3 h4 h5 j=>by
  rw[if_neg h1,if_neg h2,if_neg h3,if_neg h4,if_pos h5]at hr;cases hr;exact Yac rfl h
 refine w73 s i q (callB (c49 h) ⟨_,_,_,rfl,rfl,fun hc=>?_,fun hc=>⟨fun h0=>?_,fun h0=>⟨fun h1=>?_,fun h1=>⟨fun h2=>?_,fun h2=>⟨fun h3=>?_,fun h3=>⟨fun h4=>?_,fun h4=>?_⟩⟩⟩⟩⟩⟩)
 ·have ht:=h.end_ (Ycg hc);subst ht;have e:(s.length:Int)=i:=by have:=h.pos;simp at this;omega
  rw[e];exact Ybc c38 ⟨_,_,rfl,bad (by decide) (by decide) (by decide) (by decide) (.inl (by decide)) _⟩
 ·have h0:=of_teq h0;have hn:t≠[]:=Yal (by omega);rw[if_pos (by omega)]at hr;have hg:Yc6 n t.tail=some res:=hr;exact Ybd (c77 K hg (h.next hn)) (fun v t1 i1 e1 hi1=>by obtain⟨r,f1,rfl⟩:=Yar e1;exact⟨_,_,_,rfl,rfl,teq6 r,Yao e1 hi1⟩) (fun t1 i1 j e1 hi1=>⟨_,_,rfl,Yac e1 hi1⟩)
 ·have h0:=of_feq h0;have h1:=of_teq h1;have hn:t≠[]:=Yal (by omega);rw[if_neg (by omega),if_pos (by omega)]at hr;exact Ybd (c78 n res hr (h.next hn)) (fun v t1 i1 e1 hi1=>by obtain⟨r,f1,rfl⟩:=Yar e1;exact⟨_,_,_,rfl,rfl,teq6 r,Yao e1 hi1⟩) (fun t1 i1 j e1 hi1=>⟨_,_,rfl,Yac e1 hi1⟩)
 ·have h0:=of_feq h0;have h1:=of_feq h1;have h2:=of_teq h2;have hn:t≠[]:=Yal (by omega);rw[if_neg (by omega),if_neg (by omega),if_pos (by omega)]at hr;cases hr;exact⟨tle (by omega),tle (by omega),call1 (c79' 0 255 (by decide) (by decide)) ⟨_,rfl,rfl,rfl,Yao rfl (h.next hn)⟩⟩
 ·have h0:=of_feq h0;have h1:=of_feq h1;have h2:=of_feq h2;have h3:=of_teq h3;have hn:t≠[]:=Yal (by omega);have h':=h.next hn
  have hlo':=h'.lo;rw[if_neg (by omega),if_neg (by omega),if_neg (by omega),if_pos (by omega)]at hr
  have esc:clsV (hd t.tail)=none-> ∀(Q1:A->List (Ref×List A)->Prop)(Q2:Value->List (Ref×List A)->Prop),(∀c t1 i1,c<256->At s t1 i1->PAft q s (res.map encA) (.ret (encA (oneX c))) (PB q s i1)->Q1 (u8A c) (PB (.up q) s i1))->(∀i1 j,PAft q s (res.map encA) (.pan (Yax i1)) (PB q s j)->Q2 (Yax i1) (PB (.up q) s j))->
   ∀_:Nat->Nat,∃R':Out->List (Ref×List A)->Prop,Holds Tryz.prog 163 [(A.ptr (.up (Ref.up q)) 0),A.d (.lit (.int .u8 (0:Int)))] (PB (.up q) s i) R'/\(∀v H',R' (.ret v) H'->Q1 v H')/\(∀u H',R' (.pan u) H'->Q2 u H'):=fun hcl Q1 Q2 k1 k2=>by
   rw[hcl]at hr;refine Ybd (c82 0 h') (fun v t1 i1 e1 hi1=>?_) (fun t1 i1 j e1 hi1=>?_)
   ·obtain⟨c,f1,rfl⟩:=Yar e1;rw[f1]at hr;cases hr;have hc:c<256:=Yas 0 (t:=t) (by unfold Yay;rw[if_pos (by omega),f1]);exact k1 c t1 i1 hc hi1 (Yao rfl hi1)
   ·have f1:=Yaq e1;rw[f1]at hr;cases hr;exact k2 i1 j (Yac rfl hi1)
  refine⟨tle (by omega),tle (by omega),fun hm=>?_,fun hm=>?_⟩
  ·have hn':=h'.more (of_tlt hm);rw[h'.byte hn'];refine⟨tle (by omega),call1 (c80 (hd t.tail) (Ych _)) ⟨_,_,rfl,rfl,rfl,fun hs=>?_,fun hs=>?_⟩⟩
   ·cases hcl:clsV (hd t.tail)with
    |none=>rw[hcl]at hs;cases hs
    |some p=>
     rw[hcl]at hr;cases hr;have h'':=h'.next hn'
     rw[show i+1+1=i+2 by omega]at h'';exact⟨tle (by omega),tle (by omega),Yao rfl h''⟩
   ·cases hcl:clsV (hd t.tail)with
    |some p=>rw[hcl]at hs;cases hs
    |none=>
     exact esc hcl _ _ (fun c t1 i1 hc hi1 k=>⟨_,_,_,rfl,rfl,call1 (c81 c hc) ⟨_,rfl,rfl,teq6 _,k⟩⟩) (fun i1 j k=>⟨_,_,rfl,k⟩)
  ·have hn':=h'.end_ (of_flt hm);exact esc (by rw[hn'];rfl) _ _ (fun c t1 i1 hc hi1 k=>⟨_,_,_,rfl,rfl,call1 (c81 c hc) ⟨_,rfl,rfl,teq6 _,k⟩⟩) (fun i1 j k=>⟨_,_,rfl,k⟩)
 ·have h0:=of_feq h0;have h1:=of_feq h1;have h2:=of_feq h2;have h3:=of_feq h3;simp only[Zwb,Bool.not_eq_true',Bool.or_eq_false_iff,decide_eq_false_iff_not]at h4;have hidx:=idxV_nonneg spcL (hd t) hx;refine call1 (c83 spcL (hd t)) ⟨_,rfl,rfl,fun h5=>?_,fun h5=>?_⟩
  ·exact Ybc c38 ⟨_,_,rfl,bad (by omega) (by omega) (by omega) (by omega) (.inr (.inr (hidx.1 (Ycg h5)))) _⟩
  ·have h5:=Ybf h5;have hn:=h.more (Ybf hc);have hsp:¬spcV (hd t)=true:=fun hb=>by have:=hidx.2 hb;omega
   rw[if_neg (by omega),if_neg (by omega),if_neg (by omega),if_neg (by omega),if_neg (by rintro(h6|h6|h6)<;>first|omega|exact hsp h6)]at hr
   cases hr;exact⟨tle (by omega),tle (by omega),call1 (c81 (hd t) hx) ⟨_,rfl,rfl,teq6 _,Yao rfl (h.next hn)⟩⟩
 ·have h0:=of_feq h0;have h1:=of_feq h1;have h2:=of_feq h2;have h3:=of_feq h3;simp only[Zwb,Bool.not_eq_false',Bool.or_eq_true,decide_eq_true_eq]at h4;exact Ybc c38 ⟨_,_,rfl,bad (by omega) (by omega) (by omega) (by omega) (by omega) _⟩
theorem Ycm(r:Rx):[(enc r).getD 0 D0,(enc r).getD 1 D0,(enc r).getD 2 D0,(enc r).getD 3 D0,(enc r).getD 4 D0,(enc r).getD 5 D0]=enc r:=by cases r;rfl
theorem Ybs{m:Nat}{r r':Rx}{t:List UInt8}{res:Res Rx}(h:opsL m r t=some res)(h1:opX (hd t) r=some r'):∃m',opsL m' r' t.tail=some res:=by
 cases m with
 |zero=>simp[opsL]at h
 |succ m=>refine⟨m,?_⟩;unfold opsL at h;rw[h1]at h;exact h
theorem Ydx{m:Nat}{r:Rx}{t:List UInt8}{res:Res Rx}(h:opsL m r t=some res)(h1:opX (hd t) r=none):res=.ok r t:=by
 cases m with
 |zero=>simp[opsL]at h
 |succ m=>unfold opsL at h;rw[h1]at h;cases h;rfl
theorem c65{n:Nat}(K:K73 n):K65 (n+1):=by
 intro q s t i res hr h;unfold Ya5 at hr;cases ha:atom n t with
 |none=>rw[ha]at hr;cases hr
 |some ra=>
  rw[ha]at hr;refine w65 s i q (Ybd (K (.up q) s t i ra ha h) (fun v t1 i1 e1 hi1=>?_) (fun t1 i1 j e1 hi1=>?_))
  ·obtain⟨r,f1,rfl⟩:=Yar e1;subst f1;refine⟨_,_,_,rfl,rfl,teq6 r,fun a b c d e f s' i'=>∃m r t,s'=s/\[a,b,c,d,e,f]=enc r/\At s t i'/\opsL m r t=some res,fun _ _ _ _ _ _ s' i'=>((s'.length:Int)-i').toNat,⟨n,r,t1,rfl,Ycm r,hi1,hr⟩,?_,trivial⟩;rintro a b c d e f s' i' ⟨m,r',t',rfl,he,hat,hrun⟩;have hlo':=hat.lo;have lt:t'≠[]->((s'.length:Int)-(i'+1)).toNat<((s'.length:Int)-i').toNat:=fun hn=>by have:=hat.lt.2 hn;omega
   refine callB (c49 hat) ⟨_,_,_,rfl,rfl,fun h0=>?_,fun h0=>⟨fun h1=>?_,fun h1=>⟨fun h2=>?_,fun h2=>?_⟩⟩⟩
   ·have h0:=of_teq h0;have hn:=Yal (t:=t') (by omega);obtain⟨m',hm⟩:=Ybs hrun (r':=Yds r') (by unfold opX;rw[if_pos (by omega)]);refine⟨tle (by omega),tle (by omega),⟨m',_,_,rfl,?_,hat.next hn,hm⟩,lt hn⟩
    rw[he];rfl
   ·have h0:=of_feq h0;have h1:=of_teq h1;have hn:=Yal (t:=t') (by omega);obtain⟨m',hm⟩:=Ybs hrun (r':=mk0 3 [r',Yds r']) (by unfold opX;rw[if_neg (by omega),if_pos (by omega)]);refine⟨tle (by omega),tle (by omega),⟨m',_,_,rfl,?_,hat.next hn,hm⟩,lt hn⟩
    rw[he];rfl
   ·have h0:=of_feq h0;have h1:=of_feq h1;have h2:=of_teq h2;have hn:=Yal (t:=t') (by omega);obtain⟨m',hm⟩:=Ybs hrun (r':=mk0 4 [r',mk0 1 []]) (by unfold opX;rw[if_neg (by omega),if_neg (by omega),if_pos (by omega)]);refine⟨tle (by omega),tle (by omega),⟨m',_,_,rfl,?_,hat.next hn,hm⟩,lt hn⟩
    rw[he];rfl
   ·have h0:=of_feq h0;have h1:=of_feq h1;have h2:=of_feq h2;have:=Ydx hrun (by unfold opX;rw[if_neg (by omega),if_neg (by omega),if_neg (by omega)]);subst this;rw[he];exact Yao rfl hat
  ·have f1:=Yaq e1;subst f1;cases hr;exact⟨_,_,rfl,Yac rfl hi1⟩
theorem Yen{C:Ctx}{r:Ref}{x:A}{H:List (Ref×List A)}{g:Gh}{w:World}(h:HeapRel C (Zax ((r,[x])::H)) g w):HeapRel C (Zax ((r,[A.any])::H)) g w:=by
 have old:∀{o b},Owns (Zax ((r,[A.any])::H)) g o b->Owns (Zax ((r,[x])::H)) g o b:=fun{o b} ho=>by
  cases ho with
  | @box q c h1=>
    by_cases e:q=r
    ·subst e;exact .box (c:=[x]) (by simp[Zax,kOf])
    ·exact .box (c:=c) (by simpa[Zax,kOf,upd,e]using h1)
  |slot h1=>cases h1
  | @cell q c j a h1 h2 h3=>
    by_cases e:q=r
    ·subst e;have hc:c=[A.any]:=by simpa[Zax,kOf]using h1.symm
     subst hc;cases j with
     |zero=>cases h2;cases h3
     |succ j=>simp at h2
    ·exact .cell (c:=c) (by simpa[Zax,kOf,upd,e]using h1) h2 h3
 refine⟨fun q c hc=>?_,fun o o' b h1 h2=>h.inj o o' b (old h1) (old h2),fun o b h1=>h.wr o b (old h1),h.prs,h.pr0,h.prn,h.up,h.uu,h.fr⟩;by_cases e:q=r
 ·subst e;have hc:c=[A.any]:=by simpa[Zax,kOf]using hc.symm
  subst hc;obtain⟨cs,k1,k2,k3,k4,k5⟩:=h.box q [x] (by simp[Zax,kOf]);refine⟨cs,k1,k2,fun j a ha=>?_,k4,k5⟩;cases j with
  |zero=>
   cases ha;obtain⟨_,v,k6,_⟩:=k3 0 x rfl;exact⟨rfl,v,k6,trivial⟩
  |succ j=>simp at ha
 ·exact h.box q c (by simpa[Zax,kOf,upd,e]using hc)
theorem Yde{P:Program}{f:Nat}{args:List A}{r:Ref}{x:A}{H:List (Ref×List A)}{R R':Out->List (Ref×List A)->Prop}(h:Holds P f args ((r,[x])::H) R)
 (hret:∀v H',R (.ret v) H'->R' (.ret v) H') (hpan:∀u H',R (.pan u) H'-> ∃y H1,H'=(r,[y])::H1/\R' (.pan u) ((r,[A.any])::H1)):
 Holds P f args ((r,[x])::H) R':=
 fun w cargs g h1 h2=>(h w cargs g h1 h2).mono fun e w' ⟨out,H',g',a,b,c,d⟩=>by
  cases out with
  |ret v=>exact⟨.ret v,H',g',hret _ _ a,b,c,d⟩
  |pan u=>
   obtain⟨y,H1,rfl,hR⟩:=hpan _ _ a;exact⟨.pan u,_,g',hR,b,Yen c,d⟩
def Ye8(q0 q1 q2:Ref)(s:List UInt8)(l:List Rx)(res:Res Rx):Out->List (Ref×List A)->Prop:=fun o H=>match res with
 |.ok r t=>o=.ret (.tup [])/\ ∃i,At s t i/\H=[(.up q0,[A.own 6 (encs (l++[r])) []]),(.up q1,[A.ptr (.up q2) 0]),(.up q2,[A.d (.lit (Zco s)),A.d (.lit (.int .i64 i))])]
 |.bad t=>∃i j,At s t i/\o=.pan (Yax i)/\H=[(.up q0,[A.any]),(.up q1,[A.ptr (.up q2) 0]),(.up q2,[A.d (.lit (Zco s)),A.d (.lit (.int .i64 j))])]
theorem Yc7{a b:List D}(h:a.length=b.length):Ab.setL a 0 b=b:=by
 unfold Ab.setL;simp[<-h]
theorem c64a{n:Nat}(K:K65 n){q0 q1 q2:Ref}(h01:q0≠q1)(h02:q0≠q2)(h12:q1≠q2){s t:List UInt8}{i:Int}{res:Res Rx}(hr:Ya5 n t=some res)(h:At s t i):
 Holds Tryz.prog 148 [A.ptr (.up q0) 0,A.ptr (.up q1) 0] [(.up q0,[A.zs []]),(.up q1,[A.ptr (.up q2) 0]),(.up q2,[A.d (.lit (Zco s)),A.d (.lit (.int .i64 i))])] (Ye8 q0 q1 q2 s [] res):=by
 let R0:Out->List (Ref×List A)->Prop:=fun o H=>match res with
  |.ok r t=>o=.ret (.tup [])/\ ∃i,At s t i/\H=[(.up q0,[A.own 6 (encs ([]++[r])) []]),(.up q1,[A.ptr (.up q2) 0]),(.up q2,[A.d (.lit (Zco s)),A.d (.lit (.int .i64 i))])]
  |.bad t=>∃i j,At s t i/\o=.pan (Yax i)/\H=[(.up q0,[A.zs []]),(.up q1,[A.ptr (.up q2) 0]),(.up q2,[A.d (.lit (Zco s)),A.d (.lit (.int .i64 j))])]
 refine Yde (R:=R0) (w64a s i q0 q1 q2 h01 h02 h12 (Ybd (K (.up q2) s t i res hr h) (fun v t1 i1 e1 hi1=>?_) (fun t1 i1 j e1 hi1=>?_))) (fun v H' ho=>?_) (fun u H' ho=>?_)
 ·obtain⟨r,f1,rfl⟩:=Yar e1;subst f1;refine⟨_,_,_,rfl,rfl,tle (by decide),tle (by decide),tlt (by decide),teq6 r,rfl,i1,hi1,?_⟩;have e:gAt (((D.lit (.int .i64 (0:Int)))::((D.lit (.int .u64 (0:Int)))::((D.lit (.int .u64 (0:Int)))::((D.lit (.int .u64 (0:Int)))::((D.lit (.int .u64 (0:Int)))::((D.slc ([]:List (List D)))::([]:List D)))))))::([]:List (List D))) (0:Int)=[D.lit (.int .i64 (0:Int)),D.lit (.int .u64 (0:Int)),D.lit (.int .u64 (0:Int)),D.lit (.int .u64 (0:Int)),D.lit (.int .u64 (0:Int)),D.slc []]:=rfl;rw[e,Yc7 (by simp)];rfl
 ·have f1:=Yaq e1;subst f1;exact⟨_,_,rfl,i1,j,hi1,rfl,rfl⟩
 ·cases res with
  |ok r t1=>exact ho
  |bad t1=>obtain⟨_,_,_,e,_⟩:=ho;cases e
 ·cases res with
  |ok r t1=>cases ho.1
  |bad t1=>obtain⟨i1,j,hi1,e,rfl⟩:=ho;exact⟨_,_,rfl,i1,j,hi1,e,rfl⟩
theorem c64b{n:Nat}(K:K65 n){q0 q1 q2:Ref}(h01:q0≠q1)(h02:q0≠q2)(h12:q1≠q2){s t:List UInt8}{i:Int}{res:Res Rx}{l:List Rx}(hl:l.length<=1048576)(hr:Ya5 n t=some res)(h:At s t i):
 Holds Tryz.prog 148 [A.ptr (.up q0) 0,A.ptr (.up q1) 0] [(.up q0,[A.own 6 (encs l) []]),(.up q1,[A.ptr (.up q2) 0]),(.up q2,[A.d (.lit (Zco s)),A.d (.lit (.int .i64 i))])] (Ye8 q0 q1 q2 s l res):=by
 refine w64b (encs l) s i q0 q1 q2 h01 h02 h12 (Ybd (K (.up q2) s t i res hr h) (fun v t1 i1 e1 hi1=>?_) (fun t1 i1 j e1 hi1=>?_))
 ·obtain⟨r,f1,rfl⟩:=Yar e1;subst f1;refine⟨_,_,_,rfl,rfl,tle (by simp;omega),tle (by simp;omega),teq6 r,rfl,i1,hi1,?_⟩;rw[Yc7 (by simp)];show[(Ref.up q0,[A.own 6 (encs l++encs [r]) []]),_,_]=_;rw[Ybi]
 ·have f1:=Yaq e1;subst f1;exact⟨_,_,rfl,i1,j,hi1,rfl,rfl⟩
theorem Ygu(r:Rx):Zwd 6 [enc r]=true:=by unfold Zwd;rw[List.all_cons,Ydb];rfl
theorem Yf2{f:Nat}{args:List A}{B:List (Ref×List A)}{q0 q1 q2:Ref}{s:List UInt8}{l:List Rx}{res:Res Rx}(hc:Holds Tryz.prog f args B (Ye8 q0 q1 q2 s l res)){Q1:A->List (Ref×List A)->Prop}{Q2:Value->List (Ref×List A)->Prop}
 (h1:∀r t i,res=.ok r t->At s t i->Q1 (.tup []) [(.up q0,[A.own 6 (encs (l++[r])) []]),(.up q1,[A.ptr (.up q2) 0]),(.up q2,[A.d (.lit (Zco s)),A.d (.lit (.int .i64 i))])])
 (h2:∀t i j,res=.bad t->At s t i->Q2 (Yax i) [(.up q0,[A.any]),(.up q1,[A.ptr (.up q2) 0]),(.up q2,[A.d (.lit (Zco s)),A.d (.lit (.int .i64 j))])]):
 ∃R':Out->List (Ref×List A)->Prop,Holds Tryz.prog f args B R'/\(∀v H',R' (.ret v) H'->Q1 v H')/\(∀u H',R' (.pan u) H'->Q2 u H'):=by
 refine⟨_,hc,fun v' H' e=>?_,fun u H' e=>?_⟩
 ·cases res with
  |ok v t=>obtain⟨e1,i,hi,rfl⟩:=e;cases e1;exact h1 _ t i rfl hi
  |bad t=>obtain⟨i,j,hi,e1,_⟩:=e;cases e1
 ·cases res with
  |ok v t=>cases e.1
  |bad t=>obtain⟨i,j,hi,e1,rfl⟩:=e;cases e1;exact h2 t i j rfl hi
theorem Yb6{q:Ref}{a b:Nat}:Ref.own a b≠Ref.up q:=fun h=>by cases h
theorem Ydy{a b c d:Nat}(h:a≠c):Ref.own a b≠Ref.own c d:=fun e=>by cases e;exact h rfl
theorem c48{n:Nat}(K:∀m,m<=n->K65 m):K48 (n+1):=by
 intro q s t i res hr h;unfold seqs at hr;cases ha:Ya5 n t with
 |none=>rw[ha]at hr;cases hr
 |some ra=>
  rw[ha]at hr;refine w48 s i q fun ν=>Yf2 (c64a (K n (Nat.le_refl _)) (Ydy (by decide)) Yb6 Yb6 ha h) (fun r t1 i1 e1 hi1=>?_) (fun t1 i1 j e1 hi1=>?_)
  ·subst e1;have hlt:=(Ya1 n).2.2.2.2.1 _ _ ha;refine⟨_,_,_,rfl,rfl,fun x s' i'=>∃m l t',s'=s/\x=encs l/\At s t' i'/\seqL m l t'=some res/\m<=n/\l.length+t'.length<=s.length,fun _ s' i'=>((s'.length:Int)-i').toNat,⟨n,[r],t1,rfl,rfl,hi1,hr,Nat.le_refl _,?_⟩,?_,trivial⟩
   ·have:=hlt.1;have:=h.suf.length_le;simp;omega
   ·rintro x s' i' ⟨m,l,t',rfl,rfl,hat,hrun,hm,hl⟩;have hsm:=hat.sm
    have done:¬(t'≠[]/\hd t'≠124/\hd t'≠41)->PAft q s' (res.map encA) (.ret (encA (Ydd 3 l))) (PB q s' i'):=fun hn=>by
     cases m with
     |zero=>simp[seqL]at hrun
     |succ m=>
      unfold seqL at hrun;rw[if_neg hn]at hrun;cases hrun;exact Yao rfl hat
    refine⟨fun h0=>callB (c49 hat) ⟨_,_,_,rfl,rfl,fun h1=>callB (c49 hat) ⟨_,_,_,rfl,rfl,fun h2=>fun ν=>?_,fun h2=>?_⟩,fun h1=>?_⟩,fun h0=>?_⟩
    ·have hn:t'≠[]/\hd t'≠124/\hd t'≠41:=⟨hat.more (of_tlt h0),by simp at h1;omega,by simp at h2;omega⟩;cases m with
     |zero=>simp[seqL]at hrun
     |succ m=>
      unfold seqL at hrun;rw[if_pos hn]at hrun;cases hb:Ya5 m t' with
      |none=>rw[hb]at hrun;cases hrun
      |some rb=>
       rw[hb]at hrun;refine Yf2 (c64b (K m (by omega)) (Ydy (by decide)) Yb6 Yb6 (by omega) hb hat) (fun r t2 i2 e2 hi2=>?_) (fun t2 i2 j e2 hi2=>?_)
       ·subst e2;have hlt2:=((Ya1 m).2.2.2.2.1 _ _ hb).1;refine⟨_,_,_,rfl,rfl,⟨m,l++[r],t2,rfl,rfl,hi2,hrun,by omega,by simp;omega⟩,?_⟩;exact SetI.lt hat hi2 hlt2
       ·subst e2;cases hrun;exact⟨_,_,rfl,Yac rfl hi2⟩
    ·have h2:hd t'=41:=by simp at h2;omega
     exact call1 (c50 3 l) ⟨_,rfl,rfl,teq6 _,done fun h=>h.2.2 h2⟩
    ·have h1:hd t'=124:=by simp at h1;omega
     exact call1 (c50 3 l) ⟨_,rfl,rfl,teq6 _,done fun h=>h.2.1 h1⟩
    ·exact call1 (c50 3 l) ⟨_,rfl,rfl,teq6 _,done fun h=>h.1 (hat.end_ (of_flt h0))⟩
  ·subst e1;cases hr;exact⟨_,_,rfl,Yac rfl hi1⟩
theorem c37{n:Nat}(K:∀m,m<=n->K48 m):K37 (n+1):=by
 intro q s t i res hr h;unfold alts at hr;cases ha:seqs n t with
 |none=>rw[ha]at hr;cases hr
 |some ra=>
  rw[ha]at hr;refine w37 s i q (Ybd (K n (Nat.le_refl _) (.up q) s t i ra ha h) (fun v t1 i1 e1 hi1=>?_) (fun t1 i1 j e1 hi1=>?_))
  ·obtain⟨r,f1,rfl⟩:=Yar e1;subst f1;have hlt:=(Ya1 n).2.2.1 _ _ ha;refine⟨_,_,_,rfl,rfl,teq6 r,fun x s' i'=>∃m l t',s'=s/\x=encs l/\At s t' i'/\altL m l t'=some res/\m<=n/\l.length+t'.length<=s.length,fun _ s' i'=>((s'.length:Int)-i').toNat,⟨n,[r],t1,rfl,rfl,hi1,hr,Nat.le_refl _,?_⟩,?_,trivial⟩
   ·have:=hlt.1;have:=h.suf.length_le;simp;omega
   ·rintro x s' i' ⟨m,l,t',rfl,rfl,hat,hrun,hm,hl⟩;have hsm:=hat.sm;have hlo:=hat.lo;cases m with
    |zero=>simp[altL]at hrun
    |succ m=>
     unfold altL at hrun;refine callB (c49 hat) ⟨_,_,_,rfl,rfl,fun h1=>⟨tle (by omega),tle (by omega),?_⟩,fun h1=>?_⟩
     ·have h1:=of_teq h1;have hn:t'≠[]:=Yal (by omega)
      have hnl:t'.tail.length+1=t'.length:=by cases t' with
       |nil=>exact absurd rfl hn
       |cons c t=>simp
      rw[if_pos (by omega)]at hrun;cases hb:seqs m t'.tail with
      |none=>rw[hb]at hrun;cases hrun
      |some rb=>
       rw[hb]at hrun;refine Ybd (K m (by omega) (.up q) s' t'.tail (i'+1) rb hb (hat.next hn)) (fun v t2 i2 e2 hi2=>?_) (fun t2 i2 j e2 hi2=>?_)
       ·obtain⟨r',f2,rfl⟩:=Yar e2;subst f2;have hlt2:=((Ya1 m).2.2.1 _ _ hb).1;refine⟨_,_,_,rfl,rfl,teq6 r',Ygu r',tle (by simp;omega),tle (by simp;omega),⟨m,l++[r'],t2,rfl,?_,hi2,hrun,by omega,by simp;omega⟩,SetI.lt hat hi2 (by omega)⟩;show encs l++encs [r']=_;rw[Ybi]
       ·have f2:=Yaq e2;subst f2;cases hrun;exact⟨_,_,rfl,Yac rfl hi2⟩
     ·have h1:=of_feq h1;rw[if_neg (by omega)]at hrun;cases hrun;exact call1 (c50 4 l) ⟨_,rfl,rfl,teq6 _,Yao rfl hat⟩
  ·have f1:=Yaq e1;subst f1;cases hr;exact⟨_,_,rfl,Yac rfl hi1⟩
theorem Ygv:∀n,(∀m,m<=n->K37 m/\K48 m/\K65 m/\K73 m):=by
 intro n
 induction n with
 |zero=>
  intro m hm;have:m=0:=by omega
  subst this;exact⟨fun q s t i res hr=>by simp[alts]at hr,fun q s t i res hr=>by simp[seqs]at hr,fun q s t i res hr=>by simp[Ya5]at hr,fun q s t i res hr=>by simp[atom]at hr⟩
 |succ n ih=>
  intro m hm;by_cases h:m<=n
  ·exact ih m h
  ·have:m=n+1:=by omega
   subst this;exact⟨c37 fun m h=>(ih m h).2.1,c48 fun m h=>(ih m h).2.2.1,c65 (ih n (Nat.le_refl _)).2.2.2,c73 (ih n (Nat.le_refl _)).1⟩
theorem k37(n:Nat):K37 n:=(Ygv n n (Nat.le_refl _)).1
end Go.Rx
end
section
open Go Go.Proofs Go.Ab Go.Rf
set_option maxRecDepth 100000
namespace Go.Rx
theorem Ybt:∀(n:Nat)(neg:Bool)(p:Nat->Bool)(t:List UInt8),t.length<n->setL n neg p t≠none
 |0,_,_,_,h=>by omega
 |n+1,neg,p,t,h=>by
  unfold setL;have h1:=Ybm 0 t;cases e1:Yay 0 t with
  |bad q=>simp
  |ok lo t1=>
   rw[e1]at h1;dsimp only;have h2:=Yc5 lo t1;cases e2:hiR lo t1 with
   |bad q=>simp
   |ok hi t3=>
    rw[e2]at h2;dsimp only;split
    ·simp
    ·refine Ybt n neg _ t3 ?_;have:=h1.1;have:=List.IsSuffix.length_le h2;omega
theorem Ydz(n:Nat)(t:List UInt8)(h:t.length<n):setR n t≠none:=by
 unfold setR;split
 ·exact Ybt _ _ _ _ (by simp;omega)
 ·split
  ·simp
  ·exact Ybt _ _ _ _ h
theorem Ycn:∀(n:Nat)(r:Rx)(t:List UInt8),t.length<n->opsL n r t≠none
 |0,_,_,h=>by omega
 |n+1,r,t,h=>by
  unfold opsL;cases e:opX (hd t) r with
  |none=>simp
  |some r'=>
   have:=Ybl (Yf1 e);exact Ycn n r' t.tail (by omega)
theorem Yeo:∀n,(∀t,5*t.length+4<=n->alts n t≠none)/\(∀l t,5*t.length+4<=n->altL n l t≠none)/\(∀t,5*t.length+3<=n->seqs n t≠none)/\(∀l t,5*t.length+3<=n->seqL n l t≠none)/\
 (∀t,5*t.length+2<=n->Ya5 n t≠none)/\(∀t,5*t.length+1<=n->atom n t≠none):=by
 intro n
 induction n with
 |zero=>exact⟨fun t h=>by omega,fun l t h=>by omega,fun t h=>by omega,fun l t h=>by omega,fun t h=>by omega,fun t h=>by omega⟩
 |succ n ih=>
  obtain⟨ih1,ih2,ih3,ih4,ih5,ih6⟩:=ih;refine⟨fun t h=>?_,fun l t h=>?_,fun t h=>?_,fun l t h=>?_,fun t h=>?_,fun t h=>?_⟩
  ·unfold alts;cases e:seqs n t with
   |none=>exact absurd e (ih3 t (by omega))
   |some res=>cases res with
    |bad q=>simp
    |ok r t1=>have:=((Ya1 n).2.2.1 _ _ e).1;exact ih2 _ _ (by omega)
  ·unfold altL;split
   ·rename_i hc;have ht:=Ybl (show hd t≠0 by omega);cases e:seqs n t.tail with
    |none=>exact absurd e (ih3 t.tail (by omega))
    |some res=>cases res with
     |bad q=>simp
     |ok r t1=>have:=((Ya1 n).2.2.1 _ _ e).1;exact ih2 _ _ (by omega)
   ·simp
  ·unfold seqs;cases e:Ya5 n t with
   |none=>exact absurd e (ih5 t (by omega))
   |some res=>cases res with
    |bad q=>simp
    |ok r t1=>have:=((Ya1 n).2.2.2.2.1 _ _ e).1;exact ih4 _ _ (by omega)
  ·unfold seqL;split
   ·cases e:Ya5 n t with
    |none=>exact absurd e (ih5 t (by omega))
    |some res=>cases res with
     |bad q=>simp
     |ok r t1=>have:=((Ya1 n).2.2.2.2.1 _ _ e).1;exact ih4 _ _ (by omega)
   ·simp
  ·unfold Ya5;cases e:atom n t with
   |none=>exact absurd e (ih6 t (by omega))
   |some res=>cases res with
    |bad q=>simp
    |ok r t1=>have:=((Ya1 n).2.2.2.2.2 _ _ e).1;exact Ycn _ _ _ (by omega)
  ·unfold atom;have ht:hd t≠0->t.tail.length<t.length:=Ybl;split
   ·rename_i hc;have ht:=ht (by omega);split
    ·simp
    ·cases e:alts n t.tail with
     |none=>exact absurd e (ih1 t.tail (by omega))
     |some res=>cases res<;>simp
   ·split
    ·rename_i hc;have ht:=ht (by omega);exact Ydz _ _ (by omega)
    ·split
     ·simp
     ·split
      ·cases clsV (hd t.tail)with
       |some p=>simp
       |none=>dsimp only;cases escR 0 t.tail<;>simp
      ·split<;>simp
def Ybu(t:List UInt8):Nat:=5*t.length+4
theorem Yd0(t:List UInt8):∃res,alts (Ybu t) t=some res:=by
 have:=(Yeo (Ybu t)).1 t (Nat.le_refl _);cases h:alts (Ybu t) t with
 |none=>exact absurd h this
 |some r=>exact⟨r,rfl⟩
def parseV(s:List UInt8):Rx×Int×Int:=
 if 1000<s.length then(mk0 0 [],2,0)else match alts (Ybu s) s with
  |some (.ok r t)=>if t=[]then(if chk 1 r=9 then(mk0 0 [],9,0)else(r,0,0))else(mk0 0 [],8,(s.length:Int)-t.length)
  |some (.bad t)=>(mk0 0 [],8,(s.length:Int)-t.length)
  |none=>(mk0 0 [],0,0)
def pairA(x:Rx×Int×Int):A:=.tup [(true,enc x.1),(true,[.lit (.int .i64 x.2.1),.lit (.int .i64 x.2.2)])]
theorem Ya6{B:Nat}{k:Int}{l:List Rx}:lens B (mk0 k l)↔l.length<=B/\ ∀x∈l,lens B x:=Ybk
theorem Ya9{B:Nat}(p:Nat->Bool):lens B (setX p):=Ybk.2 ⟨Nat.zero_le _,fun _ h=>by cases h⟩
theorem Yb0{B:Nat}{k:Int}{l:List Rx}(h:l.length<=B)(hl:∀x∈l,lens B x):lens B (Ydd k l):=by
 unfold Ydd;split
 ·exact hl _ (by simp)
 ·exact Ya6.2 ⟨h,hl⟩
def Res.All{α:Type}(P:α->Prop):Res α->Prop|.ok a _=>P a|.bad _=>True
theorem Ybv{B:Nat}:∀(n:Nat)(neg:Bool)(p:Nat->Bool)(t:List UInt8)(r:Res Rx),setL n neg p t=some r->r.All (lens B)
 |0,_,_,_,_,h=>by simp[setL]at h
 |n+1,neg,p,t,r,h=>by
  unfold setL at h;split at h
  ·cases h;trivial
  ·split at h
   ·cases h;trivial
   ·split at h
    ·cases h;show lens B _;exact Ya9 _
    ·exact Ybv n _ _ _ _ h
theorem Yco{B:Nat}{r:Rx}(hB:2<=B)(h:lens B r):lens B (Yds r):=Ya6.2 ⟨by simp;omega,by simpa using h⟩
theorem Yep{B c:Nat}{r r':Rx}(hB:2<=B)(h:lens B r)(e:opX c r=some r'):lens B r':=by
 unfold opX at e;have he:lens B (mk0 1 []):=Ya6.2 ⟨Nat.zero_le _,by simp⟩
 repeat' split at e
 all_goals first
  |(cases e;exact Yco hB h)
  |(cases e;exact Ya6.2 ⟨by simpa using hB,by simp;exact⟨h,Yco hB h⟩⟩)
  |(cases e;exact Ya6.2 ⟨by simpa using hB,by simp;exact⟨h,he⟩⟩)
  |cases e
theorem Ycp{B:Nat}(hB:2<=B):∀(n:Nat)(r:Rx)(t:List UInt8)(o:Res Rx),opsL n r t=some o->lens B r->o.All (lens B)
 |0,_,_,_,h,_=>by simp[opsL]at h
 |n+1,r,t,o,h,hr=>by
  unfold opsL at h;split at h
  ·rename_i r' e;exact Ycp hB n r' _ _ h (Yep hB hr e)
  ·cases h;exact hr
theorem Yeq(B:Nat)(hB:2<=B):∀(n:Nat),(∀t r,alts n t=some r->t.length<=B->r.All (lens B))/\(∀l t r,altL n l t=some r->l.length+t.length<=B->(∀x∈l,lens B x)->r.All (lens B))/\(∀t r,seqs n t=some r->t.length<=B->r.All (lens B))/\
 (∀l t r,seqL n l t=some r->l.length+t.length<=B->(∀x∈l,lens B x)->r.All (lens B))/\
 (∀t r,Ya5 n t=some r->t.length<=B->r.All (lens B))/\(∀t r,atom n t=some r->t.length<=B->r.All (lens B)):=by
 intro n
 induction n with
 |zero=>exact⟨fun t r h=>by simp[alts]at h,fun l t r h=>by simp[altL]at h,fun t r h=>by simp[seqs]at h,fun l t r h=>by simp[seqL]at h,fun t r h=>by simp[Ya5]at h,fun t r h=>by simp[atom]at h⟩
 |succ n ih=>
  obtain⟨ih1,ih2,ih3,ih4,ih5,ih6⟩:=ih;refine⟨fun t r h hl=>?_,fun l t r h hl hx=>?_,fun t r h hl=>?_,fun l t r h hl hx=>?_,fun t r h hl=>?_,fun t r h hl=>?_⟩
  ·unfold alts at h;split at h
   ·cases h
   ·cases h;trivial
   ·rename_i hq;have h1:=ih3 _ _ hq hl;have h2:=((Ya1 n).2.2.1 _ _ hq).1;exact ih2 _ _ _ h (by simp;omega) (fun x hx=>by rw[List.mem_singleton.1 hx];exact h1)
  ·unfold altL at h;split at h
   ·rename_i hc;have h0:=Ybl (show hd t≠0 by omega);split at h
    ·cases h
    ·cases h;trivial
    ·rename_i hq;have h1:=ih3 _ _ hq (by omega);have h2:=((Ya1 n).2.2.1 _ _ hq).1;refine ih2 _ _ _ h (by simp;omega) fun x hx'=>?_
     rcases List.mem_append.1 hx' with hx'|hx'
     ·exact hx x hx'
     ·rw[List.mem_singleton.1 hx'];exact h1
   ·cases h;exact Yb0 (by omega) hx
  ·unfold seqs at h;split at h
   ·cases h
   ·cases h;trivial
   ·rename_i hq;have h1:=ih5 _ _ hq hl;have h2:=((Ya1 n).2.2.2.2.1 _ _ hq).1;exact ih4 _ _ _ h (by simp;omega) (fun x hx=>by rw[List.mem_singleton.1 hx];exact h1)
  ·unfold seqL at h;split at h
   ·split at h
    ·cases h
    ·cases h;trivial
    ·rename_i hq;have h1:=ih5 _ _ hq (by omega);have h2:=((Ya1 n).2.2.2.2.1 _ _ hq).1;refine ih4 _ _ _ h (by simp;omega) fun x hx'=>?_
     rcases List.mem_append.1 hx' with hx'|hx'
     ·exact hx x hx'
     ·rw[List.mem_singleton.1 hx'];exact h1
   ·cases h;exact Yb0 (by omega) hx
  ·unfold Ya5 at h;split at h
   ·cases h
   ·cases h;trivial
   ·rename_i hq;exact Ycp hB _ _ _ _ h (ih6 _ _ hq hl)
  ·have hT:t.tail.length<=B:=by simp;omega
   unfold atom at h;split at h
   ·split at h
    ·cases h;show lens B (mk0 1 []);exact Ya6.2 ⟨Nat.zero_le _,by simp⟩
    ·split at h
     ·cases h
     ·cases h;trivial
     ·rename_i hq;cases h;have h1:=ih1 _ _ hq hT;unfold Ybz;split
      ·exact h1
      ·trivial
   ·split at h
    ·unfold setR at h;split at h
     ·exact Ybv _ _ _ _ _ h
     ·split at h
      ·cases h;show lens B (mk0 1 []);exact Ya6.2 ⟨Nat.zero_le _,by simp⟩
      ·exact Ybv _ _ _ _ _ h
    ·split at h
     ·cases h;show lens B _;exact Ya9 _
     ·split at h
      ·split at h
       ·cases h;show lens B _;exact Ya9 _
       ·split at h
        ·cases h;trivial
        ·cases h;show lens B _;exact Ya9 _
      ·split at h
       ·cases h;trivial
       ·cases h;show lens B _;exact Ya9 _
theorem Yd1{n:Nat}{t t':List UInt8}{r:Rx}(h:alts n t=some (.ok r t')):lens (t.length+2) r:=(Yeq (t.length+2) (by omega) n).1 t _ h (by omega)
theorem at0{s:List UInt8}(h:s.length<=1048576):At s s 0:=⟨List.suffix_refl _,by omega,h⟩
theorem Ydf{s:List UInt8}(h:1000<s.length):parseV s=(mk0 0 [],2,0):=by unfold parseV;rw[if_pos h]
theorem Yd2{s t:List UInt8}{i:Int}(h:¬1000<s.length)(hr:alts (Ybu s) s=some (.bad t))(hi:At s t i):parseV s=(mk0 0 [],8,i):=by
 unfold parseV;rw[if_neg h,hr];have:=hi.pos;have:(s.length:Int)-t.length=i:=by omega
 simp[this]
theorem Ydg{s t:List UInt8}{r:Rx}{i:Int}(h:¬1000<s.length)(hr:alts (Ybu s) s=some (.ok r t))(hi:At s t i)(ht:t≠[]):parseV s=(mk0 0 [],8,i):=by
 unfold parseV;rw[if_neg h,hr];have:=hi.pos;have:(s.length:Int)-t.length=i:=by omega
 simp[this,ht]
theorem Yer{s:List UInt8}{r:Rx}(h:¬1000<s.length)(hr:alts (Ybu s) s=some (.ok r [])):parseV s=if chk 1 r=9 then(mk0 0 [],9,0)else(r,0,0):=by
 unfold parseV;rw[if_neg h,hr];simp
end Go.Rx
end
section
open Go Go.Proofs Go.Ab Go.Rf
set_option maxRecDepth 100000
namespace Go.Rx
theorem Ygw{α:Type}{l:List α}(h:l.length=4):∃a b c d,l=[a,b,c,d]:=by
 match l,h with
 |[a,b,c,d],_=>exact⟨a,b,c,d,rfl⟩
def Ycq(s:List UInt8):Out->Prop:=fun o=>o=.ret (pairA (parseV s))
theorem Ye9(r:Rx):enc r=[(enc r).getD 0 D0,(enc r).getD 1 D0,(enc r).getD 2 D0,(enc r).getD 3 D0,(enc r).getD 4 D0,(enc r).getD 5 D0]:=(Ycm r).symm
theorem c19(s:List UInt8):Holds Tryz.prog 112 [A.d (.lit (Zco s))] [] (Ret (pairA (parseV s))):=by
 have key:Holds Tryz.prog 112 [A.d (D.lit (Zco s))] [] (fun o H=>H=[]/\Ycq s o):=by
  refine w19p _ rfl s ⟨fun hl=>⟨fun _=>?_,fun h=>absurd rfl h⟩,fun hl=>⟨fun h=>(by cases h),fun _=>⟨_,rfl,fun qs hlen hn=>?_⟩⟩⟩
  ·have hl:=of_tlt hl;unfold Ycq;rw[Ydf (by omega)];rfl
  ·have hl:=of_flt hl;have hs:¬1000<s.length:=by omega
   have h0:At s s 0:=at0 (by omega);obtain⟨res,hr⟩:=Yd0 s;obtain⟨q0,q1,q2,q3,rfl⟩:=Ygw hlen;simp only[List.nodup_cons,List.mem_cons,List.not_mem_nil,or_false,not_or,List.nodup_nil,and_true,not_false_eq_true]at hn;obtain⟨⟨h01,h02,h03⟩,⟨h12,h13⟩,h23⟩:=hn
   have failz:∀(i j:Int),parseV s=(mk0 0 [],8,i)->midR Tryz.prog 126 3 [(1,6),(2,2)] (Ycq s) [q0,q1,q2,q3] (.pan (Yax i)) [(Ref.up q0,[A.ptr (Ref.up q3) 0]),(Ref.up q1,[A.d (.lit (.int .i64 0)),A.d (.lit (.int .u64 0)),A.d (.lit (.int .u64 0)),A.d (.lit (.int .u64 0)),A.d (.lit (.int .u64 0)),A.zs []]),(Ref.up q2,[A.d (.lit (.int .i64 0)),A.d (.lit (.int .i64 0))]),(Ref.up q3,[A.d (.lit (Zco s)),A.d (.lit (.int .i64 j))])]:=fun i j hp=>
    ⟨_,fun H=>H=_,w36z _ rfl _ _ _ _ _ (D.lit .nilIface) _ _ s j i q0 q1 q2 q3 h01 h02 h12 h03 h13 h23 rfl,rfl,fun H2 hR=>by subst hR;exact⟨_,rfl,by unfold Ycq;rw[hp];rfl⟩⟩
   have faild:∀(i j:Int)(a b c d e f:D),parseV s=(mk0 0 [],8,i)->midR Tryz.prog 126 3 [(1,6),(2,2)] (Ycq s) [q0,q1,q2,q3] (.pan (Yax i)) [(Ref.up q0,[A.ptr (Ref.up q3) 0]),(Ref.up q1,[A.d a,A.d b,A.d c,A.d d,A.d e,A.d f]),(Ref.up q2,[A.d (.lit (.int .i64 0)),A.d (.lit (.int .i64 0))]),(Ref.up q3,[A.d (.lit (Zco s)),A.d (.lit (.int .i64 j))])]:=fun i j a b c d e f hp=>
    ⟨_,fun H=>H=_,w36f _ rfl _ _ _ _ _ _ _ _ s j i q0 q1 q2 q3 h01 h02 h12 h03 h13 h23 rfl,rfl,fun H2 hR=>by subst hR;exact⟨_,rfl,by unfold Ycq;rw[hp];rfl⟩⟩
   have fine:∀(j:Int)(a b c d e f g h:D),pairA (parseV s)=.tup [(true,[a,b,c,d,e,f]),(true,[g,h])]->midR Tryz.prog 126 3 [(1,6),(2,2)] (Ycq s) [q0,q1,q2,q3] (.ret (.tup [])) [(Ref.up q0,[A.ptr (Ref.up q3) 0]),(Ref.up q1,[A.d a,A.d b,A.d c,A.d d,A.d e,A.d f]),(Ref.up q2,[A.d g,A.d h]),(Ref.up q3,[A.d (.lit (Zco s)),A.d (.lit (.int .i64 j))])]:=fun j a b c d e f g h hp=>
    ⟨_,fun H=>H=_,w36n _ rfl _ _ _ _ _ _ _ _ s j 0 q0 q1 q2 q3 h01 h02 h12 h03 h13 h23 rfl,rfl,fun H2 hR=>by subst hR;exact⟨_,rfl,by unfold Ycq;rw[hp];rfl⟩⟩
   refine w19q s 0 0 0 0 0 0 0 s 0 q0 q1 q2 q3 h01 h02 h12 h03 h13 h23 ?_;refine Ybd (k37 _ (Ref.up q3) s s 0 res hr h0) (fun v t i e hi=>?_) (fun t i j e hi=>?_)
   ·obtain⟨r,f1,rfl⟩:=Yar e;subst f1;refine⟨_,_,_,rfl,rfl,teq6 r,fun hf=>?_,fun hf=>?_⟩
    ·have ht:t≠[]:=hi.more (of_tlt hf);exact Ybc c38 ⟨_,_,rfl,faild i i _ _ _ _ _ _ (Ydg hs hr hi ht)⟩
    ·have ht:t=[]:=hi.end_ (of_flt hf);subst ht;have hp:=Yer hs hr;have hb:lens (2^40) r:=Ycd (by omega) _ r (Nat.le_refl _) (Yd1 hr);refine call1 (c15 r hb) ⟨_,rfl,rfl,fun h9=>?_,fun h9=>?_⟩
     ·rw[if_pos (of_teq h9)]at hp;exact fine i _ _ _ _ _ _ _ _ (by rw[hp];rfl)
     ·rw[if_neg (of_feq h9)]at hp;exact fine i _ _ _ _ _ _ _ _ (by rw[hp];show A.tup [(true,enc r),_]=_;rw[Ye9 r];rfl)
   ·have f1:=Yaq e;subst f1;exact⟨_,_,rfl,failz i j (Yd2 hs hr hi)⟩
 exact key.mono fun o H' h=>⟨h.2,h.1⟩
end Go.Rx
end
section
open Go Go.Proofs Go.Ab Go.Rf
set_option linter.unusedSimpArgs false
set_option linter.unusedVariables false
set_option maxRecDepth 100000
namespace Go.Sy
theorem Ya7{a b:Bool}(h:a=b):Ret (Yan b) (.ret (Yan a)) []:=by subst h;exact⟨rfl,rfl⟩
def letV(x:Int):Bool:=(decide (97<=x)&&decide (x<=122))||(decide (65<=x)&&decide (x<=90))
def chV(x:Int):Bool:=letV x||(x==95||(decide (48<=x)&&decide (x<=57)))
def Ycr(t:Tx):Bool:=(!t.isEmpty&&letV (Zwc t 0))&&(List.range t.length).all fun i=>chV (Zwc t (i:Nat))
def cutV(s:Tx):Tx:=if decide (0<s.length)&&(Zwc s 0==35||Zwc s 0==95)then gSub s 1 s.length else s
def KW:List Tx:=[[110,117,108,108],[116,114,117,101],[102,97,108,115,101],[98,111,111,108],[105,110,116],[110,117,109,98,101,114],[115,116,114,105,110,103],[108,101,116],[105,102],[102,111,114],[105,110],[112,97,99,107,97,103,101],[105,109,112,111,114,116]]
def idV(s:Tx):Bool:=(decide (s.length<=32)&&!decide (s∈KW))&&Ycr (cutV s)
theorem c93(x:Int):Holds Tryz.prog 93 [.d (.lit (.int .u8 x))] [] (Ret (Yan (letV x))):=w93 x (by simp only[Zwb];exact⟨rfl,rfl⟩)
theorem Yf3{x:Int}(h:((((!letV x)&&(!(tB (x==95))))&&((tB (decide (x<48)))||(tB (decide (57<x))))))=true):chV x=false:=by
 unfold chV;revert h;cases letV x
 ·simp only[Zwb];intro h;simp at h⊢;omega
 ·simp
theorem Yew{x:Int}(h:((((!letV x)&&(!(tB (x==95))))&&((tB (decide (x<48)))||(tB (decide (57<x))))))=false):chV x=true:=by
 unfold chV;revert h;cases letV x
 ·simp only[Zwb];intro h;simp at h⊢;by_cases hx:x=95
  ·exact .inl hx
  ·have:=h hx;exact .inr (by omega)
 ·simp
theorem Yd3{t:Tx}{i:Nat}(hi:i<t.length)(h:chV (Zwc t (i:Nat))=false):Ycr t=false:=by
 unfold Ycr;rw[Bool.and_eq_false_iff];right;rw[List.all_eq_false];exact⟨i,List.mem_range.2 hi,by rw[h];simp⟩
theorem Yc8{t:Tx}(hne:t≠[])(h:letV (Zwc t 0)=true)(ha:∀i<t.length,chV (Zwc t (i:Nat))=true):Ycr t=true:=by
 unfold Ycr;rw[h,List.all_eq_true.2 fun i hi=>ha i (List.mem_range.1 hi)];cases t with
 |nil=>exact absurd rfl hne
 |cons=>rfl
theorem c48(s:Tx):Holds Tryz.prog 48 [strA s] [] (Ret (Yan (idV s))):=by
 refine w48 s ⟨fun h=>?_,fun h=>?_⟩
 ·have hl:s.length<=32:=by have:=nb1 h;simp at this;omega
  refine call1 (c71 s KW (by decide)) ⟨_,rfl,rfl,fun hk=>?_,fun hk=>?_⟩
  ·exact Ya7 (by unfold idV;rw[hk];simp)
  ·have hi:idV s=Ycr (cutV s):=by unfold idV;rw[hk,decide_eq_true hl];rfl
   refine⟨by by_cases h0:0<s.length<;>simp[h0],by by_cases h0:0<s.length<;>simp[h0],fun h1=>?_,fun h1=>?_⟩
   ·have hc:cutV s=gSub s 1 s.length:=by unfold cutV;rw[if_pos (by simpa using h1)]
    have h0:0<s.length:=by simp at h1;omega
    rw[hc]at hi;have hg:(gSub s 1 (s.length:Int)).length<=32:=by simp[gSub];omega
    have hid:=hi;refine⟨tle (by omega),tle (by omega),by by_cases h2:(gSub s 1 (s.length:Int)).length=0<;>simp[h2]<;>omega,fun h2=>?_,fun h2=>?_⟩
    ·have hne:gSub s 1 (s.length:Int)≠[]:=fun e=>by rw[e]at h2;simp at h2
     refine call1 (c93 _) ⟨_,rfl,rfl,fun h3=>?_,fun h3=>?_⟩
     ·exact Ya7 (by rw[hid];unfold Ycr;rw[nb1 h3];simp)
     ·have h3:=nb0 h3;refine⟨fun x=>∃i:Nat,x=i/\i<=(gSub s 1 (s.length:Int)).length/\ ∀j<i,chV (Zwc (gSub s 1 (s.length:Int)) (j:Nat))=true,fun x=>(gSub s 1 (s.length:Int)).length-x.toNat,⟨0,rfl,Nat.zero_le _,fun j hj=>absurd hj (Nat.not_lt_zero j)⟩,?_,trivial⟩;rintro x ⟨i,rfl,hi,hr⟩;refine⟨fun hc=>?_,fun hc=>?_⟩
      ·have k1:i<(gSub s 1 (s.length:Int)).length:=by have:=of_tlt hc;omega
       refine⟨tle (by omega),call1 (c93 _) ⟨_,rfl,rfl,fun h4=>?_,fun h4=>⟨tle (by omega),tle (by omega),⟨i+1,rfl,k1,fun j hj=>?_⟩,dec k1⟩⟩⟩
       ·refine Ya7 ?_;rw[hid];exact(Yd3 k1 (Yf3 h4)).symm
       ·rcases Nat.lt_succ_iff_lt_or_eq.1 hj with h5|rfl
        ·exact hr j h5
        ·exact Yew h4
      ·have k1:(gSub s 1 (s.length:Int)).length<=i:=by have:=of_flt hc;omega
       refine Ya7 ?_;rw[hid];exact(Yc8 hne h3 fun j hj=>hr j (by omega)).symm
    ·refine Ya7 ?_;rw[hid];have:gSub s 1 (s.length:Int)=[]:=List.length_eq_zero_iff.1 (by simpa using h2);rw[this];rfl
   ·have hc:cutV s=s:=by unfold cutV;rw[if_neg (by intro e;rw[show((tB (decide ((0:Int)<(s.length:Int))))&&((tB ((Zwc s 0)==35))||(tB ((Zwc s 0)==95))))=true by simpa using e]at h1;cases h1)]
    rw[hc]at hi;have hid:=hi;refine⟨by by_cases h2:s.length=0<;>simp[h2]<;>omega,fun h2=>?_,fun h2=>?_⟩
    ·have hne:s≠[]:=fun e=>by rw[e]at h2;simp at h2
     refine call1 (c93 _) ⟨_,rfl,rfl,fun h3=>?_,fun h3=>?_⟩
     ·exact Ya7 (by rw[hid];unfold Ycr;rw[nb1 h3];simp)
     ·have h3:=nb0 h3;refine⟨fun x=>∃i:Nat,x=i/\i<=(s).length/\ ∀j<i,chV (Zwc (s) (j:Nat))=true,fun x=>(s).length-x.toNat,⟨0,rfl,Nat.zero_le _,fun j hj=>absurd hj (Nat.not_lt_zero j)⟩,?_,trivial⟩;rintro x ⟨i,rfl,hi,hr⟩;refine⟨fun hc=>?_,fun hc=>?_⟩
      ·have k1:i<(s).length:=by have:=of_tlt hc;omega
       refine⟨tle (by omega),call1 (c93 _) ⟨_,rfl,rfl,fun h4=>?_,fun h4=>⟨tle (by omega),tle (by omega),⟨i+1,rfl,k1,fun j hj=>?_⟩,dec k1⟩⟩⟩
       ·refine Ya7 ?_;rw[hid];exact(Yd3 k1 (Yf3 h4)).symm
       ·rcases Nat.lt_succ_iff_lt_or_eq.1 hj with h5|rfl
        ·exact hr j h5
        ·exact Yew h4
      ·have k1:(s).length<=i:=by have:=of_flt hc;omega
       refine Ya7 ?_;rw[hid];exact(Yc8 hne h3 fun j hj=>hr j (by omega)).symm
    ·refine Ya7 ?_;rw[hid];have:s=[]:=List.length_eq_zero_iff.1 (by simpa using h2);rw[this];rfl
 ·exact Ya7 (by have:=nb0 h;simp at this;unfold idV;rw[decide_eq_false (by omega:¬s.length<=32)];rfl)
def tyW:List Tx:=[[110,117,108,108],[98,111,111,108],[105,110,116],[110,117,109,98,101,114],[115,116,114,105,110,103]]
theorem Yfa:Holds Tryz.prog 145 [strA [110,117,108,108,32,98,111,111,108,32,105,110,116,32,110,117,109,98,101,114,32,115,116,114,105,110,103],strA [32]] [] (Ret (slA (txs tyW))):=(Yad (m:=(145,[.d (Go.Sy.s [110,117,108,108,32,98,111,111,108,32,105,110,116,32,110,117,109,98,101,114,32,115,116,114,105,110,103]),.d (Go.Sy.s [32])],.d (Go.Sy.l (txs tyW)))) (by kernel_rfl)).2 (fun _=>.own 0 0) (by simp)
def bdW:List Tx:=[[60],[60,61],[62],[62,61],[33,61],[61,126],[33,126]]
theorem Yfb:Holds Tryz.prog 145 [strA [60,32,60,61,32,62,32,62,61,32,33,61,32,61,126,32,33,126],strA [32]] [] (Ret (slA (txs bdW))):=(Yad (m:=(145,[.d (Go.Sy.s [60,32,60,61,32,62,32,62,61,32,33,61,32,61,126,32,33,126]),.d (Go.Sy.s [32])],.d (Go.Sy.l (txs bdW)))) (by kernel_rfl)).2 (fun _=>.own 0 0) (by simp)
def unW:List Tx:=[[45],[33]]
theorem Yfc:Holds Tryz.prog 145 [strA [45,32,33],strA [32]] [] (Ret (slA (txs unW))):=(Yad (m:=(145,[.d (Go.Sy.s [45,32,33]),.d (Go.Sy.s [32])],.d (Go.Sy.l (txs unW)))) (by kernel_rfl)).2 (fun _=>.own 0 0) (by simp)
def biW:List Tx:=[[43],[45],[42],[47],[37],[61,61],[33,61],[60],[60,61],[62],[62,61],[38,38],[124,124]]
theorem Yfd:Holds Tryz.prog 145 [strA [43,32,45,32,42,32,47,32,37,32,61,61,32,33,61,32,60,32,60,61,32,62,32,62,61,32,38,38,32,124,124],strA [32]] [] (Ret (slA (txs biW))):=(Yad (m:=(145,[.d (Go.Sy.s [43,32,45,32,42,32,47,32,37,32,61,61,32,33,61,32,60,32,60,61,32,62,32,62,61,32,38,38,32,124,124]),.d (Go.Sy.s [32])],.d (Go.Sy.l (txs biW)))) (by kernel_rfl)).2 (fun _=>.own 0 0) (by simp)
theorem c132(s all:Tx)(set:List Tx)(hc:Holds Tryz.prog 145 [strA all,strA [32]] [] (Ret (slA (txs set))))(hn:[]∉set)(hl:set.length<=2^50):Holds Tryz.prog 132 [strA s,strA all] [] (Ret (Yan (decide (s∈set)))):=by
 refine w132 s all ⟨fun h=>call1 hc ⟨_,rfl,rfl,call1 (c71 s set hl) ⟨_,rfl,rfl,rfl,rfl⟩⟩,fun h=>?_⟩;have:s=[]:=Ya4 (nb0 h);subst this;exact Ya7 (by simp[hn])
def lnV(s:Tx):Bool:=decide ((10:UInt8)∈s)
def lnsV(l:List Tx):Bool:=l.all fun s=>!lnV s
theorem Ygx(s:Tx):Holds Tryz.prog 125 [strA s,strA [10]] [] (fun o H=>∃n:Int,o=.ret (intA n)/\H=[]/\(0<=n↔(10:UInt8)∈s)):=by
 refine Yga s ⟨fun h=>?_,fun h=>?_⟩
 ·have:s=[10]:=(Ya4 h).symm;exact⟨0,rfl,rfl,by rw[this];simp⟩
 ·refine call1 (v:=intA (Go.Rx.idxV s 10)) (Go.Rx.c94 s 10) ⟨_,rfl,rfl,_,rfl,rfl,?_⟩;rw[Go.Rx.idxV_nonneg s 10 (by decide),List.any_eq_true]
  exact⟨fun⟨b,hb,he⟩=>by
   have he:b.toNat=10:=by simpa using he
   have:b=10:=UInt8.toNat_inj.1 he;rw[<-this];exact hb,fun hb=>⟨10,hb,rfl⟩⟩
theorem Ygy(s:Tx):Holds Tryz.prog 111 [strA s,strA [10]] [] (fun o H=>∃n:Int,o=.ret (intA n)/\H=[]/\(0<=n↔(10:UInt8)∈s)):=
 Yf9 s fun _=>⟨_,Ygx s,fun v H' ⟨n,e1,e2,e3⟩=>⟨n,Out.ret.inj e1,e2,n,rfl,rfl,e3⟩,fun u H' ⟨n,e1,_⟩=>by cases e1⟩
theorem c96(s:Tx):Holds Tryz.prog 96 [strA s,strA [10]] [] (Ret (Yan (lnV s))):=
 w96 s [10] fun _=>⟨_,Ygy s,fun v H' ⟨n,e1,e2,e3⟩=>⟨n,Out.ret.inj e1,e2,Ya7 (by unfold lnV;simp[e3])⟩,fun u H' ⟨n,e1,_⟩=>by cases e1⟩
theorem c95(s:Tx):Holds Tryz.prog 95 [strA s] [] (Ret (Yan (lnV s))):=w95 s (call1 (c96 s) ⟨_,rfl,rfl,rfl,rfl⟩)
theorem c110(l:List Tx)(hl:l.length<=2^50):Holds Tryz.prog 110 [slA (txs l),.fn 95 []] [] (fun o H=>∃n:Int,o=.ret (intA n)/\H=[]/\(0<=n↔∃s∈l,lnV s=true)):=by
 refine w110 (txs l) ⟨fun x=>∃i:Nat,x=i/\i<=l.length/\ ∀j (h:j<l.length),j<i->lnV l[j]=false,fun x=>l.length-x.toNat,⟨0,rfl,Nat.zero_le _,fun j _ h=>absurd h (Nat.not_lt_zero j)⟩,?_,trivial⟩;rintro x ⟨i,rfl,hi,hr⟩;refine⟨fun hc=>?_,fun hc=>?_⟩
 ·have k1:i<l.length:=by have:=of_tlt hc;simp at this;omega
  have g:=getT k1;rw[g.2];refine⟨tle (by omega),teq (by rw[gT1 k1];rfl),g.1,call1 (c95 _) ⟨_,rfl,rfl,fun h=>⟨i,rfl,rfl,by simp;exact⟨_,List.getElem_mem k1,h⟩⟩,fun h=>⟨tle (by omega),tle (by omega),⟨i+1,rfl,k1,fun j hj h1=>?_⟩,dec k1⟩⟩⟩;rcases Nat.lt_succ_iff_lt_or_eq.1 h1 with h5|rfl
  ·exact hr j hj h5
  ·exact h
 ·have k1:l.length<=i:=by have:=of_flt hc;simp at this;omega
  refine⟨-1,rfl,rfl,⟨fun h=>by omega,fun⟨s,hs,h⟩=>?_⟩⟩;obtain⟨j,hj,rfl⟩:=List.getElem_of_mem hs;rw[hr j hj (by omega)]at h;cases h
theorem c94(l:List Tx)(hl:l.length<=2^50):Holds Tryz.prog 94 [slA (txs l),.fn 95 []] [] (Ret (Yan (!lnsV l))):=
 w94 (txs l) fun _=>⟨_,c110 l hl,fun v H' ⟨n,e1,e2,e3⟩=>⟨n,Out.ret.inj e1,e2,Ya7 (by
  unfold lnsV;rw[Bool.eq_iff_iff];simp[e3])⟩,fun u H' ⟨n,e1,_⟩=>by cases e1⟩
theorem c49(l:List Tx)(hl:l.length<=2^50):Holds Tryz.prog 49 [slA (txs l)] [] (Ret (Yan (lnsV l))):=w49 (txs l) (call1 (c94 l hl) ⟨_,rfl,rfl,Ya7 (by simp)⟩)
def bls(l:List Bool):List (List D):=l.map fun b=>[.lit (.bool b)]
abbrev BC(q:Ref)(w d:Bool):List (Ref×List A):=[(.up q,[Yan w,Yan d])]
theorem gB{l:List Bool}{i:Nat}(h:i<l.length):gAt (bls l) (i:Int)=[.lit (.bool l[i])]:=by simp[gAt,bls,List.getD,h]
theorem c109(l:List Bool)(hl:l.length<=2^50):Holds Tryz.prog 109 [slA (bls l),Yan false] [] (fun o H=>∃n:Int,o=.ret (intA n)/\H=[]/\(0<=n↔false∈l)):=by
 have hbl:(bls l).length=l.length:=by simp[bls]
 refine w109 (bls l) false ⟨fun x=>∃i:Nat,x=i/\i<=l.length/\ ∀j (h:j<l.length),j<i->l[j]=true,fun x=>l.length-x.toNat,⟨0,rfl,Nat.zero_le _,fun j _ h=>absurd h (Nat.not_lt_zero j)⟩,?_,trivial⟩;rintro x ⟨i,rfl,hi,hr⟩;rw[hbl];refine⟨fun hc=>?_,fun hc=>?_⟩
 ·have k1:i<l.length:=by have:=of_tlt hc;omega
  rw[gB k1]
  refine⟨tle (by omega),teq rfl,rfl,fun h=>⟨i,rfl,rfl,by simp;have h:false=l[i]:=by simpa using h
                                                         rw[h];exact List.getElem_mem k1⟩,fun h=>⟨tle (by omega),tle (by omega),⟨i+1,rfl,k1,fun j hj h1=>?_⟩,dec k1⟩⟩
  rcases Nat.lt_succ_iff_lt_or_eq.1 h1 with h5|rfl
  ·exact hr j hj h5
  ·cases hb:l[j]with
   |true=>rfl
   |false=>simp[hb]at h
 ·have k1:l.length<=i:=by have:=of_flt hc;omega
  refine⟨-1,rfl,rfl,⟨fun h=>by omega,fun hs=>?_⟩⟩;obtain⟨j,hj,e⟩:=List.getElem_of_mem hs;rw[hr j hj (by omega)]at e;cases e
theorem c92(l:List Bool)(hl:l.length<=2^50):Holds Tryz.prog 92 [slA (bls l),Yan false] [] (Ret (Yan (!l.all id))):=
 w92 (bls l) false fun _=>⟨_,c109 l hl,fun v H' ⟨n,e1,e2,e3⟩=>⟨n,Out.ret.inj e1,e2,Ya7 (by
  rw[Bool.eq_iff_iff];simp[e3])⟩,fun u H' ⟨n,e1,_⟩=>by cases e1⟩
theorem c47(q:Ref)(w d:Bool)(l:List Bool)(hl:l.length<=2^50):Holds Tryz.prog 47 [.ptr (.up q) 0,slA (bls l)] (BC q w d) (RB (BC q (w||!l.all id) d)):=by
 refine w47 w d (bls l) q ⟨fun h=>call1 (c92 l hl) ⟨_,rfl,rfl,?_⟩,fun h=>?_⟩
 ·have:w=false:=nb1 h;subst this;exact⟨rfl,rfl⟩
 ·have:w=true:=nb0 h;subst this;exact⟨rfl,rfl⟩
theorem Yaa{f:FuncId}{args:List A}{K0:List (Ref×List A)}{r:Ref}{w d:Bool}(hc:Holds Tryz.prog f args K0 (RB [(r,[Yan w,Yan d])])){K:Bool->Bool->Prop}{QP:Value->List (Ref×List A)->Prop}(h:K w d):
 ∀_:Nat->Nat,∃R':Out->List (Ref×List A)->Prop,Holds Tryz.prog f args K0 R'/\(∀v H',R' (.ret v) H'-> ∃x y,v=.tup []/\H'=[(r,[Yan x,Yan y])]/\K x y)/\(∀u H',R' (.pan u) H'->QP u H'):=
 fun _=>⟨_,hc,fun v H' e=>by obtain⟨e1,e2⟩:=e;cases e1;exact⟨w,d,rfl,e2,h⟩,fun u H' e=>by cases e.1⟩
def difV(a b:Tx):Bool:=idV a&&(idV b&&!(a==b))
def nonV(a b:Tx):Bool:=a.isEmpty&&b.isEmpty
theorem c113(a b:Tx):Holds Tryz.prog 113 [.agg [dS a,dS b]] [] (Ret (Yan (difV a b))):=by
 refine w113 _ ?_;simp only[List.getD_cons_zero,List.getD_cons_succ,Ybe,Ya3,Bool.or_true,true_and];refine⟨teq rfl,call1 (c48 a) ⟨idV a,rfl,rfl,fun h=>call1 (c48 b) ⟨idV b,rfl,rfl,Ya7 ?_⟩,fun h=>Ya7 ?_⟩⟩
 ·unfold difV;rw[h];simp
 ·unfold difV;rw[h];rfl
theorem c114(a b:Tx):Holds Tryz.prog 114 [.agg [dS a,dS b]] [] (Ret (Yan (nonV a b))):=by
 refine w114 _ ?_;simp only[List.getD_cons_zero,List.getD_cons_succ,Ybe,Ya3,true_and];exact⟨teq rfl,Ya7 (by unfold nonV;simp)⟩
def fixV(n:Int):Bool:=decide (-1000000000000000<=n)&&decide (n<=1000000000000000)
theorem c120(n:Int):Holds Tryz.prog 120 [intA n] [] (Ret (Yan (fixV n))):=w120 n (Ya7 (by unfold fixV;simp))
theorem c51(q:Ref)(w d:Bool):Holds Tryz.prog 51 [.ptr (.up q) 0] (BC q w d) (RetB (intA (if w then 11 else if d then 9 else 0)) (BC q w d)):=
 w51 w d q ⟨fun h=>by subst h;exact⟨rfl,rfl⟩,fun h=>by subst h;exact⟨fun h=>by subst h;exact⟨rfl,rfl⟩,fun h=>by subst h;exact⟨rfl,rfl⟩⟩⟩
end Go.Sy
end
section
open Go Go.Proofs Go.Ab Go.Rf
set_option linter.unusedSimpArgs false
set_option linter.unusedVariables false
set_option maxRecDepth 100000
namespace Go.Sy
theorem Yaj{q:Ref}{a b d:Bool}(h:a=b):RB (BC q b d) (.ret (.tup [])) (BC q a d):=by subst h;exact⟨rfl,rfl⟩
theorem Ya8{w a b:Bool}(h:a=b):(w||!a)=(w||!b):=by rw[h]
def Yah(k num n:Int):Bool:=
 if k=10\/k=21 then true else if k=5 then decide (1<=n)else if k=9\/k=11\/k=18\/k=19 then n==1 else if k=12\/k=16\/k=20 then n==2
 else if k=15 then(n==2||n==3)else if k=17 then decide (2<=n)else if k=14 then decide (gAnd .i64 num 1<=n)else n==0
theorem c117(r:Nd)(q:Ref)(w d:Bool):Holds Tryz.prog 117 [.ptr (.up q) 0,.agg (encE r)] (BC q w d) (RB (BC q (w||!Yah r.kind r.num r.subs.length) d)):=by
 refine w117 w d (encE r) q ?_;simp only[Yau,e0,e1,e2,e3,e4,e5,e6,e7,e8,isK_int,Ya3,isK_slc,dint_int,Ybe,dlst_slc,true_and,Yag,Yaf,Yat];generalize r.kind=k;generalize r.num=num;generalize(r.subs.length:Int)=n;refine⟨teq rfl,?_⟩;refine⟨fun h=>?_,fun h=>?_⟩
 ·obtain rfl:k=10:=of_teq h;exact Yaj (by simp[Yah])
 ·have h0:=of_feq h;refine⟨fun h=>?_,fun h=>?_⟩
  ·obtain rfl:k=21:=of_teq h;exact Yaj (by simp[Yah])
  ·have h1:=of_feq h;refine⟨fun h=>?_,fun h=>?_⟩
   ·obtain rfl:k=5:=of_teq h;exact Yaa (c47 _ _ _ [_] (by simp)) (Yaj (Ya8 (by simp[Yah])))
   ·have h2:=of_feq h;refine⟨fun h=>?_,fun h=>?_⟩
    ·obtain rfl:k=9:=of_teq h;exact Yaa (c47 _ _ _ [_] (by simp)) (Yaj (Ya8 (by simp[Yah])))
    ·have h3:=of_feq h;refine⟨fun h=>?_,fun h=>?_⟩
     ·obtain rfl:k=11:=of_teq h;exact Yaa (c47 _ _ _ [_] (by simp)) (Yaj (Ya8 (by simp[Yah])))
     ·have h4:=of_feq h;refine⟨fun h=>?_,fun h=>?_⟩
      ·obtain rfl:k=18:=of_teq h;exact Yaa (c47 _ _ _ [_] (by simp)) (Yaj (Ya8 (by simp[Yah])))
      ·have h5:=of_feq h;refine⟨fun h=>?_,fun h=>?_⟩
       ·obtain rfl:k=19:=of_teq h;exact Yaa (c47 _ _ _ [_] (by simp)) (Yaj (Ya8 (by simp[Yah])))
       ·have h6:=of_feq h;refine⟨fun h=>?_,fun h=>?_⟩
        ·obtain rfl:k=12:=of_teq h;exact Yaa (c47 _ _ _ [_] (by simp)) (Yaj (Ya8 (by simp[Yah])))
        ·have h7:=of_feq h;refine⟨fun h=>?_,fun h=>?_⟩
         ·obtain rfl:k=16:=of_teq h;exact Yaa (c47 _ _ _ [_] (by simp)) (Yaj (Ya8 (by simp[Yah])))
         ·have h8:=of_feq h;refine⟨fun h=>?_,fun h=>?_⟩
          ·obtain rfl:k=20:=of_teq h;exact Yaa (c47 _ _ _ [_] (by simp)) (Yaj (Ya8 (by simp[Yah])))
          ·have h9:=of_feq h;refine⟨fun h=>?_,fun h=>?_⟩
           ·obtain rfl:k=15:=of_teq h;exact Yaa (c47 _ _ _ [_] (by simp)) (Yaj (Ya8 (by simp[Yah])))
           ·have h10:=of_feq h;refine⟨fun h=>?_,fun h=>?_⟩
            ·obtain rfl:k=17:=of_teq h;exact Yaa (c47 _ _ _ [_] (by simp)) (Yaj (Ya8 (by simp[Yah])))
            ·have h11:=of_feq h;refine⟨fun h=>?_,fun h=>?_⟩
             ·obtain rfl:k=14:=of_teq h;exact Yaa (c47 _ _ _ [_] (by simp)) (Yaj (Ya8 (by simp[Yah])))
             ·have h12:=of_feq h;exact Yaa (c47 _ _ _ [_] (by simp)) (Yaj (Ya8 (by simp[Yah,h0,h1,h2,h3,h4,h5,h6,h7,h8,h9,h10,h11,h12])))
def Yam(k:Int)(t:Tx):Bool:=
 if k=10\/k=4\/k=11 then true else if k=8 then decide (t∈tyW)else if k=9 then decide (t∈bdW)else if k=19 then decide (t∈unW)else if k=20 then decide (t∈biW)
 else if k=21 then idV t else t.isEmpty
theorem c118(r:Nd)(q:Ref)(w d:Bool):Holds Tryz.prog 118 [.ptr (.up q) 0,.agg (encE r)] (BC q w d) (RB (BC q (w||!Yam r.kind r.text) d)):=by
 refine w118 w d (encE r) q ?_;simp only[Yau,e0,e1,e2,e3,e4,e5,e6,e7,e8,isK_int,Ya3,isK_slc,dint_int,Ybe,dlst_slc,true_and,Yag,Yaf,Yat];generalize r.kind=k;generalize r.text=t;refine⟨teq rfl,?_⟩;refine⟨fun h=>?_,fun h=>?_⟩
 ·obtain rfl:k=10:=of_teq h;exact Yaj (by simp[Yam])
 ·have h0:=of_feq h;refine⟨fun h=>?_,fun h=>?_⟩
  ·obtain rfl:k=4:=of_teq h;exact Yaj (by simp[Yam])
  ·have h1:=of_feq h;refine⟨fun h=>?_,fun h=>?_⟩
   ·obtain rfl:k=11:=of_teq h;exact Yaj (by simp[Yam])
   ·have h2:=of_feq h;refine⟨fun h=>?_,fun h=>?_⟩
    ·obtain rfl:k=8:=of_teq h;exact call1 (c132 t _ tyW Yfa (by decide) (by decide)) ⟨_,rfl,rfl,Yaa (c47 _ _ _ [_] (by simp)) (Yaj (Ya8 (by simp[Yam])))⟩
    ·have h3:=of_feq h;refine⟨fun h=>?_,fun h=>?_⟩
     ·obtain rfl:k=9:=of_teq h;exact call1 (c132 t _ bdW Yfb (by decide) (by decide)) ⟨_,rfl,rfl,Yaa (c47 _ _ _ [_] (by simp)) (Yaj (Ya8 (by simp[Yam])))⟩
     ·have h4:=of_feq h;refine⟨fun h=>?_,fun h=>?_⟩
      ·obtain rfl:k=19:=of_teq h;exact call1 (c132 t _ unW Yfc (by decide) (by decide)) ⟨_,rfl,rfl,Yaa (c47 _ _ _ [_] (by simp)) (Yaj (Ya8 (by simp[Yam])))⟩
      ·have h5:=of_feq h;refine⟨fun h=>?_,fun h=>?_⟩
       ·obtain rfl:k=20:=of_teq h;exact call1 (c132 t _ biW Yfd (by decide) (by decide)) ⟨_,rfl,rfl,Yaa (c47 _ _ _ [_] (by simp)) (Yaj (Ya8 (by simp[Yam])))⟩
       ·have h6:=of_feq h;refine⟨fun h=>?_,fun h=>?_⟩
        ·obtain rfl:k=21:=of_teq h;exact call1 (c48 t) ⟨_,rfl,rfl,Yaa (c47 _ _ _ [_] (by simp)) (Yaj (Ya8 (by simp[Yam])))⟩
        ·have h7:=of_feq h;exact Yaa (c47 _ _ _ [_] (by simp)) (Yaj (Ya8 (by simp[Yam,h0,h1,h2,h3,h4,h5,h6,h7])))
def refW:List Tx:=[[102,105,101,108,100],[108,111,111,112],[112,97,99,107,97,103,101],[117,110,107,110,111,119,110]]
def Yb7(t a b:Tx)(num n:Int):Bool:=
 idV t&&(if a=[]then nonV a b&&(num==0&&n==0)else if a=LET then n==1&&(b.isEmpty&&decide (0<=num))else if a∈refW then n==0&&(b.isEmpty&&decide (0<=num))else false)
theorem Ybw{w a b c:Bool}(h:c=(a&&b)):(w||!a||!b)=(w||!c):=by rw[h,Bool.not_and,Bool.or_assoc]
theorem c119(r:Nd)(q:Ref)(w d:Bool):Holds Tryz.prog 119 [.ptr (.up q) 0,.agg (encE r)] (BC q w d) (RB (BC q (w||!Yb7 r.text r.n0 r.n1 r.num r.subs.length) d)):=by
 refine w119 w d (encE r) q ?_;simp only[Yau,e0,e1,e2,e3,e4,e5,e6,e7,e8,isK_int,Ya3,isK_slc,dint_int,Ybe,dlst_slc,true_and,Yag,Yaf,Yat];generalize r.text=t;generalize r.n0=a;generalize r.n1=b;generalize r.num=num;generalize(r.subs.length:Int)=n;refine⟨teq rfl,call1 (c48 t) ⟨_,rfl,rfl,Yaa (c47 _ _ _ [_] (by simp)) ?_⟩⟩;refine⟨fun h=>?_,fun h=>?_⟩
 ·obtain rfl:a=[]:=Ya4 h;exact⟨_,fun _=>c114 _ _,Yaa (c47 _ _ _ [_,_,_] (by simp)) (Yaj (by simp only[List.all_cons,List.all_nil,Bool.and_true,id];exact Ybw (by simp[Yb7])))⟩
 ·have h0:=Ybh h;refine⟨fun h=>?_,fun h=>?_⟩
  ·obtain rfl:a=[108,101,116]:=Ya4 h;exact Yaa (c47 _ _ _ [_,_,_] (by simp)) (Yaj (by simp only[List.all_cons,List.all_nil,Bool.and_true,id];exact Ybw (by simp[Yb7,LET,refW])))
  ·have h1:=Ybh h;refine⟨fun h=>?_,fun h=>?_⟩
   ·obtain rfl:a=[102,105,101,108,100]:=Ya4 h;exact Yaa (c47 _ _ _ [_,_,_] (by simp)) (Yaj (by simp only[List.all_cons,List.all_nil,Bool.and_true,id];exact Ybw (by simp[Yb7,LET,refW])))
   ·have h2:=Ybh h;refine⟨fun h=>?_,fun h=>?_⟩
    ·obtain rfl:a=[108,111,111,112]:=Ya4 h;exact Yaa (c47 _ _ _ [_,_,_] (by simp)) (Yaj (by simp only[List.all_cons,List.all_nil,Bool.and_true,id];exact Ybw (by simp[Yb7,LET,refW])))
    ·have h3:=Ybh h;refine⟨fun h=>?_,fun h=>?_⟩
     ·obtain rfl:a=[112,97,99,107,97,103,101]:=Ya4 h;exact Yaa (c47 _ _ _ [_,_,_] (by simp)) (Yaj (by simp only[List.all_cons,List.all_nil,Bool.and_true,id];exact Ybw (by simp[Yb7,LET,refW])))
     ·have h4:=Ybh h;refine⟨fun h=>?_,fun h=>?_⟩
      ·obtain rfl:a=[117,110,107,110,111,119,110]:=Ya4 h;exact Yaa (c47 _ _ _ [_,_,_] (by simp)) (Yaj (by simp only[List.all_cons,List.all_nil,Bool.and_true,id];exact Ybw (by simp[Yb7,LET,refW])))
      ·have h5:=Ybh h;exact Yaa (c47 _ _ _ [_] (by simp)) (Yaj (by simp only[List.all_cons,List.all_nil,Bool.and_true,id];exact Ybw (by simp[Yb7,LET,refW,h0,h1,h2,h3,h4,h5])))
end Go.Sy
end
section
open Go Go.Proofs Go.Ab Go.Rf
set_option linter.unusedSimpArgs false
set_option linter.unusedVariables false
set_option maxRecDepth 100000
namespace Go.Sy
abbrev posV(cj io il:Bool)(lv:Int):List D:=[.lit (.bool cj),.lit (.bool io),.lit (.bool il),.lit (.int .i64 lv)]
def Ybn(k num:Int):Bool:=if k=2\/k=14 then num==0||num==1 else if k=3 then decide (0<=num)&&fixV num else num==0
def Yb8(k:Int)(cj io il:Bool):Bool:=((io||!(k==18))&&(il||!(k==15)))&&((cj||!(k==13))&&(!cj||!(k==22)))
def Yba(r:Nd)(cj io il:Bool):Bool:=
 ((((decide (1<=r.kind)&&decide (r.kind<=22))&&Yah r.kind r.num r.subs.length)&&Yam r.kind r.text)&&(((r.kind==13||r.kind==22)||((r.decls.length:Int)+(r.tail.length:Int)==0))&&lnsV r.tail))&&
   (if r.kind=10 then Yb7 r.text r.n0 r.n1 r.num r.subs.length else(Ybn r.kind r.num&&(if r.kind=15 then difV r.n0 r.n1 else nonV r.n0 r.n1))&&Yb8 r.kind cj io il)
theorem c102(r:Nd)(q:Ref)(w d cj io il:Bool)(lv:Int)(h1:r.decls.length<=2^50)(h2:r.tail.length<=2^50):
 Holds Tryz.prog 102 [.ptr (.up q) 0,.agg (encE r),.agg (posV cj io il lv)] (BC q w d) (RB (BC q (w||!Yba r cj io il) d)):=by
 have key:∀a b c e f g:Bool,(w||!a||!b||!c||!(e&&f)||!g)=(w||!((((a&&b)&&c)&&(e&&f))&&g)):=by intros a b c e f g;cases w<;>cases a<;>cases b<;>cases c<;>cases e<;>cases f<;>cases g<;>rfl
 refine w102 w d (encE r) (posV cj io il lv) q ?_;simp only[Yau,e0,e1,e2,e3,e4,e5,e6,e7,e8,isK_int,Ya3,isK_slc,dint_int,Ybe,dlst_slc,true_and,Yag,Yaf,Yat,Bool.or_true];refine⟨teq rfl,teq rfl,Yaa (c47 _ _ _ [_] (by simp)) (Yaa (c117 r _ _ _) (Yaa (c118 r _ _ _) ⟨by rw[tle (by omega),Bool.or_true],by rw[tle (by omega),Bool.or_true],_,fun _=>c49 _ h2,Yaa (c47 _ _ _ [_,_] (by simp)) ?_⟩))⟩;refine⟨fun _ x y=>y=d/\x=(w||!(decide (1<=r.kind)&&decide (r.kind<=22))||!Yah r.kind r.num r.subs.length||!Yam r.kind r.text||!(((r.kind==13||r.kind==22)||((r.decls.length:Int)+(r.tail.length:Int)==0))&&lnsV r.tail)||!Ybn r.kind r.num)/\r.kind≠10,⟨fun hk=>?_,fun hk=>⟨fun hk2=>?_,fun hk2=>⟨fun hk3=>?_,fun hk3=>⟨fun hk4=>?_,fun hk4=>?_⟩⟩⟩⟩,?_,trivial⟩
 ·have hk:=of_teq hk;refine Yaa (c119 r _ _ _) (Yaj ?_);simp only[List.all_cons,List.all_nil,Bool.and_true,id,Zwb];rw[key,Yba,if_pos hk]
 ·have hk:=of_feq hk;have hk2:=of_teq hk2;refine Yaa (c47 _ _ _ [_] (by simp)) ⟨rfl,?_,hk⟩;simp only[List.all_cons,List.all_nil,Bool.and_true,id,Zwb,Ybn,if_pos (Or.inl hk2)]
 ·have hk:=of_feq hk;have hk2:=of_feq hk2;have hk3:=of_teq hk3;refine Yaa (c47 _ _ _ [_] (by simp)) ⟨rfl,?_,hk⟩;simp only[List.all_cons,List.all_nil,Bool.and_true,id,Zwb,Ybn,if_pos (Or.inr hk3)]
 ·have hk:=of_feq hk;have hk2:=of_feq hk2;have hk3:=of_feq hk3;have hk4:=of_teq hk4;refine⟨_,fun _=>c120 _,Yaa (c47 _ _ _ [_,_] (by simp)) ⟨rfl,?_,hk⟩⟩;simp only[List.all_cons,List.all_nil,Bool.and_true,id,Zwb,Ybn,if_neg (fun e:r.kind=2\/r.kind=14=>e.elim hk2 hk3),if_pos hk4]
 ·have hk:=of_feq hk;have hk2:=of_feq hk2;have hk3:=of_feq hk3;have hk4:=of_feq hk4;refine Yaa (c47 _ _ _ [_] (by simp)) ⟨rfl,?_,hk⟩;simp only[List.all_cons,List.all_nil,Bool.and_true,id,Zwb,Ybn,if_neg (fun e:r.kind=2\/r.kind=14=>e.elim hk2 hk3),if_neg hk4]
 ·rintro _ x y ⟨rfl,hx,hk⟩;refine⟨fun _ z y'=>y'=y/\z=(x||!(if r.kind=15 then difV r.n0 r.n1 else nonV r.n0 r.n1)),⟨fun h=>?_,fun h=>?_⟩,?_,trivial⟩
  ·refine call1 (c113 _ _) ⟨_,rfl,rfl,Yaa (c47 _ _ _ [_] (by simp)) ⟨rfl,?_⟩⟩;rw[if_pos (of_teq h)];simp
  ·refine call1 (c114 _ _) ⟨_,rfl,rfl,Yaa (c47 _ _ _ [_] (by simp)) ⟨rfl,?_⟩⟩;rw[if_neg (of_feq h)];simp
  ·rintro _ z y' ⟨rfl,hz⟩;refine⟨rfl,rfl,Yaa (c47 _ _ _ [_,_] (by simp)) ⟨rfl,Yaa (c47 _ _ _ [_,_] (by simp)) (Yaj ?_)⟩⟩;simp only[List.all_cons,List.all_nil,Bool.and_true,id,Zwb];have e:=key (decide (1<=r.kind)&&decide (r.kind<=22)) (Yah r.kind r.num r.subs.length) (Yam r.kind r.text) ((r.kind==13||r.kind==22)||((r.decls.length:Int)+(r.tail.length:Int)==0)) (lnsV r.tail) ((Ybn r.kind r.num&&(if r.kind=15 then difV r.n0 r.n1 else nonV r.n0 r.n1))&&Yb8 r.kind cj io il)
   rw[Yba,if_neg hk,<-e,hz,hx,Yb8];simp only[Bool.not_and,Bool.or_assoc];rfl
end Go.Sy
end
section
open Go Go.Proofs Go.Ab Go.Rf
set_option linter.unusedSimpArgs false
set_option linter.unusedVariables false
set_option maxRecDepth 100000
namespace Go.Sy
def Ycs(k:Int)(t:Tx)(sc:Bool):Bool:=if k=1 then true else if k=2 then(Go.Rx.parseV t).2.1==0 else if k=4 then sc&&idV t else t.isEmpty&&(sc||!(k==8))
def nSub(k:Int):Int:=if k=7 then 2 else if k=8 then 0 else 1
def Ydh(r:Nd)(sc:Bool):Bool:=
 (((decide (1<=r.kind)&&decide (r.kind<=8))&&(lnsV r.lead&&(lnsV r.tail&&(lnsV [r.trail]&&((r.kind==5||r.kind==6)||((r.decls.length:Int)+(r.tail.length:Int)==0))))))&&
   (if r.kind=1 then decide (1<=r.num)&&decide (r.num<=3)else r.num==0))&&(Ycs r.kind r.text sc&&((if r.kind=6 then difV r.n0 r.n1 else nonV r.n0 r.n1)&&((r.subs.length:Int)==nSub r.kind)))
def ownK(k:Int):Bool:=((k==1||k==2)||k==3)||k==4
mutual
def okE:Nd->Bool->Bool->Bool->Bool
 |.mk k n t a b tr le ta p s d,cj,io,il=>(Yba (.mk k n t a b tr le ta p s d) cj io il&&okEs s ((k==16&&cj)||k==10) (k==17) (k==14) (k==14&&n==0))&&okDs d (k==13)
def okEs:List Nd->Bool->Bool->Bool->Bool->Bool
 |[],_,_,_,_=>true
 |x::l,cj,io,il,il2=>okE x cj io (if l.isEmpty then il2 else il)&&okEs l cj io il il2
def okD:Nd->Bool->Bool
 |.mk k n t a b tr le ta p s d,sc=>(Ydh (.mk k n t a b tr le ta p s d) sc&&okFs s (sc&&ownK k))&&okDs d false
def okFs:List Nd->Bool->Bool
 |[],_=>true
 |x::l,cj=>okE x cj false false&&okFs l false
def okDs:List Nd->Bool->Bool
 |[],_=>true
 |x::l,sc=>okD x sc&&okDs l sc
end
mutual
def dpE:Nd->Int->Bool
 |.mk _ _ _ _ _ _ _ _ _ s d,lv=>(decide (16<lv)||dpEs s (lv+1))||dpDs d (lv+1)
def dpEs:List Nd->Int->Bool
 |[],_=>false
 |x::l,lv=>dpE x lv||dpEs l lv
def dpDs:List Nd->Int->Bool
 |[],_=>false
 |x::l,lv=>dpE x lv||dpDs l lv
end
theorem Yc9(r:Nd)(cj io il:Bool):okE r cj io il=((Yba r cj io il&&okEs r.subs ((r.kind==16&&cj)||r.kind==10) (r.kind==17) (r.kind==14) (r.kind==14&&r.num==0))&&okDs r.decls (r.kind==13)):=by cases r;rw[okE];rfl
theorem Yex(r:Nd)(sc:Bool):okD r sc=((Ydh r sc&&okFs r.subs (sc&&ownK r.kind))&&okDs r.decls false):=by cases r;rw[okD];rfl
theorem Yct(r:Nd)(lv:Int):dpE r lv=((decide (16<lv)||dpEs r.subs (lv+1))||dpDs r.decls (lv+1)):=by cases r;rw[dpE];rfl
theorem Yd4{l:List Nd}{i:Nat}(cj io il il2:Bool)(h:i<l.length):okEs (l.drop i) cj io il il2=(okE l[i] cj io (if i+1<l.length then il else il2)&&okEs (l.drop (i+1)) cj io il il2):=by
 rw[List.drop_eq_getElem_cons h,okEs]
 congr 2
 by_cases h1:i+1<l.length
 ·rw[if_pos h1,if_neg (by simp;omega)]
 ·rw[if_neg h1,if_pos (by simp;omega)]
theorem Yd5{l:List Nd}{i:Nat}(sc:Bool)(h:i<l.length):okDs (l.drop i) sc=(okD l[i] sc&&okDs (l.drop (i+1)) sc):=by rw[List.drop_eq_getElem_cons h,okDs]
theorem Yd6{l:List Nd}{i:Nat}(cj:Bool)(h:i<l.length):okFs (l.drop i) (cj&&(i==0))=(okE l[i] (cj&&(i==0)) false false&&okFs (l.drop (i+1)) (cj&&(i+1==0))):=by
 rw[List.drop_eq_getElem_cons h,okFs];simp
theorem Ycu{l:List Nd}{i:Nat}(lv:Int)(h:i<l.length):dpEs (l.drop i) lv=(dpE l[i] lv||dpEs (l.drop (i+1)) lv):=by rw[List.drop_eq_getElem_cons h,dpEs]
theorem Yd7{l:List Nd}{i:Nat}(lv:Int)(h:i<l.length):dpDs (l.drop i) lv=(dpE l[i] lv||dpDs (l.drop (i+1)) lv):=by rw[List.drop_eq_getElem_cons h,dpDs]
abbrev H58(r:Nd):Prop:=∀(q:Ref)(w d cj io il:Bool)(lv:Int),0<=lv->lv+size r<=2^50->
 Holds Tryz.prog 58 [.ptr (.up q) 0,.agg (encE r),.agg (posV cj io il lv)] (BC q w d) (RB (BC q (w||!okE r cj io il) (d||dpE r lv)))
abbrev H97(r:Nd):Prop:=∀(q:Ref)(w d sc:Bool)(lv:Int),0<=lv->lv+size r<=2^50->
 Holds Tryz.prog 97 [.ptr (.up q) 0,.agg (encD r),Yan sc,intA lv] (BC q w d) (RB (BC q (w||!okD r sc) (d||dpE r lv)))
abbrev H50(l:List Nd):Prop:=∀(q:Ref)(w d sc:Bool)(lv:Int),0<=lv->lv+sizes l<=2^50->
 Holds Tryz.prog 50 [.ptr (.up q) 0,slA (Ya2 l),Yan sc,intA lv] (BC q w d) (RB (BC q (w||!okDs l sc) (d||dpDs l lv)))
theorem Yd8{q:Ref}{a b c d:Bool}(h:a=b)(h2:c=d):RB (BC q b d) (.ret (.tup [])) (BC q a c):=by subst h;subst h2;exact⟨rfl,rfl⟩
theorem c50(l:List Nd)(ih:∀x∈l,H97 x):H50 l:=by
 intro q w d sc lv h0 hb;have hll:=Ybr l;refine w50 w d (Ya2 l) sc lv q ⟨fun x y z=>∃i:Nat,x=i/\i<=l.length/\(y||!okDs (l.drop i) sc)=(w||!okDs l sc)/\(z||dpDs (l.drop i) lv)=(d||dpDs l lv),fun x _ _=>l.length-x.toNat,⟨0,rfl,Nat.zero_le _,rfl,rfl⟩,?_,trivial⟩;rintro x y z ⟨i,rfl,hi,hy,hz⟩;rw[Yaf];refine⟨fun hc=>?_,fun hc=>?_⟩
 ·have k1:i<l.length:=by have:=of_tlt hc;omega
  have hm:=List.getElem_mem k1;have hsz:=Ya0 hm;rw[Ygb rfl k1];refine⟨tle (by omega),teq (by simp),Yaa (ih _ hm _ y z sc lv h0 (by omega)) ⟨tle (by omega),tle (by omega),⟨i+1,rfl,k1,?_,?_⟩,dec k1⟩⟩
  ·rw[<-hy,Yd5 sc k1,Bool.not_and,Bool.or_assoc]
  ·rw[<-hz,Yd7 lv k1,Bool.or_assoc]
 ·have k1:l.length<=i:=by have:=of_flt hc;omega
  rw[List.drop_eq_nil_of_le k1]at hy hz;exact Yd8 (by rw[<-hy];simp[okDs]) (by rw[<-hz];simp[dpDs])
theorem c58(r:Nd)(h1:r.decls.length<=2^50)(h2:r.tail.length<=2^50)(ihs:∀x∈r.subs,H58 x)(ihd:H50 r.decls):H58 r:=by
 intro q w d cj io il lv h0 hb;have hz:=size_eq r;have hsl:=Ybr r.subs;have hE:=Yc9 r cj io il;have hP:=Yct r lv;refine w58 w d (encE r) (posV cj io il lv) q ?_;simp only[Yau,e0,e1,e2,e3,e4,e5,e6,e7,e8,isK_int,Ya3,isK_slc,dint_int,Ybe,dlst_slc,true_and,Yag,Yaf,Yat,Bool.or_true];refine⟨teq rfl,teq rfl,fun _ y=>y=(d||decide (16<lv)),⟨rfl,fun h=>?_,fun h=>?_⟩,?_,trivial⟩
 ·have h:16<lv:=of_tlt h;simp[h]
 ·have h:¬16<lv:=by have:lv<=16:=of_flt h;omega
  simp[h]
 ·rintro _ y rfl;refine Yaa (c102 r _ _ _ cj io il lv h1 h2) ?_;refine⟨fun x y z=>∃i:Nat,x=i/\i<=r.subs.length/\(y||!okEs (r.subs.drop i) ((r.kind==16&&cj)||r.kind==10) (r.kind==17) (r.kind==14) (r.kind==14&&r.num==0))=(w||!(Yba r cj io il&&okEs r.subs ((r.kind==16&&cj)||r.kind==10) (r.kind==17) (r.kind==14) (r.kind==14&&r.num==0)))/\(z||dpEs (r.subs.drop i) (lv+1))=(d||(decide (16<lv)||dpEs r.subs (lv+1))),fun x _ _=>r.subs.length-x.toNat,⟨0,rfl,Nat.zero_le _,by rw[Bool.not_and,<-Bool.or_assoc];rfl,by rw[<-Bool.or_assoc];rfl⟩,?_,trivial⟩;rintro x y z ⟨i,rfl,hi,hy,hz2⟩;refine⟨fun hc=>?_,fun hc=>?_⟩
  ·have k1:i<r.subs.length:=by have:=of_tlt hc;omega
   have hm:=List.getElem_mem k1;have hsz:=Ya0 hm;rw[Yfj rfl k1];refine⟨tle (by omega),teq (by simp),by simp,by rw[tle (by omega),Bool.or_true],by rw[tle (by omega),Bool.or_true],rfl,tle (by simp;omega),tle (by simp;omega),?_⟩;refine Yaa (ihs _ hm _ y z _ _ _ (lv+1) (by omega) (by omega)) ⟨tle (by omega),tle (by omega),⟨i+1,rfl,k1,?_,?_⟩,dec k1⟩
   ·rw[<-hy,Yd4 _ _ _ _ k1,Bool.not_and,Bool.or_assoc]
    have e:(tB (r.kind==14)&&(tB (r.num==0)||tB (decide ((i:Int)+1<(r.subs.length:Int)))))=(if i+1<r.subs.length then r.kind==14 else(r.kind==14&&r.num==0)):=by
     by_cases hlt:i+1<r.subs.length
     ·have:(i:Int)+1<r.subs.length:=by omega
      simp[hlt,this]
     ·have:¬(i:Int)+1<r.subs.length:=by omega
      simp[hlt,this]
    rw[e];simp only[Zwb];rfl
   ·rw[<-hz2,Ycu _ k1,Bool.or_assoc]
  ·have k1:r.subs.length<=i:=by have:=of_flt hc;omega
   rw[List.drop_eq_nil_of_le k1]at hy hz2;rw[okEs,Bool.not_true,Bool.or_false]at hy;rw[dpEs,Bool.or_false]at hz2;refine⟨rfl,tle (by simp;omega),tle (by simp;omega),Yaa (ihd _ y z _ (lv+1) (by omega) (by omega)) (Yd8 ?_ ?_)⟩
   ·rw[hE,hy];simp only[Zwb,Bool.not_and,Bool.or_assoc]
   ·rw[hP,hz2];simp only[Bool.or_assoc]
end Go.Sy
end
section
open Go Go.Proofs Go.Ab Go.Rf
set_option linter.unusedSimpArgs false
set_option linter.unusedVariables false
set_option maxRecDepth 100000
namespace Go.Sy
theorem c97(r:Nd)(hlm:Lim r)(ihs:∀x∈r.subs,H58 x)(ihd:H50 r.decls):H97 r:=by
 intro q w d sc lv h0 hb;obtain⟨l1,l2,l3,l4⟩:=hlm;have hz:=size_eq r;have hsl:=Ybr r.subs;have hE:=Yex r sc;have hP:=Yct r lv;have cat:∀A B P L N S:Bool,(w||!A||!B||!P||!L||!N||!S)=(w||!(((A&&B)&&P)&&(L&&(N&&S)))):=by intros A B P L N S;cases w<;>cases A<;>cases B<;>cases P<;>cases L<;>cases N<;>cases S<;>rfl
 refine w97 w d (encD r) sc lv q ?_;simp only[Ycv,d0,d1,d2,d3,d4,d5,d6,d7,d8,d9,d10,isK_int,Ya3,isK_slc,dint_int,Ybe,dlst_slc,true_and,Yag,Yaf,Yat,Bool.or_true];refine⟨teq rfl,fun _ y=>y=(d||decide (16<lv)),⟨fun h=>?_,fun h=>?_⟩,?_,trivial⟩
 ·have h:16<lv:=of_tlt h;simp[h]
 ·have h:¬16<lv:=by have:lv<=16:=of_flt h;omega
  simp[h]
 rintro _ y rfl;refine Yaa (c47 _ _ _ [_] (by simp)) ⟨_,fun _=>c49 _ l4,_,fun _=>c49 _ l3,_,fun _=>c49 [r.trail] (by simp),by rw[tle (by omega),Bool.or_true],by rw[tle (by omega),Bool.or_true],Yaa (c47 _ _ _ [_,_,_,_] (by simp)) ?_⟩;obtain⟨W1,hW1⟩:∃W1,(w||!(decide (1<=r.kind)&&decide (r.kind<=8))||!(lnsV r.lead&&(lnsV r.tail&&(lnsV [r.trail]&&((r.kind==5||r.kind==6)||((r.decls.length:Int)+(r.tail.length:Int)==0))))))=W1:=⟨_,rfl⟩
 have eW:((w||!([tB (decide (1<=r.kind))&&tB (decide (r.kind<=8))].all id))||!([lnsV r.lead,lnsV r.tail,lnsV [r.trail],(tB (r.kind==5)||tB (r.kind==6))||tB ((r.decls.length:Int)+(r.tail.length:Int)==0)].all id))=W1:=by
  rw[<-hW1];simp only[List.all_cons,List.all_nil,Bool.and_true,id,Zwb]
 rw[eW];refine⟨fun _ x z=>z=(d||decide (16<lv))/\x=(W1||!(if r.kind=1 then decide (1<=r.num)&&decide (r.num<=3)else r.num==0)),⟨fun hk=>?_,fun hk=>?_⟩,?_,trivial⟩
 ·refine Yaa (c47 _ _ _ [_] (by simp)) ⟨rfl,?_⟩;rw[if_pos (by simpa using hk)];simp
 ·refine Yaa (c47 _ _ _ [_] (by simp)) ⟨rfl,?_⟩;rw[if_neg (by simpa using hk)];simp
 rintro _ x2 z ⟨rfl,hx2⟩;refine⟨fun _ x z=>z=(d||decide (16<lv))/\x=(x2||!Ycs r.kind r.text sc),⟨fun hk=>?_,fun hk=>⟨fun hk2=>?_,fun hk2=>⟨fun hk4=>?_,fun hk4=>?_⟩⟩⟩,?_,trivial⟩
 ·have hk:r.kind=1:=by simpa using hk
  exact⟨rfl,by simp[Ycs,hk]⟩
 ·have hk:¬r.kind=1:=by simpa using hk
  have hk2:r.kind=2:=by simpa using hk2
  refine call1 (v:=Go.Rx.pairA (Go.Rx.parseV r.text)) (Go.Rx.c19 r.text) ⟨_,_,rfl,rfl,teq (by simp),teq rfl,rfl,Yaa (c47 _ _ _ [_] (by simp)) ⟨rfl,?_⟩⟩;simp[Ycs,hk2]
 ·have hk:¬r.kind=1:=by simpa using hk
  have hk2:¬r.kind=2:=by simpa using hk2
  have hk4:r.kind=4:=by simpa using hk4
  refine call1 (c48 r.text) ⟨_,rfl,rfl,Yaa (c47 _ _ _ [_,_] (by simp)) ⟨rfl,?_⟩⟩;simp[Ycs,hk4]
 ·have hk:¬r.kind=1:=by simpa using hk
  have hk2:¬r.kind=2:=by simpa using hk2
  have hk4:¬r.kind=4:=by simpa using hk4
  refine Yaa (c47 _ _ _ [_,_] (by simp)) ⟨rfl,?_⟩;simp[Ycs,hk,hk2,hk4]
 rintro _ x3 z ⟨rfl,hx3⟩;refine⟨fun _ _ x z=>z=(d||decide (16<lv))/\x=(x3||!(if r.kind=6 then difV r.n0 r.n1 else nonV r.n0 r.n1)),⟨fun hk=>?_,fun hk=>?_⟩,?_,trivial⟩
 ·refine call1 (c113 _ _) ⟨_,rfl,rfl,Yaa (c47 _ _ _ [_] (by simp)) ⟨rfl,?_⟩⟩;rw[if_pos (by simpa using hk)];simp
 ·refine call1 (c114 _ _) ⟨_,rfl,rfl,Yaa (c47 _ _ _ [_] (by simp)) ⟨rfl,?_⟩⟩;rw[if_neg (by simpa using hk)];simp
 rintro _ _ x4 z ⟨rfl,hx4⟩;refine⟨fun n _=>n=nSub r.kind,⟨fun hk=>?_,fun hk=>⟨fun hk2=>?_,fun hk2=>?_⟩⟩,?_,trivial⟩
 ·have hk:r.kind=7:=by simpa using hk
  simp[nSub,hk]
 ·have hk:¬r.kind=7:=by simpa using hk
  have hk2:r.kind=8:=by simpa using hk2
  simp[nSub,hk2]
 ·have hk:¬r.kind=7:=by simpa using hk
  have hk2:¬r.kind=8:=by simpa using hk2
  simp[nSub,hk,hk2]
 rintro n _ rfl
 have e5:(x4||!([tB ((r.subs.length:Int)==nSub r.kind)].all id))=(w||!Ydh r sc):=by
  simp only[List.all_cons,List.all_nil,Bool.and_true,id,Zwb];rw[hx4,hx3,hx2,<-hW1,cat,show(((((decide (1<=r.kind)&&decide (r.kind<=8))&&(lnsV r.lead&&(lnsV r.tail&&(lnsV [r.trail]&&((r.kind==5||r.kind==6)||((r.decls.length:Int)+(r.tail.length:Int)==0))))))&&(if r.kind=1 then decide (1<=r.num)&&decide (r.num<=3)else r.num==0))&&(Ycs r.kind r.text sc&&((if r.kind=6 then difV r.n0 r.n1 else nonV r.n0 r.n1)&&((r.subs.length:Int)==nSub r.kind)))))=Ydh r sc from rfl]
 refine Yaa (c47 _ _ _ [_] (by simp)) ?_;rw[e5];refine⟨fun x y z=>∃i:Nat,x=i/\i<=r.subs.length/\(y||!okFs (r.subs.drop i) ((sc&&ownK r.kind)&&(i==0)))=(w||!(Ydh r sc&&okFs r.subs (sc&&ownK r.kind)))/\(z||dpEs (r.subs.drop i) (lv+1))=(d||(decide (16<lv)||dpEs r.subs (lv+1))),fun x _ _=>r.subs.length-x.toNat,⟨0,rfl,Nat.zero_le _,by rw[Bool.not_and,<-Bool.or_assoc];simp,by rw[<-Bool.or_assoc];rfl⟩,?_,trivial⟩;rintro x y z ⟨i,rfl,hi,hy,hz2⟩;refine⟨fun hc=>?_,fun hc=>?_⟩
 ·have k1:i<r.subs.length:=by have:=of_tlt hc;omega
  have hm:=List.getElem_mem k1;have hsz:=Ya0 hm;rw[Yfj rfl k1];refine⟨tle (by omega),teq (by simp),tle (by omega),tle (by omega),Yaa (ihs _ hm _ y z _ _ _ (lv+1) (by omega) (by omega)) ⟨tle (by omega),tle (by omega),⟨i+1,rfl,k1,?_,?_⟩,dec k1⟩⟩
  ·rw[<-hy,Yd6 _ k1,Bool.not_and,Bool.or_assoc];have e:(((i:Int)==0):Bool)=(i==0):=by rw[Bool.eq_iff_iff];simp
   rw[show(tB ((i:Int)==0))=(i==0) by rw[Zwb];exact e];simp only[Zwb];rfl
  ·rw[<-hz2,Ycu _ k1,Bool.or_assoc]
 ·have k1:r.subs.length<=i:=by have:=of_flt hc;omega
  rw[List.drop_eq_nil_of_le k1]at hy hz2;rw[okFs,Bool.not_true,Bool.or_false]at hy;rw[dpEs,Bool.or_false]at hz2;refine⟨tle (by omega),tle (by omega),Yaa (ihd _ y z _ (lv+1) (by omega) (by omega)) (Yd8 ?_ ?_)⟩
  ·rw[hE,hy];simp only[Bool.not_and,Bool.or_assoc]
  ·rw[hP,hz2];simp only[Bool.or_assoc]
end Go.Sy
end
section
open Go Go.Proofs Go.Ab Go.Rf
set_option linter.unusedSimpArgs false
set_option linter.unusedVariables false
set_option maxRecDepth 100000
namespace Go.Sy
def verV(ok dp:Bool):Int:=if(!ok)=true then 11 else if dp=true then 9 else 0
theorem Yf4{a b:Int}(h:a=b):Ret (intA b) (.ret (intA a)) []:=by subst h;exact⟨rfl,rfl⟩
theorem Yf5:∀r:Nd,Lm r->H58 r/\H97 r:=by
 refine Yfl fun r hs hd hl=>?_
 have ihs:∀x∈r.subs,H58 x:=fun x hx=>(hs x hx (hl.sub hx)).1
 have ihd:H50 r.decls:=c50 r.decls fun x hx=>(hd x hx (hl.dec hx)).2
 exact⟨c58 r hl.here.2.1 hl.here.2.2.1 ihs ihd,c97 r hl.here ihs ihd⟩
theorem c17(r:Nd)(hl:Lm r)(hz:size r<=2^40):Holds Tryz.prog 17 [.agg (encE r)] [] (Ret (intA (verV (okE r true false false) (dpE r 1)))):=
 w17 _ ⟨teq (by simp),fun ν=>Yaa ((Yf5 r hl).1 (.own 5 (ν 5)) false false true false false 1 (by omega) (by omega))
  (fun ν=>callB (c51 (.own 5 (ν 5)) _ _) ⟨_,_,_,rfl,rfl,Yf4 (by simp[verV])⟩ ν) ν⟩
def okFl(f:Fl):Bool:=(((f.pkg.isEmpty||idV f.pkg)&&lnsV f.tail)&&f.imps.all fun i=>idV i.name)&&okDs f.decls true
def verF(f:Fl):Int:=verV (okFl f) (dpDs f.decls 1)
theorem c14(f:Fl)(hl:LmF f)(hz:sizes f.decls<=2^40):Holds Tryz.prog 14 [.agg (Ycw f)] [] (Ret (intA (verF f))):=by
 obtain⟨⟨l1,l2,l3⟩,hd⟩:=hl;have hD:H50 f.decls:=c50 f.decls fun x hx=>(Yf5 x (hd x hx)).2
 refine w14 (Ycw f) ?_;simp only[Yb9,f0,f1,f2,f3,Ya3,isK_slc,Ybe,dlst_slc,true_and,Yca];refine⟨_,⟨teq rfl,trivial⟩,fun _=>⟨fun hp=>⟨_,fun _=>c48 _,_,fun _=>c49 _ l3,fun ν=>Yaa (c47 (.own 7 (ν 7)) _ _ [_,_] (by simp)) ?_ ν⟩,fun hp=>⟨_,fun _=>c49 _ l3,fun ν=>Yaa (c47 (.own 7 (ν 7)) _ _ [_,_] (by simp)) ?_ ν⟩⟩,trivial⟩
 all_goals
  obtain⟨W,hW⟩:∃W,(!((f.pkg.isEmpty||idV f.pkg)&&lnsV f.tail))=W:=⟨_,rfl⟩
  first
   |have eW:(false||!([idV f.pkg,lnsV f.tail].all id))=W:=by
     rw[<-hW];have:f.pkg.isEmpty=false:=by simpa using hp
     simp[this]
    rw[eW]
   |have eW:(false||!([true,lnsV f.tail].all id))=W:=by
     rw[<-hW];have:f.pkg.isEmpty=true:=by simpa using hp
     simp[this]
    rw[eW]
  refine⟨fun x y z=>∃i:Nat,x=i/\i<=f.imps.length/\(y||!((f.imps.drop i).all fun i=>idV i.name))=(W||!(f.imps.all fun i=>idV i.name))/\z=false,fun x _ _=>f.imps.length-x.toNat,⟨0,rfl,Nat.zero_le _,rfl,rfl⟩,?_,trivial⟩;rintro x y z ⟨i,rfl,hi,hy,rfl⟩;refine⟨fun hc=>?_,fun hc=>?_⟩
  ·have k1:i<f.imps.length:=by have:=of_tlt hc;omega
   rw[Ygp rfl k1];refine⟨tle (by omega),teq rfl,rfl,call1 (c48 _) ⟨_,rfl,rfl,fun ν=>Yaa (c47 (.own 7 (ν 7)) _ _ [_] (by simp)) ⟨tle (by omega),tle (by omega),⟨i+1,rfl,k1,?_,rfl⟩,dec k1⟩ ν⟩⟩;rw[<-hy,List.drop_eq_getElem_cons k1];simp only[i0,Ybe,List.all_cons,List.all_nil,Bool.and_true,id,Bool.not_and,Bool.or_assoc]
  ·have k1:f.imps.length<=i:=by have:=of_flt hc;omega
   rw[List.drop_eq_nil_of_le k1]at hy;have hy:y=(W||!(f.imps.all fun i=>idV i.name)):=by rw[<-hy];simp
   refine fun ν=>Yaa (hD (.own 7 (ν 7)) y false true 1 (by omega) (by omega)) (fun ν=>callB (c51 (.own 7 (ν 7)) _ _) ⟨_,_,_,rfl,rfl,Yf4 ?_⟩ ν) ν
   rw[verF,okFl,verV,hy,<-hW];simp only[Bool.not_and,Bool.false_or]
end Go.Sy
end
section
open Go Go.Proofs Go.Ab Go.Rf
set_option linter.unusedSimpArgs false
set_option maxRecDepth 100000
namespace Go.Sy
structure NP (i:Nat) (e:Nd):Prop where
 ok:∀cj io il,okE e cj io il=true
 dp:∀lv,dpE e lv=decide (16<lv+(i:Int)-1)
 kd:(e.kind==13||e.kind==22)=false
 lm:Lm e
 sz:size e+2<=3*i
theorem Yfe{r:Nd}(h:Lim r)(hs:r.subs=[])(hd:r.decls=[]):Lm r:=.mk h (fun x hx=>by rw[hs]at hx;cases hx) fun x hx=>by rw[hd]at hx;cases hx
theorem Yey(n:Int)(h1:0<=n)(h2:n<=1):NP 1 (numN n):=by
 refine⟨fun cj io il=>?_,fun lv=>?_,rfl,Yfe ⟨by simp[numN,mkE,Nd.subs],by simp[numN,mkE,Nd.decls],by simp[numN,mkE,Nd.tail],by simp[numN,mkE,Nd.lead]⟩ rfl rfl,by simp[numN,mkE,size,sizes]⟩
 ·rw[Yc9];simp[numN,mkE,Nd.kind,Nd.num,Nd.subs,Nd.decls,okEs,okDs,Yba,Yah,Yam,lnsV,Ybn,Yb8,nonV,fixV,Nd.n0,Nd.n1,Nd.text,Nd.tail];exact⟨decide_eq_true (by omega),decide_eq_true (by omega),decide_eq_true (by omega)⟩
 ·rw[Yct];simp[numN,mkE,Nd.subs,Nd.decls,dpEs,dpDs]
theorem Yff{i:Nat}{e:Nd}(h:NP i e)(hi:1<=i){k num:Int}{t:Tx}{pre:List Nd}(hp:∀x∈pre,NP 1 x)(hl:pre.length<=1)
 (ho:Yba (mkE k t num (pre++[e]) []) true true true=true) (hk:k=19\/k=14\/k=11\/k=20):NP (i+1) (mkE k t num (pre++[e]) []):=by
 have hs:∀cj io il il2,okEs (pre++[e]) cj io il il2=true:=by
  intro cj io il il2
  match pre,hp,hl with
  |[],_,_=>simp[okEs,h.ok]
  |[x],hp,_=>simp[okEs,h.ok,(hp x (List.mem_cons_self ..)).ok]
 refine⟨fun cj io il=>?_,fun lv=>?_,?_,?_,?_⟩
 ·have ho':Yba (mkE k t num (pre++[e]) []) cj io il=true:=by
   unfold Yba Yb8 at*;simp only[mkE,Nd.kind,Nd.num,Nd.subs,Nd.decls,Nd.tail,Nd.text,Nd.n0,Nd.n1]at ho⊢;rcases hk with rfl|rfl|rfl|rfl<;>simpa using ho
  rw[Yc9,ho'];simp only[mkE,Nd.kind,Nd.num,Nd.subs,Nd.decls,hs,okDs,Bool.and_self]
 ·rw[Yct]
  have:dpEs (pre++[e]) (lv+1)=decide (16<lv+1+(i:Int)-1):=by
   match pre,hp,hl with
   |[],_,_=>simp[dpEs,h.dp]
   |[x],hp,_=>simp[dpEs,h.dp,(hp x (List.mem_cons_self ..)).dp];omega
  simp only[mkE,Nd.subs,Nd.decls,this,dpDs,Bool.or_false];rw[Bool.eq_iff_iff];simp;omega
 ·rcases hk with rfl|rfl|rfl|rfl<;>rfl
 ·refine .mk ⟨?_,by simp[mkE,Nd.decls],by simp[mkE,Nd.tail],by simp[mkE,Nd.lead]⟩ (fun x hx=>?_) fun x hx=>by cases hx
  ·show(pre++[e]).length<=_;simp;omega
  ·rcases List.mem_append.1 hx with hx|hx
   ·exact(hp x hx).lm
   ·simp at hx;subst hx;exact h.lm
 ·have hz:=h.sz
  have:sizes (pre++[e])<=1+size e:=by
   match pre,hp,hl with
   |[],_,_=>simp[sizes]
   |[x],hp,_=>have:=(hp x (List.mem_cons_self ..)).sz;simp[sizes];omega
  rw[size_eq];simp only[mkE,Nd.subs,Nd.decls,sizes];omega
theorem decS{n j:Nat}(h:j+1<n):n-(((j+1:Nat):Int)+1).toNat<n-((j+1:Nat):Int).toNat:=by omega
theorem c32(n k:Int)(h1:1<=n)(h2:n<=30):Holds Tryz.prog 32 [intA n,.d (.lit (.int .u8 k))] [] (fun o H=>∃e,o=.ret (.agg (encE e))/\H=[]/\NP n.toNat e):=by
 refine w32 n k (call1 (c46 1 (by omega) (by omega)) ⟨_,rfl,rfl,teq (by simp),?_⟩);refine⟨fun x a b c d e f g h i=>∃j:Nat,x=(j+1:Nat)/\j+1<=n.toNat/\ ∃r,[a,b,c,d,e,f,g,h,i]=encE r/\NP (j+1) r,fun x _ _ _ _ _ _ _ _ _=>n.toNat-x.toNat,⟨0,rfl,by omega,numN 1,rfl,Yey 1 (by omega) (by omega)⟩,?_,trivial⟩;rintro x a b c d e f g h i ⟨j,rfl,hj,r,hr,hn⟩;refine⟨fun hc=>?_,fun hc=>?_⟩
 ·have k1:j+1<n.toNat:=by have:=of_tlt hc;omega
  have fin:∀{k num:Int}{t:Tx}{pre:List Nd}{a b c d e f g h i:D},(∀x∈pre,NP 1 x)->pre.length<=1->Yba (mkE k t num (pre++[r]) []) true true true=true->(k=19\/k=14\/k=11\/k=20)->[a,b,c,d,e,f,g,h,i]=encE (mkE k t num (pre++[r]) [])->
   (∃j':Nat,((j+1:Nat):Int)+1=(j'+1:Nat)/\j'+1<=n.toNat/\ ∃r,[a,b,c,d,e,f,g,h,i]=encE r/\NP (j'+1) r):=
   fun p1 p2 p3 p4 p5=>⟨j+1,by push_cast;omega,by omega,_,p5,Yff hn (by omega) p1 p2 p3 p4⟩
  have md:(((j+1:Nat):Int).tmod 2=0\/((j+1:Nat):Int).tmod 2=1):=by
   rw[Int.tmod_eq_emod_of_nonneg (by omega)];omega
  rw[hr];refine⟨fun _=>⟨tle (by omega),tle (by omega),fin (pre:=[]) (fun x hx=>by cases hx) (by decide) ?_ (.inl rfl) rfl,decS k1⟩,fun _=>⟨fun _=>⟨tle (by omega),tle (by omega),fin (pre:=[]) (fun x hx=>by cases hx) (by decide) ?_ (.inr (.inl rfl)) rfl,decS k1⟩,fun _=>⟨fun _=>⟨tle (by omega),tle (by omega),fin (pre:=[]) (fun x hx=>by cases hx) (by decide) ?_ (.inr (.inr (.inl rfl))) rfl,decS k1⟩,fun _=>⟨_,fun _=>c46 0 (by omega) (by omega),teq (by simp),tle (by omega),tle (by omega),fin (pre:=[numN 0]) (fun x hx=>by simp at hx;subst hx;exact Yey 0 (by omega) (by omega)) (by decide) ?_ (.inr (.inr (.inr rfl))) rfl,decS k1⟩⟩⟩⟩
  ·simp[Yba,mkE,Nd.kind,Nd.num,Nd.subs,Nd.decls,Nd.tail,Nd.text,Nd.n0,Nd.n1,Yah,Yam,Ybn,Yb8,nonV,lnsV,unW]
  ·rcases md with e|e<;>rw[e]<;>simp[Yba,mkE,Nd.kind,Nd.num,Nd.subs,Nd.decls,Nd.tail,Nd.text,Nd.n0,Nd.n1,Yah,Yam,Ybn,Yb8,nonV,lnsV,gAnd]<;>decide
  ·simp[Yba,mkE,Nd.kind,Nd.num,Nd.subs,Nd.decls,Nd.tail,Nd.text,Nd.n0,Nd.n1,Yah,Yam,Ybn,Yb8,nonV,lnsV]
  ·simp[Yba,mkE,Nd.kind,Nd.num,Nd.subs,Nd.decls,Nd.tail,Nd.text,Nd.n0,Nd.n1,Yah,Yam,Ybn,Yb8,nonV,lnsV,biW]
 ·have k1:n.toNat<=j+1:=by have:=of_flt hc;omega
  have:j+1=n.toNat:=by omega
  exact⟨r,by rw[hr],rfl,this▸hn⟩
def badN(e:Nd):Nd:=.mk e.kind e.num e.text e.n0 e.n1 e.trail e.lead [[120]] e.pos e.subs e.decls
theorem Yfg{e:Nd}(h:(e.kind==13||e.kind==22)=false):verV (okE (badN e) true false false) (dpE (badN e) 1)=11:=by
 have:okE (badN e) true false false=false:=by
  rw[Yc9]
  have:Yba (badN e) true false false=false:=by
   unfold Yba;have e1:(badN e).kind=e.kind:=rfl;have e2:(badN e).tail=[[120]]:=rfl;rw[e1,h,e2];have:((((badN e).decls.length:Int)+(([[120]]:List Tx).length:Int)==0))=false:=by simp;omega
   rw[this];simp
  rw[this];rfl
 rw[this];rfl
theorem Yf6{i:Nat}{e:Nd}(h:NP i e):verV (okE e true false false) (dpE e 1)=if 16<(i:Int)then 9 else 0:=by
 rw[h.ok,h.dp,verV];by_cases hi:16<(i:Int)
 ·simp[hi];omega
 ·simp[hi];omega
theorem Yd9{i:Nat}{e:Nd}(h:NP i e)(hi:1<=i):verF ⟨[],[],[Yav e],[]⟩=if 16<(i:Int)+1 then 9 else 0:=by
 have h1:okFl ⟨[],[],[Yav e],[]⟩=true:=by
  unfold okFl;simp only[okDs,Yex];simp[Yav,Nd.kind,Nd.num,Nd.subs,Nd.decls,Nd.tail,Nd.text,Nd.n0,Nd.n1,Nd.lead,Nd.trail,Ydh,okFs,h.ok,lnsV,lnV,Ycs,nonV,nSub,okDs]
 have h2:dpDs [Yav e] 1=decide (16<(i:Int)+1):=by
  simp only[dpDs,Yct (Yav e)];simp only[Yav,Nd.subs,Nd.decls,dpEs,dpDs,h.dp,Bool.or_false];rw[Bool.eq_iff_iff];simp;omega
 unfold verF verV;rw[h1,h2];by_cases hi:16<(i:Int)+1
 ·simp[hi]
 ·simp[hi]
theorem c9(n k:Int)(h1:(Lit.int .u8 n).wf=true)(h2:(Lit.int .u8 k).wf=true):Holds Tryz.prog 9 [.d (.lit (.int .u8 n)),.d (.lit (.int .u8 k))] [] (Ret (Yan true)):=by
 refine w9 n k ⟨fun _=>call1 c13 ⟨_,rfl,rfl,rfl,rfl⟩,fun hn=>?_⟩;have hn:1<=n/\n<=30:=by simp at hn;omega
 refine⟨tle (by omega),tle (by omega),fun _=>⟨_,c32 n k hn.1 hn.2,fun v H' ⟨e,e1,e2,he⟩=>⟨_,Out.ret.inj e1,e2,teq (by simp),?_⟩,fun u H' ⟨e,e1,_⟩=>by cases e1⟩⟩;have hi:1<=n.toNat:=by omega
 have hz:=he.sz;have c17':=c17 e he.lm (by omega);have hb:[(encE e).getD 0 D0,(encE e).getD 1 D0,(encE e).getD 2 D0,(encE e).getD 3 D0,(encE e).getD 4 D0,(encE e).getD 5 D0,(encE e).getD 6 D0,.slc [[.lit (Zco [120])]],(encE e).getD 8 D0]=encE (badN e):=by cases e;rfl
 have lb:Lm (badN e):=.mk ⟨he.lm.here.1,he.lm.here.2.1,by simp[badN,Nd.tail],he.lm.here.2.2.2⟩ (fun x hx=>he.lm.sub hx) fun x hx=>he.lm.dec hx
 have zb:size (badN e)<=2^40:=by have:size (badN e)=size e:=by cases e;rfl
                                 omega
 have c17b:=c17 _ lb zb
 have lf:LmF ⟨[],[],[Yav e],[]⟩:=⟨⟨by simp,by simp,by simp⟩,fun x hx=>by
  simp at hx;subst hx;exact .mk ⟨by simp[Yav,Nd.subs],by simp[Yav,Nd.decls],by simp[Yav,Nd.tail],by simp[Yav,Nd.lead]⟩ (fun x hx=>by simp[Yav,Nd.subs]at hx;subst hx;exact he.lm) fun x hx=>by cases hx⟩
 have c14':=c14 ⟨[],[],[Yav e],[]⟩ lf (by simp[sizes,Yav,size];omega);rw[Yf6 he]at c17';rw[Yfg he.kd]at c17b;rw[Yd9 he hi]at c14';rw[hb];have hn':(n.toNat:Int)=n:=by omega
 rw[hn']at c17' c14';have go:∀{w m:Int}{G:Prop},w=m->(tB (m==w))=false->G:=fun h1 h2=>by subst h1;simp at h2
 refine⟨fun g1=>⟨tle (by omega),tle (by omega),fun g2=>?_,fun g2=>?_⟩,fun g1=>⟨tle (by omega),tle (by omega),fun g2=>?_,fun g2=>?_⟩⟩
 ·have g1:16<n:=of_tlt g1;have g2:16<n+1:=of_tlt g2;rw[if_pos g1]at c17';rw[if_pos g2]at c14';exact call1 c17' ⟨_,rfl,rfl,fun _=>call1 (c33b e) ⟨_,rfl,rfl,call1 c14' ⟨_,rfl,rfl,fun _=>call1 c17b ⟨_,rfl,rfl,fun _=>call1 c13 ⟨_,rfl,rfl,rfl,rfl⟩,fun h=>by simp at h⟩,fun h=>by simp at h⟩⟩,fun h=>by simp at h⟩
 ·have g1:16<n:=of_tlt g1;have g2:n+1<=16:=of_flt g2;omega
 ·have g1:n<=16:=of_flt g1;have g2:16<n+1:=of_tlt g2;rw[if_neg (by omega)]at c17';rw[if_pos g2]at c14';exact call1 c17' ⟨_,rfl,rfl,fun _=>call1 (c33b e) ⟨_,rfl,rfl,call1 c14' ⟨_,rfl,rfl,fun _=>call1 c17b ⟨_,rfl,rfl,fun _=>call1 c13 ⟨_,rfl,rfl,rfl,rfl⟩,fun h=>by simp at h⟩,fun h=>by simp at h⟩⟩,fun h=>by simp at h⟩
 ·have g1:n<=16:=of_flt g1;have g2:n+1<=16:=of_flt g2;rw[if_neg (by omega)]at c17';rw[if_neg (by omega)]at c14';exact call1 c17' ⟨_,rfl,rfl,fun _=>call1 (c33b e) ⟨_,rfl,rfl,call1 c14' ⟨_,rfl,rfl,fun _=>call1 c17b ⟨_,rfl,rfl,fun _=>call1 c13 ⟨_,rfl,rfl,rfl,rfl⟩,fun h=>by simp at h⟩,fun h=>by simp at h⟩⟩,fun h=>by simp at h⟩
end Go.Sy
end
section
open Go Go.Proofs Go.Ab Go.Rf Go.ChangeShapes Go.WideShapes Go.ChangeAt Go.Proofs.YtpcnadmaeebhbaaGreatDoor
set_option maxRecDepth 100000
namespace Go.Sy
theorem Yea(os:Os):laidMet Tryz.prog Rows.syntaxDepthRow.laid ((Ybq os).forCall (fun _ _=>0) ⟨#[],#[zU,zU],[]⟩).memory:=
 laidMet_of_run' 8 (by kernel_rfl) (by kernel_rfl)
theorem Yf7(os:Os){H:Type}(en:TypeId×Value->H):∃places,DataW.whole en Tryz.prog ((Ybq os).forCall (fun _ _=>0) ⟨#[],#[zU,zU],[]⟩).memory Tryz.f9.params.toList Rows.syntaxDepthSpec.vars false #[zU,zU].toList 8=some ([dU,dU],[],places):=
 ⟨[],by kernel_rfl⟩
theorem Yfh(os:Os)(started:os.Started)(H:Type)(en:TypeId×Value->H)(F:Stop.Interp):
 ReturnsInHanded {} Tryz.checked os 9 .any ((OpenSpec.ofChange Rows.syntaxDepthSpec).preRow en Tryz.prog Tryz.f9 Rows.syntaxDepthRow.domain false Rows.syntaxDepthRow.laid) (((OpenSpec.ofChange Rows.syntaxDepthSpec).at F).post en Tryz.prog Tryz.f9 false true false false):=by
 obtain⟨places,hx⟩:=Yf7 os en
 refine returnsInHanded_of_row (C:=Tryz.checked) (s:=OpenSpec.ofChange Rows.syntaxDepthSpec) own started (by kernel_rfl) Tryz.func9
  (witness_row_at (enc:=en) (C:=Tryz.checked) false (Ybq os) #[zU,zU] rfl (by kernel_rfl) (by kernel_rfl) (by kernel_rfl)
   (OpenSpec.preRow_of_cond 8 hx (by kernel_rfl) (fun k hk=>by cases hk) (by kernel_rfl) (Yea os))) ?_
 intro W base args ds gs before hval0 hW _ _ hsz0 hL _ _;have hval:∀(j:Nat) t v,Tryz.f9.params[j]? =some t->args[j]? =some v->Value.okWide Tryz.prog W .any base t v:=hval0;have hW':DataW.Whole en Tryz.prog Tryz.f9.params.toList Rows.syntaxDepthSpec.vars false W args.toList ds gs before:=hW;obtain⟨p,q,hA0,hV,rfl,hfz,hnd⟩:=hW;have hA:DataW.TrodAll en Tryz.prog W 0 (fun _=>true) true Tryz.f9.params.toList args.toList ds p:=hA0;have hsz:(DataW.weightsEach Tryz.prog (Tryz.f9.params.toList++[]) (ds++gs)).all (· <=reachBytes)=true:=hsz0;rw[Tryz.params9]at hA hval hsz;obtain⟨v0,vs0,d0,ds0,p0,q0,hargs,rfl,rfl,h0,r0⟩:=trodAll_cons hA;obtain⟨v1,vs1,d1,ds1,p1,q1,rfl,rfl,rfl,h1,r1⟩:=trodAll_cons r0;obtain⟨rfl,rfl,rfl⟩:=trodAll_nil r1;obtain rfl:args= #[v0,v1]:=by cases args;simp_all
 obtain⟨a0,g0,k0⟩:=Ydl Tryz.underlying5 (hval 0 5 v0 rfl rfl) h0;obtain⟨a1,g1,k1⟩:=Ydl Tryz.underlying5 (hval 1 5 v1 rfl rfl) h1;refine(Ycx Tryz.func9 rfl rfl (Holds.out (c9 a0 a1 g0 g1) (w:=W) (cargs:= #[v0,v1]) ⟨k0,k1,trivial⟩)).mono fun e W' ⟨cv,g',he,hc,hb⟩=>?_
 have hc:cv=.bool true:=by cases hc;rfl
 subst hc;exact⟨_,he,Yeg (s:=Rows.syntaxDepthSpec) rfl hW' rfl rfl lay (by kernel_rfl) hb⟩
theorem syntaxDepth_holds:Rows.SyntaxDepthSaid:=
 OpenClaim.holds_of_cond 9 Tryz.f9 rfl rfl rfl rfl rfl rfl rfl ⟨rfl,rfl,rfl,rfl,rfl⟩ rfl rfl rfl rfl rfl (by kernel_rfl) Tryz.func9 (by kernel_rfl)
  (of_decide_eq_true (by kernel_rfl)) (by unfold Func.isWrapper;first|(rw[if_pos (by decide+kernel)];kernel_rfl)|(rw[if_neg (by decide+kernel)];exact⟨rfl,rfl⟩))
  (fun os started H en _ F=>by rw[OpenClaim.pre_eq_preRow];exact Yfh os started H en F)
theorem plain9(f:FuncId)(fn:Func)(hf:Tryz.pinned.checked.prog.funcNamed "configlang/configlanglaw25.SyntaxDepth" =some f)(hfn:Tryz.pinned.checked.prog.funcs[f]? =some fn):
 true=Tryz.pinned.checked.prog.looks []/\ ∀(j:Nat) t,fn.params[j]? =some t->Tryz.pinned.checked.prog.wantsStandIn t=false:=by
 obtain rfl:f=9:=Option.some.inj ((show Tryz.prog.funcNamed "configlang/configlanglaw25.SyntaxDepth" =some 9 by kernel_rfl).symm.trans hf)|>.symm;obtain rfl:fn=Tryz.f9:=(Option.some.inj (Tryz.func9.symm.trans hfn)).symm;refine⟨by kernel_rfl,fun j t ht=>?_⟩;rw[Tryz.params9]at ht;have hm:t∈[5,5]:=by simpa using Array.mem_of_getElem? ht
 have hall:([5,5].all fun u=>!Tryz.prog.wantsStandIn u)=true:=by kernel_rfl
 exact(show Tryz.prog.wantsStandIn t=false by simpa using List.all_eq_true.1 hall t hm)
end Go.Sy
namespace Go.Proofs.YtpcnadmaeebhbaaGreatDoor
theorem syntaxDepth_proved:Rows.SyntaxDepthCardSaid:=
 Claim7.holds_tied_plain_at .later [] _ _ _ _ Go.Sy.syntaxDepth_holds (fun _ h=>by cases h) (by kernel_rfl) (fun _ h=>by cases h) syntaxDepth_row_tie rfl ⟨rfl,rfl⟩ (by kernel_rfl) rfl Go.Sy.plain9 (by kernel_rfl)
end Go.Proofs.YtpcnadmaeebhbaaGreatDoor
end
