/- Part 2 of the proof: AbBack, AbWalk, AbAgs, AbCode, AbFn, AbAuto, AbPure, AbDraw, AbCong, AbDrawA, AbMore, AbZs, AbZa. -/
import Derived.Orders
import Derived.Laws.MakeOwn
import Derived.Test.YtpcnadmaeebhbaaGreatDoorJaa
set_option linter.unusedVariables false
set_option linter.unusedSimpArgs false
section
namespace Go.Ab
open Classical
theorem Rel.own_row{C:Ctx}{s:St}{g:Gh}{a:Act}{w:World}(h:Rel C s g a w){o:Owner}{b:Nat}(ho:Owns s g o b):∃cs,Row w b cs:=by
 cases ho with
 |box h1=>obtain⟨cs,hr,_⟩:=h.heap.box _ _ h1;exact⟨cs,hr⟩
 | @slot t h1=>
   have h2:=h.slot t;generalize s.tm t=x at h1 h2;obtain⟨_,_,_,_,_,cs,h3⟩:=RepA.ownRow h2 h1;exact⟨cs,h3.row⟩
 | @cell r c j x h1 h2 h3=>
   obtain⟨cs,hr,_,hc,_⟩:=h.heap.box _ _ h1;obtain⟨_,v,_,hv⟩:=hc _ _ h2;obtain⟨_,_,_,_,_,cs,h3⟩:=RepA.ownRow hv h3;exact⟨cs,h3.row⟩
theorem Zcd{H:List (Ref×List A)}{r:Ref}:(∃c,kOf H r=some c)↔r∈H.map (·.1):=by
 induction H with
 |nil=>simp[kOf]
 |cons x l ih=>
  obtain⟨q,d⟩:=x;by_cases hq:r=q
  ·subst hq;simp[kOf]
  ·simp only[kOf,Zac _ _ hq,List.map_cons,List.mem_cons,hq,false_or];exact ih
theorem Zm2{H:List (Ref×List A)}{r:Ref}(h:r∉H.map (·.1)):kOf H r=none:=by
 cases he:kOf H r with
 |none=>rfl
 |some c=>exact absurd (Zcd.1 ⟨c,he⟩) h
noncomputable def Gh.back(g g':Gh)(H:List (Ref×List A)):Gh:=
 {Pr:=g'.Pr
  ow:=fun p=>match p with
   |.cell r j=>if r∈H.map (·.1)then g'.ow (.cell (.up r) j)else g.ow (.cell r j)
   |q=>g.ow q
  bx:=g.bx
  U:=g.U}
structure Back (C:Ctx) (s:St) (g g':Gh) (a:Act) (w w':World) (H H2:List (Ref×List A)):Prop where
 rel:Rel C (s.setH H2) (g.back g' H) a w'
 free:∀b,(∀o,¬Owns (Zax (Zao H2)) g' o b)->(w.heap.size<=b\/ ∃o,Owns (Zax (Zao H)) (g.down s.gen) o b)-> ∀o,¬Owns (s.setH H2) (g.back g' H) o b
 wr:∀b,(w.heap.size<=b\/ ∃o,Owns (Zax (Zao H)) (g.down s.gen) o b)->C.w0.heap.size<=b\/C.E b
 bx:∀r,g'.bx (.up r)=(g.back g' H).bx r
 uok:∀r,g'.U r->RefOk g s.gen r
theorem Rel.back{C:Ctx}{s:St}{g:Gh}{a:Act}{w:World}(h:Rel C s g a w){H:List (Ref×List A)}(hK:∀x∈H,s.K x.1=some x.2)(hnd:(H.map (·.1)).Nodup){g':Gh}{w':World}{H2:List (Ref×List A)}
 (hfst:H2.map (·.1)=H.map (·.1)) (hpl:∀x∈H2,∀y∈x.2,y.plain=true)
 (hH:HeapRel (Zag C.P w (g.down s.gen) (Zao H) 0) (Zax (Zao H2)) g' w'):Back C s g g' a w w' H H2:=by
 have hnd2:(H2.map (·.1)).Nodup:=by rw[hfst];exact hnd
 have hE:∀b,(∃o,Owns (Zax (Zao H)) (g.down s.gen) o b)-> ∃o,Owns s g o b/\ ∃r∈H.map (·.1),o=.box r\/ ∃j,o=.cell r j:=by
  rintro b ⟨o,ho⟩;obtain⟨r,hr,h1⟩:=ho.down hK;rcases h1 with⟨_,h1⟩|⟨j,_,h1⟩
  ·exact⟨_,h1,r,hr,.inl rfl⟩
  ·exact⟨_,h1,r,hr,.inr ⟨j,rfl⟩⟩
 have hcell:∀b o,g.Pr b o->w'.cell? ⟨b,o,none⟩=w.cell? ⟨b,o,none⟩:=fun b o hp=>by
  by_cases he:∃q,Owns (Zax (Zao H)) (g.down s.gen) q b
  ·obtain⟨q,hq,_⟩:=hE b he;obtain⟨cs,hr⟩:=h.own_row hq;obtain⟨cs',hr',_,hk⟩:=hH.fr.kept b he cs hr;rw[hr'.cell,hr.cell];exact hk o hp
  ·have:w'.heap[b]? =w.heap[b]? :=hH.fr.same b (h.heap.prs b o hp) he;simp[World.cell?,this]
 have hk:Keeps w w' g (g.back g' H) s.gen s.gen:=⟨hcell,fun b o hp=>hH.pr0 b o hp,fun _=>Nat.le_refl _,fun _ _=>rfl,fun _ h=>h⟩
 have hout:∀o b,Owns s g o b->(∀r∈H.map (·.1),o≠ .box r/\ ∀j,o≠ .cell r j)-> ¬ ∃q,Owns (Zax (Zao H)) (g.down s.gen) q b:=fun o b ho hn he=>by
  obtain⟨q,hq,r,hr,h1⟩:=hE b he;have:=h.heap.inj _ _ _ ho hq;subst this;rcases h1 with h1|⟨j,h1⟩
  ·exact(hn r hr).1 h1
  ·exact(hn r hr).2 j h1
 have hsame:∀o b,Owns s g o b->(∀r∈H.map (·.1),o≠ .box r/\ ∀j,o≠ .cell r j)->w'.heap[b]? =w.heap[b]? /\ ∀k,g'.Pr b k↔g.Pr b k:=fun o b ho hn=>by
  have hne:=hout o b ho hn;refine⟨hH.fr.same b (HeapRel.own_lt h ho) hne,fun k=>⟨fun h1=>?_,fun h1=>hH.pr0 b k h1⟩⟩;rcases hH.prn b k h1 with h2|h2|h2
  ·exact h2
  ·exact absurd h2 hne
  ·exact absurd (HeapRel.own_lt h ho) (Nat.not_lt.2 h2)
 have hKin:∀{r c},(r,c)∈H2->(s.setH H2).K r=some c:=fun{r c} hm=>by simp[St.setH,Zbf hnd2 hm]
 have hKout:∀{r},r∉H.map (·.1)->(s.setH H2).K r=s.K r:=fun{r} hn=>by simp[St.setH,Zm2 (by rw[hfst];exact hn)]
 have hKcase:∀{r c},(s.setH H2).K r=some c->((r,c)∈H2/\r∈H.map (·.1))\/(r∉H.map (·.1)/\s.K r=some c):=fun{r c} hc=>by
  by_cases hr:r∈H.map (·.1)
  ·left;obtain⟨d,hd⟩:=Zcd.2 (by rw[hfst];exact hr);simp only[St.setH,hd,Option.some.injEq]at hc;subst hc;exact⟨Zd7 hd,hr⟩
  ·rw[hKout hr]at hc;exact .inr ⟨hr,hc⟩
 have hlK:∀{r c},(r,c)∈H2->kOf (Zao H2) (.up r)=some (c.map A.lift):=fun{r c} hm=>Zbf (Zhg hnd2) (List.mem_map.2 ⟨(r,c),hm,rfl⟩)
 have hcase:∀o b,Owns (s.setH H2) (g.back g' H) o b->
  (Owns s g o b/\(∀r∈H.map (·.1),o≠ .box r/\ ∀j,o≠ .cell r j))\/
  (∃o',Owns (Zax (Zao H2)) g' o' b/\((∃r,o=.box r/\o'=.box (.up r))\/ ∃r j,o=.cell r j/\o'=.cell (.up r) j)):=by
  intro o b ho;cases ho with
  | @box r c h1=>
    rcases hKcase h1 with⟨h2,_⟩|⟨h2,h3⟩
    ·right;have h4:g'.bx (.up r)=g.bx r:=hH.up r;refine⟨.box (.up r),?_,.inl ⟨r,rfl,rfl⟩⟩;show Owns _ _ _ (g.bx r);rw[<-h4];exact .box (hlK h2)
    ·exact .inl ⟨.box h3,fun q hq=>⟨(fun e=>h2 (by cases e;exact hq)),(fun j e=>by cases e)⟩⟩
  |slot h1=>exact .inl ⟨.slot h1,fun q hq=>⟨(fun e=>by cases e),(fun j e=>by cases e)⟩⟩
  | @cell r c j y h1 h2 h3=>
    rcases hKcase h1 with⟨h4,h5⟩|⟨h4,h5⟩
    ·right;have e:(g.back g' H).ow (.cell r j)=g'.ow (.cell (.up r) j):=by simp only[Gh.back,if_pos h5]
     rw[e];exact⟨.cell (.up r) j,.cell (hlK h4) (by rw[List.getElem?_map,h2];rfl) (by rw[Zi9];exact h3),.inr ⟨r,j,rfl,rfl⟩⟩
    ·left;have e:(g.back g' H).ow (.cell r j)=g.ow (.cell r j):=by simp only[Gh.back,if_neg h4]
     rw[e];exact⟨.cell h5 h2 h3,fun q hq=>⟨(fun e=>by cases e),(fun k e=>h4 (by cases e;exact hq))⟩⟩
 have hcw:∀o' b,Owns (Zax (Zao H2)) g' o' b->w.heap.size<=b\/ ∃o,Owns (Zax (Zao H)) (g.down s.gen) o b:=fun o' b ho=>hH.wr o' b ho
 have hwr:∀b,(w.heap.size<=b\/ ∃o,Owns (Zax (Zao H)) (g.down s.gen) o b)->C.w0.heap.size<=b\/C.E b:=fun b hb=>by
  rcases hb with hb|hb
  ·exact .inl (Nat.le_trans h.heap.fr.size hb)
  ·obtain⟨o,ho,_⟩:=hE b hb;exact h.heap.wr o b ho
 have apart:∀o b,Owns s g o b->(∀r∈H.map (·.1),o≠ .box r/\ ∀j,o≠ .cell r j)-> ∀o',¬Owns (Zax (Zao H2)) g' o' b:=fun o b ho hn o' ho'=>by
  rcases hcw o' b ho' with h1|h1
  ·exact absurd (HeapRel.own_lt h ho) (Nat.not_lt.2 h1)
  ·exact hout o b ho hn h1
 refine⟨⟨h.defers,h.size,fun t=>(h.slot t).keep hk fun ho=>⟨rfl,hsame _ _ (.slot ho) fun q hq=>⟨(fun e=>by cases e),(fun j e=>by cases e)⟩⟩,h.als,h.opt,?_⟩,fun b hf hb o ho=>?_,hwr,fun r=>hH.up r,hH.uu⟩
 ·refine⟨fun r c hc=>?_,fun o o' b h1 h2=>?_,fun o b h1=>?_,hH.prs,fun b o hp=>hH.pr0 b o (h.heap.pr0 b o hp),fun b o hp=>?_,h.heap.up,h.heap.uu,?_⟩
  ·rcases hKcase hc with⟨h1,h5⟩|⟨h1,h2⟩
   ·obtain⟨cs,k1,k2,k3,k4,k5⟩:=hH.box (.up r) (c.map A.lift) (hlK h1);have e:g'.bx (.up r)=g.bx r:=hH.up r;refine⟨cs,by rw[e]at k1;exact k1,by simpa using k2,fun j y hy=>?_,by rw[e]at k4;exact k4,?_⟩
    ·obtain⟨_,v,k6,k7⟩:=k3 j y.lift (by rw[List.getElem?_map,hy];rfl);exact⟨hpl (r,c) h1 y (List.mem_of_getElem? hy),v,k6,k7.unlift (g:=g) rfl (fun q=>hH.up q) hH.uu rfl fun _=>by simp only[Gh.back,if_pos h5]⟩
    ·have:=hH.uu r k5;cases r with
     |own t n=>exact this
     |up q=>exact this
   ·obtain⟨cs,k1,k2,k3,k4,k5⟩:=h.heap.box r c h2;have hown:Owns s g (.box r) (g.bx r):=.box h2;have hnr:∀q∈H.map (·.1),(Owner.box r)≠ .box q/\ ∀j,(Owner.box r)≠ .cell q j:=fun q hq=>⟨(fun e=>h1 (by cases e;exact hq)),(fun j e=>by cases e)⟩
    obtain⟨e1,e2⟩:=hsame _ _ hown hnr;refine⟨cs,k1.of_same e1,k2,fun j y hy=>?_,fun o hp=>k4 o ((e2 o).1 hp),k5⟩;obtain⟨hp,v,k6,k7⟩:=k3 j y hy;have e:(g.back g' H).ow (.cell r j)=g.ow (.cell r j):=by simp only[Gh.back,if_neg h1]
    exact⟨hp,v,k6,k7.keep hk fun ho=>⟨e,hsame _ _ (.cell h2 hy ho) fun q hq=>⟨(fun e=>by cases e),(fun k e=>h1 (by cases e;exact hq))⟩⟩⟩
  ·rcases hcase o b h1 with⟨k1,n1⟩|⟨q1,k1,e1⟩<;>rcases hcase o' b h2 with⟨k2,n2⟩|⟨q2,k2,e2⟩
   ·exact h.heap.inj _ _ _ k1 k2
   ·exact absurd k2 (apart o b k1 n1 q2)
   ·exact absurd k1 (apart o' b k2 n2 q1)
   ·have:=hH.inj _ _ _ k1 k2;subst this;rcases e1 with⟨r,rfl,rfl⟩|⟨r,j,rfl,rfl⟩<;>rcases e2 with⟨r',rfl,e⟩|⟨r',j',rfl,e⟩<;>cases e<;>rfl
  ·rcases hcase o b h1 with⟨k1,_⟩|⟨q1,k1,_⟩
   ·exact h.heap.wr o b k1
   ·exact hwr b (hcw q1 b k1)
  ·rcases hH.prn b o hp with h1|h1|h1
   ·exact h.heap.prn b o h1
   ·exact .inr (hwr b (.inr h1)).symm
   ·exact .inr (hwr b (.inl h1)).symm
  ·refine h.heap.fr.trans (hH.fr) (fun b hb=>?_) h.heap.pr0;exact(hwr b (.inr hb)).symm
 ·rcases hcase o b ho with⟨k1,n1⟩|⟨q1,k1,_⟩
  ·rcases hb with hb|hb
   ·exact absurd (HeapRel.own_lt h k1) (Nat.not_lt.2 hb)
   ·exact hout o b k1 n1 hb
  ·exact hf q1 k1
end Go.Ab
end
section
namespace Go.Ab
open Classical
inductive Ex where
 |normal
 |exit (id:Nat)
 |ret
 |pan (v:Value)
def Qc(C:Ctx)(Q:Ex->St->Prop):Exit->Act->World->Prop
 |.normal,a,w=>∃s g,Rel C s g a w/\Q .normal s
 |.exit id,a,w=>∃s g,Rel C s g a w/\Q (.exit id) s
 |.ret,a,w=>∃s g,Rel C s g a w/\Q .ret s
 |.panic chain,a,w=>∃v,chain=[{v,recovered:=false}]/\ ∃s g,Rel C s g a w/\Q (.pan v) s
 |_,_,_=>False
def AW(C:Ctx)(c:Code)(Q:Ex->St->Prop)(s:St):Prop:=∀g a w,Rel C s g a w->c.wp C.P (Qc C Q) a w
def AO(C:Ctx)(ops:Array Oper)(is:List Nat)(Q:Ex->St->Prop)(s:St):Prop:=∀g a w,Rel C s g a w->wpOps C.P ops (Qc C Q) is a w
theorem Qc.mono{C:Ctx}{Q Q':Ex->St->Prop}(h:∀e s,Q e s->Q' e s):∀e a w,Qc C Q e a w->Qc C Q' e a w
 |.normal,_,_,⟨s,g,r,q⟩=>⟨s,g,r,h _ _ q⟩
 |.exit _,_,_,⟨s,g,r,q⟩=>⟨s,g,r,h _ _ q⟩
 |.ret,_,_,⟨s,g,r,q⟩=>⟨s,g,r,h _ _ q⟩
 |.panic _,_,_,⟨v,e,s,g,r,q⟩=>⟨v,e,s,g,r,h _ _ q⟩
 |.goto _,_,_,q=>q.elim
 |.outgrown,_,_,q=>q.elim
theorem AW.mono{C:Ctx}{c:Code}{Q Q':Ex->St->Prop}{s:St}(h:AW C c Q s)(hq:∀e s,Q e s->Q' e s):AW C c Q' s:=fun g a w hR=>wp_mono (h g a w hR) (Qc.mono hq)
noncomputable def Zan(ops:Array Oper)(s:St)(o:Oper):Option Bool:=
 match o.guard with
 |none=>some true
 |some (j,want)=>(match ops[j]? with
  |some q=>(match q.dst with
   |some t=>(match s.tm t with
    |.d (.lit (.bool b))=>some (b==want)
    |.tup _=>some false
    |_=>none)
   |none=>none)
  |none=>none)
theorem Za5{C:Ctx}{s:St}{g:Gh}{a:Act}{w:World}(hR:Rel C s g a w){ops:Array Oper}{o:Oper}{b:Bool}(h:Zan ops s o=some b):Region.wanted o (yielded ops a.tmps)=b:=by
 unfold Zan at h;unfold Region.wanted;split at h
 ·rename_i hg;rw[hg];cases h;rfl
 ·rename_i j want hg;rw[hg];split at h
  ·rename_i q hq;split at h
   ·rename_i t ht;split at h
    ·rename_i v hv;cases h;have h1:=hR.slot t;rw[hv]at h1
     have h2:a.tmps.getD t undef=.bool v:=by
      generalize a.tmps.getD t undef=z at h1;cases h1;rfl
     have h3:a.tmps[t]? =some (.bool v):=by
      rw[Array.getD_eq_getD_getElem?]at h2;cases hx:a.tmps[t]? with
      |none=>rw[hx]at h2;cases h2
      |some z=>rw[hx]at h2;simp at h2;rw[h2]
     simp[yielded,hq,ht,h3]
    ·rename_i l hv;cases h;have h1:=hR.slot t;rw[hv]at h1;obtain⟨vs,h2,_⟩:=h1
     have h3:yielded ops a.tmps j=none:=by
      rw[Array.getD_eq_getD_getElem?]at h2;cases hx:a.tmps[t]? with
      |none=>simp[yielded,hq,ht,hx]
      |some z=>rw[hx]at h2;simp at h2;subst h2;simp[yielded,hq,ht,hx]
     simp[h3]
    ·cases h
   ·cases h
  ·cases h
theorem Zfj{C:Ctx}{ops:Array Oper}{Q:Ex->St->Prop}{s:St}(h:Q .normal s):AO C ops [] Q s:=fun g _ _ hR=>⟨s,g,hR,h⟩
theorem Zhh{C:Ctx}{ops:Array Oper}{Q:Ex->St->Prop}{s s':St}{i:Nat}{rest:List Nat}{o:Oper}(ho:ops[i]? =some o)(hw:Zan ops s o=some true)(he:OpOk C o s s')
 (h:AO C ops rest Q s'):AO C ops (i::rest) Q s:=by
 intro g a w hR;simp only[wpOps,ho,Za5 hR hw,if_true];exact .inl (he g a w hR _ _ fun g' a' w' hR'=>h g' a' w' hR')
noncomputable def St.undef(s:St)(d:Option Nat):St:=
 match d with
 |some d=>s.put d (.tup [])
 |none=>s
theorem Zja{C:Ctx}{ops:Array Oper}{Q:Ex->St->Prop}{s:St}{i:Nat}{rest:List Nat}{o:Oper}(ho:ops[i]? =some o)(hw:Zan ops s o=some false)(hN:∀d,o.dst=some d->d<C.N)
 (h:AO C ops rest Q (s.undef o.dst)):AO C ops (i::rest) Q s:=by
 intro g a w hR;simp only[wpOps,ho,Za5 hR hw,Bool.false_eq_true,if_false];refine h g _ w ?_;cases hd:o.dst with
 |none=>exact hR
 |some d=>exact hR.put (hN d hd) rfl ⟨[],rfl,trivial⟩ (fun t n e=>by cases e) (fun t n sz i j e=>by cases e)
theorem Zrl{C:Ctx}{ops:Array Oper}{Q:Ex->St->Prop}{s:St}{i:Nat}{rest:List Nat}{o:Oper}{x:Operand}{t:TypeId}{u:Value}(ho:ops[i]? =some o)(hw:Zan ops s o=some true)(hop:o.op=.panic x)
 (hx:s.lit x=some (.iface t u)) (h:Q (.pan (.iface t u)) s):AO C ops (i::rest) Q s:=by
 intro g a w hR;simp only[wpOps,ho,Za5 hR hw,if_true];refine .inl ?_
 have hrun:(execOp a.eval o).run C.P w=.halt (.panic (.iface t u)) w:=by
  simp[execOp,hop,hR.lit hx,Instr.panic]
 unfold Oper.wp;rw[hrun];exact⟨_,rfl,s,g,hR,h⟩
noncomputable def Zdm(s:St):List Operand->Option (List A)
 |[]=>some []
 |x::l=>match s.val x,Zdm s l with
  |some v,some r=>some (v::r)
  |_,_=>none
theorem Zim{C:Ctx}{s:St}{g:Gh}{a:Act}{w:World}(hR:Rel C s g a w):∀{l:List Operand}{vs:List A},Zdm s l=some vs->All2 (fun x v=>(∀p,RepA w g s.gen p x v)/\x.isOwn=false) vs (l.map a.eval)
 |[],vs,h=>by simp[Zdm]at h;subst h;trivial
 |x::l,vs,h=>by
  simp only[Zdm]at h;split at h
  ·rename_i v r h1 h2;cases h;exact⟨⟨fun p=>(hR.val h1 p).1,(hR.val h1 .res).2.1⟩,Zim hR h2⟩
  ·cases h
theorem Zhi{α β:Type}{R:α->β->Prop}:∀{l l':List α}{m m':List β},All2 R l m->All2 R l' m'->All2 R (l++l') (m++m')
 |[],_,[],_,_,h=>h
 |_::_,_,_::_,_,⟨h1,h2⟩,h=>⟨h1,Zhi h2 h⟩
 |[],_,_::_,_,h,_=>h.elim
 |_::_,_,[],_,h,_=>h.elim
theorem Zm3{α β γ δ:Type}{R:γ->δ->Prop}{f:α->γ}{k:β->δ}:∀{l:List α}{m:List β},All2 (fun x y=>R (f x) (k y)) l m->All2 R (l.map f) (m.map k)
 |[],[],_=>trivial
 |_::_,_::_,⟨h1,h2⟩=>⟨h1,Zm3 h2⟩
 |[],_::_,h=>h.elim
 |_::_,[],h=>h.elim
def Zjb:Ref->Option Ref
 |.up q=>some q
 |.own _ _=>none
def A.back:A->Option A
 |.ptr (.up r) o=>some (.ptr r o)
 |.ptr (.own _ _) _=>none
 |.fn f rs=>(rs.mapM Zjb).map (.fn f)
 |.als _ _=>none
 |.opt _ _ _ _ _=>none
 |x=>some x
theorem Zpi:∀{rs rs':List Ref},rs.mapM Zjb=some rs'->rs'.map Ref.up=rs
 |[],rs',h=>by simp at h;subst h;rfl
 |r::rs,rs',h=>by
  simp only[List.mapM_cons,bind,Option.bind_eq_some_iff,pure,Option.some.injEq]at h;obtain⟨q,h1,rs'',h2,rfl⟩:=h;cases r with
  |own t n=>cases h1
  |up q'=>cases h1;rw[List.map_cons,Zpi h2]
theorem Zpj{x y:A}(h:x.back=some y):y.lift=x/\y.plain=true/\y.isOwn=x.isOwn:=by
 unfold A.back at h;split at h
 ·cases h;exact⟨rfl,rfl,rfl⟩
 ·cases h
 ·rename_i f rs;cases he:(rs.mapM Zjb)with
  |none=>rw[he]at h;cases h
  |some rs'=>rw[he]at h;cases h;exact⟨by simp[A.lift,Zpi he],rfl,rfl⟩
 ·cases h
 ·cases h
 ·cases h;rename_i h1 h2 h3 h4 h5;cases x with
  |ptr r o=>cases r with
   |own t n=>exact absurd rfl (h2 t n o)
   |up q=>exact absurd rfl (h1 q o)
  |fn f rs=>exact absurd rfl (h3 f rs)
  |als t n=>exact absurd rfl (h4 t n)
  |opt t n sz i j=>exact absurd rfl (h5 t n sz i j)
  |_=>exact⟨rfl,rfl,rfl⟩
theorem Zlv{C:Ctx}{ops:Array Oper}{Q:Ex->St->Prop}{s:St}{i:Nat}{Kx:Act->World->Prop}{o:Oper}{fx:Operand}{args:Array Operand}{tys:Array TypeId}{F:FuncId}{caps:List Ref}{vals:List A}{d:Nat}
 {H:List (Ref×List A)} {R:Out->List (Ref×List A)->Prop}
 (ho:ops[i]? =some o) (hw:Zan ops s o=some true) (hop:o.op=.call {callee:=.value fx,args,argTypes:=tys}) (hd:o.dst=some d) (hN:d<C.N) (hf:s.ev fx=.fn F caps) (hv:Zdm s args.toList=some vals)
 (hK:∀x∈H,s.K x.1=some x.2) (hnd:(H.map (·.1)).Nodup)
 (hh:Holds C.P F (vals.map A.lift++caps.map fun r=>.ptr (.up r) 0) (Zao H) R)
 (hret:∀v H',R (.ret v) H'-> ∃v' H2,v.back=some v'/\H'=Zao H2/\H2.map (·.1)=H.map (·.1)/\(∀x∈H2,∀y∈x.2,y.plain=true)/\ ∀g a w,Rel C ((s.setH H2).put d v') g a w->Kx a w)
 (hpan:∀v H',R (.pan v) H'-> ∃H2,H'=Zao H2/\H2.map (·.1)=H.map (·.1)/\(∀x∈H2,∀y∈x.2,y.plain=true)/\ ∃s',(∀g a w,Rel C (s.setH H2) g a w->Rel C s' g a w)/\Q (.pan v) s'):∀g a w,Rel C s g a w->wpOp C.P ops (Qc C Q) i Kx a w:=by
 intro g a w hR;simp only[wpOp,ho,Za5 hR hw,if_true];refine .inl ?_;have hfv:=hR.ev fx (by rw[hf];rfl) .res;rw[hf]at hfv;have hvals:=Zim hR hv
 have hargs:All2 (fun x v=>∀p,RepA w (g.down s.gen) (fun _=>0) p x v) (vals.map A.lift++caps.map fun r=>.ptr (.up r) 0)
  ((args.map a.eval)++(caps.map fun r=>Value.pointer (some ⟨g.bx r,0,none⟩)).toArray).toList:=by
  rw[Array.toList_append];refine Zhi ?_ ?_
  ·have h1:All2 (fun x v=>∀p,RepA w (g.down s.gen) (fun _=>0) p (A.lift x) v) vals (args.toList.map a.eval):=All2.mono (fun x v h p=>(h.1 p).lift fun e=>by rw[h.2]at e;cases e) hvals;have h2:=Zm3 (R:=fun x v=>∀p,RepA w (g.down s.gen) (fun _=>0) p x v) (f:=A.lift) (k:=id) (All2.mono (fun _ _ h=>h) h1);simpa using h2
  ·have:∀(rs:List Ref),(∀r∈rs,RefOk g s.gen r)->All2 (fun x v=>∀p,RepA w (g.down s.gen) (fun _=>0) p x v) (rs.map fun r=>A.ptr (.up r) 0) (rs.map fun r=>Value.pointer (some ⟨g.bx r,0,none⟩)):=by
    intro rs
    induction rs with
    |nil=>intro _;trivial
    |cons r rs ih=>exact fun h=>⟨fun p=>⟨rfl,h r (List.mem_cons_self ..)⟩,ih fun q hq=>h q (List.mem_cons_of_mem _ hq)⟩
   simpa using this caps hfv.2
 have hcall:=hh w _ (g.down s.gen) hargs (hR.down hK)
 have hrun:(execOp a.eval o).run C.P w=(callFunc F ((args.map a.eval)++(caps.map fun r=>Value.pointer (some ⟨g.bx r,0,none⟩)).toArray)).run C.P w:=by
  simp only[execOp,hop,resolve,hfv.1,Deferred.ofValue,Sem.run_bind,Sem.run_pure,Result.andThen_ok,invoke,Array.empty_append]
 unfold Oper.wp;rw[hrun]
 have hback:∀e w',(∃out H' g',R out H'/\H'.map (·.1)=(Zao H).map (·.1)/\HeapRel (Zag C.P w (g.down s.gen) (Zao H) 0) (Zax H') g' w'/\Zm1 (Zag C.P w (g.down s.gen) (Zao H) 0) (Zax H') g' w' out e)->
  match e with
  |.returned v=>Kx (a.put o.dst v) w'
  |.panicked chain=>Qc C Q (.panic chain) a w'
  |.outgrown=>False:=by
  rintro e w' ⟨out,H',g',hR',_,hH,hE⟩;cases out with
  |ret v=>
   obtain⟨v',H2,hb,rfl,hfst,hpl,hgo⟩:=hret v H' hR';obtain⟨cv,rfl,hcv,hown⟩:=hE;have hB:=hR.back hK hnd hfst hpl hH;obtain⟨e1,e2,e3⟩:=Zpj hb;subst e1;show Kx (a.put o.dst cv) w';rw[hd];by_cases hvo:v'.isOwn=true
   ·obtain⟨hf1,hf2⟩:=hown (by rw[Zi9];exact hvo);have hf2':w.heap.size<=g'.ow .res\/ ∃o,Owns (Zax (Zao H)) (g.down s.gen) o (g'.ow .res):=hf2;cases v'<;>simp[A.isOwn]at hvo
    ·obtain⟨cap,cs,how⟩:=hcv;exact hgo _ _ _ (hB.rel.putOwn hN (hB.free _ hf1 hf2') (hB.wr _ hf2') how)
    ·obtain⟨c1,c2,u,cap,cs,e,p1,p2,how⟩:=hcv;refine hgo _ _ _ (hB.rel.putO hN rfl (hB.free _ hf1 hf2') (hB.wr _ hf2') fun g1 q1 q2=>⟨c1,c2,u,cap,cs,e,?_,?_,?_⟩)
     ·rw[q1];exact p1
     ·rw[q1];exact p2
     ·rw[q1,q2];exact how
   ·have hvo':v'.isOwn=false:=by simpa using hvo
    refine hgo (g.back g' H) _ _ (hB.rel.put hN hvo' ?_ (fun t n e=>by subst e;cases e2) (fun t n sz i j e=>by subst e;cases e2));exact hcv.unlift (g:=g) rfl hB.bx hB.uok rfl fun e=>by rw[hvo']at e;cases e
  |pan v=>
   obtain⟨H2,rfl,hfst,hpl,s2,hs2,hgo⟩:=hpan v H' hR';cases hE;have hB:=hR.back hK hnd hfst hpl hH;exact⟨v,rfl,_,_,hs2 _ _ _ hB.rel,hgo⟩
 unfold CallsX at hcall;split at hcall
 ·rename_i f' args' w1 hc;rw[hc];refine hcall.mono fun e w' he=>?_
  have:=hback e w' he;cases e with
  |returned v=>exact this
  |panicked c=>exact this
  |outgrown=>exact this.elim
 ·rename_i v w1 hc;rw[hc];exact hback _ _ hcall
 ·rename_i row args' w1 hc;rw[hc];exact hcall.mono fun v w' he=>hback _ _ he
 ·exact hcall.elim
theorem Zlw{C:Ctx}{ops:Array Oper}{Q:Ex->St->Prop}{s:St}{i:Nat}{rest:List Nat}{o:Oper}{fx:Operand}{args:Array Operand}{tys:Array TypeId}{F:FuncId}{caps:List Ref}{vals:List A}{d:Nat}
 {H:List (Ref×List A)} {R:Out->List (Ref×List A)->Prop}
 (ho:ops[i]? =some o) (hw:Zan ops s o=some true) (hop:o.op=.call {callee:=.value fx,args,argTypes:=tys}) (hd:o.dst=some d) (hN:d<C.N) (hf:s.ev fx=.fn F caps) (hv:Zdm s args.toList=some vals)
 (hK:∀x∈H,s.K x.1=some x.2) (hnd:(H.map (·.1)).Nodup)
 (hh:Holds C.P F (vals.map A.lift++caps.map fun r=>.ptr (.up r) 0) (Zao H) R)
 (hret:∀v H',R (.ret v) H'-> ∃v' H2,v.back=some v'/\H'=Zao H2/\H2.map (·.1)=H.map (·.1)/\(∀x∈H2,∀y∈x.2,y.plain=true)/\AO C ops rest Q ((s.setH H2).put d v'))
 (hpan:∀v H',R (.pan v) H'-> ∃H2,H'=Zao H2/\H2.map (·.1)=H.map (·.1)/\(∀x∈H2,∀y∈x.2,y.plain=true)/\Q (.pan v) (s.setH H2)):AO C ops (i::rest) Q s:=by
 intro g a w hR;rw[wpOps_cons];exact Zlv ho hw hop hd hN hf hv hK hnd hh hret (fun v H' hr=>let⟨H2,e1,e2,e3,e4⟩:=hpan v H' hr;⟨H2,e1,e2,e3,_,(fun _ _ _ h=>h),e4⟩) g a w hR
end Go.Ab
end
section
namespace Go.Ab
open Classical
theorem Rel.dropCell_free{C:Ctx}{s:St}{g:Gh}{a:Act}{w:World}(h:Rel C s g a w){r:Ref}{c:List A}(hK:s.K r=some c){j:Nat}{x:A}(hc:c[j]? =some x)(hx:x.isOwn=true):
 ∀o,¬Owns (s.setK r (c.set j .any)) g o (g.ow (.cell r j)):=by
 have hown:Owns s g (.cell r j) (g.ow (.cell r j)):=.cell hK hc hx;have hlt:j<c.length:=(List.getElem?_eq_some_iff.1 hc).1;intro o h1;generalize hb:g.ow (.cell r j)=b at h1 hown;have key:∀o',Owns s g o' b->o'=.cell r j:=fun o' ho'=>h.heap.inj _ _ _ ho' hown
 cases h1 with
 | @box r' d' h1=>
   by_cases hq:r'=r
   ·subst hq;have:=key _ (.box hK);cases this
   ·have:=key _ (.box (by simpa[St.setK,Zac _ _ hq]using h1));cases this
 |slot h1=>have:=key _ (.slot h1);cases this
 | @cell r' d' j' y h1 h2 h5=>
   by_cases hq:r'=r
   ·subst hq;simp only[St.setK,Zad,Option.some.injEq]at h1;subst h1;by_cases hj:j'=j
    ·subst hj;rw[List.getElem?_set_self hlt]at h2;cases h2;cases h5
    ·rw[List.getElem?_set_ne (fun e=>hj e.symm)]at h2;have:=key _ (.cell hK h2 h5);cases this;exact hj rfl
   ·have:=key _ (.cell (by simpa[St.setK,Zac _ _ hq]using h1) h2 h5);cases this;exact hq rfl
theorem Zfk(s:St)(r:Ref)(c c':List A):(s.setK r c).setK r c'=s.setK r c':=by
 unfold St.setK
 congr 1
 funext q
 by_cases hq:q=r
 ·subst hq;simp
 ·simp[Zac _ _ hq]
theorem Rel.pokeCell{C:Ctx}{s:St}{g:Gh}{a:Act}{w:World}(hR:Rel C s g a w){r:Ref}{c:List A}{j m k:Nat}{row:List D}{rest:List (List D)}{xv:Value}{vs:List D}{T:TypeId}{ag:Bool}
 (hK:s.K r=some c) (hc:c[j]? =some (.own m [] (row::rest))) (hT:szOf C.P T=some (vs.length,ag)) (hx:All2 (RepD w g.Pr) vs xv.cells.toList) (hk:k+vs.length<=m):
 ∃b cap,(∀ds,Row w (g.bx r) ds->ds[j]? =some (.slice (some ⟨b,0,none⟩) (rest.length+1) cap))/\
  ∃w',(storeVar T ⟨b,k,none⟩ xv).run C.P w=.ok () w'/\ ∃g',Rel C (s.setK r (c.set j (.own m [] (setL row k vs::rest)))) g' a w':=by
 obtain⟨bs,hr,hs,hcs,hp0,_⟩:=hR.heap.box r c hK;obtain⟨_,v,hv1,cap,cs,ho⟩:=hcs j _ hc;have hlt:j<c.length:=(List.getElem?_eq_some_iff.1 hc).1;have hlen:=Zam hx;simp only[Array.length_toList]at hlen
 have hcells:∀z∈xv.cells.toList,isCell z=true:=fun z hz=>by
  obtain⟨k,hk,rfl⟩:=List.mem_iff_getElem.1 hz;simp only[Array.length_toList]at hk;obtain⟨y,h2,h3⟩:=Zat hx k (vs[k]'(by omega)) (List.getElem?_eq_getElem _)
  have e':xv.cells.toList[k]=y:=by
   rw[List.getElem?_eq_getElem (by simpa using hk)]at h2;exact Option.some.inj h2
  rw[e'];exact h3.isCell
 have hroom:=ho.room;simp only[List.length_nil,List.length_cons,Nat.zero_add]at hroom
 have hpos:k+vs.length<=cs.size:=by
  rw[ho.size];have h2:1*m<=cap*m:=Nat.mul_le_mul_right _ (by omega);omega
 have hem:row.length=m:=ho.len row (by simp);have hval:=ho.val;simp only[List.length_nil,List.length_cons,Nat.zero_add]at hval;obtain⟨w',h3,h4⟩:=Zcf hT (off:=k) (v:=xv) ho.row hlen.symm hpos hcells;refine⟨g.ow (.cell r j),cap,fun ds hd=>by rw[hd.unique hr,hv1,hval],w',h3,?_⟩
 have hget:∀i,(Zak cs k xv.cells.toList)[i]? =if k<=i/\i<k+vs.length then xv.cells.toList[i-k]? else cs[i]? :=fun i=>by
  rw[Za1 _ _ _ _ (by simp;omega)];simp only[Array.length_toList,<-hlen]
 have hnp:∀i,¬g.Pr (g.ow (.cell r j)) i:=fun i hi=>by
  have:=(ho.prot i).1 hi;simp at this
 have R1:=hR.dropCell hK j;have hfree:=hR.dropCell_free hK hc rfl;have hown:Owns s g (.cell r j) (g.ow (.cell r j)):=.cell hK hc rfl;have hwr:=hR.heap.wr _ _ hown;have R2:=R1.write ho.row hfree h4 (Zal _ _ _) (fun i hi=>absurd hi (hnp i)) hwr
 have hcell:∀b' o',g.Pr b' o'->w'.cell? ⟨b',o',none⟩=w.cell? ⟨b',o',none⟩:=fun b' o' hpr=>by
  by_cases hb:b'=g.ow (.cell r j)
  ·subst hb;exact absurd hpr (hnp o')
  ·exact h4.cell b' o' hb
 have hsl:(setL row k vs).length=m:=by rw[Zha (by omega),hem]
 have hel:Elems w' g.Pr (Zak cs k xv.cells.toList) m ([]++setL row k vs::rest):=by
  intro i' j' hi' hj';have hi'':i'<([]++row::rest).length:=by simpa using hi'
  cases i' with
  |zero=>
   simp only[List.nil_append,List.getElem_cons_zero]at hj'⊢;have hjm:j'<m:=by omega
   have h5:=Zmy (c:=row) (vs:=vs) (off:=k) (by omega) j';rw[List.getElem?_eq_getElem hj']at h5;rw[Nat.zero_mul,Nat.zero_add];by_cases hcc:k<=j'/\j'<k+vs.length
   ·rw[if_pos hcc]at h5;obtain⟨y,h6,h7⟩:=Zat hx (j'-k) _ h5.symm;refine⟨y,?_,h7.mono hcell fun _ _ h=>h⟩;rw[hget,if_pos hcc];exact h6
   ·rw[if_neg hcc]at h5;have hje:j'<row.length:=by omega
    obtain⟨y,h6,h7⟩:=ho.elems 0 j' hi'' (by simpa using hje);rw[Nat.zero_mul,Nat.zero_add]at h6;refine⟨y,by rw[hget,if_neg hcc];exact h6,?_⟩
    have e3:(setL row k vs)[j']=row[j']:=by
     rw[List.getElem?_eq_getElem hje]at h5;exact Option.some.inj h5
    rw[e3];have h8:=h7.mono hcell (Pr':=g.Pr) fun _ _ h=>h
    simpa using h8
  |succ i=>
   simp only[List.nil_append,List.getElem_cons_succ]at hj'⊢;obtain⟨y,h6,h7⟩:=ho.elems (i+1) j' hi'' (by simpa using hj');refine⟨y,?_,?_⟩
   ·rw[hget,if_neg ?_]
    ·exact h6
    ·rintro⟨_,h9⟩;have:m<=(i+1)*m:=Nat.le_mul_of_pos_left m (by omega);omega
   ·have h8:=h7.mono hcell (Pr':=g.Pr) fun _ _ h=>h
    simpa using h8
 have ho':OwnRep w' g.Pr (g.ow (.cell r j)) [] (setL row k vs::rest) v cap m (Zak cs k xv.cells.toList):=
  ⟨by rw[hval];simp,h4.row,ho.pos,by rw[Zal];exact ho.size,by simpa using hroom,fun z hz=>by
   rcases List.mem_cons.1 (by simpa using hz)with h|h
   ·rw[h];exact hsl
   ·exact ho.len z (by simp[h]),hel,ho.prot⟩
 have hne:g.ow (.cell r j)≠g.bx r:=fun e=>by
  have h1:Owns s g (.box r) (g.bx r):=.box hK;rw[<-e]at h1;have:=hR.heap.inj _ _ _ hown h1;cases this
 have R3:=R2.giveCell (r:=r) (c:=c.set j .any) (k:=j) (v:=v) (Zad _ _ _) (by simpa using hlt) (fun ds hd=>by
  have e1:Row w (g.bx r) ds:=hd.of_same (h4.same _ fun e=>hne e.symm).symm;rw[e1.unique hr,hv1]) (fun y hy=>by
  rw[List.getElem?_set_self hlt]at hy;cases hy;rfl) hfree hwr ho'
 rw[Zfk,List.set_set]at R3;exact⟨_,R3⟩
theorem Zc0{ops:Array Oper}{s:St}{o:Oper}(h:o.guard=none):Zan ops s o=some true:=by simp[Zan,h]
theorem Zd8{C:Ctx}{s:St}{g:Gh}{a:Act}{w:World}(hR:Rel C s g a w){d t:Nat}{v:Value}(hd:d<C.N):(a.put (some d) v).tmps.getD t undef=if t=d then v else a.tmps.getD t undef:=
 Za3 (by rw[hR.size];exact hd)
theorem Zpk{C:Ctx}{ops:Array Oper}{Q:Ex->St->Prop}{s:St}{i3 i4 i5:Nat}{rest:List Nat}{o3 o4 o5:Oper}{d1 d3 d4 m by_ fi off fn:Nat}{r:Ref}{c:List A}{j:Nat}{row:List D}{q:List (List D)}
 {T T2 T3 e:TypeId} {ik:IntKind} {ag cc fc:Bool} {x:Operand} {vs:List D}
 (h3:ops[i3]? =some o3) (h4:ops[i4]? =some o4) (h5:ops[i5]? =some o5) (g3:o3.guard=none) (g4:o4.guard=none) (g5:o5.guard=none)
 (p3:o3.op=.indexAddr T (.tmp d1) (.const (.int ik 0))) (p4:o4.op=.fieldAddr T2 (.tmp d3) fi) (p5:o5.op=.store T3 (.tmp d4) x) (t3:o3.dst=some d3) (t4:o4.dst=some d4) (t5:o5.dst=none)
 (n3:d3<C.N) (n4:d4<C.N) (hT:slOf C.P T=some (m,by_,cc,e)) (hF:Zc7 C.P T2 fi=some (off,fn,fc)) (hT3:szOf C.P T3=some (vs.length,ag)) (hm:off+vs.length<=m)
 (hK:s.K r=some c) (hc:c[j]? =some (.own m [] (row::q))) (hx:((s.put d3 .any).put d4 .any).escs x=some vs)
 (hrest:AO C ops rest Q (((s.put d3 .any).put d4 .any).setK r (c.set j (.own m [] (setL row off vs::q)))))
 {g:Gh} {a:Act} {w:World} (hR:Rel C s g a w) (hv:∃cs,Row w (g.bx r) cs/\cs[j]? =some (a.tmps.getD d1 undef)):wpOps C.P ops (Qc C Q) (i3::i4::i5::rest) a w:=by
 obtain⟨bs,hbr,hbv⟩:=hv;have R3:∀u,Rel C (s.put d3 .any) g (a.put (some d3) u) w:=fun u=>hR.put n3 rfl trivial (fun t n e=>by cases e) (fun t n sz i j e=>by cases e)
 have R4:∀u u',Rel C ((s.put d3 .any).put d4 .any) g ((a.put (some d3) u).put (some d4) u') w:=fun u u'=>(R3 u).put n4 rfl trivial (fun t n e=>by cases e) (fun t n sz i j e=>by cases e)
 have hK4:((s.put d3 .any).put d4 .any).K r=some c:=hK
 have hb:∃b cap,a.tmps.getD d1 undef=.slice (some ⟨b,0,none⟩) (q.length+1) cap/\ ∀u u' xv,All2 (RepD w g.Pr) vs xv.cells.toList-> ∃w',(storeVar T3 ⟨b,off,none⟩ xv).run C.P w=.ok () w'/\
  ∃g',Rel C (((s.put d3 .any).put d4 .any).setK r (c.set j (.own m [] (setL row off vs::q)))) g' ((a.put (some d3) u).put (some d4) u') w':=by
  obtain⟨_,hcr,_,hcs,_,_⟩:=hR.heap.box r c hK;obtain⟨_,v,hv1,cap,cs,ho⟩:=hcs j _ hc;have hval:=ho.val;simp only[List.length_nil,List.length_cons,Nat.zero_add]at hval
  have hvv:a.tmps.getD d1 undef=v:=by
   rw[hcr.unique hbr]at hv1;rw[hv1]at hbv;exact(Option.some.inj hbv).symm
  refine⟨g.ow (.cell r j),cap,by rw[hvv,hval],fun u u' xv hxv=>?_⟩;obtain⟨b,cap',k1,w',k2,k3⟩:=(R4 u u').pokeCell hK4 hc hT3 hxv hm;have:=k1 _ hbr;rw[hbv,hvv,hval]at this;cases this;exact⟨w',k2,k3⟩
 obtain⟨b,cap,hval,hstore⟩:=hb;have e1:a.eval (.tmp d1)=.slice (some ⟨b,0,none⟩) (q.length+1) cap:=hval;have e2:a.eval (.const (.int ik 0))=.int ik 0:=rfl
 have run3:(execOp a.eval o3).run C.P w=.ok (.value (.pointer (some ⟨b,0,none⟩))) w:=by
  have:=Zcb hT w b 0 (q.length+1) cap ik 0 (by omega) (by omega);simp only[Int.toNat_zero,Nat.zero_mul,Nat.add_zero]at this;simp[execOp,p3,e1,e2,this]
 simp only[wpOps,h3,Za5 hR (Zc0 g3),if_true];refine .inl (Zbg run3 ?_);rw[t3];have hR3:=R3 (.pointer (some ⟨b,0,none⟩))
 have e3:(a.put (some d3) (.pointer (some ⟨b,0,none⟩))).eval (.tmp d3)=.pointer (some ⟨b,0,none⟩):=by
  show(a.put (some d3) _).tmps.getD d3 undef=_;rw[Zd8 hR n3,if_pos rfl]
 have run4:(execOp (a.put (some d3) (.pointer (some ⟨b,0,none⟩))).eval o4).run C.P w=.ok (.value (.pointer (some ⟨b,off,none⟩))) w:=by
  have:=Ze1 hF w b 0;rw[Nat.zero_add]at this;simp[execOp,p4,e3,this]
 simp only[h4,Za5 hR3 (Zc0 g4),if_true];refine .inl (Zbg run4 ?_);rw[t4];have hR4:=R4 (.pointer (some ⟨b,0,none⟩)) (.pointer (some ⟨b,off,none⟩))
 have e4:((a.put (some d3) (.pointer (some ⟨b,0,none⟩))).put (some d4) (.pointer (some ⟨b,off,none⟩))).eval (.tmp d4)=.pointer (some ⟨b,off,none⟩):=by
  show((a.put (some d3) _).put (some d4) _).tmps.getD d4 undef=_;rw[Zd8 hR3 n4,if_pos rfl]
 obtain⟨w',k1,g',k2⟩:=hstore (.pointer (some ⟨b,0,none⟩)) (.pointer (some ⟨b,off,none⟩)) _ (hR4.escs hx)
 have run5:(execOp ((a.put (some d3) (.pointer (some ⟨b,0,none⟩))).put (some d4) (.pointer (some ⟨b,off,none⟩))).eval o5).run C.P w=.ok .skip w':=by
  simp only[execOp,p5,e4,Instr.storeAt,Instr.sureAddr,Sem.run_bind,Sem.run_pure,Result.andThen_ok,k1]
 simp only[h5,Za5 hR4 (Zc0 g5),if_true];refine .inl (Zik run5 ?_);rw[t5];exact hrest g' _ w' k2
theorem Zkg{C:Ctx}{ops:Array Oper}{Q:Ex->St->Prop}{s:St}{i1:Nat}{rest:List Nat}{o1:Oper}{d1 p n m:Nat}{r:Ref}{c:List A}{j:Nat}{es nw:List (List D)}{t:TypeId}
 (h1:ops[i1]? =some o1) (g1:o1.guard=none) (p1:o1.op=.load t (.tmp p)) (t1:o1.dst=some d1) (n1:d1<C.N) (hsz:szOf C.P t=some (n,false)) (hp:s.tm p=.ptr r j) (hK:s.K r=some c) (hc:c[j]? =some (.own m es nw))
 (next:∀g a w,Rel C (s.put d1 .any) g a w->(∃cs,Row w (g.bx r) cs/\cs[j]? =some (a.tmps.getD d1 undef))->wpOps C.P ops (Qc C Q) rest a w):AO C ops (i1::rest) Q s:=by
 intro g a w hR;obtain⟨cs,hr,hs,hcs,hp0,_⟩:=hR.heap.box r c hK;obtain⟨_,v,hv,_⟩:=hcs j _ hc;have hev:=hR.slot p;rw[hp]at hev
 have hrun:(execOp a.eval o1).run C.P w=.ok (.value v) w:=by
  have:a.eval (.tmp p)=.pointer (some ⟨g.bx r,j,none⟩):=hev.1;simp only[execOp,p1,this,Instr.loadAt,Instr.sureAddr,Sem.run_bind,Sem.run_pure,Result.andThen_ok,Zbb hsz (show w.cell? ⟨g.bx r,j,none⟩=some v by rw[hr.cell];exact hv)]
 simp only[wpOps,h1,Za5 hR (Zc0 g1),if_true];refine .inl (Zbg hrun ?_);rw[t1];refine next g _ w (hR.put n1 rfl trivial (fun t n e=>by cases e) (fun t n sz i j e=>by cases e)) ⟨cs,hr,?_⟩
 rw[Zd8 hR n1,if_pos rfl];exact hv
theorem Zdi{C:Ctx}{o:Oper}{s:St}{n:Nat}{T:TypeId}{parts:Array (Nat×Operand)}{m by_:Nat}{c:Bool}{e:TypeId}{es:List (List D)}{g:Gh}{a:Act}{w:World}
 (hop:o.op=.buildSlice T n parts) (hT:slOf C.P T=some (m,by_,c,e)) (hes:Zap s m 0 parts.toList=some es) (hn:es.length=n) (hlim:n*m<=16777216) (hR:Rel C s g a w):
 ∃cells':Array Value,(execOp a.eval o).run C.P w=.ok (.value (.slice (some ⟨w.heap.size,0,none⟩) n n)) {w with heap:=w.heap.push (.cells cells' e)}/\cells'.size=n*m/\(∀e∈es,e.length=m)/\
  Elems {w with heap:=w.heap.push (.cells cells' e)} g.Pr cells' m es/\0<m:=by
 obtain⟨hu,hs,hm0,i,z,hi,hby,hsize,hz,hzs⟩:=Zav hT;have hm:0<m:=Nat.pos_of_ne_zero hm0;have hcells0:∀zs:Array Value,((Array.range (n*m)).map (zs[· % zs.size]!)).size=n*m:=fun zs=>by simp
 obtain⟨cells',h1,h2,_,h4,h5⟩:=Zf8 hR parts.toList 0 es ((Array.range (n*m)).map ((if n*m=0 then #[]else z.cells)[· % (if n*m=0 then #[]else z.cells).size]!)) hes
  (by rw[hcells0,hn,Nat.zero_add];exact Nat.le_refl _)
 rw[hcells0]at h2
 have hrun:(execOp a.eval o).run C.P w=.ok (.value (.slice (some ⟨w.heap.size,0,none⟩) n n)) {w with heap:=w.heap.push (.cells cells' e)}:=by
  have h1':Instr.fill (fun i=>some (i*m,m)) ((Array.range (n*m)).map ((if n*m=0 then #[]else z.cells)[· % (if n*m=0 then #[]else z.cells).size]!)) (parts.map fun(i,x)=>(i,a.eval x)).toList=some cells':=by
   rw[<-h1];simp
  by_cases h0:n*m=0
  ·simp only[h0,if_true]at h1';simp[execOp,hop,Instr.buildSlice,run_underlying hu,sizeOf,typeInfo,hi,hsize,h0,newRow]at h1'⊢;simp[h1']
  ·simp only[h0,if_false]at h1';have hlim':¬(16777216<n*m):=by omega
   simp[execOp,hop,Instr.buildSlice,run_underlying hu,sizeOf,typeInfo,hi,hsize,h0,hlim',zeroValue,hz,newRow]at h1'⊢;simp[h1']
 refine⟨cells',hrun,h2,h4,fun i j hi hj=>?_,hm⟩;obtain⟨u,h6,h7⟩:=h5 i j hi hj;exact⟨u,by simpa using h6,h7.mono (fun b o hp=>(Ext.push w (.cells cells' e)).cell b o (hR.heap.prs b o hp)) fun _ _ h=>h⟩
theorem OpOk.buildSliceW{C:Ctx}{o:Oper}{s:St}{d n:Nat}{T:TypeId}{parts:Array (Nat×Operand)}{m by_:Nat}{c:Bool}{e:TypeId}{es:List (List D)}
 (hop:o.op=.buildSlice T n parts) (hd:o.dst=some d) (hN:d<C.N) (hT:slOf C.P T=some (m,by_,c,e)) (hes:Zap s m 0 parts.toList=some es) (hn:es.length=n) (hlim:n*m<=16777216):
 OpOk C o s (s.put d (.own m [] es)):=by
 intro g a w hR K Q hK;obtain⟨cells',hrun,h2,h4,hel,hm⟩:=Zdi hop hT hes hn hlim hR;refine Zbg hrun ?_;obtain⟨r1,r2,r3,r4,r5⟩:=hR.push cells' e
 obtain⟨g',hg'⟩:=OpOk.append_core (es:=[]) (nw:=es) (m:=m) hN r3 (.inl r4) r1 (v:=.slice (some ⟨w.heap.size,0,none⟩) n n) (by simp[hn]) r2 hm h2 (by simp[hn])
  (fun z hz=>h4 z (by simpa using hz)) (by simpa using hel) (fun k hk=>absurd hk (r5 k))
 rw[hd];exact hK g' _ _ hg'
theorem Zrm{C:Ctx}{ops:Array Oper}{Q:Ex->St->Prop}{s:St}{i2:Nat}{rest:List Nat}{o2:Oper}{d1 d2 p n m by_:Nat}{r:Ref}{j:Nat}{T e:TypeId}{cc:Bool}{parts:Array (Nat×Operand)}{es:List (List D)}
 (h2:ops[i2]? =some o2) (g2:o2.guard=none) (hop:o2.op=.buildSlice T n parts) (hd:o2.dst=some d2) (hN:d2<C.N) (hT:slOf C.P T=some (m,by_,cc,e)) (hes:Zap s m 0 parts.toList=some es) (hn:es.length=n)
 (hlim:n*m<=16777216) (hp:s.tm p=.ptr r j) (hpd:p≠d2) (h12:d1≠d2)
 (next:∀g a w,Rel C (s.put d2 (.own m es [])) g a w->(∃cs,Row w (g.bx r) cs/\cs[j]? =some (a.tmps.getD d1 undef))->wpOps C.P ops (Qc C Q) rest a w)
 {g:Gh} {a:Act} {w:World} (hR:Rel C s g a w) (hv:∃cs,Row w (g.bx r) cs/\cs[j]? =some (a.tmps.getD d1 undef)):wpOps C.P ops (Qc C Q) (i2::rest) a w:=by
 obtain⟨cells',hrun,h5,h4,hel,hm⟩:=Zdi hop hT hes hn hlim hR;simp only[wpOps,h2,Za5 hR (Zc0 g2),if_true];refine .inl (Zbg hrun ?_);rw[hd];obtain⟨r1,r2,r3,r4,r5⟩:=hR.push cells' e
 obtain⟨g',hg'⟩:=OpOk.append_core (es:=es) (nw:=[]) (m:=m) hN r3 (.inl r4) r1 (v:=.slice (some ⟨w.heap.size,0,none⟩) n n) (by simp[hn]) r2 hm h5 (by simp[hn])
  (fun z hz=>h4 z (by simpa using hz)) (by simpa using hel) (fun k hk=>absurd hk (r5 k))
 refine next g' _ _ hg' ?_
 obtain⟨cs,hr,hcj⟩:=hv;have e1:=hR.slot p;rw[hp]at e1;have e2:=hg'.slot p;have e3:(s.put d2 (.own m es [])).tm p=.ptr r j:=by rw[<-hp];exact Zac _ _ hpd
 rw[e3,Zd8 hR hN,if_neg hpd]at e2
 have e4:g'.bx r=g.bx r:=by
  have:=e1.1.symm.trans e2.1;simp at this;exact this.symm
 refine⟨cs,?_,?_⟩
 ·rw[e4];exact hr.of_same ((Ext.push w (.cells cells' e)).same _ hr.lt)
 ·rw[Zd8 hR hN,if_neg h12];exact hcj
theorem OpOk.storeAgs{C:Ctx}{o:Oper}{s:St}{T:TypeId}{p:Operand}{t off m n:Nat}{ag:Bool}{r:Ref}{c:List A}{pre post:List D}{es nw:List (List D)}(hop:o.op=.store T p (.tmp t))(hd:o.dst=none)
 (hT:szOf C.P T=some (n,ag)) (hp:s.ev p=.ptr r off) (hK':s.K r=some c) (ht:s.tm t=.ags pre m es nw post) (hn:pre.length+1+post.length=n) (hf:off+n<=c.length):
 OpOk C o s ((s.reset t .any).setK r ((Zd5 c off (pre.map .d++.any::post.map .d)).set (off+pre.length) (.own m es nw))):=by
 intro g a w hR K Q hK;obtain⟨cs,hr,hs,hcs,hp0,_⟩:=hR.heap.box r c hK';have hv:=hR.slot t;rw[ht]at hv;obtain⟨c1,c2,u,cap,ds,hval,q1,q2,ho⟩:=hv;have l1:=Zam q1;have l2:=Zam q2;have hev:=hR.ev p (by rw[hp];rfl) .res;rw[hp]at hev;have hown:Owns s g (.slot t) (g.ow (.slot t)):=.slot (by rw[ht];rfl)
 have hne:g.ow (.slot t)≠g.bx r:=fun e=>by
  have h1:Owns s g (.box r) (g.bx r):=.box hK';rw[<-e]at h1;have:=hR.heap.inj _ _ _ hown h1;cases this
 have hcl:(a.tmps.getD t undef).cells.toList=c1++u::c2:=by rw[hval];simp[Value.cells]
 have hu:isCell u=true:=by rw[ho.val];rfl
 have hall:∀z∈(a.tmps.getD t undef).cells.toList,isCell z=true:=fun z hz=>by
  rw[hcl]at hz
  have key:∀{l:List D}{k:List Value},All2 (RepD w g.Pr) l k->z∈k->isCell z=true:=fun{l k} h hz=>by
   obtain⟨i,hi,rfl⟩:=List.mem_iff_getElem.1 hz;have hl:=Zam h;obtain⟨y,h2,h3⟩:=Zat h i (l[i]'(by omega)) (List.getElem?_eq_getElem _);rw[List.getElem?_eq_getElem hi]at h2;cases h2;exact h3.isCell
  rcases List.mem_append.1 hz with h|h
  ·exact key q1 h
  ·rcases List.mem_cons.1 h with h|h
   ·rw[h];exact hu
   ·exact key q2 h
 have hsz:(a.tmps.getD t undef).cells.size=n:=by
  have:=congrArg List.length hcl;simp only[Array.length_toList,List.length_append,List.length_cons]at this;omega
 obtain⟨w',h3,h4⟩:=Zcf hT (off:=off) (v:=a.tmps.getD t undef) hr hsz (by omega) hall
 have hrun:(execOp a.eval o).run C.P w=.ok .skip w':=by
  have:a.eval (.tmp t)=a.tmps.getD t undef:=rfl;simp only[execOp,hop,hev.1,this,Instr.storeAt,Instr.sureAddr,Sem.run_bind,Sem.run_pure,Result.andThen_ok,h3]
 rw[hcl]at h4;have R1:=hR.reset t;have hfree:=hR.reset_free (t:=t) (by rw[ht];rfl);have hwr:=hR.heap.wr _ _ hown;have hlen:(pre.map A.d++A.any::post.map A.d).length=n:=by simp;omega
 have hlen':(c1++u::c2).length=n:=by simp;omega
 have hget:∀j,(Zak cs off (c1++u::c2))[j]? =if off<=j/\j<off+n then(c1++u::c2)[j-off]? else cs[j]? :=fun j=>by
  rw[Za1 _ _ _ _ (by omega),hlen']
 have hcell:∀b' o',g.Pr b' o'->w'.cell? ⟨b',o',none⟩=w.cell? ⟨b',o',none⟩:=fun b' o' hpr=>h4.cell b' o' (fun e=>hp0 o' (e▸hpr))
 have R2:Rel C ((s.reset t .any).setK r (Zd5 c off (pre.map .d++.any::post.map .d))) g a w':=R1.setBox (c':=Zd5 c off (pre.map .d++.any::post.map .d)) hK' hr h4 (Zal _ _ _)
  (by simp only[Zd5,List.length_append,List.length_take,List.length_drop,hlen];omega) fun j y hy=>by
  rw[Zfi (by omega),hlen]at hy;by_cases hj:off<=j/\j<off+n
  ·rw[if_pos hj]at hy;right;rw[hget,if_pos hj];by_cases k1:j-off<pre.length
   ·rw[List.getElem?_append_left (by simpa using k1)]at hy;simp only[List.getElem?_map,Option.map_eq_some_iff]at hy;obtain⟨z,hz,rfl⟩:=hy;obtain⟨v,k2,k3⟩:=Zat q1 _ z hz;exact⟨rfl,rfl,v,by rw[List.getElem?_append_left (by omega)];exact k2,fun _=>k3⟩
   ·rw[List.getElem?_append_right (by simpa using k1)]at hy;rw[List.getElem?_append_right (by omega)];rw[List.length_map,l1]at hy;cases hk:j-off-c1.length with
    |zero=>
     rw[hk]at hy;simp at hy;subst hy;exact⟨rfl,rfl,u,by simp,fun _=>trivial⟩
    |succ i=>
     rw[hk]at hy;simp only[List.getElem?_cons_succ,List.getElem?_map,Option.map_eq_some_iff]at hy⊢;obtain⟨z,hz,rfl⟩:=hy;obtain⟨v,k2,k3⟩:=Zat q2 _ z hz;exact⟨rfl,rfl,v,k2,fun _=>k3⟩
  ·rw[if_neg hj]at hy;exact .inl ⟨hy,by rw[hget,if_neg hj]⟩
 have hfree2:∀q,¬Owns ((s.reset t .any).setK r (Zd5 c off (pre.map .d++.any::post.map .d))) g q (g.ow (.slot t)):=by
  intro q h1;generalize hb:g.ow (.slot t)=b at h1;cases h1 with
  | @box r' d' h1=>
    by_cases hq:r'=r
    ·subst hq;exact hne hb
    ·exact hfree (.box r') (by rw[hb];exact .box (by simpa[St.setK,Zac _ _ hq]using h1))
  |slot h1=>exact hfree (.slot _) (by rw[hb];exact .slot h1)
  | @cell r' d' j y h1 h2 h5=>
    by_cases hq:r'=r
    ·subst hq;simp only[St.setK,Zad,Option.some.injEq]at h1;subst h1;rw[Zfi (by omega),hlen]at h2;by_cases hj:off<=j/\j<off+n
     ·rw[if_pos hj]at h2;have:=List.mem_of_getElem? h2;simp only[List.mem_append,List.mem_map,List.mem_cons]at this;rcases this with⟨z,_,rfl⟩|rfl|⟨z,_,rfl⟩<;>cases h5
     ·rw[if_neg hj]at h2;exact hfree (.cell r' j) (by rw[hb];exact .cell hK' h2 h5)
    ·exact hfree (.cell r' j) (by rw[hb];exact .cell (by simpa[St.setK,Zac _ _ hq]using h1) h2 h5)
 have ho':OwnRep w' g.Pr (g.ow (.slot t)) es nw u cap m ds:=ho.ofWrote h4 hne hcell (fun _ _ h=>h) (fun _=>Iff.rfl)
 have R3:=R2.giveCell (r:=r) (k:=off+pre.length) (v:=u) (Zad _ _ _) (by simp only[Zd5,List.length_append,List.length_take,List.length_drop,hlen];omega) (fun ds' hd'=>by
  rw[hd'.unique h4.row,hget,if_pos (by omega)];have:off+pre.length-off=c1.length:=by omega
  rw[this,List.getElem?_append_right (Nat.le_refl _)];simp) (fun y hy=>by
  rw[Zfi (by omega),hlen,if_pos (by omega)]at hy;have:off+pre.length-off=(pre.map A.d).length:=by simp
  rw[this,List.getElem?_append_right (Nat.le_refl _)]at hy;simp at hy;subst hy;rfl) hfree2 hwr ho'
 rw[Zfk]at R3;refine Zik hrun ?_;rw[hd];exact hK _ _ w' R3
theorem OpOk.buildAgs{C:Ctx}{o:Oper}{s:St}{T:TypeId}{d u i off m:Nat}{z:List Value}{es nw:List (List D)}(hop:o.op=.build T #[(i,.tmp u)])(hd:o.dst=some d)(hN:d<C.N)
 (hz:Zc8 C.P T=some z) (hzc:z.all isCell=true) (hb:Zom C.P T=true) (hpl:Zck C.P T i=some (off,1)) (hoff:off<z.length) (hu:s.tm u=.own m es nw):
 OpOk C o s ((s.reset u .any).put d (.ags ((z.take off).map constD) m es nw ((z.drop (off+1)).map constD))):=by
 intro g a w hR K Q hK;obtain⟨cap,cs,ho⟩:=hR.own hu;have hval:(a.tmps.getD u undef).cells= #[a.tmps.getD u undef]:=by rw[ho.val];rfl
 have hown:Owns s g (.slot u) (g.ow (.slot u)):=.slot (by rw[hu];rfl)
 have hfill:Instr.fill (Zck C.P T) z.toArray ((#[(i,Operand.tmp u)]:Array (Nat×Operand)).map fun(i,x)=>(i,a.eval x)).toList=some (Zak z.toArray off [a.tmps.getD u undef]):=by
  have e:a.eval (.tmp u)=a.tmps.getD u undef:=rfl;simp only[List.map_toArray,List.map_cons,List.map_nil,e];rw[Zg9 _ _ _ _ _ hpl (by rw[hval];rfl) (by simp;omega),hval];rfl
 have hk:∃d,C.P.underlying T=some d/\(match d with|.struct fs=>(fs.toList.mapM (fun f=>(C.P.info? f.type).map fun i=>(f.offset,i.size))).isSome=true|.array _ e=>(C.P.info? e).isSome=true|_=>False):=by
  unfold Zom at hb;split at hb
  ·rename_i fs h;exact⟨_,h,hb⟩
  ·rename_i n e h;exact⟨_,h,hb⟩
  ·cases hb
 have hrun:(execOp a.eval o).run C.P w=.ok (.value (.agg (Zak z.toArray off [a.tmps.getD u undef]))) w:=by
  have:=Zgl hz hfill hk w;simp only[execOp,hop,Sem.run_bind,this,Result.andThen_ok,Sem.run_pure]
 refine Zbg hrun ?_;rw[hd];have R1:=hR.reset u;have hfree:=hR.reset_free (t:=u) (by rw[hu];rfl);refine hK _ _ w (R1.putO hN rfl hfree (hR.heap.wr _ _ hown) fun g' e1 e2=>⟨z.take off,z.drop (off+1),a.tmps.getD u undef,cap,cs,?_,?_,?_,?_⟩)
 ·congr 1
  apply Array.toList_inj.1;apply List.ext_getElem?;intro k;rw[Array.getElem?_toList,Za1 _ _ _ _ (by simp;omega)];simp only[List.length_singleton,List.getElem?_toArray];by_cases h1:k<off
  ·rw[if_neg (by omega),List.getElem?_append_left (by simp;omega),List.getElem?_take,if_pos h1]
  ·rw[List.getElem?_append_right (by simp;omega)];have hl:(z.take off).length=off:=by simp;omega
   rw[hl];by_cases h2:k=off
   ·subst h2;simp
   ·rw[if_neg (by omega)];have:k-off=(k-(off+1))+1:=by omega
    rw[this,List.getElem?_cons_succ,List.getElem?_drop]
    congr 1;omega
 ·rw[e1];exact Zcx _ (List.all_eq_true.2 fun v hv=>List.all_eq_true.1 hzc v (List.mem_of_mem_take hv))
 ·rw[e1];exact Zcx _ (List.all_eq_true.2 fun v hv=>List.all_eq_true.1 hzc v (List.mem_of_mem_drop hv))
 ·rw[e1,e2];exact ho
def Zb0:List A->Option (List D×Nat×List (List D)×List (List D)×List D)
 |[]=>none
 |a::l=>(match a with
  |.own sz es nw=>(Zbl l).map fun q=>([],sz,es,nw,q)
  |a=>(match Zg5 a,Zb0 l with
   |some y,some (p,r)=>some (y::p,r)
   |_,_=>none))
noncomputable def Ze6(P:Program)(s:St)(t:TypeId)(p:A):Option A:=
 match szOf P t,p with
 |some (n,true),.ptr (.own b k) off=>(match s.K (.own b k)with
  |some c=>(match Zb0 ((c.drop off).take n)with
   |some (pre,sz,es,nw,post)=>if pre.length+1+post.length=n then some (.ags pre sz es nw post)else none
   |none=>none)
  |none=>none)
 |_,_=>none
theorem Zhj:∀{l:List A}{pre post:List D}{sz:Nat}{es nw:List (List D)},Zb0 l=some (pre,sz,es,nw,post)-> ∃lp lq,l=lp++.own sz es nw::lq/\Zbl lp=some pre/\Zbl lq=some post
 |[],_,_,_,_,_,h=>by cases h
 |a::l,pre,post,sz,es,nw,h=>by
  unfold Zb0 at h;split at h
  ·simp only[Option.map_eq_some_iff]at h;obtain⟨q,h1,h2⟩:=h;cases h2;exact⟨[],l,rfl,rfl,h1⟩
  ·rename_i hno;split at h
   ·rename_i y p r h1 h2;cases h;obtain⟨lp,lq,e,k1,k2⟩:=Zhj h2;exact⟨a::lp,lq,by rw[e];rfl,by simp[Zbl,h1,k1],k2⟩
   ·cases h
theorem Zoo{C:Ctx}{s:St}{g:Gh}{a:Act}{w:World}(hR:Rel C s g a w){t:TypeId}{u:Nat}{y:A}(h:Ze6 C.P s t (s.tm u)=some y):
 ∃v,(Instr.loadAt t (a.tmps.getD u undef)).run C.P w=.ok v w/\ ∃b k j,RepA w g s.gen (.cell (.own b k) j) y v/\Owns s g (.cell (.own b k) j) (g.ow (.cell (.own b k) j)):=by
 unfold Ze6 at h;split at h
 ·rename_i n b k off hsz hp;split at h
  ·rename_i c hK;split at h
   ·rename_i pre sz es nw post hl;split at h
    ·rename_i hn;cases h;have hev:=hR.slot u;rw[hp]at hev;obtain⟨hv,_⟩:=hev;obtain⟨cs,hr,hs,hc,_⟩:=hR.heap.box _ c hK;obtain⟨lp,lq,e,k1,k2⟩:=Zhj hl;obtain⟨a1,a2⟩:=Zcu k1;obtain⟨b1,b2⟩:=Zcu k2;have hlen:((c.drop off).take n).length=n:=by rw[e];simp;omega
     have hoff:off+n<=c.length:=by simp only[List.length_take,List.length_drop]at hlen;omega
     have hgt:∀i,i<n->c[off+i]? =(lp++.own sz es nw::lq)[i]? :=fun i hi=>by
      rw[<-e,List.getElem?_take,if_pos hi,List.getElem?_drop]
     have hcell:∀i,i<n->w.cell? ⟨g.bx (.own b k),off+i,none⟩=some (cs.getD (off+i) undef):=fun i hi=>by
      rw[hr.cell,Array.getD_eq_getD_getElem?];have:off+i<cs.size:=by omega
      simp[this]
     have hat:∀(i:Nat)(x:A),i<n->(lp++.own sz es nw::lq)[i]? =some x->RepA w g s.gen (.cell (.own b k) (off+i)) x (cs.getD (off+i) undef):=fun i x hi hx=>by
      obtain⟨_,v,h1,h2⟩:=hc (off+i) x (by rw[hgt i hi];exact hx);rw[Array.getD_eq_getD_getElem?,h1];exact h2
     let f:Nat->Value:=fun i=>cs.getD (off+i) undef
     have hrun:=Zbu (P:=C.P) hsz (vs:=f) hcell
     have hsplit:(List.range n).map f=(List.range lp.length).map f++f lp.length::(List.range lq.length).map fun i=>f (lp.length+1+i):=by
      have:n=lp.length+(1+lq.length):=by omega
      rw[this,List.range_add,List.map_append,List.map_map,List.range_add,List.map_append,List.map_map];simp[Function.comp_def,Nat.add_assoc]
     refine⟨.agg ((List.range n).map f).toArray,?_,b,k,off+lp.length,⟨(List.range lp.length).map f,(List.range lq.length).map fun i=>f (lp.length+1+i),f lp.length,?_⟩,?_⟩
     ·rw[hv];simp only[Instr.loadAt,Instr.sureAddr,Sem.run_bind,Sem.run_pure,Result.andThen_ok];exact hrun
     ·obtain⟨cap,ds,ho⟩:=hat lp.length (.own sz es nw) (by omega) (by simp);refine⟨cap,ds,?_,Ze0 (by simpa using a1) fun i x v hx hv'=>?_,Ze0 (by simpa using b1) fun i x v hx hv'=>?_,ho⟩
      ·rw[<-hsplit]
      ·obtain⟨z,h1,h2⟩:=a2 i x hx;have hi:i<lp.length:=(List.getElem?_eq_some_iff.1 h1).1;simp only[List.getElem?_map,Option.map_eq_some_iff]at hv';obtain⟨i',h3,rfl⟩:=hv';rw[List.getElem?_range hi]at h3;cases h3;exact Zfg h2 (hat i z (by omega) (by rw[List.getElem?_append_left hi];exact h1))
      ·obtain⟨z,h1,h2⟩:=b2 i x hx;have hi:i<lq.length:=(List.getElem?_eq_some_iff.1 h1).1;simp only[List.getElem?_map,Option.map_eq_some_iff]at hv';obtain⟨i',h3,rfl⟩:=hv';rw[List.getElem?_range hi]at h3;cases h3;refine Zfg h2 (hat (lp.length+1+i) z (by omega) ?_);rw[List.getElem?_append_right (by omega)];have:lp.length+1+i-lp.length=i+1:=by omega
       rw[this,List.getElem?_cons_succ];exact h1
     ·exact .cell (a:=.own sz es nw) hK (by rw[hgt _ (by omega)];simp) rfl
    ·cases h
   ·cases h
  ·cases h
 ·cases h
theorem Rel.commitCell{C:Ctx}{s:St}{g:Gh}{a:Act}{w:World}(hR:Rel C s g a w){r:Ref}{c:List A}{j m:Nat}{es nw:List (List D)}(hK:s.K r=some c)(hc:c[j]? =some (.own m es nw)):
 ∃g',Rel C (s.setK r (c.set j (.own m (es++nw) []))) g' a w:=by
 obtain⟨bs,hr,hs,hcs,hp0,_⟩:=hR.heap.box r c hK;obtain⟨_,v,hv1,cap,cs,ho⟩:=hcs j _ hc;have hlt:j<c.length:=(List.getElem?_eq_some_iff.1 hc).1;have hown:Owns s g (.cell r j) (g.ow (.cell r j)):=.cell hK hc rfl;have hwr:=hR.heap.wr _ _ hown;have R1:=hR.dropCell hK j;have hfree:=hR.dropCell_free hK hc rfl;have R2:=R1.protect (fun k=>k<(es++nw).length*m) hfree hwr ho.row.lt;have hk:=g.protect_keeps (g.ow (.cell r j)) (fun k=>k<(es++nw).length*m) w s.gen
 have ho':OwnRep w (g.protect (g.ow (.cell r j)) (fun k=>k<(es++nw).length*m)).Pr (g.ow (.cell r j)) (es++nw) [] v cap m cs:=
  ⟨by rw[ho.val];simp,ho.row,ho.pos,ho.size,by simpa using ho.room,fun z hz=>ho.len z (by simpa using hz),by rw[List.append_nil];exact ho.elems.mono hk.cell hk.pr,fun k=>
   ⟨fun h=>h.elim (fun h=>by
    have h1:=(ho.prot k).1 h;have:es.length*m<=(es++nw).length*m:=Nat.mul_le_mul_right _ (by simp);omega) (fun e=>e.2),fun h=>.inr ⟨rfl,h⟩⟩⟩
 have R3:=R2.giveCell (r:=r) (c:=c.set j .any) (k:=j) (v:=v) (Zad _ _ _) (by simpa using hlt) (fun ds hd=>by
  have e1:Row w (g.bx r) ds:=hd;rw[e1.unique hr,hv1]) (fun y hy=>by
  rw[List.getElem?_set_self hlt]at hy;cases hy;rfl) (fun o h=>hfree o h.of_protect) hwr ho'
 rw[Zfk,List.set_set]at R3;exact⟨_,R3⟩
theorem Rel.toData{C:Ctx}{s:St}{g:Gh}{a:Act}{w:World}(h:Rel C s g a w){t m:Nat}{es nw:List (List D)}(hN:t<C.N)(ht:s.tm t=.own m es nw):
 ∃g',Rel C ((s.reset t .any).put t (.d (.slc (es++nw)))) g' a w:=by
 obtain⟨cap,cs,ho⟩:=h.own ht;have hown:Owns s g (.slot t) (g.ow (.slot t)):=.slot (by rw[ht];rfl);have hfree:=h.reset_free (t:=t) (by rw[ht];rfl);have R1:=(h.reset t).protect (fun k=>k<(es++nw).length*m) hfree (h.heap.wr _ _ hown) ho.row.lt;have hk:=g.protect_keeps (g.ow (.slot t)) (fun k=>k<(es++nw).length*m) w s.gen
 have ho':OwnRep w (g.protect (g.ow (.slot t)) (fun k=>k<(es++nw).length*m)).Pr (g.ow (.slot t)) (es++nw) [] (a.tmps.getD t undef) cap m cs:=
  ⟨by rw[ho.val];simp,ho.row,ho.pos,ho.size,by simpa using ho.room,fun z hz=>ho.len z (by simpa using hz),by rw[List.append_nil];exact ho.elems.mono hk.cell hk.pr,fun k=>
   ⟨fun h=>h.elim (fun h=>by
    have h1:=(ho.prot k).1 h;have:es.length*m<=(es++nw).length*m:=Nat.mul_le_mul_right _ (by simp);omega) (fun e=>e.2),fun h=>.inr ⟨rfl,h⟩⟩⟩
 have R2:=R1.put (d:=t) (x:=.d (.slc (es++nw))) (v:=a.tmps.getD t undef) hN rfl (OwnRep.repD ho') (fun t n e=>by cases e) (fun t n sz i j e=>by cases e);rw[Zgx (by rw[h.size];exact hN)]at R2;exact⟨_,R2⟩
theorem Rel.zsData{C:Ctx}{s:St}{g:Gh}{a:Act}{w:World}(h:Rel C s g a w){t:Nat}{es:List (List D)}(hN:t<C.N)(ht:s.tm t=.zs es):Rel C (s.put t (.d (.slc es))) g a w:=by
 have h1:=h.slot t;rw[ht]at h1;have R2:=h.put (d:=t) (x:=.d (.slc es)) (v:=a.tmps.getD t undef) hN rfl h1.1 (fun t n e=>by cases e) (fun t n sz i j e=>by cases e)
 rwa [Zgx (by rw[h.size];exact hN)]at R2
noncomputable def St.dropBox(s:St)(r:Ref):St:={s with K:=upd s.K r none}
theorem Rel.dropBox{C:Ctx}{s:St}{g:Gh}{a:Act}{w:World}(h:Rel C s g a w){r:Ref}{c:List A}(hK:s.K r=some c):
 Rel C (s.dropBox r) g a w/\ ∀o,¬Owns (s.dropBox r) g o (g.bx r):=by
 have old:∀{o b},Owns (s.dropBox r) g o b->Owns s g o b/\o≠ .box r:=fun{o b} ho=>by
  cases ho with
  | @box q d h1=>
    by_cases hq:q=r
    ·subst hq;simp[St.dropBox]at h1
    ·exact⟨.box (by simpa[St.dropBox,Zac _ _ hq]using h1),fun e=>hq (by cases e;rfl)⟩
  |slot h1=>exact⟨.slot h1,fun e=>by cases e⟩
  | @cell q d j x h1 h2 h3=>
    by_cases hq:q=r
    ·subst hq;simp[St.dropBox]at h1
    ·exact⟨.cell (by simpa[St.dropBox,Zac _ _ hq]using h1) h2 h3,fun e=>by cases e⟩
 refine⟨⟨h.defers,h.size,h.slot,h.als,h.opt,?_⟩,fun o ho=>(old ho).2 (h.heap.inj _ _ _ (old ho).1 (.box hK))⟩;refine⟨fun q d hd=>?_,fun o o' b h1 h2=>h.heap.inj o o' b (old h1).1 (old h2).1,fun o b h1=>h.heap.wr o b (old h1).1,h.heap.prs,h.heap.pr0,h.heap.prn,h.heap.up,h.heap.uu,h.heap.fr⟩;by_cases hq:q=r
 ·subst hq;simp[St.dropBox]at hd
 ·exact h.heap.box q d (by simpa[St.dropBox,Zac _ _ hq]using hd)
theorem OpOk.sliceBox{C:Ctx}{o:Oper}{s:St}{d p n:Nat}{T:TypeId}{r:Ref}{c:List A}{l:List D}(hop:o.op=.slice T (.tmp p) none none none)(hd:o.dst=some d)(hN:d<C.N)(hA:Zez C.P T=some (n,1,false))(hn:n≠0)
 (hp:s.tm p=.ptr r 0) (hK':s.K r=some c) (hl:Zbl c=some l) (hc:c.length=n):OpOk C o s ((s.dropBox r).put d (.d (.slc (l.map fun x=>[x])))):=by
 intro g a w hR K Q hK;obtain⟨cs,hr,hs,hcs,hp0,_⟩:=hR.heap.box r c hK';obtain⟨a1,a2⟩:=Zcu hl;have hev:=hR.slot p;rw[hp]at hev
 have hrun:(execOp a.eval o).run C.P w=.ok (.value (.slice (some ⟨g.bx r,0,none⟩) n n)) w:=by
  have e:a.eval (.tmp p)=.pointer (some ⟨g.bx r,0,none⟩):=hev.1;unfold Zez at hA;split at hA
  ·rename_i n' e' hu;split at hA
   ·rename_i m ag hs';cases hA;simp only[execOp,hop,e,Option.map_none,Instr.sliceAt,Sem.run_bind,run_underlying hu,Instr.sureAddr,Sem.run_pure,Result.andThen_ok,Instr.sliceBounds,Zbe hs',hn,if_false,Nat.sub_zero,Nat.zero_mul,Zaz,Nat.add_zero]
   ·cases hA
  ·cases hA
 refine Zbg hrun ?_;rw[hd];have hown:Owns s g (.box r) (g.bx r):=.box hK';obtain⟨R1,hfree⟩:=hR.dropBox hK';have R2:=R1.protect (fun k=>k<n) hfree (hR.heap.wr _ _ hown) hr.lt;have hk:=g.protect_keeps (g.bx r) (fun k=>k<n) w s.gen;refine hK _ _ w (R2.put hN rfl ?_ (fun t n e=>by cases e) (fun t n sz i j e=>by cases e));have hlen:(l.map fun x=>[x]).length=n:=by simp;omega
 have hcell:∀k (hk:k<n),∃v,cs[k]? =some v/\RepD w (g.protect (g.bx r) (fun k=>k<n)).Pr (l[k]'(by omega)) v:=fun k hk'=>by
  obtain⟨x,h1,h2⟩:=a2 k (l[k]'(by omega)) (List.getElem?_eq_getElem _);obtain⟨_,v,h3,h4⟩:=hcs k x h1;exact⟨v,h3,(Zfg h2 h4).mono hk.cell hk.pr⟩
 have:=RepD.slc (w:=w) (Pr:=(g.protect (g.bx r) (fun k=>k<n)).Pr) (l.map fun x=>[x]) 1 (g.bx r) 0 n (fun k=>cs.getD k undef) (by omega) (fun e he=>by obtain⟨x,_,rfl⟩:=List.mem_map.1 he;rfl) (by omega)
  (fun k hk'=>by
   have:k<cs.size:=by omega
   rw[Nat.zero_add,hr.cell];simp[Array.getD_eq_getD_getElem?,this])
  (fun k hk'=>.inr ⟨rfl,by omega⟩)
  (fun i j hi hj=>by
   have hj0:j=0:=by simp at hj;exact hj
   subst hj0;have hi':i<n:=by omega
   obtain⟨v,h3,h4⟩:=hcell i hi';simp only[List.getElem_map,List.getElem_cons_zero,Nat.mul_one,Nat.add_zero,Array.getD_eq_getD_getElem?,h3,Option.getD_some];exact h4)
 rw[hlen]at this;exact this
theorem Rel.cellToData{C:Ctx}{s:St}{g:Gh}{a:Act}{w:World}(hR:Rel C s g a w){r:Ref}{c:List A}{j m:Nat}{es nw:List (List D)}(hK:s.K r=some c)(hc:c[j]? =some (.own m es nw)):
 ∃g',Rel C (s.setK r (c.set j (.d (.slc (es++nw))))) g' a w:=by
 obtain⟨bs,hr,hs,hcs,hp0,_⟩:=hR.heap.box r c hK;obtain⟨_,v,hv1,cap,cs,ho⟩:=hcs j _ hc;have hlt:j<c.length:=(List.getElem?_eq_some_iff.1 hc).1;have hown:Owns s g (.cell r j) (g.ow (.cell r j)):=.cell hK hc rfl;have R1:=hR.dropCell hK j;have hfree:=hR.dropCell_free hK hc rfl;have R2:=R1.protect (fun k=>k<(es++nw).length*m) hfree (hR.heap.wr _ _ hown) ho.row.lt;have hk:=g.protect_keeps (g.ow (.cell r j)) (fun k=>k<(es++nw).length*m) w s.gen
 have ho':OwnRep w (g.protect (g.ow (.cell r j)) (fun k=>k<(es++nw).length*m)).Pr (g.ow (.cell r j)) (es++nw) [] v cap m cs:=
  ⟨by rw[ho.val];simp,ho.row,ho.pos,ho.size,by simpa using ho.room,fun z hz=>ho.len z (by simpa using hz),by rw[List.append_nil];exact ho.elems.mono hk.cell hk.pr,fun k=>
   ⟨fun h=>h.elim (fun h=>by
    have h1:=(ho.prot k).1 h;have:es.length*m<=(es++nw).length*m:=Nat.mul_le_mul_right _ (by simp);omega) (fun e=>e.2),fun h=>.inr ⟨rfl,h⟩⟩⟩
 have hrep:=OwnRep.repD ho'
 have R3:=R2.setBox (c':=(c.set j .any).set j (.d (.slc (es++nw)))) (cs:=bs) (cs':=bs) (Zad _ _ _) hr (.refl hr) rfl (by simp) fun i x hx=>by
  by_cases hj:i=j
  ·subst hj;rw[List.getElem?_set_self (by simpa using hlt)]at hx;cases hx;exact .inr ⟨rfl,rfl,v,hv1,fun _=>hrep⟩
  ·rw[List.getElem?_set_ne (fun e=>hj e.symm)]at hx;exact .inl ⟨hx,rfl⟩
 rw[Zfk,List.set_set]at R3;exact⟨_,R3⟩
theorem Rel.cellZsData{C:Ctx}{s:St}{g:Gh}{a:Act}{w:World}(hR:Rel C s g a w){r:Ref}{c:List A}{j:Nat}{es:List (List D)}(hK:s.K r=some c)(hc:c[j]? =some (.zs es)):
 Rel C (s.setK r (c.set j (.d (.slc es)))) g a w:=by
 obtain⟨bs,hr,hs,hcs,hp0,_⟩:=hR.heap.box r c hK;obtain⟨_,v,hv1,h1,_⟩:=hcs j _ hc;have hlt:j<c.length:=(List.getElem?_eq_some_iff.1 hc).1;refine hR.setBox (c':=c.set j (.d (.slc es))) (cs:=bs) (cs':=bs) hK hr (.refl hr) rfl (by simp) fun i x hx=>?_
 by_cases hj:i=j
 ·subst hj;rw[List.getElem?_set_self hlt]at hx;cases hx;exact .inr ⟨rfl,rfl,v,hv1,fun _=>h1⟩
 ·rw[List.getElem?_set_ne (fun e=>hj e.symm)]at hx;exact .inl ⟨hx,rfl⟩
theorem OpOk.buildNone{C:Ctx}{o:Oper}{s:St}{d:Nat}{T:TypeId}{parts:Array (Nat×Operand)}{m by_:Nat}{c:Bool}{e:TypeId}
 (hop:o.op=.buildSlice T 0 parts) (hd:o.dst=some d) (hN:d<C.N) (hT:slOf C.P T=some (m,by_,c,e)) (hes:Zap s m 0 parts.toList=some []):OpOk C o s (s.put d (.zs [])):=by
 intro g a w hR K Q hK;obtain⟨cells',hrun,h2,h4,hel,hm⟩:=Zdi hop hT hes rfl (by omega) hR;refine Zbg hrun ?_;obtain⟨r1,_⟩:=hR.push cells' e;rw[hd];exact hK g _ _ (r1.put hN rfl ⟨.emp _ _,_,_,rfl⟩ (fun t n e=>by cases e) (fun t n sz i j e=>by cases e))
end Go.Ab
end
section
namespace Go.Ab
open Classical
theorem Zkh{C:Ctx}{id:Nat}{ops:Array Oper}{Q:Ex->St->Prop}{s:St}(h:AO C ops (List.range ops.size) Q s):AW C (.region id ops false) Q s:=
 fun g a w hR=>wp_region (h g a w hR)
theorem Zte{C:Ctx}{Q:Ex->St->Prop}{s:St}(h:Q .normal s):AW C .skip Q s:=fun g _ _ hR=>wp_skip ⟨s,g,hR,h⟩
theorem Zrn{C:Ctx}{Q:Ex->St->Prop}{s:St}{l:Nat}(h:Q .normal s):AW C (.label l) Q s:=fun g _ _ hR=>wp_label ⟨s,g,hR,h⟩
theorem Ztf{C:Ctx}{Q:Ex->St->Prop}{s:St}{id:Nat}(h:Q (.exit id) s):AW C (.exit id) Q s:=fun g _ _ hR=>wp_exit ⟨s,g,hR,h⟩
theorem Zu1{C:Ctx}{Q:Ex->St->Prop}{s:St}(h:Q .ret s):AW C .ret Q s:=fun g _ _ hR=>wp_ret ⟨s,g,hR,h⟩
def Ex.then(next:St->Prop)(Q:Ex->St->Prop):Ex->St->Prop
 |.normal,s=>next s
 |e,s=>Q e s
theorem Zss{C:Ctx}{x y:Code}{Q:Ex->St->Prop}{s:St}(h:AW C x (Ex.then (AW C y Q) Q) s):AW C (.seq x y) Q s:=by
 intro g a w hR;refine wp_seq (wp_mono (h g a w hR) fun e a w hq=>?_);cases e with
 |normal=>obtain⟨s',g',hR',h'⟩:=hq;exact h' g' a w hR'
 |exit id=>exact hq
 |goto l=>exact hq
 |ret=>exact hq
 |panic c=>exact hq
 |outgrown=>exact hq
theorem Ztg{C:Ctx}{c:Operand}{x y:Code}{Q:Ex->St->Prop}{s:St}{t:Bool}(hc:s.ev c=.d (.lit (.bool t)))(h1:t=true->AW C x Q s)(h2:t=false->AW C y Q s):AW C (.cond c x y) Q s:=by
 intro g a w hR;have:a.eval c=.bool t:=hR.lit (by unfold St.lit;rw[hc]);exact wp_cond_split this (fun e=>h1 e g a w hR) (fun e=>h2 e g a w hR)
def Ex.inBlock(id:Nat)(Q:Ex->St->Prop):Ex->St->Prop
 |.exit id',s=>if id'=id then Q .normal s else Q (.exit id') s
 |e,s=>Q e s
theorem Zro{C:Ctx}{id:Nat}{c:Code}{Q:Ex->St->Prop}{s:St}(h:AW C c (Ex.inBlock id Q) s):AW C (.block id c) Q s:=by
 intro g a w hR;refine wp_block (wp_mono (h g a w hR) fun e a w hq=>?_);cases e with
 |normal=>exact hq
 |exit id'=>
  obtain⟨s',g',hR',h'⟩:=hq;simp only[Ex.inBlock]at h';simp only[Exit.inBlock];split
  ·rename_i e;rw[if_pos e]at h';exact⟨s',g',hR',h'⟩
  ·rename_i e;rw[if_neg e]at h';exact⟨s',g',hR',h'⟩
 |goto l=>exact hq
 |ret=>exact hq
 |panic c=>exact hq
 |outgrown=>exact hq
theorem Zjc{P:Program}{Q:Exit->Act->World->Prop}{X:Type}{c:Code}(I:X->Act->World->Prop)(μ:X->Nat)
 (round:∀x a w,I x a w->c.wp P (Exit.then (fun a' w'=>∃x',I x' a' w'/\μ x'<μ x) Q) a w) {x:X} {a:Act} {w:World} (h₀:I x a w):(Code.loop c).wp P Q a w:=by
 intro b k cs
 have key:∀n x a w,μ x=n->I x a w-> ∃e a' w',Q e a' w'/\Arrives P (lone (b.at a (.code c::.inLoop c::k)) cs w) b k cs e a' w':=by
  intro n
  induction n using Nat.strongRecOn with
  |_ n ih=>
   intro x a w hn hI;obtain⟨e,a₁,w₁,hq,harr⟩:=round x a w hI b (.inLoop c::k) cs;cases e with
   |normal=>
    obtain⟨x',hI₁,hlt⟩:=hq;obtain⟨e₂,a₂,w₂,hq₂,harr₂⟩:=ih (μ x') (hn▸hlt) x' a₁ w₁ rfl hI₁;exact⟨e₂,a₂,w₂,hq₂,.of_steps (Steps.trans harr (.one step_inLoop)) harr₂⟩
   |exit id=>exact⟨_,a₁,w₁,hq,.pass (x:=.inLoop c) rfl (fun _ _=>.inl (by simp)) harr⟩
   |goto l=>exact⟨_,a₁,w₁,hq,.pass (x:=.inLoop c) rfl (fun _ _=>.inl (by simp)) harr⟩
   |ret=>exact⟨_,a₁,w₁,hq,.pass (x:=.inLoop c) rfl (fun _ _=>.inl (by simp)) harr⟩
   |panic ch=>exact⟨_,a₁,w₁,hq,.pass (x:=.inLoop c) rfl (fun _ _=>.inl (by simp)) harr⟩
   |outgrown=>exact⟨_,a₁,w₁,hq,.pass (x:=.inLoop c) rfl (fun _ _=>.inl (by simp)) harr⟩
 obtain⟨e,a',w',hq,harr⟩:=key _ x a w rfl h₀;exact⟨e,a',w',hq,.of_steps (.one step_loop) harr⟩
structure Weaker (s s':St):Prop where
 gen:s.gen=s'.gen
 tm:∀t,s.tm t=.any\/s.tm t=s'.tm t
 K:∀r c,s.K r=some c->s'.K r=some c
 als:∀u t n,s.tm u=.als t n->s.tm t=s'.tm t
 opt:∀u t n m i j,s.tm u=.opt t n m i j->s.tm t=s'.tm t
theorem Weaker.refl(s:St):Weaker s s:=⟨rfl,fun _=>.inr rfl,fun _ _ h=>h,fun _ _ _ _=>rfl,fun _ _ _ _ _ _ _=>rfl⟩
theorem Rel.weaken{C:Ctx}{s s':St}{g:Gh}{a:Act}{w:World}(h:Rel C s' g a w)(hw:Weaker s s'):Rel C s g a w:=by
 have hown:∀{t},(s.tm t).isOwn=true->(s'.tm t).isOwn=true:=fun{t} ht=>by
  rcases hw.tm t with e|e
  ·rw[e]at ht;cases ht
  ·rw[<-e];exact ht
 have old:∀{o b},Owns s g o b->Owns s' g o b:=fun{o b} ho=>by
  cases ho with
  |box h1=>exact .box (hw.K _ _ h1)
  |slot h1=>exact .slot (hown h1)
  |cell h1 h2 h3=>exact .cell (hw.K _ _ h1) h2 h3
 refine⟨h.defers,h.size,fun t=>?_,fun u t n hu=>?_,fun u t n m i j hu=>?_,?_⟩
 ·rcases hw.tm t with e|e
  ·rw[e];trivial
  ·rw[e,hw.gen];exact h.slot t
 ·rcases hw.tm u with e|e
  ·rw[e]at hu;cases hu
  ·have:=h.als u t n (by rw[<-e];exact hu);rw[hw.gen,hw.als u t n hu];exact this
 ·rcases hw.tm u with e|e
  ·rw[e]at hu;cases hu
  ·have:=h.opt u t n m i j (by rw[<-e];exact hu);rw[hw.gen,hw.opt u t n m i j hu];exact this
 ·refine⟨fun r c hc=>?_,fun o o' b h1 h2=>h.heap.inj o o' b (old h1) (old h2),fun o b h1=>h.heap.wr o b (old h1),h.heap.prs,h.heap.pr0,h.heap.prn,h.heap.up,h.heap.uu,h.heap.fr⟩;have:=h.heap.box r c (hw.K r c hc);rw[hw.gen];exact this
theorem Zpl{C:Ctx}{c:Code}{Q:Ex->St->Prop}{s s':St}(hw:Weaker s s')(h:AW C c Q s):AW C c Q s':=fun g a w hR=>h g a w (hR.weaken hw)
theorem Zth{C:Ctx}{c:Code}{Q:Ex->St->Prop}{X:Type}(S:X->St)(μ:X->Nat)(I:X->Prop){s:St}(x:X)(hI:I x)(h0:Weaker (S x) s)
 (round:∀x,I x->AW C c (Ex.then (fun s'=>∃x',I x'/\Weaker (S x') s'/\μ x'<μ x) Q) (S x)):AW C (.loop c) Q s:=by
 intro g a w hR;refine Zjc (fun x a w=>I x/\ ∃g,Rel C (S x) g a w) μ (fun x a w hI'=>?_) (x:=x) ⟨hI,g,hR.weaken h0⟩;obtain⟨hI',g',hR'⟩:=hI';refine wp_mono (round x hI' g' a w hR') fun e a w hq=>?_
 cases e with
 |normal=>
  obtain⟨s',g'',hR'',x',h1,h2,h3⟩:=hq;exact⟨x',⟨h1,g'',hR''.weaken h2⟩,h3⟩
 |exit id=>exact hq
 |goto l=>exact hq
 |ret=>exact hq
 |panic c=>exact hq
 |outgrown=>exact hq
theorem Zu2{C:Ctx}{x y:Code}{Q:Ex->St->Prop}{s:St}(X:Type)(S:X->St)(I:X->Prop)(h1:AW C x (Ex.then (fun s'=>∃x,I x/\Weaker (S x) s') Q) s)(h2:∀x,I x->AW C y Q (S x)):
 AW C (.seq x y) Q s:=
 Zss (h1.mono fun e s' hq=>by
  cases e with
  |normal=>obtain⟨x,hx,hw⟩:=hq;exact Zpl hw (h2 x hx)
  |exit id=>exact hq
  |ret=>exact hq
  |pan v=>exact hq)
theorem Rel.commit{C:Ctx}{s:St}{g:Gh}{a:Act}{w:World}(h:Rel C s g a w){t m:Nat}{es nw:List (List D)}(hN:t<C.N)(ht:s.tm t=.own m es nw):
 ∃g',Rel C ((s.reset t .any).put t (.own m (es++nw) [])) g' a w:=by
 obtain⟨cap,cs,ho⟩:=h.own ht;have hown:Owns s g (.slot t) (g.ow (.slot t)):=.slot (by rw[ht];rfl);have hfree:=h.reset_free (t:=t) (by rw[ht];rfl);have hsz:(es++nw).length=es.length+nw.length:=List.length_append
 obtain⟨g',hg'⟩:=OpOk.append_core (a:=a) (es:=es++nw) (nw:=[]) (m:=m) hN hfree (h.heap.wr _ _ hown) (h.reset t) (v:=a.tmps.getD t undef) (by rw[ho.val,hsz];rfl) ho.row ho.pos ho.size
  (by rw[hsz];exact ho.room) (fun z hz=>ho.len z (by simpa using hz)) (by rw[List.append_nil];exact ho.elems) (fun k hk=>Nat.lt_of_lt_of_le ((ho.prot k).1 hk) (Nat.mul_le_mul_right _ (by rw[hsz];omega)))
 rw[Zgx (by rw[h.size];exact hN)]at hg';exact⟨g',hg'⟩
theorem Zpm{C:Ctx}{c:Code}{Q:Ex->St->Prop}{s:St}(t:Nat){m:Nat}{es nw:List (List D)}(hN:t<C.N)(ht:s.tm t=.own m es nw)(h:AW C c Q ((s.reset t .any).put t (.own m (es++nw) []))):AW C c Q s:=
 fun _ a w hR=>let⟨g',hR'⟩:=hR.commit hN ht;h g' a w hR'
def Zar:A->Bool
 |.ptr (.own _ _) _=>false
 |.fn _ rs=>rs.all fun r=>match r with|.up _=>true|.own _ _=>false
 |.als _ _=>false
 |.opt _ _ _ _ _=>false
 |_=>true
def mine:Owner->Bool
 |.slot _=>true
 |.cell (.own _ _) _=>true
 |_=>false
noncomputable def Zcn(P:Program)(s:St):ResultVar->Option A
 |.tmp t=>(match s.tm t with
  |.own sz es nw=>some (.own sz es nw)
  |_=>s.val (.tmp t))
 |.cell t ty=>(match Zcm P s ty (s.tm t)with
  |some y=>some y
  |none=>Ze6 P s ty (s.tm t))
def Zfl:A->Option (Bool×List D)
 |.d x=>some (false,[x])
 |.agg l=>some (true,l)
 |.zs es=>some (false,[.slc es])
 |.own _ es []=>some (false,[.slc es])
 |_=>none
noncomputable def resA(P:Program)(s:St)(rs:List ResultVar):Option A:=
 match rs with
 |[r]=>Zcn P s r
 |rs=>((rs.mapM (Zcn P s)).bind fun vs=>vs.mapM Zfl).map .tup
theorem Zop{w:World}{g:Gh}{gen:Nat->Nat}{p:Place}{x:A}{c:Bool×List D}{v:Value}(h:Zfl x=some c)(hr:RepA w g gen p x v):RepT w g.Pr c v:=by
 unfold Zfl at h;split at h<;>cases h
 ·exact⟨_,rfl,hr⟩
 ·exact hr
 ·exact⟨_,rfl,hr.1⟩
 ·obtain⟨cap,cs,ho⟩:=hr;exact⟨_,rfl,ho.repD⟩
def Zm4(tmps:Array Value):ResultVar->Sem Value
 |.tmp t=>pure (tmps.getD t undef)
 |.cell a t=>do loadVar t (<-asAddr (tmps.getD a undef))
theorem Zoq(fn:Func)(tmps:Array Value):results fn tmps=(do
 let vs<-fn.results.mapM (Zm4 tmps)
 pure (if h:vs.size=1 then vs[0]else .tuple vs)):=by
 unfold results
 congr 1
theorem Zki{C:Ctx}{s:St}{g:Gh}{a:Act}{w:World}(hR:Rel C s g a w){r:ResultVar}{v:A}(h:Zcn C.P s r=some v):
 ∃cv,(Zm4 a.tmps r).run C.P w=.ok cv w/\
  ∃p,RepA w g s.gen p v cv/\(v.isOwn=true-> ∃o,Owns s g o (g.ow p)/\mine o=true):=by
 cases r with
 |tmp t=>
  simp only[Zcn]at h;refine⟨a.tmps.getD t undef,rfl,?_⟩;split at h
  ·rename_i sz es nw ht;cases h;have:=hR.slot t;rw[ht]at this;exact⟨.slot t,this,fun _=>⟨.slot t,.slot (by rw[ht];rfl),rfl⟩⟩
  ·obtain⟨h1,h2,_⟩:=hR.val h .res;exact⟨.res,h1,fun e=>by rw[h2]at e;cases e⟩
 |cell t ty=>
  simp only[Zcn]at h
  obtain⟨v',h1,h2⟩:∃v',(Instr.loadAt ty (a.tmps.getD t undef)).run C.P w=.ok v' w/\ ∃p,RepA w g s.gen p v v'/\(v.isOwn=true-> ∃o,Owns s g o (g.ow p)/\mine o=true):=by
   split at h
   ·rename_i y hy;cases h;obtain⟨v',h1,h2,h3,_⟩:=Zj4 (p:=.tmp t) hR hy .res;exact⟨v',h1,.res,h2,fun e=>by rw[h3]at e;cases e⟩
   ·obtain⟨v',h1,b,k,j,h2,h3⟩:=Zoo hR h;exact⟨v',h1,_,h2,fun _=>⟨_,h3,rfl⟩⟩
  refine⟨v',?_,h2⟩;generalize hz:a.tmps.getD t undef=z at h1;simp only[Zm4,hz];cases z with
  |pointer q=>
   cases q with
   |some b=>simpa[Instr.loadAt,Instr.sureAddr,asAddr]using h1
   |none=>simp[Instr.loadAt,Instr.sureAddr]at h1
  |_=>simp[Instr.loadAt,Instr.sureAddr]at h1
theorem Zdt{C:Ctx}{s:St}{g:Gh}{a:Act}{w:World}(hR:Rel C s g a w){fn:Func}{v:A}(h:resA C.P s fn.results.toList=some v):
 ∃cv,(results fn a.tmps).run C.P w=.ok cv w/\ ∃p,RepA w g s.gen p v cv/\(v.isOwn=true-> ∃o,Owns s g o (g.ow p)/\mine o=true):=by
 have hm:∀(rs:List ResultVar)(vs:List A),rs.mapM (Zcn C.P s)=some vs-> ∃cvs:List Value,
  (rs.mapM (Zm4 a.tmps)).run C.P w=.ok cvs w/\
  All2 (fun v cv=>∃p,RepA w g s.gen p v cv) vs cvs:=by
  intro rs
  induction rs with
  |nil=>intro vs h;simp at h;subst h;exact⟨[],by simp,trivial⟩
  |cons r rs ih=>
   intro vs h;simp only[List.mapM_cons,bind,Option.bind_eq_some_iff,pure,Option.some.injEq]at h;obtain⟨v,h1,vs',h2,rfl⟩:=h;obtain⟨cv,k1,p,k2,_⟩:=Zki hR h1;obtain⟨cvs,k3,k4⟩:=ih vs' h2;refine⟨cv::cvs,?_,⟨⟨p,k2⟩,k4⟩⟩;rw[List.mapM_cons];simp only[Sem.run_bind,k1,k3,Result.andThen_ok,Sem.run_pure]
 rw[Zoq,Array.mapM_eq_mapM_toList];unfold resA at h;split at h
 ·rename_i r hr;obtain⟨cv,k1,p,k2,k3⟩:=Zki hR h;refine⟨cv,?_,p,k2,k3⟩;rw[hr];simp only[List.mapM_cons,List.mapM_nil,map_bind,Sem.run_bind,Sem.run_map,Sem.run_pure,Result.andThen_ok];simp[k1]
 ·rename_i rs hne;cases hv:fn.results.toList.mapM (Zcn C.P s)with
  |none=>rw[hv]at h;cases h
  |some vs=>
   rw[hv]at h;simp only[Option.bind_some]at h;cases hc:vs.mapM Zfl with
   |none=>rw[hc]at h;cases h
   |some cs=>
    rw[hc]at h;cases h;obtain⟨cvs,k1,k2⟩:=hm _ _ hv
    have hlen:vs.length=fn.results.toList.length:=by
     have:∀(rs:List ResultVar)(vs:List A),rs.mapM (Zcn C.P s)=some vs->vs.length=rs.length:=by
      intro rs
      induction rs with
      |nil=>intro vs h;simp at h;subst h;rfl
      |cons r rs ih=>
       intro vs h;simp only[List.mapM_cons,bind,Option.bind_eq_some_iff,pure,Option.some.injEq]at h;obtain⟨v,h1,vs',h2,rfl⟩:=h;simp[ih vs' h2]
     exact this _ _ hv
    have hlen2:=Zam k2;refine⟨.tuple cvs.toArray,?_,.res,⟨cvs,rfl,?_⟩,fun e=>by cases e⟩
    ·simp only[Sem.run_bind,Sem.run_map,k1,Result.andThen_ok,Sem.run_pure]
     have:¬(cvs.toArray.size=1):=by
      simp only[List.size_toArray,<-hlen2,hlen];intro e1;obtain⟨r,hr⟩:=List.length_eq_one_iff.1 e1;exact hne r hr
     rw[dif_neg this]
    ·clear hv hlen hlen2 k1
     induction vs generalizing cs cvs with
     |nil=>
      simp at hc;subst hc;cases cvs with
      |nil=>trivial
      |cons _ _=>exact k2.elim
     |cons x vs ih=>
      cases cvs with
      |nil=>exact k2.elim
      |cons y cvs=>
       simp only[List.mapM_cons,bind,Option.bind_eq_some_iff,pure,Option.some.injEq]at hc;obtain⟨c1,hc1,cs',hc2,rfl⟩:=hc;obtain⟨⟨p,k3⟩,k4⟩:=k2;exact⟨Zop hc1 k3,ih cs' hc2 cvs k4⟩
end Go.Ab
end
section
namespace Go.Ab
open Classical
noncomputable def Zd9(args:List A)(H:List (Ref×List A)):St:=⟨fun t=>(args[t]?).getD .any,kOf H,fun _=>0⟩
def Left(s:St)(H H':List (Ref×List A)):Prop:=H'.map (·.1)=H.map (·.1)/\ ∀x∈H',s.K x.1=some x.2/\x.2.all Zar=true
def Zu3(P:Program)(fn:Func)(H:List (Ref×List A))(R:Out->List (Ref×List A)->Prop):Ex->St->Prop
 |.normal,s=>∃v H',resA P s fn.results.toList=some v/\Zar v=true/\Left s H H'/\R (.ret v) H'
 |.ret,s=>∃v H',resA P s fn.results.toList=some v/\Zar v=true/\Left s H H'/\R (.ret v) H'
 |.pan u,s=>∃H',Left s H H'/\R (.pan u) H'
 |.exit _,_=>False
theorem RepA.gen0{w:World}{g:Gh}{gen:Nat->Nat}{p p':Place}{x:A}{v:Value}(h:RepA w g gen p x v)(hx:Zar x=true)(hp:x.isOwn=true->g.ow p'=g.ow p):RepA w g (fun _=>0) p' x v:=by
 cases x with
 |any=>trivial
 |d x=>exact h
 |agg l=>exact h
 |tup l=>exact h
 |ptr r off=>
  refine⟨h.1,?_⟩;cases r with
  |own t n=>cases hx
  |up r=>exact h.2
 |elp l=>exact h
 |own sz es nw=>obtain⟨cap,cs,h1⟩:=h;exact⟨cap,cs,by rw[hp rfl];exact h1⟩
 |zs es=>exact h
 |als t n=>trivial
 |opt t n sz i j=>trivial
 |fn f rs=>
  refine⟨h.1,fun r hr=>?_⟩;have h1:=h.2 r hr;simp only[Zar,List.all_eq_true]at hx;have:=hx r hr;cases r with
  |own t n=>cases this
  |up r=>exact h1
 |ags pre sz es nw post=>obtain⟨c1,c2,u,cap,cs,e,p1,p2,h1⟩:=h;exact⟨c1,c2,u,cap,cs,e,p1,p2,by rw[hp rfl];exact h1⟩
theorem Zea{P:Program}{f:FuncId}{fn:Func}{c:Code}(hf:P.funcs[f]? =some fn)(hb:fn.body=some c)(hn:(fn.name== "runtime.NumGoroutine")=false)(args:Array Value)(w:World):
 (callFunc f args).run P w=.ok (.enter f args) w:=by
 have hn':¬fn.name= "runtime.NumGoroutine" :=by simpa using hn
 simp[callFunc,hf,hb,hn']
theorem HeapRel.out{C:Ctx}{P:Program}{w:World}{g:Gh}{H H':List (Ref×List A)}{N:Nat}{s:St}{g':Gh}{w':World}(hC:C=Zag P w g H N)(h:HeapRel C s g' w')(hnd:(H.map (·.1)).Nodup)
 (hup:∀r∈H.map (·.1),∃q,r=.up q) (hL:Left s H H'):
 HeapRel (Zag P w g H 0) (Zax H') g' w'/\ ∀{o b},Owns (Zax H') g' o b->Owns s g' o b/\mine o=false:=by
 have hnd':(H'.map (·.1)).Nodup:=by rw[hL.1];exact hnd
 have hin:∀{r c},kOf H' r=some c->s.K r=some c/\c.all Zar=true:=fun{r c} hc=>hL.2 (r,c) (Zd7 hc)
 have old:∀{o b},Owns (Zax H') g' o b->Owns s g' o b/\mine o=false:=fun{o b} ho=>by
  cases ho with
  |box h1=>exact⟨.box (hin h1).1,rfl⟩
  |slot h1=>cases h1
  | @cell r c j x h1 h2 h3=>
    refine⟨.cell (hin h1).1 h2 h3,?_⟩;have hm:r∈H'.map (·.1):=Zcd.1 ⟨_,h1⟩;rw[hL.1]at hm;obtain⟨q,rfl⟩:=hup r hm;rfl
 subst hC;refine⟨⟨fun r c hc=>?_,fun o o' b h1 h2=>h.inj o o' b (old h1).1 (old h2).1,fun o b h1=>h.wr o b (old h1).1,h.prs,h.pr0,h.prn,h.up,h.uu,h.fr⟩,old⟩;obtain⟨hK,hno⟩:=hin hc;obtain⟨cs,k1,k2,k3,k4,k5⟩:=h.box r c hK;refine⟨cs,k1,k2,fun j y hy=>?_,k4,?_⟩
 ·obtain⟨k6,v,k7,k8⟩:=k3 j y hy;exact⟨k6,v,k7,k8.gen0 (List.all_eq_true.1 hno y (List.mem_of_getElem? hy)) fun _=>rfl⟩
 ·have hm:r∈H'.map (·.1):=Zcd.1 ⟨c,hc⟩;rw[hL.1]at hm;obtain⟨q,rfl⟩:=hup r hm;exact k5
theorem Zjd{P:Program}{args:List A}{H:List (Ref×List A)}{N:Nat}{w:World}{cargs:Array Value}{g:Gh}(hlen:args.length<=N)(hplain:∀x∈args,x.isOwn=false/\x.plain=true)
 (hargs:All2 (fun x v=>∀p,RepA w g (fun _=>0) p x v) args cargs.toList) (hheap:HeapRel (Zag P w g H 0) (Zax H) g w):
 Rel (Zag P w g H N) (Zd9 args H) g {tmps:=cargs++Array.replicate (N-cargs.size) undef,defers:=[]} w:=by
 have hal:=Zam hargs;simp only[Array.length_toList]at hal
 have hup:∀r∈H.map (·.1),∃q,r=.up q:=fun r hr=>by
  obtain⟨c',hc'⟩:=Zcd.2 hr;obtain⟨_,_,_,_,_,h5⟩:=hheap.box r c' hc';cases r with
  |own t n=>exact absurd h5 (Nat.not_lt_zero _)
  |up q=>exact⟨q,rfl⟩
 have hplain':∀t:Nat,((args[t]?).getD A.any).isOwn=false/\((args[t]?).getD A.any).plain=true:=fun t=>by
  cases hx:args[t]? with
  |none=>exact⟨rfl,rfl⟩
  |some x=>exact hplain x (List.mem_of_getElem? hx)
 have old:∀{o b},Owns (Zd9 args H) g o b->Owns (Zax H) g o b:=fun{o b} ho=>by
  cases ho with
  |box h1=>exact .box h1
  | @slot t h1=>
    have:=(hplain' t).1;simp only[Zd9]at h1;rw[this]at h1;cases h1
  |cell h1 h2 h3=>exact .cell h1 h2 h3
 refine⟨rfl,?_,fun t=>?_,fun u t n hu=>?_,fun u t n m i j hu=>?_,?_⟩
 ·show(cargs++Array.replicate (N-cargs.size) undef).size=N;simp only[Array.size_append,Array.size_replicate];omega
 ·show RepA w g (fun _=>0) (.slot t) ((args[t]?).getD .any) _;cases hx:args[t]? with
  |none=>trivial
  |some x=>
   obtain⟨v,h1,h2⟩:=Zat hargs t x hx
   have ht:t<cargs.size:=by
    have:=(List.getElem?_eq_some_iff.1 h1).1;simpa using this
   have e:(cargs++Array.replicate (N-cargs.size) undef).getD t undef=v:=by
    rw[Array.getD_eq_getD_getElem?,Array.getElem?_append_left ht];rw[Array.getElem?_toList]at h1;rw[h1];rfl
   show RepA w g (fun _=>0) (.slot t) x ((cargs++Array.replicate (N-cargs.size) undef).getD t undef);rw[e];exact h2 _
 ·have:=(hplain' u).2;simp only[Zd9]at hu;rw[hu]at this;cases this
 ·have:=(hplain' u).2;simp only[Zd9]at hu;rw[hu]at this;cases this
 ·refine⟨fun r c' hc'=>hheap.box r c' hc',fun o o' b h1 h2=>hheap.inj o o' b (old h1) (old h2),fun o b h1=>.inr ⟨o,old h1⟩,hheap.prs,fun _ _ h=>h,fun _ _ h=>.inl h,fun _=>rfl,fun _ h=>h,Fr.refl _ _ _⟩
theorem Zrp{P:Program}{f:FuncId}{fn:Func}{c:Code}{args:List A}{H:List (Ref×List A)}{R:Out->List (Ref×List A)->Prop}(hf:P.funcs[f]? =some fn)(hb:fn.body=some c)
 (hn:(fn.name== "runtime.NumGoroutine")=false) (hlen:args.length<=fn.ntmps) (hnd:(H.map (·.1)).Nodup) (hplain:∀x∈args,x.isOwn=false/\x.plain=true)
 (hw:∀C:Ctx,C.P=P->C.N=fn.ntmps->AW C c (Zu3 P fn H R) (Zd9 args H)):Holds P f args H R:=by
 intro w cargs g hargs hheap;unfold CallsX;rw[Zea hf hb hn];refine calls_of_wp hf hb ?_
 have hup:∀r∈H.map (·.1),∃q,r=.up q:=fun r hr=>by
  obtain⟨c',hc'⟩:=Zcd.2 hr;obtain⟨_,_,_,_,_,h5⟩:=hheap.box r c' hc';cases r with
  |own t n=>exact absurd h5 (Nat.not_lt_zero _)
  |up q=>exact⟨q,rfl⟩
 have hR:=Zjd (N:=fn.ntmps) hlen hplain hargs hheap;have hwalk:=hw (Zag P w g H fn.ntmps) rfl rfl g _ w hR;refine wp_mono hwalk fun e a w' hq=>?_
 have fin:∀s g',Rel (Zag P w g H fn.ntmps) s g' a w'->(∃v H',resA P s fn.results.toList=some v/\Zar v=true/\Left s H H'/\R (.ret v) H')->
  a.defers=[]/\ ∃v,(results fn a.tmps).run P w'=.ok v w'/\ ∃out H' g',R out H'/\H'.map (·.1)=H.map (·.1)/\HeapRel (Zag P w g H 0) (Zax H') g' w'/\Zm1 (Zag P w g H 0) (Zax H') g' w' out (.returned v):=by
  rintro s g' hR' ⟨v,H',h1,h2,h3,h4⟩;obtain⟨cv,k1,p,k2,k3⟩:=Zdt (C:=Zag P w g H fn.ntmps) (fn:=fn) hR' h1;obtain⟨k4,k5⟩:=HeapRel.out rfl hR'.heap hnd hup h3
  have e1:∀{o b},Owns (Zax H') (g'.give .res (g'.ow p)) o b->Owns (Zax H') g' o b:=fun{o b} ho=>by
   cases ho with
   |box h1=>exact .box h1
   |slot h1=>cases h1
   | @cell r c j x h1 h2 h3=>
     have:(g'.give .res (g'.ow p)).ow (.cell r j)=g'.ow (.cell r j):=Zac _ _ (fun e=>by cases e);rw[this];exact .cell h1 h2 h3
  refine⟨hR'.defers,cv,k1,.ret v,H',g'.give .res (g'.ow p),h4,h3.1,?_,cv,rfl,?_,fun ho=>?_⟩
  ·
   refine⟨fun r c hc=>?_,fun o o' b h1 h2=>k4.inj o o' b (e1 h1) (e1 h2),fun o b h1=>k4.wr o b (e1 h1),k4.prs,k4.pr0,k4.prn,k4.up,k4.uu,k4.fr⟩;obtain⟨cs,m1,m2,m3,m4,m5⟩:=k4.box r c hc;refine⟨cs,m1,m2,fun j y hy=>?_,m4,m5⟩;obtain⟨m6,z,m7,m8⟩:=m3 j y hy;exact⟨m6,z,m7,m8.keep (g'.give_keeps .res _ w' _ _ fun _=>Nat.le_refl _) fun _=>⟨Zac _ _ (fun e=>by cases e),rfl,fun _=>Iff.rfl⟩⟩
  ·refine(k2.gen0 (p':=p) h2 fun _=>rfl).keep (g'.give_keeps .res _ w' _ _ fun _=>Nat.le_refl _) fun _=>⟨Zad _ _ _,rfl,fun _=>Iff.rfl⟩
  ·obtain⟨q,ho',hq⟩:=k3 ho;have e0:(g'.give .res (g'.ow p)).ow .res=g'.ow p:=Zad _ _ _;rw[e0];refine⟨fun o h5=>?_,hR'.heap.wr _ _ ho'⟩;have h6:Owns (Zax H') g' o (g'.ow p):=e1 h5;obtain⟨h7,h8⟩:=k5 h6;rw[hR'.heap.inj _ _ _ h7 ho']at h8;rw[h8]at hq;cases hq
 cases e with
 |normal=>obtain⟨s,g',hR',hp⟩:=hq;exact fin s g' hR' hp
 |ret=>obtain⟨s,g',hR',hp⟩:=hq;exact fin s g' hR' hp
 |exit id=>obtain⟨s,g',hR',hp⟩:=hq;exact hp.elim
 |goto l=>exact hq.elim
 |outgrown=>exact hq.elim
 |panic chain=>
  obtain⟨v,rfl,s,g',hR',H',h3,h4⟩:=hq;obtain⟨k4,_⟩:=HeapRel.out rfl hR'.heap hnd hup h3;exact⟨hR'.defers,.pan v,H',g',h4,h3.1,k4,rfl⟩
end Go.Ab
end
section
namespace Go.Ab
open Classical
attribute [simp] Zan Zbn Zas Zcm Zj5 Zoi Zg5 Zbl St.boxC St.ev St.lit St.slice St.esc Zd9 St.alloc ownT St.val St.copy Zcl St.put Zoe Zpb Zo9 upd A.isOwn
end Go.Ab
end
section
namespace Go.Ab
open Classical
def Kf(P:Program)(rs:List ResultVar)(H:List (Ref×List A))(R:Out->List (Ref×List A)->Prop):Ex->St->Prop
 |.normal,s=>∃v H',resA P s rs=some v/\Zar v=true/\Left s H H'/\R (.ret v) H'
 |.ret,s=>∃v H',resA P s rs=some v/\Zar v=true/\Left s H H'/\R (.ret v) H'
 |.pan u,s=>∃H',Left s H H'/\R (.pan u) H'
 |.exit _,_=>False
def Done(P:Program)(rs:List ResultVar)(H:List (Ref×List A))(R:Out->List (Ref×List A)->Prop)(s:St):Prop:=∃v H',resA P s rs=some v/\Zar v=true/\Left s H H'/\R (.ret v) H'
theorem Zu4(P:Program)(rs:List ResultVar)(H:List (Ref×List A))(R:Out->List (Ref×List A)->Prop)(s:St):Kf P rs H R .ret s=Done P rs H R s:=rfl
theorem Zpn(P:Program)(rs:List ResultVar)(H:List (Ref×List A))(R:Out->List (Ref×List A)->Prop)(s:St):Kf P rs H R .normal s=Done P rs H R s:=rfl
attribute [simp] Zu4 Zpn
section
variable {X:Type} (L:X->List (Nat×A)) (H:X->List (Ref×List A)) (μ:X->Nat) (I:X->Prop) (x:X) (Q:Ex->St->Prop) (s:St)
end
section
variable {X:Type} (L:X->List (Nat×A)) (H:X->List (Ref×List A)) (I:X->Prop) (Q:Ex->St->Prop) (s:St)
end
section
variable (C:Ctx) (y:Code) (Q:Ex->St->Prop) (s:St)
end
theorem Zrq{P:Program}{f:FuncId}{c:Code}{args:List A}{H:List (Ref×List A)}{R:Out->List (Ref×List A)->Prop}(fn:Func)(N:Nat)(rs:List ResultVar)(hf:P.funcs[f]? =some fn)(hb:fn.body=some c)(hrs:fn.results.toList=rs)(hN:fn.ntmps=N)
 (hn:(fn.name== "runtime.NumGoroutine")=false) (hlen:args.length<=N) (hnd:(H.map (·.1)).Nodup) (hplain:∀x∈args,x.isOwn=false/\x.plain=true)
 (hw:∀C:Ctx,C.P=P->C.N=N->AW C c (Kf P rs H R) (Zd9 args H)):Holds P f args H R:=by
 subst hN hrs;refine Zrp hf hb hn hlen hnd hplain fun C hP hN=>(hw C hP hN).mono fun e s h=>?_
 cases e<;>exact h
theorem Zrr(s:St):s.setH []=s:=by
 cases s;simp[St.setH,kOf]
attribute [simp] constD isCell binV Zg4 unV Zif Zbj Zcc ownS Zbk Zcs Zke St.escs St.bound Zdm A.lift A.back Zjb resA Zcn Zfl Zar kOf A.plain St.reset St.setK Zoe Zg6 Zmv Zpa Zc9 Zex Zap setL Zd5 Zf9 Zga Zcr Zj2 Ze4 Za6 Za4 Zaq
end Go.Ab
end
section
namespace Go.Ab
open Classical
def Same(t:Nat)(s u:St):Prop:=s.tm t=u.tm t/\s.gen t=u.gen t/\ ∀n,s.K (.own t n)=u.K (.own t n)
def Zm5(s u:St):Prop:=∀q,s.K (.up q)=u.K (.up q)
theorem Same.rfl'{t:Nat}{s:St}:Same t s s:=⟨rfl,rfl,fun _=>rfl⟩
theorem Same.symm{t:Nat}{s u:St}(h:Same t s u):Same t u s:=⟨h.1.symm,h.2.1.symm,fun n=>(h.2.2 n).symm⟩
theorem Same.trans{t:Nat}{s u v:St}(h:Same t s u)(k:Same t u v):Same t s v:=⟨h.1.trans k.1,h.2.1.trans k.2.1,fun n=>(h.2.2 n).trans (k.2.2 n)⟩
theorem St.ext'{s u:St}(h:∀t,Same t s u)(hu:Zm5 s u):s=u:=by
 obtain⟨tm,K,gen⟩:=s;obtain⟨tm',K',gen'⟩:=u;have h1:tm=tm':=funext fun t=>(h t).1
 have h2:gen=gen':=funext fun t=>(h t).2.1
 have h3:K=K':=funext fun r=>by
  cases r with
  |own t n=>exact(h t).2.2 n
  |up q=>exact hu q
 subst h1 h2 h3;rfl
noncomputable def St.at(u s':St)(d:Nat):St:=
 {tm:=upd u.tm d (s'.tm d),gen:=upd u.gen d (s'.gen d),K:=fun r=>match r with|.own t n=>if t=d then s'.K (.own t n)else u.K (.own t n)|.up q=>u.K (.up q)}
theorem Zhk(u s':St)(d:Nat):Same d (u.at s' d) s':=⟨Zad _ _ _,Zad _ _ _,fun _=>if_pos rfl⟩
theorem Zlx{u s':St}{d t:Nat}(h:t≠d):Same t (u.at s' d) u:=⟨Zac _ _ h,Zac _ _ h,fun _=>if_neg h⟩
def Step(C:Ctx)(ops:Array Oper)(i:Nat)(s s':St):Prop:=AO C ops [i] (fun e t=>e=.normal/\t=s') s
structure Agree (T:List Nat) (s u:St):Prop where
 up:Zm5 s u
 sl:∀t∈T,Same t s u
structure Loc (C:Ctx) (ops:Array Oper) (i d:Nat) (T:List Nat) (s s':St):Prop where
 eq:s'=s.at s' d
 step:∀u,Agree (d::T) s u->Step C ops i u (u.at s' d)
def Za7(ops:Array Oper)(i:Nat):List Nat:=
 match ops[i]? with
 |some o=>(o.after.toList.filter (Region.binds .any)).map (·.on)
 |none=>[]
theorem Zly{P:Program}{o:Oper}{a:Act}{w:World}{K K':Act->World->Prop}{Q Q':Exit->Act->World->Prop}(h:∀a w,K a w->K' a w)(hq:∀c a w,Q (.panic c) a w->Q' (.panic c) a w)(ho:∀a w,Q .outgrown a w->Q' .outgrown a w)
 (hh:o.wp P a w K Q):o.wp P a w K' Q':=by
 unfold Oper.wp at*;generalize(execOp a.eval o).run P w=r at*;cases r with
 |ok n w'=>
  cases n<;>simp only[Oper.upon]at hh⊢ <;>
   first
    |exact h _ _ hh
    |exact Calls.mono hh (fun e w'' he=>by cases e<;>first|exact h _ _ he|exact hq _ _ _ he|(obtain⟨a',w',he⟩:=he;exact⟨a',w',ho _ _ he⟩))
    |exact Rows.mono hh (fun _ _ he=>h _ _ he)
 |halt x w'=>cases x<;>simp only[Oper.upon]at hh⊢ <;>first|exact hh|exact hq _ _ _ hh
theorem Step.wpOp{C:Ctx}{ops:Array Oper}{i:Nat}{s s':St}(h:Step C ops i s s'){K:Act->World->Prop}{Q:Exit->Act->World->Prop}(hK:∀g a w,Rel C s' g a w->K a w){g:Gh}{a:Act}{w:World}(hR:Rel C s g a w):
 wpOp C.P ops Q i K a w:=by
 have h1:=h g a w hR;rw[wpOps_cons]at h1;unfold Go.wpOp at h1⊢
 have hk:∀a w,wpOps C.P ops (Qc C fun e t=>e=.normal/\t=s') [] a w->K a w:=fun a w hn=>by
  obtain⟨t,g',hR',_,rfl⟩:=hn;exact hK g' a w hR'
 cases ho:ops[i]? with
 |none=>rw[ho]at h1;exact hk _ _ h1
 |some o=>
  rw[ho]at h1;simp only at h1⊢;split
  ·rename_i hw;simp only[hw,if_true]at h1;rcases h1 with h1|⟨_,a',w',h1⟩
   ·refine .inl (Zly hk ?_ (fun a w h=>h.elim) h1);rintro c a w ⟨v,_,t,g',_,h,_⟩;cases h
   ·exact h1.elim
  ·rename_i hw;simp only[hw]at h1;exact hk _ _ h1
theorem least{U:List Nat}(x:Nat)(h:x∈U):∃i∈U,∀j<i,j∉U:=by
 induction x using Nat.strongRecOn with
 |ind x ih=>
  by_cases hx:∃j,j<x/\j∈U
  ·obtain⟨j,h1,h2⟩:=hx;exact ih j h1 h2
  ·exact⟨x,h,fun j hj hm=>hx ⟨j,hj,hm⟩⟩
end Go.Ab
end
section
namespace Go.Ab
open Classical
structure EvEq (s u:St) (x:Operand):Prop where
 ev:s.ev x=u.ev x
 als:∀t n,s.ev x=.als t n->s.tm t=u.tm t/\s.gen t=u.gen t
 box:∀r o,s.ev x=.ptr r o->s.K r=u.K r
 opt:∀t n m i j,s.ev x=.opt t n m i j->s.tm t=u.tm t/\s.gen t=u.gen t
 gen:∀t,x=.tmp t->s.gen t=u.gen t/\s.tm t=u.tm t
theorem Zay{s u:St}{x:Operand}(h:EvEq s u x):s.lit x=u.lit x:=by unfold St.lit;rw[h.ev]
theorem Zfm{s u:St}{x:Operand}(h:EvEq s u x):s.esc x=u.esc x:=by
 unfold St.esc;rw[<-h.ev];split<;>first|rfl|skip
 rename_i t n e;rw[(h.als t n e).1,(h.als t n e).2]
theorem Zin{s u:St}{x:Operand}(h:EvEq s u x):s.escs x=u.escs x:=by
 unfold St.escs;rw[<-h.ev,Zfm h]
theorem Zfn{s u:St}{x:Operand}(h:EvEq s u x):s.val x=u.val x:=by
 unfold St.val;rw[<-h.ev,Zfm h]
theorem Zdu{s u:St}{x:Operand}(h:EvEq s u x):s.slice x=u.slice x:=by
 unfold St.slice;rw[Zfm h]
theorem Zlz{s u:St}{x:Operand}(h:EvEq s u x):s.nwLen x=u.nwLen x:=by
 unfold St.nwLen;rw[<-h.ev];split<;>first|rfl|skip
 rename_i t n e;rw[(h.als t n e).1,(h.als t n e).2]
theorem Zor{s u:St}{x:Operand}(h:EvEq s u x):s.boxC x=u.boxC x:=by
 unfold St.boxC;rw[<-h.ev,Zfm h]
theorem Zio{s u:St}{x:Operand}(h:EvEq s u x):ownT s x=ownT u x:=by
 unfold ownT;cases x with
 |tmp t=>simp only[(h.gen t rfl).2]
 |_=>rfl
theorem Zos{s u:St}{x:Operand}(d:Nat)(h:EvEq s u x):s.copy d x=u.copy d x:=by
 unfold St.copy;rw[<-h.ev];split<;>first|rfl|skip
 cases x with
 |tmp t=>simp only[(h.gen t rfl).1]
 |_=>rfl
theorem Zip{s u:St}{x:Operand}(h:EvEq s u x):ownS s x=ownS u x:=by
 unfold ownS;rw[<-h.ev];split
 ·rename_i t n e;rw[(h.als t n e).2];simp only[ownT,(h.als t n e).1]
 ·exact Zio h
theorem Zkj{P:Program}{s u:St}{d:Nat}{T:TypeId}{x ix:Operand}(h:EvEq s u x)(hi:EvEq s u ix):Zbj P d s T x ix=Zbj P d u T x ix:=by
 unfold Zbj;rw[Zip h,Zay hi];cases ho:ownS u x with
 |none=>rfl
 |some q=>
  obtain⟨t,sz,es,nw⟩:=q
  have hg:s.gen t=u.gen t:=by
   rw[<-Zip h]at ho;unfold ownS at ho;split at ho
   ·rename_i t' n e;split at ho
    ·obtain⟨e1,_⟩:=Za2 ho;cases e1;exact(h.als t n e).2
    ·cases ho
   ·obtain⟨e1,_⟩:=Za2 ho;exact(h.gen t e1).1
  cases u.lit ix with
  |none=>rfl
  |some v=>cases v with
   |int k i=>cases slOf P T with
    |none=>rfl
    |some z=>
     obtain⟨m,b,c,e⟩:=z;simp only[hg]
   |_=>rfl
theorem Ze7{s u:St}{x:Option Operand}{n:Nat}(h:∀y,x=some y->EvEq s u y):s.bound x n=u.bound x n:=by
 unfold St.bound;cases x with
 |none=>rfl
 |some y=>simp only[Zay (h y rfl)]
theorem Zkk{P:Program}{s u:St}{t:TypeId}{x:Operand}(h:EvEq s u x):Zcm P s t (s.ev x)=Zcm P u t (u.ev x):=by
 rw[<-h.ev];unfold Zcm;cases he:s.ev x with
 |ptr r o=>simp only[h.box r o he]
 |opt t n m i j=>simp only[Zg8,(h.opt t n m i j he).1,(h.opt t n m i j he).2]
 |_=>rfl
theorem Zhl{s u:St}{m:Nat}:∀(k:Nat)(l:List (Nat×Operand)),(∀p∈l,EvEq s u p.2)->Zap s m k l=Zap u m k l
 |_,[],_=>rfl
 |k,(i,x)::l,h=>by
  simp only[Zap];rw[Zin (h (i,x) (List.mem_cons_self ..)),Zhl (k+1) l fun p hp=>h p (List.mem_cons_of_mem _ hp)]
theorem Zhm{P:Program}{t:TypeId}{s u:St}:∀(l:List (Nat×Operand))(c:List D),(∀p∈l,EvEq s u p.2)->Zf9 P t s c l=Zf9 P t u c l
 |[],_,_=>rfl
 |(i,x)::l,c,h=>by
  simp only[Zf9];rw[Zin (h (i,x) (List.mem_cons_self ..))];cases Zck P t i with
  |none=>rfl
  |some p=>
   cases u.escs x with
   |none=>rfl
   |some vs=>simp only[Zhm l _ fun p hp=>h p (List.mem_cons_of_mem _ hp)]
theorem Ziq{s u:St}:∀(l:List Operand),(∀x∈l,EvEq s u x)->Zdm s l=Zdm u l
 |[],_=>rfl
 |x::l,h=>by
  simp only[Zdm];rw[Zfn (h x (List.mem_cons_self ..)),Ziq l fun y hy=>h y (List.mem_cons_of_mem _ hy)]
theorem Zl0{P:Program}{s u:St}{o:Oper}(h:∀x∈o.op.operands.toList,EvEq s u x):Zas P s o=Zas P u o:=by
 obtain⟨dst,op,type,pos,after,guard⟩:=o;simp only at h;unfold Zas;cases op<;>simp only[Op.operands]at h<;>try rfl
 case pick c x y=>simp only[Zay (h c (by simp)),Zfn (h x (by simp)),Zfn (h y (by simp))]
 case build t ps=>
  simp only[Zga];have hf:∀c,Zf9 P t s c ps.toList=Zf9 P t u c ps.toList:=fun c=>Zhm _ c fun p hp=>h p.2 (List.mem_map.2 ⟨p,hp,rfl⟩)
  simp only[hf]
 case load t x=>exact Zkk (h x (by simp))
 case nilCheck x=>simp only[(h x (by simp)).ev]
 case binOp op t x y p=>simp only[(h x (by simp)).ev,(h y (by simp)).ev]
 case unOp op t x=>simp only[Zay (h x (by simp))]
 case convert a b x=>simp only[Zay (h x (by simp)),Zdu (h x (by simp))]
 case makeInterface t x=>simp only[(h x (by simp)).ev]
 case makeFunc f first caps=>
  have:caps.toList.map s.ev=caps.toList.map u.ev:=List.map_congr_left fun x hx=>(h x (by simp;exact .inr (by simpa using hx))).ev
  cases f<;>simp only[this]
 case fieldAddr t x i=>simp only[(h x (by simp)).ev]
 case indexAddr t x ix=>simp only[Zay (h ix (by simp)),(h x (by simp)).ev,Zdu (h x (by simp))]
 case index t x ix=>simp only[Zay (h x (by simp)),Zay (h ix (by simp)),(h x (by simp)).ev]
 case slice t x lo hi mx=>
  have hlo:∀n,s.bound lo n=u.bound lo n:=fun n=>Ze7 fun y hy=>h y (by subst hy;simp)
  have hhi:∀n,s.bound hi n=u.bound hi n:=fun n=>Ze7 fun y hy=>h y (by subst hy;simp)
  have hmx:∀q n,mx=some q->s.bound (some q) n=u.bound (some q) n:=fun q n hq=>Ze7 fun y hy=>h y (by subst hq;cases hy;simp)
  simp only[Zay (h x (by simp)),Zdu (h x (by simp)),hlo,hhi];cases mx with
  |none=>rfl
  |some q=>
   have hq:∀n,s.bound (some q) n=u.bound (some q) n:=fun n=>hmx q n rfl
   cases hi with
   |none=>rfl
   |some z=>simp only[hq]
 case typeAssert x a b ok=>cases ok<;>simp only[Zay (h x (by simp))]
 case extract x i=>simp only[(h x (by simp)).ev]
 case call c=>
  obtain⟨cal,args,tys⟩:=c;cases cal with
  |builtin b=>
   have ha:∀x∈args.toList,EvEq s u x:=fun x hx=>h x (by simpa[Call.operands]using hx)
   cases b<;>try rfl
   case len=>
    dsimp only;generalize args.toList=l at ha;generalize tys.toList=l2
    match l,l2,ha with
    |[],_,_=>rfl
    |[x],[],_=>rfl
    |[x],[t],ha=>simp only[Zay (ha x (List.mem_cons_self ..)),Zdu (ha x (List.mem_cons_self ..)),Zlz (ha x (List.mem_cons_self ..))]
    |[x],_::_::_,_=>rfl
    |_::_::_,_,_=>rfl
   case max=>
    dsimp only;generalize args.toList=l at ha;generalize tys.toList=l2
    match l,ha with
    |[],_=>rfl
    |[x],_=>rfl
    |[x,y],ha=>simp only[Zay (ha x (List.mem_cons_self ..)),Zay (ha y (List.mem_cons_of_mem _ (List.mem_cons_self ..)))]
    |_::_::_::_,_=>rfl
   case min=>
    dsimp only;generalize args.toList=l at ha;generalize tys.toList=l2
    match l,ha with
    |[],_=>rfl
    |[x],_=>rfl
    |[x,y],ha=>simp only[Zay (ha x (List.mem_cons_self ..)),Zay (ha y (List.mem_cons_of_mem _ (List.mem_cons_self ..)))]
    |_::_::_::_,_=>rfl
  |_=>rfl
end Go.Ab
end
section
namespace Go.Ab
open Classical
def A.deps:A->List Nat
 |.als u _=>[u]
 |.opt u _ _ _ _=>[u]
 |.ptr (.own t _) _=>[t]
 |_=>[]
noncomputable def Zb6(ops:Array Oper)(s:St)(o:Oper):List Nat:=o.looksAt ops++(o.looksAt ops).flatMap fun t=>(s.tm t).deps
theorem Zl1{ops:Array Oper}{s u:St}{o:Oper}{T:List Nat}(hT:∀t∈Zb6 ops s o,t∈T)(h:Agree T s u):∀x∈o.op.operands.toList,EvEq s u x:=by
 intro x hx;cases x with
 |tmp t=>
  have ht:t∈o.looksAt ops:=List.mem_append_left _ (List.mem_filterMap.2 ⟨.tmp t,hx,rfl⟩);have h1:=h.sl t (hT t (List.mem_append_left _ ht));have h2:∀t'∈(s.tm t).deps,Same t' s u:=fun t' ht'=>h.sl t' (hT t' (List.mem_append_right _ (List.mem_flatMap.2 ⟨t,ht,ht'⟩)))
  refine⟨h1.1,fun t' n e=>?_,fun r o' e=>?_,fun t' n m i j e=>?_,fun t' e=>by cases e;exact⟨h1.2.1,h1.1⟩⟩
  ·have e':s.tm t=.als t' n:=e;have:=h2 t' (by rw[e'];simp[A.deps]);exact⟨this.1,this.2.1⟩
  ·have e':s.tm t=.ptr r o':=e;cases r with
   |own t' n=>exact(h2 t' (by rw[e'];simp[A.deps])).2.2 n
   |up q=>exact h.up q
  ·have e':s.tm t=.opt t' n m i j:=e;have:=h2 t' (by rw[e'];simp[A.deps]);exact⟨this.1,this.2.1⟩
 |const v=>
  refine⟨rfl,fun t n e=>?_,fun r o' e=>?_,fun t n m i j e=>?_,fun t e=>by cases e⟩
  ·have:=Zcy v;simp only[St.ev]at e;rw[e]at this;cases this
  ·simp only[St.ev]at e;unfold Zcl at e;split at e
   ·split at e<;>cases e
   ·cases e
   ·cases e
   ·cases e
  ·have:=Zcy v;simp only[St.ev]at e;rw[e]at this;cases this
 |global n=>exact⟨rfl,(fun t n e=>by cases e),(fun r o' e=>by cases e),(fun t n m i j e=>by cases e),(fun t e=>by cases e)⟩
 |func f=>exact⟨rfl,(fun t n e=>by cases e),(fun r o' e=>by cases e),(fun t n m i j e=>by cases e),(fun t e=>by cases e)⟩
theorem Zda{ops:Array Oper}{s u:St}{o:Oper}{T:List Nat}(hT:∀t∈Zb6 ops s o,t∈T)(h:Agree T s u):Zan ops u o=Zan ops s o:=by
 unfold Zan;cases hg:o.guard with
 |none=>rfl
 |some jw=>
  obtain⟨j,want⟩:=jw;cases hq:ops[j]? with
  |none=>simp[hq]
  |some q=>
   cases ht:q.dst with
   |none=>simp[hq,ht]
   |some t=>
    have h1:t∈o.looksAt ops:=List.mem_append_right _ (by rw[hg];simp[hq,ht]);simp[hq,ht,(h.sl t (hT t (List.mem_append_left _ h1))).1]
noncomputable def Zot(P:Program)(d:Nat)(s:St)(t:TypeId)(x ix:Operand):Option A:=
 match Zez P t,s.lit ix with
 |some (n,m,_),some (.int _ i)=>if 0<=i/\i<(n:Int)then Zcc d s (s.ev x) (i.toNat*m)else none
 |_,_=>none
theorem Zl2{P:Program}{s u:St}{d:Nat}{t:TypeId}{x ix:Operand}(h:EvEq s u x)(hi:EvEq s u ix):Zot P d s t x ix=Zot P d u t x ix:=by
 unfold Zot Zcc;rw[<-h.ev,Zay hi];cases he:s.ev x with
 |opt t n m i j=>simp only[(h.opt t n m i j he).2]
 |_=>rfl
noncomputable def Zc1(P:Program)(s:St)(o:Oper)(d:Nat):Option A:=
 match o.op with
 |.move x=>s.copy d x
 |.assign x=>(match ownT s x with
  |some _=>none
  |none=>s.val x)
 |.buildSlice t n parts=>(match slOf P t with
  |some (m,_,_,_)=>(match Zap s m 0 parts.toList with
   |some es=>if es.length=n/\n*m<=16777216 then some (.own m es [])else none
   |none=>none)
  |none=>none)
 |.indexAddr t x ix=>(match Zbj P d s t x ix with
  |some y=>some y
  |none=>(match Zas P s o with
   |some v=>some v
   |none=>Zot P d s t x ix))
 |_=>Zas P s o
theorem Zkl{P:Program}{s u:St}{o:Oper}(d:Nat)(h:∀x∈o.op.operands.toList,EvEq s u x):Zc1 P s o d=Zc1 P u o d:=by
 have hv:=Zl0 (P:=P) h;obtain⟨dst,op,type,pos,after,guard⟩:=o;unfold Zc1;cases op<;>first|exact hv|skip
 case move x=>exact Zos d (h x (by simp[Op.operands]))
 case assign x=>
  have:=h x (by simp[Op.operands]);simp only[Zio this,Zfn this]
 case buildSlice t n ps=>
  have hf:∀m,Zap s m 0 ps.toList=Zap u m 0 ps.toList:=fun m=>Zhl 0 _ fun p hp=>h p.2 (List.mem_map.2 ⟨p,hp,rfl⟩)
  simp only[hf]
 case indexAddr t x ix=>
  simp only[Zkj (P:=P) (d:=d) (T:=t) (h x (by simp[Op.operands])) (h ix (by simp[Op.operands])),Zl2 (P:=P) (d:=d) (t:=t) (h x (by simp[Op.operands])) (h ix (by simp[Op.operands])),hv]
theorem Zdn{C:Ctx}{s:St}{o:Oper}{d:Nat}{v:A}(hd:o.dst=some d)(hN:d<C.N)(h:Zc1 C.P s o d=some v):OpOk C o s (s.put d v):=by
 unfold Zc1 at h;split at h
 ·rename_i x hop;exact OpOk.of_copy hd hN h fun g a w hR=>by simp only[execOp,hop];rfl
 ·rename_i x hop;split at h
  ·cases h
  ·intro g a w hR K Q hK;obtain⟨h1,h2,h3⟩:=hR.val h (.slot d);refine Zbg (v:=a.eval x) (w':=w) (by simp only[execOp,hop];rfl) (hK g _ w ?_);rw[hd];exact hR.put hN h2 h1 (fun t n e=>by subst e;cases h3) (fun t n sz i j e=>by subst e;cases h3)
 ·rename_i t n parts hop;split at h
  ·rename_i m by_ c e hs;split at h
   ·rename_i es hes;split at h
    ·rename_i hc;cases h;exact OpOk.buildSlice hop hd hN hs hes hc.1 hc.2
    ·cases h
   ·cases h
  ·cases h
 ·rename_i t x ix hop;split at h
  ·rename_i y hy;cases h;exact Zhf hd hN hop hy
  ·split at h
   ·rename_i v' hv;cases h;exact Zbq hd hN (by rw[hv];rfl)
   ·unfold Zot at h;split at h
    ·rename_i n m c k i ha hi;split at h
     ·rename_i hc
      exact Ze5 (x:=x) (k:=i.toNat*m) hd hN h fun g a w b off hR hv=>by
       simp only[execOp,hop,hv,hR.lit hi,Sem.run_bind,Zcz ha w b off k i hc.1 hc.2,Result.andThen_ok,Sem.run_pure]
     ·cases h
    ·cases h
 ·exact Zbq hd hN (by rw[h];rfl)
theorem Zir{s:St}{d:Nat}{v:A}(t:Nat)(h:t≠d):Same t (s.put d v) s:=by
 refine⟨Zac _ _ h,?_,fun n=>rfl⟩;simp only[St.put];split
 ·exact Zac _ _ h
 ·rfl
theorem Zhn(s:St)(d:Nat)(v:A):s.put d v=s.at (s.put d v) d:=
 St.ext' (fun t=>by
  by_cases h:t=d
  ·subst h;exact(Zhk _ _ _).symm
  ·exact(Zir t h).trans (Zlx h).symm) fun q=>rfl
theorem Zpo{s u:St}{d:Nat}{v:A}(h:Same d s u):u.at (s.put d v) d=u.put d v:=
 St.ext' (fun t=>by
  by_cases e:t=d
  ·subst e;refine(Zhk _ _ _).trans ⟨by simp[St.put],?_,h.2.2⟩;simp only[St.put,h.1];split
   ·simp[h.2.1]
   ·exact h.2.1
  ·exact(Zlx e).trans (Zir t e).symm) fun q=>rfl
section
variable {C:Ctx} {ops:Array Oper} {i d:Nat} {o:Oper} {s:St}
theorem Zkm{v:A}(ho:ops[i]? =some o)(hd:o.dst=some d)(hN:d<C.N)(hw:Zan ops s o=some true)(hv:Zc1 C.P s o d=some v):Loc C ops i d (Zb6 ops s o) s (s.put d v):=by
 refine⟨Zhn s d v,fun u h=>?_⟩;have hT:∀t∈Zb6 ops s o,t∈d::Zb6 ops s o:=fun t ht=>List.mem_cons_of_mem _ ht
 rw[Zpo (h.sl d (List.mem_cons_self ..))];refine Zhh ho ((Zda hT h).trans hw) (Zdn hd hN ?_) (Zfj ⟨rfl,rfl⟩);rw[<-Zkl d (Zl1 hT h)];exact hv
theorem Zm6(ho:ops[i]? =some o)(hd:o.dst=some d)(hN:d<C.N)(hw:Zan ops s o=some false):Loc C ops i d (Zb6 ops s o) s (s.put d (.tup [])):=by
 refine⟨Zhn s d (.tup []),fun u h=>?_⟩;have hT:∀t∈Zb6 ops s o,t∈d::Zb6 ops s o:=fun t ht=>List.mem_cons_of_mem _ ht
 rw[Zpo (h.sl d (List.mem_cons_self ..))];refine Zja ho ((Zda hT h).trans hw) (fun d' hd'=>by rw[hd]at hd';cases hd';exact hN) ?_;rw[hd];exact Zfj ⟨rfl,rfl⟩
theorem Zpp{H:List (Ref×List A)}(h:∀x∈H,s.K x.1=some x.2):s.setH H=s:=by
 obtain⟨tm,K,gen⟩:=s;simp only[St.setH]
 congr 1
 funext r
 split
 ·rename_i c hc;exact(h _ (Zd7 hc)).symm
 ·rfl
def Zpq(H:List (Ref×List A))(v:A):Out->List (Ref×List A)->Prop:=fun o H'=>o=.ret v/\H'=H
theorem Zrs{fx:Operand}{args:Array Operand}{tys:Array TypeId}{F:FuncId}{caps:List Ref}{vals:List A}{H:List (Ref×List A)}{v v':A}(ho:ops[i]? =some o)(hd:o.dst=some d)(hN:d<C.N)(hw:Zan ops s o=some true)
 (hop:o.op=.call {callee:=.value fx,args,argTypes:=tys}) (hf:s.ev fx=.fn F caps) (hv:Zdm s args.toList=some vals)
 (hK:∀x∈H,s.K x.1=some x.2) (hnd:(H.map (·.1)).Nodup) (hp:∀x∈H,∀y∈x.2,y.plain=true)
 (hH:∀x∈H,∀t n,x.1=.own t n->t∈Zb6 ops s o)
 (hh:Holds C.P F (vals.map A.lift++caps.map fun r=>.ptr (.up r) 0) (Zao H) (Zpq (Zao H) v)) (hb:v.back=some v'):Loc C ops i d (Zb6 ops s o) s (s.put d v'):=by
 refine⟨Zhn s d v',fun u h=>?_⟩;have hT:∀t∈Zb6 ops s o,t∈d::Zb6 ops s o:=fun t ht=>List.mem_cons_of_mem _ ht
 rw[Zpo (h.sl d (List.mem_cons_self ..))];have hev:=Zl1 hT h
 have hKu:∀x∈H,u.K x.1=some x.2:=fun x hx=>by
  rw[<-hK x hx];cases hr:x.1 with
  |own t n=>exact((h.sl t (List.mem_cons_of_mem _ (hH x hx t n hr))).2.2 n).symm
  |up q=>exact(h.up q).symm
 refine Zlw (H:=H) (R:=Zpq (Zao H) v) ho ((Zda hT h).trans hw) hop hd hN ?_ ?_ hKu hnd hh ?_ ?_
 ·rw[<-(hev fx (by rw[hop];simp[Op.operands,Call.operands])).ev];exact hf
 ·rw[<-Ziq args.toList fun x hx=>hev x (by rw[hop];simp[Op.operands,Call.operands];exact .inr (by simpa using hx))];exact hv
 ·rintro w H' ⟨h1,h2⟩;cases h1;exact⟨v',H,hb,h2,rfl,hp,by rw[Zpp hKu];exact Zfj ⟨rfl,rfl⟩⟩
 ·rintro w H' ⟨h1,h2⟩;cases h1
theorem Zl3(s:St)(d:Nat)(c:List A):s.alloc d c=s.at (s.alloc d c) d:=
 St.ext' (fun t=>by
  by_cases h:t=d
  ·subst h;exact(Zhk _ _ _).symm
  ·refine Same.trans ⟨Zac _ _ h,Zac _ _ h,fun n=>Zac _ _ fun e=>?_⟩ (Zlx h).symm;cases e;exact h rfl) fun q=>Zac _ _ fun e=>by cases e
theorem Zrt{s u:St}{d:Nat}{c:List A}(h:Same d s u):u.at (s.alloc d c) d=u.alloc d c:=
 St.ext' (fun t=>by
  by_cases e:t=d
  ·subst e;refine(Zhk _ _ _).trans ⟨by simp[St.alloc,h.2.1],by simp[St.alloc,h.2.1],fun n=>?_⟩;simp only[St.alloc,h.2.1];unfold upd;split
   ·rfl
   ·exact h.2.2 n
  ·refine(Zlx e).trans ⟨(Zac _ _ e).symm,(Zac _ _ e).symm,fun n=>(Zac _ _ fun e'=>?_).symm⟩;cases e';exact e rfl) fun q=>(Zac _ _ fun e=>by cases e).symm
noncomputable def newA(P:Program)(s:St)(o:Oper):Option (List A):=
 match o.op with
 |.alloc t=>(match Zc8 P t with
  |some z=>if z.all isCell then some (z.map Zcr)else none
  |none=>none)
 |.box _ x=>s.boxC x
 |_=>none
theorem Ze8{P:Program}{N:Nat}{s:St}{c:List A}(hd:o.dst=some d)(hN:d<N)(h:newA P s o=some c):Zbn P N ops s o=some (s.alloc d c):=by
 unfold newA at h;unfold Zbn;rw[hd];simp only[hN,if_true];split at h
 ·rename_i t hop;rw[hop];simp only;split at h
  ·rename_i z hz;rw[hz];simp only;split at h
   ·rename_i hc;cases h;simp only[hc,if_true]
   ·cases h
  ·cases h
 ·rename_i t x hop;rw[hop];simp only[h,Option.map_some]
 ·cases h
theorem Zti{c:List A}(ho:ops[i]? =some o)(hd:o.dst=some d)(hN:d<C.N)(hw:Zan ops s o=some true)(hv:newA C.P s o=some c):Loc C ops i d (Zb6 ops s o) s (s.alloc d c):=by
 refine⟨Zl3 s d c,fun u h=>?_⟩;have hT:∀t∈Zb6 ops s o,t∈d::Zb6 ops s o:=fun t ht=>List.mem_cons_of_mem _ ht
 rw[Zrt (h.sl d (List.mem_cons_self ..))];have hev:=Zl1 hT h;refine Zhh ho ((Zda hT h).trans hw) (Zbz (Ze8 (ops:=ops) hd hN ?_)) (Zfj ⟨rfl,rfl⟩);rw[<-hv];unfold newA;split
 ·rfl
 ·rename_i t x hop;exact(Zor (hev x (by rw[hop];simp[Op.operands]))).symm
 ·rfl
end
def Zou(ops:Array Oper)(i:Nat):Nat:=((ops[i]?).bind (·.dst)).getD 0
attribute [simp] Zc1 newA Zb6 A.deps Zou Za7 Oper.looksAt Op.operands Call.operands Region.binds
end Go.Ab
end
section
namespace Go.Ab
open Classical
theorem OpOk.makeSlice{C:Ctx}{o:Oper}{s:St}{d:Nat}{T:TypeId}{x y:Operand}{m by_:Nat}{c:Bool}{e:TypeId}{k k':IntKind}{l n:Int}{z:List Value}(hop:o.op=.makeSlice T x y)(hd:o.dst=some d)(hN:d<C.N)
 (hT:slOf C.P T=some (m,by_,c,e)) (hz:Zc8 C.P e=some z) (hzc:z.all isCell=true) (hx:s.lit x=some (.int k l)) (hy:s.lit y=some (.int k' n)) (h0:0<=l) (hln:l<=n) (hby:(by_:Int)*n<=281474976710656)
 (h63:n<=9223372036854775807):OpOk C o s (s.put d (.own m [] (List.replicate l.toNat (z.map constD)))):=by
 intro g a w hR K Q hK;obtain⟨hu,hs,hm0,i,zv,hi,hbyt,hsize,hzv,hzs⟩:=Zav hT;obtain⟨i',z',hi',hz',hzs',hzl⟩:=Ze2 hz;rw[hi]at hi';cases hi';rw[hzv]at hz';cases hz';have hm:0<m:=Nat.pos_of_ne_zero hm0
 have hrun:(execOp a.eval o).run C.P w=.ok (.value (.slice (some ⟨w.heap.size,0,none⟩) l.toNat n.toNat)) {w with heap:=w.heap.push (.cells (madeCells zv.cells (n.toNat*m)) e)}:=by
  have:=run_make (P:=C.P) w T e i zv hu hi hzv k k' l n h0 hln (by rw[hbyt];exact hby) h63;rw[hsize]at this;simp only[execOp,hop,hR.lit hx,hR.lit hy];simp[this]
 refine Zbg hrun ?_;obtain⟨r1,r2,r3,r4,r5⟩:=hR.push (madeCells zv.cells (n.toNat*m)) e;have hzlen:z.length=m:=by rw[<-hzl,Array.length_toList,hzs',hsize]
 have hel:Elems {w with heap:=w.heap.push (.cells (madeCells zv.cells (n.toNat*m)) e)} g.Pr (madeCells zv.cells (n.toNat*m)) m ([]++List.replicate l.toNat (z.map constD)):=by
  intro q j hq hj;simp only[List.nil_append,List.length_replicate]at hq;simp only[List.nil_append,List.getElem_replicate,List.length_map,hzlen]at hj⊢;have hlt:q*m+j<n.toNat*m:=Zfh (by omega) hj;have hzcs:zv.cells.size=m:=by rw[hzs',hsize]
  have hmod:(q*m+j) % zv.cells.size=j:=by rw[hzcs,Nat.mul_comm,Nat.mul_add_mod,Nat.mod_eq_of_lt hj]
  refine⟨z[j]'(by omega),?_,?_⟩
  ·simp only[madeCells,Array.getElem?_map,Array.getElem?_range,hlt,if_true,Option.map_some,hmod]
   congr 1
   have:j<zv.cells.size:=by omega
   simp only[getElem!_pos zv.cells j this,<-hzl,Array.getElem_toList]
  ·rw[List.getElem_map];exact RepD.constD _ (List.all_eq_true.1 hzc _ (List.getElem_mem _))
 obtain⟨g',hg'⟩:=OpOk.append_core (es:=[]) (nw:=List.replicate l.toNat (z.map constD)) (m:=m) (cap:=n.toNat) hN r3 (.inl r4) r1 (v:=.slice (some ⟨w.heap.size,0,none⟩) l.toNat n.toNat) (by simp only[List.length_nil,List.length_replicate,Nat.zero_add]) r2 hm (by rw[size_madeCells]) (by simp only[List.length_nil,List.length_replicate,Nat.zero_add];omega)
  (fun y hy=>by simp only[List.nil_append,List.mem_replicate]at hy;rw[hy.2,List.length_map,hzlen]) hel (fun k hk=>absurd hk (r5 k))
 rw[hd];exact hK g' _ _ hg'
end Go.Ab
end
section
namespace Go.Ab
inductive AsD:A->A->Prop
 |same (v:A):AsD v v
 |zs (es:List (List D)):AsD (.zs es) (.d (.slc es))
 |own (sz:Nat) (es:List (List D)):AsD (.own sz es []) (.d (.slc es))
def AsDO:Out->Out->Prop
 |.ret v,.ret u=>AsD v u
 |.pan v,.pan u=>v=u
 |_,_=>False
theorem Holds.asData{P:Program}{f:FuncId}{args:List A}{H:List (Ref×List A)}{R R':Out->List (Ref×List A)->Prop}(h:Holds P f args H R)
 (hr:∀o H',R o H'-> ∃o',AsDO o o'/\R' o' H'):Holds P f args H R':=fun w cargs g h1 h2=>
 (h w cargs g h1 h2).mono fun e w' ⟨out,H',g',a,b,c,d⟩=>by
  obtain⟨o',e1,e2⟩:=hr out H' a;refine⟨o',H',g',e2,b,c,?_⟩;cases out with
  |pan v=>
   cases o' with
   |pan u=>cases e1;exact d
   |ret u=>exact e1.elim
  |ret v=>
   cases o' with
   |pan u=>exact e1.elim
   |ret u=>
    obtain⟨cv,d1,d2,d3⟩:=d;refine⟨cv,d1,?_,fun ho=>?_⟩
    ·cases e1 with
     |same=>exact d2
     |zs es=>exact d2.1
     |own sz es=>obtain⟨cap,cs,hw⟩:=d2;exact hw.repD
    ·cases e1 with
     |same=>exact d3 ho
     |zs es=>cases ho
     |own sz es=>cases ho
end Go.Ab
end
section
namespace Go.Ab
end Go.Ab
end
