/- Part 5 of the proof: RfFlowS, RfFn, RfRun, RfRec, RfDef, RfJoin. -/
import Derived.KernelRfl
import Derived.Recover
import Derived.Test.YtpcnadmaeebhbaaGreatDoorJad
set_option linter.unusedVariables false
set_option linter.unusedSimpArgs false
section
namespace Go.Rf
open Go.Ab
section
variable {up:Nat->Ref} {R:Out->List (Ref×List A)->Prop}
theorem Zqu{c:Cfg}{op:Opt}{ops:Array Oper}{cl ds:List Nat}{mm:Nat}(hmm:mm<=ops.size){C:Ctx}(hP:C.P=c.P)(hN:C.N=c.N){Q:Ex->St->Prop}{K:Re->RSt->T}:∀{l:List Oper}{k n0:Nat}{ρ0 ρ:Env}{σ0 σ:Sig}{m:Nm}{rs:RSt}{s:St},
 (∀j,j<l.length->l[j]? =ops[k+j]?)->k+l.length=mm->Zge c.P up R n0 ρ0 σ0 Q K->Agr n0 ρ0 ρ->n0<=rs.nv->m.up=up->σ0<+:σ->rs.dep=σ.length->Den ρ m rs s->(Zgf c op ops cl ds mm K l k rs).den c.P up R ρ σ->DP C ops cl ds mm Q l k s
 |[],k,n0,ρ0,ρ,σ0,σ,m,rs,s,_,hk,hK,ha,hnv,hu,hσ,hdep,hd,h=>by
  unfold Zgf at h;have:=Zni hP hN (l:=ops.toList.drop mm) (k:=mm) (fun j=>by simp) hK ha hnv hu hσ hdep hd h;have e:(ops.toList.drop mm).length=ops.size-mm:=by simp
  rw[e]at this;exact this
 |o::l,k,n0,ρ0,ρ,σ0,σ,m,rs,s,hl,hk,hK,ha,hnv,hu,hσ,hdep,hd,h=>by
  have h0:ops[k]? =some o:=by simpa using(hl 0 (by simp)).symm
  have hl':∀j,j<l.length->l[j]? =ops[k+1+j]? :=fun j hj=>by
   have:=hl (j+1) (by simpa using hj);simpa[Nat.add_assoc,Nat.add_comm 1 j]using this
  have hk':k+1+l.length=mm:=by simp at hk;omega
  unfold Zgf at h;split at h
  ·rename_i d G looks hdst hG hlk;have hwant:=Zjn hd hG;have hsub:=Zqm hd hlk;split at h
   ·rename_i hc;have hsl:=Zo3 hc.2 hsub;have hlt:=hc.1
    have ih:∀{ρ':Env}{m':Nm}{rs':RSt}{s':St},Agr n0 ρ0 ρ'->n0<=rs'.nv->m'.up=up->rs'.dep=σ.length->Den ρ' m' rs' s'->(Zgf c op ops cl ds mm K l (k+1) rs').den c.P up R ρ' σ->DP C ops cl ds mm Q l (k+1) s':=
     fun h1 h2 h3 h4 h5 h6=>Zqu hmm hP hN hl' hk' hK h1 h2 h3 hσ h4 h5 h6
    have skip:∀{rs:RSt},Den ρ m rs s->n0<=rs.nv->rs.dep=σ.length->(G.den ρ).bool=false->(Zgf c op ops cl ds mm K l (k+1) (rs.put d (.tup []))).den c.P up R ρ σ->DP C ops cl ds mm Q (o::l) k s:=fun{rs} hd hnv hdep hb hk=>by
     rw[hb]at hwant;exact⟨d,_,_,hdst,Zm6 h0 hdst (by rw[hN];exact hlt) hwant,hsl,ih ha (by rw[Zai];exact hnv) hu (by rw[Zae];exact hdep) (hd.put (by intro e;cases e) (.inr rfl)) hk⟩
    split at h
    ·rename_i hF;exact skip hd hnv hdep (by rw[Znf hF];rfl) h
    ·split at h
     ·rename_i n v hr;split at h
      ·rename_i hali;obtain⟨kn,h1,h2,h3⟩:=Za0 hd.known h;cases hb:(G.den ρ).bool
       ·rw[hb]at hwant
        have hgT:G.isT=false:=by
         cases ht:G.isT
         ·rfl
         ·rw[Zgq ht]at hb;cases hb
        rw[hgT]at h3;simp only[Bool.false_eq_true,if_false]at h3;refine⟨d,_,_,hdst,Zm6 h0 hdst (by rw[hN];exact hlt) hwant,hsl,ih ha (by rw[Zai];exact hnv) hu (by rw[Zae];exact hdep) ((hd.knew h1).put (x:=.gv G v) hali (.inr (by simp[RA.den,hb]))) h3⟩
       ·rw[hb]at hwant;obtain⟨hq,hali2⟩:=Zdx hd hb hr (h2 hb) (r:=v) rfl;refine⟨d,_,_,hdst,Zkm h0 hdst (by rw[hN];exact hlt) hwant (by rw[hP];exact hq),hsl,?_⟩;cases ht:G.isT
        ·rw[ht]at h3;simp only[Bool.false_eq_true,if_false]at h3;exact ih ha (by rw[Zai];exact hnv) hu (by rw[Zae];exact hdep) ((hd.knew h1).put (x:=.gv G v) hali (.inr (by simp[RA.den,hb]))) h3
        ·rw[ht]at h3;simp only[if_true]at h3;exact ih ha (by rw[Zai];exact hnv) hu (by rw[Zae];exact hdep) ((hd.knew h1).put hali (.inr rfl)) h3
      ·unfold T.den at h;exact h.elim
     ·rename_i n i' vs hr;split at h
      ·rename_i ht;obtain⟨kn,h1,h2,h3⟩:=Za0 hd.known h;obtain⟨kk,v,rs1,hv,hi,hd1,e1,e2,h4⟩:=Zsw (hd.knew h1) h3;have hb:(G.den ρ).bool=true:=by rw[Zgq ht];rfl
       rw[hb]at hwant;obtain⟨hq,hali⟩:=Zdx hd hb hr (h2 rfl) (r:=v) ⟨kk,by simpa using hi,hv⟩;exact⟨d,_,_,hdst,Zkm h0 hdst (by rw[hN];exact hlt) hwant (by rw[hP];exact hq),hsl,ih ha (by rw[Zai,e1];exact hnv) hu (by rw[Zae,e2];exact hdep) (hd1.put hali (.inr rfl)) h4⟩
      ·unfold T.den at h;exact h.elim
     ·split at h
      ·rename_i ht;have hb:(G.den ρ).bool=true:=by rw[Zgq ht];rfl
       rw[hb]at hwant;split at h
       ·rename_i n cs hr;split at h
        ·rename_i hcs;obtain⟨kn,h1,h2,h3⟩:=Za0 hd.known h;have hA:=Zl9 hd hr (h2 rfl);refine⟨d,_,_,hdst,Zti h0 hdst (by rw[hN];exact hlt) hwant (by rw[hP];exact hA),hsl,?_⟩
         have hkd:kDen ρ m cs=kDen ρ (m.set d (s.gen d)) cs:=List.map_congr_left fun x hx=>by
          have:=List.all_eq_true.1 hcs x hx;simp only[Bool.and_eq_true,Bool.not_eq_true']at this;exact(RA.den_nm (m:=m) (m':=m.set d (s.gen d)) rfl (fun t ht=>by simp[Nm.set,ht]) this.1).symm
         exact ih (m':=m.set d (s.gen d)) ha (by rw[Zjl];exact hnv) hu (by rw[Zh0];exact hdep) ((hd.knew h1).alloc hkd) h3
        ·unfold T.den at h;exact h.elim
       ·split at h
        ·rename_i q hop;obtain⟨v,x,ρ',kn,h1,h2,h3,h4⟩:=Znm hP hN h0 hdst hlt hop hwant hu hd h;exact⟨d,_,_,hdst,h2,hsl,ih (ha.trans h1 hnv) (by rw[Zai];show n0<=rs.nv+kn;omega) hu (by rw[Zae];exact hdep) h3 h4⟩
        ·unfold T.den at h;exact h.elim
      ·split at h
       ·rename_i q hop;unfold T.den at h;cases hb:(G.den ρ).bool
        ·exact skip (hd.assume hb) (by rw[(Zaj rs G false).1];exact hnv) (by rw[(Zaj rs G false).2];exact hdep) hb (h.2 hb)
        ·rw[hb]at hwant;obtain⟨v,x,ρ',kn,h1,h2,h3,h4⟩:=Znm hP hN h0 hdst hlt hop hwant hu (hd.assume hb) (h.1 hb);rw[(Zaj rs G true).1]at h1;exact⟨d,_,_,hdst,h2,hsl,ih (ha.trans h1 hnv) (by rw[Zai];show n0<=(rs.assume G true).nv+kn;rw[(Zaj rs G true).1];omega) hu (by rw[Zae];show(rs.assume G true).dep=_;rw[(Zaj rs G true).2];exact hdep) h3 h4⟩
       ·unfold T.den at h;exact h.elim
   ·unfold T.den at h;exact h.elim
  ·unfold T.den at h;exact h.elim
def Zjs(ρ ρ':Env)(l:Args):Prop:=∀x∈l,ρ' x.1=x.2.1.mk (x.2.1.un (x.2.2.den ρ))
theorem Zdr{ρ ρ':Env}{a b:Args}:Zjs ρ ρ' (a++b)↔Zjs ρ ρ' a/\Zjs ρ ρ' b:=by simp[Zjs,or_imp,forall_and]
theorem Zqv{base:Nat}{p v:RA}{l:Args}{ρ ρ':Env}{m:Nm}{gen:Nat->Nat}(h:eqA base p v=some l)(ha:Agr base ρ ρ'):p.den ρ' m gen=v.den ρ m gen:=by
 unfold eqA at h;split at h
 ·rename_i hc;simp only[Bool.and_eq_true]at hc;rw[<-RA.beq_eq hc.1,RA.den_agr ha hc.2]
 ·cases h
theorem Zsy{base:Nat}{p v:RA}{l:Args}{ρ ρ':Env}{m:Nm}{gen:Nat->Nat}(h:mA base p v=some l)(ha:Agr base ρ ρ')(hl:Zjs ρ ρ' l):p=.any\/p.den ρ' m gen=v.den ρ m gen:=by
 unfold mA at h;split at h
 ·exact .inl rfl
 all_goals right
 all_goals first
  |exact Zqv h ha
  |skip
 all_goals
  split at h
  rotate_left
  ·exact Zqv h ha
  split at h
  rotate_left
  ·cases h
 ·split at h
  ·rename_i e;cases h;subst e;have:=hl _ (List.mem_cons_self ..);simp only[RA.den,E.den,sem1,this,Dk.mk,Dk.un,Dat.int_i]
  ·cases h
 ·cases h;have:=hl _ (List.mem_cons_self ..);simp only[RA.den,E.den,sem1,this,Dk.mk,Dk.un,Dat.bool_b]
 ·cases h;have:=hl _ (List.mem_cons_self ..);simp only[RA.den,E.den,sem1,this,Dk.mk,Dk.un,Dat.str_s]
 ·cases h;have:=hl _ (List.mem_cons_self ..);simp only[RA.den,E.den,sem1,this,Dk.mk,Dk.un,Dat.lst_l]
 ·cases h;have:=hl _ (List.mem_cons_self ..);simp only[RA.den,E.den,this,Dk.mk,Dk.un,Dat.dd_d]
 ·cases h;have:=hl _ (List.mem_cons_self ..);simp only[RA.den,E.den,this,Dk.mk,Dk.un,Dat.row_r]
 ·split at h
  ·rename_i e;cases h;obtain⟨rfl,e2⟩:=e;simp only[Bool.and_eq_true]at e2;have:=hl _ (List.mem_cons_self ..);rw[<-E.beq_eq e2.1];simp only[RA.den,E.den,this,Dk.mk,Dk.un,Dat.lst_l,E.den_agr ha e2.2]
  ·cases h
 ·split at h
  ·rename_i e;cases h;subst e;have:=hl _ (List.mem_cons_self ..);simp only[RA.den,E.den,this,Dk.mk,Dk.un,Dat.lst_l]
  ·cases h
 ·cases h;have:=hl _ (List.mem_cons_self ..);simp only[RA.den,E.den,this,Dk.mk,Dk.un,Dat.lst_l]
theorem Zlc{base:Nat}{ρ ρ':Env}{m:Nm}{gen:Nat->Nat}(ha:Agr base ρ ρ'):∀{p v:Tr}{l:Args},mT base p v=some l->Zjs ρ ρ' l-> ∀k,p.get k=.any\/(p.get k).den ρ' m gen=(v.get k).den ρ m gen
 |.nil,_,_,_,_,_=>.inl rfl
 |.node p a b,.nil,l,h,hl,k=>by
  unfold mT at h;split at h
  ·rename_i e;cases e
  ·rename_i e1 e2;cases e1;split at h
   ·rename_i x y h1 h2;cases h;have h3:=Zdr.1 hl;unfold Tr.get;split
    ·exact .inl rfl
    ·split
     ·have:=Zlc (m:=m) (gen:=gen) ha h1 h3.1 (k/2);exact this
     ·have:=Zlc (m:=m) (gen:=gen) ha h2 h3.2 (k/2-1);exact this
   ·cases h
  ·cases h
  ·rename_i e;cases e
 |.node p a b,.node v a' b',l,h,hl,k=>by
  unfold mT at h
  split at h<;>first
   |(rename_i e _;cases e;done)
   |(rename_i e;cases e;done)
   |skip
  rename_i e1 e2;cases e1;cases e2;split at h
  ·rename_i x y z h1 h2 h3;cases h;have h4:=Zdr.1 hl;have h5:=Zdr.1 h4.2;unfold Tr.get;split
   ·exact Zsy h1 ha h4.1
   ·split
    ·exact Zlc ha h2 h5.1 _
    ·exact Zlc ha h3 h5.2 _
  ·cases h
theorem Zsz{base:Nat}{ρ ρ':Env}{m:Nm}(ha:Agr base ρ ρ'):∀{p v:List RA}{l:Args},mC base p v=some l->Zjs ρ ρ' l->kDen ρ' m p=kDen ρ m v
 |[],[],_,_,_=>rfl
 |p::a,v::b,l,h,hl=>by
  unfold mC at h;split at h
  ·rename_i hc;simp only[Bool.and_eq_true]at hc;split at h
   ·rename_i x y h1 h2;cases h;have h3:=Zdr.1 hl;have h4:=Zsy (m:=m) (gen:=fun _=>0) h1 ha h3.1;have h5:p.den ρ' m (fun _=>0)=v.den ρ m fun _=>0:=h4.resolve_left (by intro e;subst e;simp[RA.okCell]at hc)
    show _::kDen ρ' m a=_::kDen ρ m b;rw[h5,Zsz ha h2 h3.2]
   ·cases h
  ·cases h
 |[],_::_,_,h,_=>by cases h
 |_::_,[],_,h,_=>by cases h
theorem Zqw{base:Nat}{ρ ρ':Env}{m:Nm}(ha:Agr base ρ ρ'){K:List (RRef×List RA)}:∀{p:List (RRef×List RA)}{l:Args},mK base K p=some l->Zjs ρ ρ' l-> ∀r c,(r,c)∈p-> ∃c',Zb3 K r=some c'/\kDen ρ' m c=kDen ρ m c'
 |[],_,_,_,_,_,h=>by cases h
 |(q,d)::p,l,h,hl,r,c,hm=>by
  unfold mK at h;split at h
  ·rename_i c' hc';split at h
   ·rename_i a b h1 h2;cases h;have h3:=Zdr.1 hl;rcases List.mem_cons.1 hm with e|hm
    ·cases e;exact⟨c',hc',Zsz ha h1 h3.1⟩
    ·exact Zqw ha h2 h3.2 r c hm
   ·cases h
  ·cases h
def Zde(ρ:Env):Nat->List Dat->Env
 |_,[]=>ρ
 |n,x::l=>Zde (ρ.set n x) (n+1) l
theorem Zcw:∀(l:List Dat)(ρ:Env)(n:Nat),Agr n ρ (Zde ρ n l)
 |[],ρ,n=>Agr.refl n ρ
 |x::l,ρ,n=>((Agr.refl n ρ).set x (Nat.le_refl n)).trans (Zcw l _ (n+1)) (Nat.le_succ n)
theorem Zi0:∀(l:List Dat)(ρ:Env)(n i:Nat)(x:Dat),l[i]? =some x->Zde ρ n l (n+i)=x
 |y::l,ρ,n,0,x,h=>by
  simp at h;subst h;show Zde (ρ.set n y) (n+1) l n=y;rw[Zcw l (ρ.set n y) (n+1) n (Nat.lt_succ_self n)];simp[Env.set]
 |y::l,ρ,n,i+1,x,h=>by
  have:=Zi0 l (ρ.set n y) (n+1) i x (by simpa using h);rw[show n+1+i=n+(i+1) by omega]at this;exact this
def Zbd:List Dk->List Dat->List Dat
 |[],_=>[]
 |k::ks,x::l=>k.mk (k.un x)::Zbd ks l
 |k::ks,[]=>k.mk (k.un (.i 0))::Zbd ks []
theorem Zld(k:Dk)(x:k.ty):k.un (k.mk x)=x:=by cases k<;>rfl
theorem Zf2:∀(ks:List Dk)(I:CurP ks)(l:List Dat),appP ks I (Zbd ks l)=appP ks I l
 |[],_,_=>rfl
 |k::ks,I,x::l=>by simp only[Zbd,appP,Zld];exact Zf2 ks _ l
 |k::ks,I,[]=>by simp only[Zbd,appP,Zld];exact Zf2 ks _ []
theorem Zh7:∀(ks:List Dk)(I:CurN ks)(l:List Dat),appN ks I (Zbd ks l)=appN ks I l
 |[],_,_=>rfl
 |k::ks,I,x::l=>by simp only[Zbd,appN,Zld];exact Zh7 ks _ l
 |k::ks,I,[]=>by simp only[Zbd,appN,Zld];exact Zh7 ks _ []
theorem Zf3:∀{ks:List Dk}{n:Nat}{ρ:Env}{acc l:List Dat}{p:Env->List Dat->Prop},allK ks n ρ acc p->p (Zde ρ n (Zbd ks l)) (acc++Zbd ks l)
 |[],n,ρ,acc,l,p,h=>by simpa[Zbd,Zde,allK]using h
 |k::ks,n,ρ,acc,x::l,p,h=>by
  have:=Zf3 (l:=l) (h (k.un x));simpa[Zbd,Zde]using this
 |k::ks,n,ρ,acc,[],p,h=>by
  have:=Zf3 (l:=[]) (h (k.un (.i 0)));simpa[Zbd,Zde]using this
theorem Zle:∀{ks:List Dk}{l:List Dat}{i:Nat}{k:Dk}{x:Dat},ks[i]? =some k->l[i]? =some x->(Zbd ks l)[i]? =some (k.mk (k.un x))
 |k'::ks,y::l,0,k,x,h1,h2=>by simp at h1 h2;subst h1;subst h2;rfl
 |k'::ks,y::l,i+1,k,x,h1,h2=>by
  have:=Zle (ks:=ks) (l:=l) (by simpa using h1) (by simpa using h2);simpa[Zbd]using this
theorem Zi1{l:Args}:∀{ks:List Dk}{n:Nat}{a:List E}{i:Nat}{k:Dk},Znr l ks n=some a->ks[i]? =some k-> ∃e,a[i]? =some e/\Zsg l (n+i) k=some e
 |k'::ks,n,a,i,k,h,hk=>by
  unfold Znr at h;split at h
  ·rename_i e r h1 h2;cases h;cases i with
   |zero=>simp at hk;subst hk;exact⟨e,rfl,h1⟩
   |succ i=>
    obtain⟨e',h3,h4⟩:=Zi1 h2 (by simpa using hk);exact⟨e',by simpa using h3,by rw[show n+(i+1)=n+1+i by omega];exact h4⟩
  ·cases h
theorem Zh8{base:Nat}{p:Pat}{rs:RSt}{a:List E}{ρ0 ρ:Env}{m:Nm}{s:St}(h:Zns base p rs=some a)(ha:Agr base ρ0 ρ)(hd:Den ρ m rs s)(hkn:∀e∈p.rs.known,e.lt base=true/\(e.den ρ0).bool=true){n d:Nat}:
 Den (Zde ρ0 base (Zbd p.ks (a.map fun e=>e.den ρ))) m {p.rs with nv:=n,dep:=d} s:=by
 unfold Zns at h;split at h
 ·rename_i x y h1 h2;split at h
  ·rename_i hc;simp only[Bool.and_eq_true,decide_eq_true_eq,Bool.or_eq_true,Bool.not_eq_true']at hc;obtain⟨⟨hin,hnd⟩,hal⟩:=hc;have hag:Agr base ρ (Zde ρ0 base (Zbd p.ks (a.map fun e=>e.den ρ))):=fun i hi=>by rw[Zcw _ ρ0 base i hi,ha i hi]
   have hok:Zjs ρ (Zde ρ0 base (Zbd p.ks (a.map fun e=>e.den ρ))) (x++y):=by
    intro z hz;have h3:=List.all_eq_true.1 hin z hz;simp only[Bool.and_eq_true,beq_iff_eq]at h3;obtain⟨h4,h5⟩:=h3;split at h5
    ·rename_i e he;have h6:=E.beq_eq h5;obtain⟨e',h7,h8⟩:=Zi1 h h4;by_cases hb:base<=z.1
     ·have e1:base+(z.1-base)=z.1:=by omega
      rw[e1,he]at h8;cases h8;rw[<-e1,Zi0 _ ρ0 base (z.1-base) _ (Zle h4 (by rw[List.getElem?_map,h7];rfl)),h6]
     ·
      exfalso
      have hmA:∀{p v:RA}{l:Args},mA base p v=some l-> ∀z∈l,base<=z.1:=by
       intro p v l h z hz;unfold mA eqA at h
       repeat' (first|(cases h;done)|(cases h;first|(cases hz;done)|(simp at hz;subst hz;assumption))|split at h)
      have hmT:∀{p v:Tr}{l:Args},mT base p v=some l-> ∀z∈l,base<=z.1:=by
       intro p
       induction p with
       |nil=>intro v l h z hz;unfold mT at h;cases h;cases hz
       |node q a b iha ihb=>
        intro v l h z hz;unfold mT at h
        split at h<;>first
         |(rename_i e _;cases e;done)
         |(rename_i e;cases e;done)
         |skip
        ·rename_i e1;cases e1;split at h
         ·rename_i h1 h2;cases h;rcases List.mem_append.1 hz with hz|hz
          ·exact iha h1 z hz
          ·exact ihb h2 z hz
         ·cases h
        ·cases h
        ·rename_i e1;cases e1;split at h
         ·rename_i h1 h2 h3;cases h;rcases List.mem_append.1 hz with hz|hz
          ·exact hmA h1 z hz
          ·rcases List.mem_append.1 hz with hz|hz
           ·exact iha h2 z hz
           ·exact ihb h3 z hz
         ·cases h
      have hmC:∀{p v:List RA}{l:Args},mC base p v=some l-> ∀z∈l,base<=z.1:=by
       intro p
       induction p with
       |nil=>intro v l h z hz;cases v<;>simp[mC]at h;subst h;cases hz
       |cons q a iha=>
        intro v l h z hz;cases v with
        |nil=>cases h
        |cons v b=>
         unfold mC at h;split at h
         ·split at h
          ·rename_i h1 h2;cases h;rcases List.mem_append.1 hz with hz|hz
           ·exact hmA h1 z hz
           ·exact iha h2 z hz
          ·cases h
         ·cases h
      have hmK:∀{p:List (RRef×List RA)}{l:Args},mK base rs.K p=some l-> ∀z∈l,base<=z.1:=by
       intro p
       induction p with
       |nil=>intro l h z hz;cases h;cases hz
       |cons q a iha=>
        intro l h z hz;unfold mK at h;split at h
        ·split at h
         ·rename_i h1 h2;cases h;rcases List.mem_append.1 hz with hz|hz
          ·exact hmC h1 z hz
          ·exact iha h2 z hz
         ·cases h
        ·cases h
      rcases List.mem_append.1 hz with hz|hz
      ·exact hb (hmT h1 z hz)
      ·exact hb (hmK h2 z hz)
    ·cases h5
   have hok':=Zdr.1 hok;refine⟨fun t=>?_,fun hal2 t=>?_,fun r c hrc=>?_,?_,fun e he=>?_⟩
   ·rcases Zlc (m:=m) (gen:=s.gen) hag h1 hok'.1 t with e|e
    ·exact .inl e
    ·by_cases hv:rs.tm.get t=.any
     ·
      rcases hd.tm t with _|h3
      ·by_cases hp:p.rs.tm.get t=.any
       ·exact .inl hp
       ·exfalso
        have hmA:∀{p:RA}{l:Args},mA base p .any=some l->p=.any:=by
         intro p l h;unfold mA eqA at h
         repeat' (first|rfl|(cases h;done)|split at h)
         all_goals first
          |rfl
          |(rename_i hb;simp only[Bool.and_eq_true]at hb;exact RA.beq_eq hb.1)
          |(rename_i hb _;simp only[Bool.and_eq_true]at hb;exact RA.beq_eq hb.1)
        have hmT:∀{p v:Tr}{l:Args}(t:Nat),mT base p v=some l->v.get t=.any->p.get t=.any:=by
         intro p
         induction p with
         |nil=>intro v l t _ _;rfl
         |node q a b iha ihb=>
          intro v l t h hv;unfold mT at h
          split at h<;>first
           |(rename_i e _;cases e;done)
           |(rename_i e;cases e;done)
           |skip
          ·rename_i e1;cases e1;split at h
           ·rename_i h1 h2;unfold Tr.get;split
            ·rfl
            ·split
             ·exact iha _ h1 rfl
             ·exact ihb _ h2 rfl
           ·cases h
          ·cases h
          ·rename_i e1;cases e1;split at h
           ·rename_i h1 h2 h3;unfold Tr.get at hv⊢;split at hv
            ·rename_i e;simp only[e,if_true];rw[hv]at h1;exact hmA h1
            ·rename_i e;simp only[e,if_false];split at hv
             ·rename_i e2;simp only[e2,if_true];exact iha _ h2 hv
             ·rename_i e2;simp only[e2,if_false];exact ihb _ h3 hv
           ·cases h
        exact hp (hmT t h1 hv)
      ·right;show s.tm t=_;rw[e,<-h3]
     ·right;show s.tm t=_;rw[e];exact(hd.tm t).resolve_left hv
   ·have hal2:p.rs.al=false:=hal2;rcases hal with h3|h3
    ·rw[hal2]at h3;cases h3
    ·exact Tr.anyAli_get h3 t
   ·obtain⟨c',h3,h4⟩:=Zqw (m:=m) hag h2 hok'.2 r c hrc;rw[h4];exact hd.look h3
   ·have hsub:∀x∈p.rs.K,x.1∈rs.K.map (·.1):=fun x hx=>by
     obtain⟨c',h3,_⟩:=Zqw (m:=m) hag h2 hok'.2 x.1 x.2 hx;exact List.mem_map.2 ⟨_,Zbh h3,rfl⟩
    have e:(p.rs.K.map fun x=>x.1.den m)=(p.rs.K.map (·.1)).map (RRef.den m):=by simp[Function.comp_def]
    show(p.rs.K.map fun x=>x.1.den m).Nodup;rw[e];refine List.pairwise_map.2 (List.Pairwise.imp_of_mem (fun{x y} hx hy hxy e=>hxy ?_) hnd);obtain⟨x',hx',rfl⟩:=List.mem_map.1 hx;obtain⟨y',hy',rfl⟩:=List.mem_map.1 hy;exact Zbo hd.nd (hsub _ hx') (hsub _ hy') e
   ·obtain⟨h3,h4⟩:=hkn e he;rw[E.den_agr (Zcw _ ρ0 base) h3];exact h4
  ·cases h
 ·cases h
theorem Zf4{base:Nat}{rs:RSt}:∀{ps:List Pat}{j j':Nat}{a:List E},Zgr base ps rs j=some (j',a)-> ∃i p,j'=j+i/\ps[i]? =some p/\Zns base p rs=some a
 |p::ps,j,j',a,h=>by
  unfold Zgr at h;split at h
  ·rename_i a' h1;cases h;exact⟨0,p,rfl,rfl,h1⟩
  ·obtain⟨i,q,h1,h2,h3⟩:=Zf4 h;exact⟨i+1,q,by omega,by simpa using h2,h3⟩
theorem Znv:∀{L:List (List Dk)}{p:Invs->Prop},exL L p-> ∃Is:Invs,Is.length=L.length/\(∀(i:Nat)(ks:List Dk),L[i]? =some ks-> ∃(I:CurP ks)(μ:CurN ks),Is[i]? =some (appP ks I,appN ks μ))/\p Is
 |[],p,h=>⟨[],rfl,(fun i ks h=>by cases h),h⟩
 |ks::L,p,⟨I,μ,h⟩=>by
  obtain⟨Is,h1,h2,h3⟩:=Znv h;refine⟨(appP ks I,appN ks μ)::Is,by simp[h1],fun i k hk=>?_,h3⟩;cases i with
  |zero=>simp at hk;subst hk;exact⟨I,μ,rfl⟩
  |succ i=>simpa using h2 i k (by simpa using hk)
theorem Znw(run:RSt->(Re->RSt->T)->T)(base dep:Nat)(ps:List Pat)(K:Re->RSt->T):∀l:List Pat,(Zmg run base dep ps K l).ksL=l.map (·.ks)
 |[]=>rfl
 |p::l=>by simp only[Zmg,T.ksL,List.map_cons,Znw run base dep ps K l]
theorem Zlf{P:Program}{run:RSt->(Re->RSt->T)->T}{base dep:Nat}{ps:List Pat}{K:Re->RSt->T}{Is:Invs}{n:Nat}{ρ:Env}{σ:Sig}:∀{l:List Pat}{j i:Nat}{p:Pat},(Zmg run base dep ps K l).denV P up R j Is n ρ σ->l[i]? =some p->
 allK p.ks n ρ [] fun ρ' vals=>Zb7 Is (j+i) vals->(run {p.rs with dep:=dep+1,nv:=base+p.ks.length} (fun e rs=>match e with
  |.nrm=>(match Zgr base ps rs 0 with
   |some (j,a)=>.again dep j a
   |none=>.bad 61)
  |e=>K e rs)).den P up R ρ' (σ++[fun j' a=>Zb7 Is j' a/\Zdy Is j' a<Zdy Is (j+i) vals])
 |q::l,j,0,p,h,hp=>by
  simp at hp;subst hp;unfold Zmg T.denV at h;exact h.1
 |q::l,j,i+1,p,h,hp=>by
  unfold Zmg T.denV at h;have:=Zlf h.2 (by simpa using hp);rw[show j+(i+1)=j+1+i by omega];exact this
theorem Znx:∀{L:List (List Dk)}{p:Invs->Prop},exC L p-> ∃Is:Invs,Is.length=L.length/\(∀(i:Nat)(ks:List Dk),L[i]? =some ks-> ∃(I:CurP ks),Is[i]? =some (appP ks I,fun _=>0))/\p Is
 |[],p,h=>⟨[],rfl,(fun i ks h=>by cases h),h⟩
 |ks::L,p,⟨I,h⟩=>by
  obtain⟨Is,h1,h2,h3⟩:=Znx h;refine⟨(appP ks I,fun _=>0)::Is,by simp[h1],fun i k hk=>?_,h3⟩;cases i with
  |zero=>simp at hk;subst hk;exact⟨I,rfl⟩
  |succ i=>simpa using h2 i k (by simpa using hk)
theorem Zny(next:RSt->T)(base dep:Nat):∀l:List Pat,(Zmh next base dep l).ksL=l.map (·.ks)
 |[]=>rfl
 |p::l=>by simp only[Zmh,T.ksL,List.map_cons,Zny next base dep l]
theorem Zlg{P:Program}{next:RSt->T}{base dep:Nat}{Is:Invs}{n:Nat}{ρ:Env}{σ:Sig}:∀{l:List Pat}{j i:Nat}{p:Pat},(Zmh next base dep l).denC P up R j Is n ρ σ->l[i]? =some p->
 allK p.ks n ρ [] fun ρ' vals=>Zb7 Is (j+i) vals->(next {p.rs with dep:=dep,nv:=base+p.ks.length}).den P up R ρ' σ
 |q::l,j,0,p,h,hp=>by
  simp at hp;subst hp;unfold Zmh T.denC at h;exact h.1
 |q::l,j,i+1,p,h,hp=>by
  unfold Zmh T.denC at h;have:=Zlg h.2 (by simpa using hp);rw[show j+(i+1)=j+1+i by omega];exact this
theorem Zo5{ρ:Env}{m:Nm}{rs:RSt}{s:St}{c:Cfg}{C:Ctx}(hN:C.N=c.N)(hd:Den ρ m rs s)(u:Nat):∃s',Den ρ m (Zh4 c rs u) s'/\(Zh4 c rs u).nv=rs.nv/\(Zh4 c rs u).dep=rs.dep/\ ∀(code:Code)(Q:Ex->St->Prop),AW C code Q s'->AW C code Q s:=by
 unfold Zh4;split
 ·exact⟨s,hd,rfl,rfl,fun _ _ h=>h⟩
 ·rename_i z es nw _ ht;split
  ·rename_i hlt
   have hu:s.tm u=.own z (es.den ρ).lst (nw.den ρ).lst:=by
    have:=(hd.tm u).resolve_left (by rw[ht];intro e;cases e);rw[ht]at this;exact this
   exact⟨_,hd.reput (y:=.own z ((es.den ρ).lst++(nw.den ρ).lst) []) (by intro e;cases e) (.inr (by simp only[RA.den,Zc4,E.den,Dat.lst_l])),Zai ..,Zae ..,fun code Q h=>Zpm u (by rw[hN];exact hlt) hu h⟩
  ·exact⟨s,hd,rfl,rfl,fun _ _ h=>h⟩
 ·exact⟨s,hd,rfl,rfl,fun _ _ h=>h⟩
theorem Zeu{ρ:Env}{m:Nm}{c:Cfg}{C:Ctx}(hN:C.N=c.N):∀(l:List Nat){rs:RSt}{s:St},Den ρ m rs s-> ∃s',Den ρ m (Zb9 c rs l) s'/\(Zb9 c rs l).nv=rs.nv/\(Zb9 c rs l).dep=rs.dep/\ ∀(code:Code)(Q:Ex->St->Prop),AW C code Q s'->AW C code Q s
 |[],rs,s,hd=>⟨s,hd,rfl,rfl,fun _ _ h=>h⟩
 |u::l,rs,s,hd=>by
  obtain⟨s1,h1,h2,h3,h4⟩:=Zo5 (c:=c) hN hd u;obtain⟨s2,k1,k2,k3,k4⟩:=Zeu (c:=c) hN l h1;exact⟨s2,k1,k2.trans h2,k3.trans h3,fun code Q h=>h4 code Q (k4 code Q h)⟩
theorem Zuf{ρ:Env}{m:Nm}{rs:RSt}{s:St}{c:Cfg}{C:Ctx}(hN:C.N=c.N)(hd:Den ρ m rs s)(u:Nat):∃s',Den ρ m (dat1 c rs u) s'/\(dat1 c rs u).nv=rs.nv/\(dat1 c rs u).dep=rs.dep/\ ∀(code:Code)(Q:Ex->St->Prop),AW C code Q s'->AW C code Q s:=by
 unfold dat1;split
 ·rename_i z es nw ht;split
  ·rename_i hlt
   have hu:s.tm u=.own z (es.den ρ).lst (nw.den ρ).lst:=by
    have:=(hd.tm u).resolve_left (by rw[ht];intro e;cases e);rw[ht]at this;exact this
   exact⟨_,hd.reput (y:=.d (.slc ((es.den ρ).lst++(nw.den ρ).lst))) (by intro e;cases e) (.inr (by simp only[RA.den,E.den,sem1,Zc4,Dat.lst_l,Dat.dd_d])),Zai ..,Zae ..,fun code Q h g a w hR=>by
    obtain⟨g',hR'⟩:=hR.toData (by rw[hN];exact hlt) hu;exact h g' a w hR'⟩
  ·exact⟨s,hd,rfl,rfl,fun _ _ h=>h⟩
 ·rename_i es ht;split
  ·rename_i hlt
   have hu:s.tm u=.zs (es.den ρ).lst:=by
    have:=(hd.tm u).resolve_left (by rw[ht];intro e;cases e);rw[ht]at this;exact this
   exact⟨_,hd.put (y:=.d (.slc (es.den ρ).lst)) (by intro e;cases e) (.inr (by simp only[RA.den,E.den,sem1,Dat.dd_d])),Zai ..,Zae ..,fun code Q h g a w hR=>h g a w (hR.zsData (by rw[hN];exact hlt) hu)⟩
  ·exact⟨s,hd,rfl,rfl,fun _ _ h=>h⟩
 ·exact⟨s,hd,rfl,rfl,fun _ _ h=>h⟩
theorem Zjt{ρ:Env}{m:Nm}{c:Cfg}{C:Ctx}(hN:C.N=c.N):∀(l:List Nat){rs:RSt}{s:St},Den ρ m rs s-> ∃s',Den ρ m (datL c rs l) s'/\(datL c rs l).nv=rs.nv/\(datL c rs l).dep=rs.dep/\ ∀(code:Code)(Q:Ex->St->Prop),AW C code Q s'->AW C code Q s
 |[],rs,s,hd=>⟨s,hd,rfl,rfl,fun _ _ h=>h⟩
 |u::l,rs,s,hd=>by
  obtain⟨s1,h1,h2,h3,h4⟩:=Zuf (c:=c) hN hd u;obtain⟨s2,k1,k2,k3,k4⟩:=Zjt (c:=c) hN l h1;exact⟨s2,k1,k2.trans h2,k3.trans h3,fun code Q h=>h4 code Q (k4 code Q h)⟩
theorem Zb2{c:Cfg}{op:Opt}{C:Ctx}(hP:C.P=c.P)(hN:C.N=c.N)(hmx:c.P.follows .mixedOrders=true):∀(code:Code){Q:Ex->St->Prop}{K:Re->RSt->T}{n0:Nat}{ρ0 ρ:Env}{σ0 σ:Sig}{m:Nm}{rs:RSt}{s:St},
 Zge c.P up R n0 ρ0 σ0 Q K->Agr n0 ρ0 ρ->n0<=rs.nv->m.up=up->σ0<+:σ->rs.dep=σ.length->Den ρ m rs s->(Zb1 c op code rs K).den c.P up R ρ σ->AW C code Q s
 |.skip,_,_,_,_,ρ,_,σ,m,rs,s,hK,ha,hnv,hu,hσ,hdep,hd,h=>Zte (hK .nrm ρ m rs s σ ha hnv hu hσ hdep hd h)
 |.label _,_,_,_,_,ρ,_,σ,m,rs,s,hK,ha,hnv,hu,hσ,hdep,hd,h=>Zrn (hK .nrm ρ m rs s σ ha hnv hu hσ hdep hd h)
 |.ret,_,_,_,_,ρ,_,σ,m,rs,s,hK,ha,hnv,hu,hσ,hdep,hd,h=>by
  unfold Zb1 at h;obtain⟨s',h1,h2,h3,h4⟩:=Zeu (c:=c) hN c.live hd;exact h4 _ _ (Zu1 (hK .ret ρ m _ s' σ ha (by rw[h2];exact hnv) hu hσ (by rw[h3];exact hdep) h1 h))
 |.exit id,_,_,_,_,ρ,_,σ,m,rs,s,hK,ha,hnv,hu,hσ,hdep,hd,h=>Ztf (hK (.exit id) ρ m rs s σ ha hnv hu hσ hdep hd h)
 |.seq x y,Q,K,n0,ρ0,ρ,σ0,σ,m,rs,s,hK,ha,hnv,hu,hσ,hdep,hd,h=>by
  unfold Zb1 at h;split at h
  ·unfold cutT at h;simp only at h;generalize(Zd0 c rs.nv (rs.known.filter (E.lt rs.nv)) (Zb1 c op x {rs with dep:=rs.dep+1} (fun e rs=>match e with|.nrm=>T.leaf rs|_=>.vnil)).leaves (Zd0 c rs.nv (rs.known.filter (E.lt rs.nv)) (Zb1 c op x {rs with dep:=rs.dep+1} (fun e rs=>match e with|.nrm=>T.leaf rs|_=>.vnil)).leaves [] false).1 false).1=ps at h
   split at h
   ·rename_i hkn
    have hkn':∀p∈ps,∀e∈p.rs.known,e.lt rs.nv=true/\(e.den ρ).bool=true:=fun p hp e he=>by
     have h1:=List.all_eq_true.1 (List.all_eq_true.1 hkn p hp) e he;simp only[Bool.and_eq_true]at h1;exact⟨h1.1,Zdp hd.known h1.2⟩
    unfold T.den at h;rw[Zny]at h;obtain⟨Is,hlen,hIs,hbody,hden⟩:=Znx h;refine Zu2 (Σ' s':St,∃(i:Nat)(p:Pat)(m':Nm)(l:List Dat),ps[i]? =some p/\m'.up=up/\Zb7 Is i (Zbd p.ks l)/\Den (Zde ρ rs.nv (Zbd p.ks l)) m' {p.rs with nv:=rs.nv+p.ks.length,dep:=rs.dep} s') (fun x=>x.1) (fun _=>True) ?_ ?_
    ·refine Zb2 hP hN hmx x (n0:=rs.nv) (ρ0:=ρ) (σ0:=σ++[fun j a=>Zb7 Is j a]) (rs:={rs with dep:=rs.dep+1}) (fun e ρ2 m2 rs2 s2 σ2 k1 k2 k3 k4 k5 k6 k7=>?_) (Agr.refl _ _) (Nat.le_refl _) hu (List.prefix_rfl) (by simp[hdep]) (⟨hd.tm,hd.al,hd.K,hd.nd,hd.known⟩:Den ρ m {rs with dep:=rs.dep+1} s) hbody;have hσ2:σ0<+:σ2:=hσ.trans ((List.prefix_append _ _).trans k4);cases e with
     |nrm=>
      simp only at k7;split at k7
      ·rename_i j2 a2 hj2;obtain⟨i2,p2,hj2',hp2,hm2⟩:=Zf4 hj2;have:j2=i2:=by omega
       subst this;unfold T.den at k7
       have hlook:σ2[rs.dep]? =some (fun j a=>Zb7 Is j a):=by
        obtain⟨t,ht⟩:=k4;rw[<-ht,hdep];simp
       rw[hlook]at k7
       have hinv:Zb7 Is j2 (Zbd p2.ks (a2.map fun e=>e.den ρ2)):=by
        obtain⟨I,h1⟩:=hIs j2 p2.ks (by rw[List.getElem?_map,hp2];rfl);have k7:Zb7 Is j2 (a2.map fun e=>e.den ρ2):=k7;simp only[Zb7,h1]at k7⊢;rw[Zf2];exact k7
       exact⟨⟨s2,j2,p2,m2,_,hp2,k3,hinv,Zh8 hm2 k1 k6 (hkn' p2 (List.mem_of_getElem? hp2))⟩,trivial,Weaker.refl s2⟩
      ·unfold T.den at k7;exact k7.elim
     |exit id=>exact hK (.exit id) ρ2 m2 rs2 s2 σ2 (ha.trans k1 hnv) (Nat.le_trans hnv k2) k3 hσ2 k5 k6 k7
     |ret=>exact hK .ret ρ2 m2 rs2 s2 σ2 (ha.trans k1 hnv) (Nat.le_trans hnv k2) k3 hσ2 k5 k6 k7
     |pan v=>exact hK (.pan v) ρ2 m2 rs2 s2 σ2 (ha.trans k1 hnv) (Nat.le_trans hnv k2) k3 hσ2 k5 k6 k7
    ·rintro⟨s1,i1,p,m',l,hp,hu',hI,hden'⟩ _;have h5:=Zf3 (l:=l) (Zlg hden hp);simp only[List.nil_append,Nat.zero_add]at h5;exact Zb2 hP hN hmx y (rs:={p.rs with nv:=rs.nv+p.ks.length,dep:=rs.dep}) hK (ha.trans (Zcw _ ρ rs.nv) hnv) (Nat.le_trans hnv (Nat.le_add_right _ _)) hu' hσ hdep hden' (h5 hI)
   ·unfold T.den at h;exact h.elim
  ·refine Zss (Zb2 hP hN hmx x (Q:=Ex.then (AW C y Q) Q) (fun e ρ m rs s σ h1 h2 h3 h4 h5 h6 h7=>?_) ha hnv hu hσ hdep hd h)
   cases e with
   |nrm=>exact Zb2 hP hN hmx y hK h1 h2 h3 h4 h5 h6 h7
   |exit id=>exact hK (.exit id) ρ m rs s σ h1 h2 h3 h4 h5 h6 h7
   |ret=>exact hK .ret ρ m rs s σ h1 h2 h3 h4 h5 h6 h7
   |pan v=>exact hK (.pan v) ρ m rs s σ h1 h2 h3 h4 h5 h6 h7
 |.cond q x y,Q,K,n0,ρ0,ρ,σ0,σ,m,rs,s,hK,ha,hnv,hu,hσ,hdep,hd,h=>by
  unfold Zb1 at h;split at h
  ·rename_i e he
   have hev:s.ev q=.d (.lit (.bool (e.den ρ).bool)):=by
    have:=Zbc hd (x:=q) (by rw[he];intro e;cases e);rw[he]at this;exact this
   refine Ztg hev (fun hb=>?_) (fun hb=>?_)
   ·split at h
    ·exact Zb2 hP hN hmx x hK ha hnv hu hσ hdep hd h
    ·split at h
     ·rename_i hF;rw[Znf hF]at hb;cases hb
     ·unfold T.den at h;exact Zb2 hP hN hmx x hK ha (by rw[(Zaj rs e true).1];exact hnv) hu hσ (by rw[(Zaj rs e true).2];exact hdep) (hd.assume hb) (h.1 hb)
   ·split at h
    ·rename_i hT;rw[Zgq hT]at hb;cases hb
    ·split at h
     ·exact Zb2 hP hN hmx y hK ha hnv hu hσ hdep hd h
     ·unfold T.den at h;exact Zb2 hP hN hmx y hK ha (by rw[(Zaj rs e false).1];exact hnv) hu hσ (by rw[(Zaj rs e false).2];exact hdep) (hd.assume hb) (h.2 hb)
  ·unfold T.den at h;exact h.elim
 |.block id x,Q,K,n0,ρ0,ρ,σ0,σ,m,rs,s,hK,ha,hnv,hu,hσ,hdep,hd,h=>by
  refine Zro (Zb2 hP hN hmx x (Q:=Ex.inBlock id Q) (fun e ρ m rs s σ h1 h2 h3 h4 h5 h6 h7=>?_) ha hnv hu hσ hdep hd h);cases e with
  |nrm=>exact hK .nrm ρ m rs s σ h1 h2 h3 h4 h5 h6 h7
  |exit id'=>
   simp only[Re.conv,Ex.inBlock]
   simp only at h7;split
   ·rename_i e;rw[if_pos e]at h7;exact hK .nrm ρ m rs s σ h1 h2 h3 h4 h5 h6 h7
   ·rename_i e;rw[if_neg e]at h7;exact hK (.exit id') ρ m rs s σ h1 h2 h3 h4 h5 h6 h7
  |ret=>exact hK .ret ρ m rs s σ h1 h2 h3 h4 h5 h6 h7
  |pan v=>exact hK (.pan v) ρ m rs s σ h1 h2 h3 h4 h5 h6 h7
 |.region id ops false,Q,K,n0,ρ0,ρ,σ0,σ,m,rs,s,hK,ha,hnv,hu,hσ,hdep,hd,h=>by
  unfold Zb1 at h
  have hK':Zge c.P up R n0 ρ0 σ0 Q (Zmi c K):=fun e ρ m rs s σ h1 h2 h3 h4 h5 h6 h7=>by
   cases e with
   |nrm=>exact hK .nrm ρ m (rs.keep c.live c.N) s σ h1 h2 h3 h4 h5 (h6.keep c.live c.N) h7
   |exit id=>exact hK (.exit id) ρ m rs s σ h1 h2 h3 h4 h5 h6 h7
   |ret=>exact hK .ret ρ m rs s σ h1 h2 h3 h4 h5 h6 h7
   |pan v=>exact hK (.pan v) ρ m rs s σ h1 h2 h3 h4 h5 h6 h7
  split at h
  ·split at h
   ·rename_i l rs' hr;obtain⟨kn,h1,h2,h3⟩:=Za0 hd.known h;exact Zkh (Zsd hP hN hd hr (h2 rfl) fun m' s' u1 u2 u3 hd'=>hK' .nrm ρ m' _ s' σ ha (by show n0<=rs'.nv;rw[u2];exact hnv) (u1.trans hu) hσ (by show rs'.dep=_;rw[u3];exact hdep) (hd'.knew h1) h3)
   ·unfold T.den at h;exact h.elim
  obtain⟨sd,e1,e2,e3,e4⟩:=Zjt (c:=c) hN op.dat hd;generalize datL c rs op.dat=rs at*
  replace hnv:n0<=rs.nv:=by rw[e2];exact hnv
  replace hdep:rs.dep=σ.length:=by rw[e3];exact hdep
  obtain⟨s0,f1,f2,f3,f4⟩:=Zmf (C:=C) id op.com e1;obtain⟨s',g1,g2,g3,g4⟩:=Zeu (c:=c) hN (c.live.filter fun u=>Zua (comL id op.com rs) u&&Zqr ops.toList u) f1;refine e4 _ _ (f4 _ _ (g4 _ _ (Zkh ?_)));have:=Zni hP hN (l:=ops.toList) (k:=0) (fun j=>by simp) hK' ha (by show n0<=(Zb9 c (comL id op.com rs) _).nv;rw[g2,f2];exact hnv) hu hσ (by show(Zb9 c (comL id op.com rs) _).dep=_;rw[g3,f3];exact hdep) g1 h;rw[List.range_eq_range'];simpa using this
 |.region _ ops true,Q,K,n0,ρ0,ρ,σ0,σ,m,rs,s,hK,ha,hnv,hu,hσ,hdep,hd,h=>by
  unfold Zb1 at h;simp only at h
  have hK':Zge c.P up R n0 ρ0 σ0 Q (Zmi c K):=fun e ρ m rs s σ h1 h2 h3 h4 h5 h6 h7=>by
   cases e with
   |nrm=>exact hK .nrm ρ m (rs.keep c.live c.N) s σ h1 h2 h3 h4 h5 (h6.keep c.live c.N) h7
   |exit id=>exact hK (.exit id) ρ m rs s σ h1 h2 h3 h4 h5 h6 h7
   |ret=>exact hK .ret ρ m rs s σ h1 h2 h3 h4 h5 h6 h7
   |pan v=>exact hK (.pan v) ρ m rs s σ h1 h2 h3 h4 h5 h6 h7
  obtain⟨sd,e1,e2,e3,e4⟩:=Zjt (c:=c) hN op.dat hd;generalize datL c rs op.dat=rs at*
  replace hnv:n0<=rs.nv:=by rw[e2];exact hnv
  replace hdep:rs.dep=σ.length:=by rw[e3];exact hdep
  obtain⟨s',g1,g2,g3,g4⟩:=Zeu (c:=c) hN (c.live.filter fun u=>Zua rs u&&Zqr ops.toList u) e1;refine e4 _ _ ?_;split at h
  ·split at h
   ·rename_i hok;split at h
    ·exact g4 _ _ (Zjr hP hN (by rw[hP];exact hmx) hok hK' hu hσ _ (fun p hp=>by cases hp) ha (by show n0<=(Zb9 c rs _).nv;rw[g2];exact hnv) (by show(Zb9 c rs _).dep=_;rw[g3];exact hdep) g1 h)
    ·exact g4 _ _ (Zvk hP hN (by rw[hP];exact hmx) hok hK' ha (by show n0<=(Zb9 c rs _).nv;rw[g2];exact hnv) hu hσ (by show(Zb9 c rs _).dep=_;rw[g3];exact hdep) g1 h)
   ·unfold T.den at h;exact h.elim
  split at h
  ·rename_i hok
   have hm0:Zt1 (clOf ops) ops.size<=ops.size:=by
    have:=hok;simp only[Znj,Bool.and_eq_true,Nat.ble_eq]at this;exact this.1.1.1.1
   refine g4 _ _ (Zv1 (by rw[hP];exact hmx) hok (Zqu hm0 hP hN (fun j hj=>by simp at hj;simp[hj]) (by simp;omega) hK' ha (by show n0<=(Zb9 c rs _).nv;rw[g2];exact hnv) hu hσ (by show(Zb9 c rs _).dep=_;rw[g3];exact hdep) g1 h))
  ·unfold T.den at h;exact h.elim
 |.loop b,Q,K,n0,ρ0,ρ,σ0,σ,m,rs,s,hK,ha,hnv,hu,hσ,hdep,hd,h=>by
  unfold Zb1 at h;obtain⟨sd,e1,e2,e3,e4⟩:=Zjt (c:=c) hN op.dat hd;refine e4 _ _ ?_;revert h
  replace hnv:n0<=(datL c rs op.dat).nv:=by rw[e2];exact hnv
  replace hdep:(datL c rs op.dat).dep=σ.length:=by rw[e3];exact hdep
  clear e2 e3 e4 hd;revert e1 hnv hdep;generalize datL c rs op.dat=rs;generalize sd=s;intro hd hnv hdep h;unfold Zvi at h;simp only at h;generalize Zqq c (Zb1 c op b) rs.nv rs.dep (rs.known.filter (E.lt rs.nv)) 6 [Zsh c rs.nv (rs.known.filter (E.lt rs.nv)) rs.tm rs.K]=ps at h;split at h
  ·rename_i j a hj;split at h
   ·rename_i hkn
    have hkn':∀p∈ps,∀e∈p.rs.known,e.lt rs.nv=true/\(e.den ρ).bool=true:=fun p hp e he=>by
     have h1:=List.all_eq_true.1 (List.all_eq_true.1 hkn p hp) e he;simp only[Bool.and_eq_true]at h1;exact⟨h1.1,Zdp hd.known h1.2⟩
    unfold T.den at h;rw[Znw]at h;obtain⟨Is,hlen,hIs,hinv,hden⟩:=Znv h;obtain⟨i0,p0,hj0,hp0,hm0⟩:=Zf4 hj
    have norm:∀{i:Nat}{p:Pat}(l:List Dat),ps[i]? =some p->(Zb7 Is i (Zbd p.ks l)↔Zb7 Is i l)/\Zdy Is i (Zbd p.ks l)=Zdy Is i l:=fun{i p} l hp=>by
     obtain⟨I,μ,h1⟩:=hIs i p.ks (by rw[List.getElem?_map,hp];rfl);simp only[Zb7,Zdy,h1];exact⟨by rw[Zf2],Zh7 p.ks μ l⟩
    refine Zth (X:=St×(Nat×List Dat)) (fun x=>x.1) (fun x=>Zdy Is x.2.1 x.2.2)
     (fun x=>∃(p:Pat)(m':Nm),ps[x.2.1]? =some p/\m'.up=up/\x.2.2=Zbd p.ks x.2.2/\Zb7 Is x.2.1 x.2.2/\Den (Zde ρ rs.nv x.2.2) m' {p.rs with nv:=rs.nv+p.ks.length,dep:=rs.dep+1} x.1)
     (s,(i0,Zbd p0.ks (a.map fun e=>e.den ρ))) ⟨p0,m,hp0,hu,?_,?_,?_⟩ (Weaker.refl s) ?_
    ·have:∀(ks:List Dk)(l:List Dat),Zbd ks l=Zbd ks (Zbd ks l):=by
      intro ks
      induction ks with
      |nil=>intro l;rfl
      |cons k ks ih=>intro l;cases l with
       |nil=>simp only[Zbd,Zld];rw[<-ih]
       |cons x l=>simp only[Zbd,Zld];rw[<-ih]
     exact this _ _
    ·have:j=i0:=by omega
     subst this;exact((norm _ hp0).1).2 hinv
    ·exact Zh8 hm0 (Agr.refl _ _) hd (hkn' p0 (List.mem_of_getElem? hp0))
    ·rintro⟨s1,i1,vals⟩ ⟨p,m',hp,hu',hnorm,hI,hden'⟩;have h5:=Zf3 (l:=vals) (Zlf hden hp);rw[<-hnorm]at h5;simp only[List.nil_append,Nat.zero_add]at h5;have h6:=h5 hI
     refine Zb2 hP hN hmx b (Q:=Ex.then (fun s'=>∃x':St×(Nat×List Dat),(∃(p:Pat)(m':Nm),ps[x'.2.1]? =some p/\m'.up=up/\x'.2.2=Zbd p.ks x'.2.2/\Zb7 Is x'.2.1 x'.2.2/\Den (Zde ρ rs.nv x'.2.2) m' {p.rs with nv:=rs.nv+p.ks.length,dep:=rs.dep+1} x'.1)/\Weaker x'.1 s'/\Zdy Is x'.2.1 x'.2.2<Zdy Is i1 vals) Q)
      (n0:=rs.nv) (ρ0:=ρ) (σ0:=σ++[fun j' a=>Zb7 Is j' a/\Zdy Is j' a<Zdy Is i1 vals]) (fun e ρ2 m2 rs2 s2 σ2 k1 k2 k3 k4 k5 k6 k7=>?_) (Zcw _ _ _) (Nat.le_add_right _ _) hu' (List.prefix_rfl) (by simp[hdep]) hden' h6
     have hσ2:σ0<+:σ2:=hσ.trans ((List.prefix_append _ _).trans k4);cases e with
     |nrm=>
      simp only at k7;split at k7
      ·rename_i j2 a2 hj2;obtain⟨i2,p2,hj2',hp2,hm2⟩:=Zf4 hj2;have:j2=i2:=by omega
       subst this;unfold T.den at k7
       have hlook:σ2[rs.dep]? =some (fun j' a=>Zb7 Is j' a/\Zdy Is j' a<Zdy Is i1 vals):=by
        obtain⟨t,ht⟩:=k4;rw[<-ht,hdep];simp
       rw[hlook]at k7;obtain⟨k8,k9⟩:=k7;refine⟨(s2,(j2,Zbd p2.ks (a2.map fun e=>e.den ρ2))),⟨p2,m2,hp2,k3,?_,((norm _ hp2).1).2 k8,Zh8 hm2 k1 k6 (hkn' p2 (List.mem_of_getElem? hp2))⟩,Weaker.refl s2,?_⟩
       ·have:∀(ks:List Dk)(l:List Dat),Zbd ks l=Zbd ks (Zbd ks l):=by
         intro ks
         induction ks with
         |nil=>intro l;rfl
         |cons k ks ih=>intro l;cases l with
          |nil=>simp only[Zbd,Zld];rw[<-ih]
          |cons x l=>simp only[Zbd,Zld];rw[<-ih]
        exact this _ _
       ·show Zdy Is j2 (Zbd p2.ks _)<_;rw[(norm _ hp2).2];exact k9
      ·unfold T.den at k7;exact k7.elim
     |exit id=>exact hK (.exit id) ρ2 m2 rs2 s2 σ2 (ha.trans k1 hnv) (Nat.le_trans hnv k2) k3 hσ2 k5 k6 k7
     |ret=>exact hK .ret ρ2 m2 rs2 s2 σ2 (ha.trans k1 hnv) (Nat.le_trans hnv k2) k3 hσ2 k5 k6 k7
     |pan v=>exact hK (.pan v) ρ2 m2 rs2 s2 σ2 (ha.trans k1 hnv) (Nat.le_trans hnv k2) k3 hσ2 k5 k6 k7
   ·unfold T.den at h;exact h.elim
  ·unfold T.den at h;exact h.elim
 |.rangeFunc _ _ _ _,_,_,_,_,_,_,_,_,_,_,_,_,_,_,_,_,_,h=>by unfold Zb1 T.den at h;exact h.elim
 |.scope _,_,_,_,_,_,_,_,_,_,_,_,_,_,_,_,_,_,h=>by unfold Zb1 T.den at h;exact h.elim
 |.goto _,_,_,_,_,_,_,_,_,_,_,_,_,_,_,_,_,_,h=>by unfold Zb1 T.den at h;exact h.elim
 |.refuse _,_,_,_,_,_,_,_,_,_,_,_,_,_,_,_,_,_,h=>by unfold Zb1 T.den at h;exact h.elim
end
end Go.Rf
end
section
namespace Go.Rf
open Go.Ab
def RA.noOwn:RA->Bool
 |.ptr (.own _) _=>false
 |.fn _ l=>l.all fun r=>match r with|.up _=>true|.own _=>false
 |.als _|.opt _ _ _ _|.gv _ _=>false
 |_=>true
theorem Zej{x:RA}(h:x.noOwn=true){ρ:Env}{m:Nm}{gen:Nat->Nat}:x.den ρ m gen=x.den ρ ⟨m.up,gen0⟩ gen0/\Zar (x.den ρ m gen)=true:=by
 cases x with
 |ptr r o=>cases r with
  |own t=>cases h
  |up n=>exact⟨rfl,rfl⟩
 |fn f l=>
  have key:∀r∈l,r.den m=r.den ⟨m.up,gen0⟩/\ ∃q,r.den m=.up q:=fun r hr=>by
   have:=List.all_eq_true.1 h r hr;cases r with
   |own t=>cases this
   |up n=>exact⟨rfl,_,rfl⟩
  refine⟨by simp only[RA.den];congr 1;exact List.map_congr_left fun r hr=>(key r hr).1,?_⟩;simp only[RA.den,Zar,List.all_eq_true,List.mem_map];rintro r ⟨q,hq,rfl⟩;obtain⟨u,hu⟩:=(key q hq).2;rw[hu]
 |als t=>cases h
 |opt t sz i j=>cases h
 |gv g v=>cases h
 |_=>exact⟨rfl,rfl⟩
def Zh9:List RA->Option (List E×Nat×E×E×E×List E)
 |[]=>none
 |a::l=>(match a with
  |.own sz es (.o2 .lcons z q)=>(Zee l).map fun p=>([],sz,es,z,q,p)
  |.c x=>(match Zh9 l with|some (p,r)=>some (x::p,r)|none=>none)
  |.zs es=>(match Zh9 l with|some (p,r)=>some (.o1 .cl es::p,r)|none=>none)
  |_=>none)
def Zvl(c:Cfg)(rs:RSt)(t:Nat)(ty:TypeId):Option (List E×RA):=
 match szOf c.P ty,rs.tm.get t with
 |some (n,true),.ptr (.own b) off=>(match Zb3 rs.K (.own b)with
  |some cs=>(match Zh9 ((cs.drop off).take n)with
   |some (pre,sz,es,z,q,post)=>if pre.length+1+post.length=n then some ([],.ags pre sz es (.o2 .lcons z q) post)else none
   |none=>none)
  |none=>none)
 |_,_=>none
theorem Zia{ρ:Env}{m:Nm}:∀{l:List RA}{pre post:List E}{sz:Nat}{es z q:E},Zh9 l=some (pre,sz,es,z,q,post)->
 Zb0 (kDen ρ m l)=some (pre.map fun e=>(e.den ρ).dd,sz,(es.den ρ).lst,(z.den ρ).row::(q.den ρ).lst,post.map fun e=>(e.den ρ).dd)/\Zbl (kDen ρ m l)=none
 |[],_,_,_,_,_,_,h=>by cases h
 |a::l,pre,post,sz,es,z,q,h=>by
  unfold Zh9 at h;split at h
  ·rename_i sz' es' z' q';rw[Option.map_eq_some_iff]at h;obtain⟨p,h1,h2⟩:=h;cases h2;have:=Zfr (ρ:=ρ) (m:=m) h1;refine⟨?_,?_⟩
   ·show Zb0 (A.own sz (es.den ρ).lst ((z.den ρ).row::(q.den ρ).lst)::kDen ρ m l)=_;simp only[Zb0,this,Option.map_some,List.map_nil]
   ·show Zbl (A.own sz (es.den ρ).lst ((z.den ρ).row::(q.den ρ).lst)::kDen ρ m l)=none;simp[Zbl,Zg5]
  ·rename_i x;split at h
   ·rename_i p r h1;cases h;obtain⟨k1,k2⟩:=Zia (ρ:=ρ) (m:=m) h1;refine⟨?_,?_⟩
    ·show Zb0 (A.d (x.den ρ).dd::kDen ρ m l)=_;simp only[Zb0,Zg5,k1,List.map_cons]
    ·show Zbl (A.d (x.den ρ).dd::kDen ρ m l)=none;simp[Zbl,Zg5,k2]
   ·cases h
  ·rename_i x;split at h
   ·rename_i p r h1;cases h;obtain⟨k1,k2⟩:=Zia (ρ:=ρ) (m:=m) h1;refine⟨?_,?_⟩
    ·show Zb0 (A.zs (x.den ρ).lst::kDen ρ m l)=_;simp only[Zb0,Zg5,k1,List.map_cons,E.den,sem1,Dat.dd]
    ·show Zbl (A.zs (x.den ρ).lst::kDen ρ m l)=none;simp[Zbl,Zg5,k2]
   ·cases h
  ·cases h
def res1(c:Cfg)(rs:RSt):ResultVar->Option (List E×RA)
 |.tmp t=>(match rs.tm.get t with
  |.own sz es nw=>some ([],.own sz es nw)
  |r=>(match rval rs r with|some v=>some ([],v)|none=>none))
 |.cell t ty=>(match Zow c.P ty rs (rs.tm.get t)with
  |some x=>some x
  |none=>Zvl c rs t ty)
def tup1:RA->Option (Bool×E)
 |.c x=>some (false,x)
 |.agg e=>some (true,e)
 |.zs es=>some (false,.o1 .cl es)
 |.own _ es .lnil=>some (false,.o1 .cl es)
 |_=>none
def resN(c:Cfg)(rs:RSt):List ResultVar->Option (List E×List (Bool×E))
 |[]=>some ([],[])
 |r::l=>match res1 c rs r,resN c rs l with
  |some (n,v),some (n',vs)=>(match tup1 v with|some x=>some (n++n',x::vs)|none=>none)
  |_,_=>none
def resT(c:Cfg)(rs:RSt)(l:List ResultVar):Option (List E×RA):=
 match l with
 |[r]=>res1 c rs r
 |l=>(match resN c rs l with|some (n,vs)=>some (n,.tup vs)|none=>none)
def finT(c:Cfg)(rl:List ResultVar)(names:List RRef):Re->RSt->T:=fun e rs=>
 match Zb8 rs.K names with
 |some K=>if K.all (fun x=>x.2.all RA.noOwn)then(match e with
  |.nrm|.ret=>(match resT c rs rl with
   |some (n,v)=>asks (.bool true) n rs (fun _=>if v.noOwn then .ret v K else .bad 80)
   |none=>.bad 81)
  |.pan v=>.pan v K
  |.exit _=>.bad 82)else .bad 83
 |none=>.bad 84
def Zca:Tr->Nat->List RA->Tr
 |t,_,[]=>t
 |t,k,x::l=>Zca (t.set k x) (k+1) l
def Zgh(depth:Nat)(args:List RA)(K:List (RRef×List RA))(nv:Nat):RSt:={tm:=Zca (Tr.full depth) 0 args,K:=K,nv:=nv,dep:=0,known:=[],al:=false}
theorem Zf5:∀(n k:Nat),(Tr.full n).get k=.any
 |0,_=>rfl
 |n+1,k=>by
  unfold Tr.full Tr.get;split
  ·rfl
  ·split<;>exact Zf5 n _
theorem Zd1:∀(l:List RA)(t:Tr)(k j:Nat),(Zca t k l).get j=.any\/(j<k/\(Zca t k l).get j=t.get j)\/(k<=j/\l[j-k]? =some ((Zca t k l).get j))\/(k+l.length<=j/\(Zca t k l).get j=t.get j)
 |[],t,k,j=>by
  by_cases h:j<k
  ·exact .inr (.inl ⟨h,rfl⟩)
  ·exact .inr (.inr (.inr ⟨by simpa using h,rfl⟩))
 |x::l,t,k,j=>by
  rcases Zd1 l (t.set k x) (k+1) j with h|⟨h1,h2⟩|⟨h1,h2⟩|⟨h1,h2⟩
  ·exact .inl h
  ·by_cases e:j=k
   ·subst e;rcases Tr.get_set x t j with h3|h3
    ·right;right;left;refine⟨Nat.le_refl _,?_⟩;show(x::l)[j-j]? =some ((Zca (t.set j x) (j+1) l).get j);rw[h2,h3];simp
    ·left;show(Zca (t.set j x) (j+1) l).get j=.any;rw[h2,h3]
   ·right;left;refine⟨by omega,?_⟩;show(Zca (t.set k x) (k+1) l).get j=t.get j;rw[h2,Tr.get_set_ne x t e]
  ·right;right;left;refine⟨by omega,?_⟩;have:j-k=(j-(k+1))+1:=by omega
   rw[this,List.getElem?_cons_succ];exact h2
  ·right;right;right;refine⟨by simp;omega,?_⟩;show(Zca (t.set k x) (k+1) l).get j=t.get j;rw[h2,Tr.get_set_ne x t (by omega)]
section
variable {ρ:Env} {m:Nm} {rs:RSt} {s:St} {R:Out->List (Ref×List A)->Prop}
theorem Zqx{c:Cfg}(hd:Den ρ m rs s){r:ResultVar}{n:List E}{v:RA}(h:res1 c rs r=some (n,v))(hn:Nds ρ n):Zcn c.P s r=some (v.den ρ m s.gen):=by
 cases r with
 |tmp t=>
  simp only[res1]at h;split at h
  ·rename_i sz es nw ht;cases h;have:=(hd.tm t).resolve_left (by rw[ht];intro e;cases e);rw[ht]at this;simp only[Zcn,this,RA.den]
  ·rename_i hne;split at h
   ·rename_i v' hv;cases h;have hany:rs.tm.get t≠ .any:=by intro e;rw[e]at hv;simp[rval]at hv
    have he:=(hd.tm t).resolve_left hany;have he':s.ev (.tmp t)=(rs.tm.get t).den ρ m s.gen:=he;have h1:=(Zit hd he' hv).1
    show(match s.tm t with
     |.own sz es nw=>some (A.own sz es nw)
     |_=>s.val (.tmp t))=_
    split
    ·rename_i sz es nw ht;exfalso;rw[ht]at he;generalize rs.tm.get t=q at*;cases q with
     |own a b e=>exact hne _ _ _ rfl
     |gv g v=>simp[rval]at hv
     |_=>cases he
    ·exact h1
   ·cases h
 |cell t ty=>
  simp only[res1]at h;split at h
  ·rename_i x hx;cases h;have hany:rs.tm.get t≠ .any:=by intro e;rw[e]at hx;unfold Zow at hx;split at hx<;>simp at hx
   have he:=(hd.tm t).resolve_left hany;have:=Zp3 (x:=.tmp t) hd (r:=rs.tm.get t) he hx hn;show(match Zcm c.P s ty (s.tm t)with|some y=>some y|none=>Ze6 c.P s ty (s.tm t))=_
   have e1:Zcm c.P s ty (s.tm t)=_:=this.1;rw[e1]
  ·unfold Zvl at h;split at h
   ·rename_i k b off hsz hp;split at h
    ·rename_i cs hcs;split at h
     ·rename_i pre sz es z q post hs;split at h
      ·rename_i hlen;cases h
       have he:s.tm t=.ptr (.own b (m.ν b)) off:=by
        have:=(hd.tm t).resolve_left (by rw[hp];intro e;cases e);rw[hp]at this;exact this
       have hK:s.K (.own b (m.ν b))=some (kDen ρ m cs):=hd.look hcs;obtain⟨k1,k2⟩:=Zia (ρ:=ρ) (m:=m) hs;have e2:((kDen ρ m cs).drop off).take k=kDen ρ m ((cs.drop off).take k):=by simp[kDen,List.map_take,List.map_drop]
       show(match Zcm c.P s ty (s.tm t)with|some y=>some y|none=>Ze6 c.P s ty (s.tm t))=_
       have e3:Zcm c.P s ty (s.tm t)=none:=by unfold Zcm;simp only[hsz,he,hK,e2,k2]
       have e4:Ze6 c.P s ty (s.tm t)=some (.ags (pre.map fun e=>(e.den ρ).dd) sz (es.den ρ).lst ((z.den ρ).row::(q.den ρ).lst) (post.map fun e=>(e.den ρ).dd)):=by
        unfold Ze6;simp only[hsz,he,hK,e2,k1,List.length_map];rw[if_pos hlen]
       rw[e3,e4];rfl
      ·cases h
     ·cases h
    ·cases h
   ·cases h
theorem Zug{v:RA}{x:Bool×E}{gen:Nat->Nat}(h:tup1 v=some x):Zfl (v.den ρ m gen)=some (Zc2 ρ x):=by
 unfold tup1 at h;split at h<;>cases h<;>rfl
theorem Zqy{c:Cfg}(hd:Den ρ m rs s):∀{l:List ResultVar}{n:List E}{vs:List (Bool×E)},resN c rs l=some (n,vs)->Nds ρ n->((l.mapM (Zcn c.P s)).bind fun vs=>vs.mapM Zfl)=some (vs.map (Zc2 ρ))
 |[],_,_,h,_=>by cases h;rfl
 |r::l,n,vs,h,hn=>by
  unfold resN at h;split at h
  ·rename_i a v b vs' h1 h2;split at h
   ·rename_i x hx;cases h;have h3:=Zaw.1 hn;have h4:=Zqx hd h1 h3.1;have h5:=Zqy hd h2 h3.2;rw[Option.bind_eq_some_iff]at h5;obtain⟨as,h6,h7⟩:=h5;simp only[List.mapM_cons,h4,h6,bind,Option.bind_some,pure,Zug hx,h7,List.map_cons]
   ·cases h
  ·cases h
theorem Zuh{c:Cfg}(hd:Den ρ m rs s){l:List ResultVar}{n:List E}{v:RA}(h:resT c rs l=some (n,v))(hn:Nds ρ n):resA c.P s l=some (v.den ρ m s.gen):=by
 unfold resT at h;unfold resA;split at h
 ·exact Zqx hd h hn
 ·rename_i hne;split at h
  ·rename_i a vs h1;cases h;have h2:=Zqy hd h1 hn;split
   ·rename_i r;exact absurd rfl (hne r)
   ·rw[h2];rfl
  ·cases h
theorem Zdf{K:List (RRef×List RA)}:∀{l:List RRef}{b:List (RRef×List RA)},Zb8 K l=some b->b.map (·.1)=l
 |[],_,h=>by cases h;rfl
 |r::l,b,h=>by
  unfold Zb8 at h;split at h
  ·rename_i c b' h1 h2;cases h;rw[List.map_cons,Zdf h2]
  ·cases h
theorem Zqz{c:Cfg}{rl:List ResultVar}{up:Nat->Ref}{H:List (Ref×List A)}{K0:List (RRef×List RA)}{ρ0:Env}(hH:H.map (·.1)=(Zab ρ0 ⟨up,gen0⟩ K0).map (·.1))(hnames:∀x∈K0,∃n,x.1=.up n){n0:Nat}:
 Zge c.P up R n0 ρ0 [] (Kf c.P rl H R) (finT c rl (K0.map (·.1))):=by
 intro e ρ m rs s σ _ _ hu _ _ hd h;unfold finT at h;split at h
 ·rename_i K hK;split at h
  ·rename_i hno;have hup:(⟨m.up,gen0⟩:Nm)=⟨up,gen0⟩:=by rw[hu]
   have hcell:∀x∈K,kDen ρ m x.2=kDen ρ ⟨up,gen0⟩ x.2/\(kDen ρ m x.2).all Zar=true:=fun x hx=>by
    have h1:=List.all_eq_true.1 hno x hx;refine⟨List.map_congr_left fun y hy=>?_,?_⟩
    ·have:=(Zej (List.all_eq_true.1 h1 y hy) (ρ:=ρ) (m:=m) (gen:=fun _=>0)).1;rw[this,hup];rfl
    ·rw[List.all_eq_true];intro a ha;obtain⟨y,hy,rfl⟩:=List.mem_map.1 ha;exact(Zej (List.all_eq_true.1 h1 y hy)).2
   have hnm:K.map (·.1)=K0.map (·.1):=Zdf hK
   have hname:∀x∈K,x.1.den m=x.1.den ⟨up,gen0⟩:=fun x hx=>by
    have:x.1∈K0.map (·.1):=hnm▸List.mem_map.2 ⟨x,hx,rfl⟩;obtain⟨y,hy,e⟩:=List.mem_map.1 this;obtain⟨n,hn⟩:=hnames y hy;rw[<-e,hn];show Ref.up (m.up n)=Ref.up (up n);rw[hu]
   have hleft:Ab.Left s H (Zab ρ ⟨up,gen0⟩ K):=by
    refine⟨?_,fun x hx=>?_⟩
    ·rw[hH];have:=congrArg (List.map (RRef.den ⟨up,gen0⟩)) hnm;simpa[Zab,Function.comp_def]using this
    ·obtain⟨y,hy,rfl⟩:=List.mem_map.1 hx;obtain⟨h1,h2⟩:=hcell y hy;rw[<-h1];exact⟨by rw[<-hname y hy];exact hd.look (Zbs hK y hy),h2⟩
   have ret:(match resT c rs rl with
    |some (n,v)=>asks (.bool true) n rs (fun _=>if v.noOwn then .ret v K else .bad 80)
    |none=>.bad 81:T).den c.P up R ρ σ->Done c.P rl H R s:=fun hk=>by
    split at hk
    ·rename_i n v hv;obtain⟨kn,h1,h2,h3⟩:=Za0 hd.known hk;split at h3
     ·rename_i hvo;unfold T.den at h3;obtain⟨h4,h5⟩:=Zej hvo (ρ:=ρ) (m:=m) (gen:=s.gen);exact⟨v.den ρ m s.gen,Zab ρ ⟨up,gen0⟩ K,Zuh hd hv (h2 rfl),h5,hleft,by rw[h4,hup];exact h3⟩
     ·unfold T.den at h3;exact h3.elim
    ·unfold T.den at hk;exact hk.elim
   cases e with
   |nrm=>exact ret h
   |ret=>exact ret h
   |pan v=>
    unfold T.den at h;exact⟨Zab ρ ⟨up,gen0⟩ K,hleft,h⟩
   |exit id=>unfold T.den at h;exact h.elim
  ·unfold T.den at h;exact h.elim
 ·unfold T.den at h;exact h.elim
def Zsk(args:List RA):Bool:=args.all fun x=>match x with|.c _|.agg _|.zs _=>true|.ptr (.up _) _=>true|.fn _ l=>(l.all fun r=>match r with|.up _=>true|.own _=>false)|_=>false
def Zq0(K:List (RRef×List RA)):Bool:=K.all fun x=>(match x.1 with|.up _=>true|.own _=>false)
@[irreducible] def T.vc (P:Program) (up:Nat->Ref) (R:Out->List (Ref×List A)->Prop) (t:T) (ρ:Env):Prop:=t.den P up R ρ []
theorem walk{c:Cfg}{op:Opt}{f:FuncId}{fn:Func}{code:Code}{rl:List ResultVar}{args:List RA}{K:List (RRef×List RA)}{nv depth:Nat}{up:Nat->Ref}{ρ:Env}{t:T}(hmx:c.P.follows .mixedOrders=true)(hf:c.P.funcs[f]? =some fn)(hb:fn.body=some code)(hrs:fn.results.toList=rl)(hN:fn.ntmps=c.N)
 (hn:(fn.name== "runtime.NumGoroutine")=false) (hlen:args.length<=c.N) (ha:Zsk args=true) (hK:Zq0 K=true)
 (ht:Zb1 c op code (Zgh depth args K nv) (finT c rl (K.map (·.1)))=t) (hnd:((Zab ρ ⟨up,gen0⟩ K).map (·.1)).Nodup) (h:t.vc c.P up R ρ):
 Holds c.P f (args.map (RA.den ρ ⟨up,gen0⟩ gen0)) (Zab ρ ⟨up,gen0⟩ K) R:=by
 unfold T.vc at h
 have hargs:∀x∈args,(x.den ρ ⟨up,gen0⟩ gen0).isOwn=false/\(x.den ρ ⟨up,gen0⟩ gen0).plain=true/\x.ali=none:=fun x hx=>by
  have:=List.all_eq_true.1 ha x hx;cases x with
  |c x=>exact⟨rfl,rfl,rfl⟩
  |agg x=>exact⟨rfl,rfl,rfl⟩
  |zs x=>exact⟨rfl,rfl,rfl⟩
  |ptr r o=>exact⟨rfl,rfl,rfl⟩
  |fn f l=>exact⟨rfl,rfl,rfl⟩
  |_=>cases this
 refine Zrq fn c.N rl hf hb hrs hN hn (by simpa using hlen) hnd (fun x hx=>?_) fun C hP hCN=>?_
 ·obtain⟨y,hy,rfl⟩:=List.mem_map.1 hx;exact⟨(hargs y hy).1,(hargs y hy).2.1⟩
 ·have hnames:∀x∈K,∃n,x.1=.up n:=fun x hx=>by
   have:=List.all_eq_true.1 hK x hx;cases hx1:x.1 with
   |own t=>rw[hx1]at this;cases this
   |up n=>exact⟨n,rfl⟩
  have hget:∀j,(Zgh depth args K nv).tm.get j=.any\/args[j]? =some ((Zgh depth args K nv).tm.get j):=fun j=>by
   rcases Zd1 args (Tr.full depth) 0 j with h|⟨h1,_⟩|⟨_,h2⟩|⟨_,h2⟩
   ·exact .inl h
   ·omega
   ·right;rw[Nat.sub_zero]at h2;exact h2
   ·left;show(Zca (Tr.full depth) 0 args).get j=.any;rw[h2,Zf5]
  have hd:Den ρ ⟨up,gen0⟩ (Zgh depth args K nv) (Zd9 (args.map (RA.den ρ ⟨up,gen0⟩ gen0)) (Zab ρ ⟨up,gen0⟩ K)):=by
   refine⟨fun j=>?_,fun _ j=>?_,fun r x hx=>?_,?_,fun e he=>by cases he⟩
   ·rcases hget j with h1|h1
    ·exact .inl h1
    ·right;show((args.map (RA.den ρ ⟨up,gen0⟩ gen0))[j]?).getD .any=_;rw[List.getElem?_map,h1];rfl
   ·rcases hget j with h1|h1
    ·rw[h1];rfl
    ·exact(hargs _ (List.mem_of_getElem? h1)).2.2
   ·exact Zbf hnd (List.mem_map.2 ⟨(r,x),hx,rfl⟩)
   ·have e:(K.map fun x=>x.1.den ⟨up,gen0⟩)=(Zab ρ ⟨up,gen0⟩ K).map (·.1):=by simp[Zab,Function.comp_def]
    show(K.map fun x=>x.1.den ⟨up,gen0⟩).Nodup;rw[e];exact hnd
  subst ht;have:=Zb2 (c:=c) (op:=op) (C:=C) hP hCN hmx code (n0:=nv) (ρ0:=ρ) (σ0:=[]) (Zqz (K0:=K) (ρ0:=ρ) rfl hnames) (Agr.refl _ _) (Nat.le_refl _) rfl (List.prefix_rfl) rfl hd h;exact this
end
def upOf(l:List Ref):Nat->Ref:=fun n=>l.getD n (.own 0 0)
def Zwa(l:List Dat):Env:=fun n=>l.getD n (.i 0)
theorem T_of{a b:Prop}(h:a=b)(hb:b):a:=h▸hb
def tB(b:Bool):Bool:=(Dat.b b).bool
@[simp] theorem Zwb (b:Bool):tB b=b:=by cases b<;>rfl
def gNot(k:IntKind)(a:Int):Int:=k.wrap (BitVec.ofInt k.bits (if k.signed then-1 else k.max)^^^BitVec.ofInt k.bits a).toNat
def gAnd(k:IntKind)(a b:Int):Int:=k.wrap (BitVec.ofInt k.bits a&&&BitVec.ofInt k.bits b).toNat
def gOr(k:IntKind)(a b:Int):Int:=k.wrap (BitVec.ofInt k.bits a|||BitVec.ofInt k.bits b).toNat
def gShl(k:IntKind)(a b:Int):Int:=k.wrap (a*2^(min b.toNat k.bits))
def Zwc(s:List UInt8)(i:Int):Int:=((s.getD i.toNat 0).toNat:Nat)
def gMax(a b:Int):Int:=if a<b then b else a
def gSub{α:Type}(l:List α)(a b:Int):List α:=(l.take b.toNat).drop a.toNat
def gAt(l:List (List D))(i:Int):List D:=l.getD i.toNat []
def gSet(l:List (List D))(i:Int)(r:List D):List (List D):=l.set i.toNat r
def Zwd(m:Nat)(l:List (List D)):Bool:=l.all fun z=>z.length==m
end Go.Rf
end
section
namespace Go.Rf
open Go.Ab
inductive V where
 |d (x:D)|agg (l:List D)|tup (l:List (Bool×List D))|ptr (i off:Nat)|own (sz:Nat) (es nw:List (List D))|zs (es:List (List D))|fn (f:Nat) (l:List Nat)
 |ags (pre:List D) (sz:Nat) (es nw:List (List D)) (post:List D)
def V.den(up:Nat->Ref):V->A
 |.d x=>.d x
 |.agg l=>.agg l
 |.tup l=>.tup l
 |.ptr i o=>.ptr (.up (up i)) o
 |.own sz a b=>.own sz a b
 |.zs a=>.zs a
 |.fn f l=>.fn f (l.map fun i=>.up (up i))
 |.ags p sz a b q=>.ags p sz a b q
def V.asD:V->V
 |.zs es=>.d (.slc es)
 |.own _ es []=>.d (.slc es)
 |v=>v
theorem V.asD_ok(up:Nat->Ref)(v:V):AsD (v.den up) (v.asD.den up):=by
 unfold V.asD;split
 ·exact .zs _
 ·exact .own _ _
 ·exact .same _
def V.zsD:V->V
 |.zs es=>.d (.slc es)
 |v=>v
theorem Zsl{P:Program}{f:FuncId}{up:Nat->Ref}{vs:List V}{H:List (Ref×List A)}{R:Out->List (Ref×List A)->Prop}(h:Holds P f ((vs.map V.zsD).map (V.den up)) H R):Holds P f (vs.map (V.den up)) H R:=fun w cargs g h1 h2=>by
 refine h w cargs g ?_ h2;generalize cargs.toList=l at h1;clear h h2
 induction vs generalizing l with
 |nil=>exact h1
 |cons v vs ih=>
  cases l with
  |nil=>exact h1.elim
  |cons c l=>
   refine⟨fun p=>?_,ih l h1.2⟩;have:=h1.1 p;unfold V.zsD;split
   ·exact this.1
   ·exact this
def bxs(up:Nat->Ref):Nat->List (List V)->List (Ref×List A)
 |_,[]=>[]
 |i,c::l=>(.up (up i),c.map (V.den up))::bxs up (i+1) l
inductive VO where
 |ret (v:V)|pan (u:Value)
def VO.den(up:Nat->Ref):VO->Out
 |.ret v=>.ret (v.den up)
 |.pan u=>.pan u
abbrev Res:=VO×List (List V)
abbrev Zgi:=Nat->List V->List (List V)->List Res
def Runs(P:Program)(f:Nat)(vs:List V)(K:List (List V))(r:Res):Prop:=
 r.2.length=K.length/\ ∀up:Nat->Ref,((List.range K.length).map up).Nodup->Holds P f (vs.map (V.den up)) (bxs up 0 K) fun o H=>o=r.1.den up/\H=bxs up 0 r.2
def Znz(P:Program)(call:Zgi):Prop:=∀f vs K,∀r∈call f vs K,Runs P f vs K r
def Zmk:List RRef->RRef->Option Nat
 |[],_=>none
 |q::l,r=>if q=r then some 0 else(match Zmk l r with|some i=>some (i+1)|none=>none)
theorem Zek:∀{l:List RRef}{r:RRef}{i:Nat},Zmk l r=some i->l[i]? =some r
 |q::l,r,i,h=>by
  unfold Zmk at h;split at h
  ·rename_i e;cases h;subst e;rfl
  ·split at h
   ·rename_i j hj;cases h;simpa using Zek hj
   ·cases h
def idxs(l:List RRef):List RRef->Option (List Nat)
 |[]=>some []
 |r::t=>match Zmk l r,idxs l t with|some i,some a=>some (i::a)|_,_=>none
def RA.toV(l:List RRef)(ρ:Env):RA->Option V
 |.c x=>some (.d (x.den ρ).dd)
 |.agg e=>some (.agg (e.den ρ).row)
 |.tup t=>some (.tup (t.map (Zc2 ρ)))
 |.ptr r o=>match Zmk l r with|some i=>some (.ptr i o)|none=>none
 |.own sz a b=>some (.own sz (a.den ρ).lst (b.den ρ).lst)
 |.zs a=>some (.zs (a.den ρ).lst)
 |.fn f cs=>match idxs l cs with|some a=>some (.fn f a)|none=>none
 |.ags p sz a b q=>some (.ags (p.map fun e=>(e.den ρ).dd) sz (a.den ρ).lst (b.den ρ).lst (q.map fun e=>(e.den ρ).dd))
 |_=>none
def toVs(l:List RRef)(ρ:Env):List RA->Option (List V)
 |[]=>some []
 |x::t=>match x.toV l ρ,toVs l ρ t with|some v,some a=>some (v::a)|_,_=>none
def toKs(l:List RRef)(ρ:Env):List (RRef×List RA)->Option (List (List V))
 |[]=>some []
 |x::t=>match toVs l ρ x.2,toKs l ρ t with|some v,some a=>some (v::a)|_,_=>none
def toPs(l:List RRef):List RRef->Option (List V)
 |[]=>some []
 |r::t=>match Zmk l r,toPs l t with|some i,some a=>some (.ptr i 0::a)|_,_=>none
def Up(m:Nm)(l:List RRef)(up:Nat->Ref):Prop:=∀(i:Nat) r,l[i]? =some r->r.den m=up i
def Lo(m:Nm)(l:List RRef)(up:Nat->Ref):Prop:=∀(i:Nat) r,l[i]? =some r->r.den m=.up (up i)
theorem Zml{m:Nm}{l:List RRef}{g:Ref->Ref}{up:Nat->Ref}(h:∀(i:Nat) r,l[i]? =some r->g (r.den m)=.up (up i)):∀{c:List RRef}{a:List Nat},idxs l c=some a->c.map (fun r=>g (r.den m))=a.map fun i=>.up (up i)
 |[],a,e=>by cases e;rfl
 |r::t,a,e=>by
  unfold idxs at e;split at e
  ·rename_i i a' h1 h2;cases e;rw[List.map_cons,List.map_cons,h i r (Zek h1),Zml h h2]
  ·cases e
def V.flat:V->Bool|.ptr _ _|.fn _ _=>false|_=>true
section
variable {l:List RRef} {up:Nat->Ref} {m:Nm} {ρ:Env}
theorem Zn0{x:RA}{v:V}{gen:Nat->Nat}(h:x.toV l ρ=some v)(hf:v.flat=true):v.den up=x.den ρ m gen:=by
 cases x with
 |ptr r o=>
  simp only[RA.toV]at h;split at h
  ·cases h;cases hf
  ·cases h
 |fn f c=>
  simp only[RA.toV]at h;split at h
  ·cases h;cases hf
  ·cases h
 |_=>first|(simp only[RA.toV]at h;cases h;rfl)|(cases h;done)
theorem Zvm{x:RA}{v:V}(hu:Up m l up){gen:Nat->Nat}(h:x.toV l ρ=some v):(x.den ρ m gen).lift=v.den up:=by
 have hu':∀(i:Nat) r,l[i]? =some r->Ref.up (r.den m)=.up (up i):=fun i r e=>by rw[hu i r e]
 cases x with
 |ptr r o=>
  simp only[RA.toV]at h;split at h
  ·rename_i i hi;cases h;show A.ptr (.up (r.den m)) o=_;rw[hu' i r (Zek hi)];rfl
  ·cases h
 |fn f c=>
  simp only[RA.toV]at h;split at h
  ·rename_i a ha;cases h;show A.fn f ((c.map (RRef.den m)).map .up)=_;rw[List.map_map];have:=Zml (g:=.up) hu' ha;simp only[Function.comp_def,this];rfl
  ·cases h
 |_=>first|(simp only[RA.toV]at h;cases h;rfl)|(cases h;done)
theorem Zs0{x:RA}{v:V}(hu:Lo m l up){gen:Nat->Nat}(h:x.toV l ρ=some v):x.den ρ m gen=v.den up:=by
 cases x with
 |ptr r o=>
  simp only[RA.toV]at h;split at h
  ·rename_i i hi;cases h;show A.ptr (r.den m) o=_;rw[hu i r (Zek hi)];rfl
  ·cases h
 |fn f c=>
  simp only[RA.toV]at h;split at h
  ·rename_i a ha;cases h;show A.fn f (c.map (RRef.den m))=_;have:=Zml (g:=id) hu ha;simp only[id]at this;rw[this];rfl
  ·cases h
 |_=>first|(simp only[RA.toV]at h;cases h;rfl)|(cases h;done)
theorem Zmm(hu:Up m l up){gen:Nat->Nat}:∀{t:List RA}{vs:List V},toVs l ρ t=some vs->t.map (fun a=>(a.den ρ m gen).lift)=vs.map (V.den up)
 |[],_,h=>by cases h;rfl
 |x::t,vs,h=>by
  unfold toVs at h;split at h
  ·rename_i v a h1 h2;cases h;rw[List.map_cons,List.map_cons,Zvm hu h1,Zmm hu h2]
  ·cases h
theorem Zmn(hu:Lo m l up){gen:Nat->Nat}:∀{t:List RA}{vs:List V},toVs l ρ t=some vs->t.map (RA.den ρ m gen)=vs.map (V.den up)
 |[],_,h=>by cases h;rfl
 |x::t,vs,h=>by
  unfold toVs at h;split at h
  ·rename_i v a h1 h2;cases h;rw[List.map_cons,List.map_cons,Zs0 hu h1,Zmn hu h2]
  ·cases h
theorem Zq1(hu:Up m l up):∀{t:List RRef}{vs:List V},toPs l t=some vs->t.map (fun r=>A.ptr (.up (r.den m)) 0)=vs.map (V.den up)
 |[],_,h=>by cases h;rfl
 |x::t,vs,h=>by
  unfold toPs at h;split at h
  ·rename_i i a h1 h2;cases h;rw[List.map_cons,List.map_cons,Zq1 hu h2,hu i x (Zek h1)];rfl
  ·cases h
theorem Zju(hu:Up m l up):∀{t:List (RRef×List RA)}{K:List (List V)}(i:Nat),toKs l ρ t=some K->(∀(j:Nat) x,t[j]? =some x->l[i+j]? =some x.1)->Zao (Zab ρ m t)=bxs up i K
 |[],_,_,h,_=>by cases h;rfl
 |x::t,K,i,h,hn=>by
  unfold toKs at h;split at h
  ·rename_i v a h1 h2;cases h;have h3:=Zju hu (i+1) h2 fun j y hy=>by rw[Nat.add_assoc,Nat.add_comm 1 j];exact hn (j+1) y (by simpa using hy)
   have h4:=hu i x.1 (hn 0 x rfl);show(Ref.up (x.1.den m),(kDen ρ m x.2).map A.lift)::Zao (Zab ρ m t)=_;have h5:=Zmm (gen:=fun _=>0) hu h1;rw[h3,h4,kDen,List.map_map];simp only[Function.comp_def,h5];rfl
  ·cases h
theorem Zmo(hu:Lo m l up):∀{t:List (RRef×List RA)}{K:List (List V)}(i:Nat),toKs l ρ t=some K->(∀(j:Nat) x,t[j]? =some x->l[i+j]? =some x.1)->Zab ρ m t=bxs up i K
 |[],_,_,h,_=>by cases h;rfl
 |x::t,K,i,h,hn=>by
  unfold toKs at h;split at h
  ·rename_i v a h1 h2;cases h;have h3:=Zmo hu (i+1) h2 fun j y hy=>by rw[Nat.add_assoc,Nat.add_comm 1 j];exact hn (j+1) y (by simpa using hy)
   have h4:=hu i x.1 (hn 0 x rfl);show(x.1.den m,kDen ρ m x.2)::Zab ρ m t=_;have h5:=Zmn (gen:=fun _=>0) hu h1;rw[h3,h4,kDen,h5];rfl
  ·cases h
end
def Agr'(ρ:Env)(n:Nat)(l:List Dat):Prop:=∀(i:Nat) x,l[i]? =some x->ρ (n+i)=x
theorem Agr'.left{ρ:Env}{n:Nat}{l k:List Dat}(h:Agr' ρ n (l++k)):Agr' ρ n l:=fun i x e=>h i x (by
 have:=(List.getElem?_eq_some_iff.1 e).1;rw[List.getElem?_append_left this];exact e)
theorem Agr'.right{ρ:Env}{n:Nat}{l k:List Dat}(h:Agr' ρ n (l++k)):Agr' ρ (n+l.length) k:=fun i x e=>by
 rw[Nat.add_assoc];exact h _ x (by rw[List.getElem?_append_right (by omega)];simpa using e)
def mE:E->D->Nat->Option (List Dat)
 |.o1 (.ci k) (.var m),.lit (.int k' x),n=>if m=n/\k=k' then some [.i x]else none
 |.o1 .cb (.o1 .tb (.var m)),.lit (.bool x),n=>if m=n then some [.b x]else none
 |.o1 .cs (.var m),.lit (.string b),n=>if m=n then some [.s b.data.toList]else none
 |.o1 .cl (.var m),.slc es,n=>if m=n then some [.l es]else none
 |.var m,x,n=>if m=n then some [.d x]else none
 |_,_,_=>none
theorem Zui{e:E}{x:D}{n:Nat}{l:List Dat}(h:mE e x n=some l){ρ:Env}(hρ:Agr' ρ n l):(e.den ρ).dd=x:=by
 have h0:∀d,l=[d]->ρ n=d:=fun d e=>by subst e;exact hρ 0 d rfl
 unfold mE at h;split at h
 all_goals first
  |cases h;done
  |(split at h
    ·rename_i hc;cases h
     first
      |(obtain⟨rfl,rfl⟩:=hc;simp[E.den,sem1,h0 _ rfl,Dat.dd,Dat.int];done)
      |(subst hc;simp[E.den,sem1,h0 _ rfl,Dat.dd,Dat.int,Dat.bool,Dat.str,Dat.lst,Zco];done)
    ·cases h)
def mEs:List E->List D->Nat->Option (List Dat)
 |[],[],_=>some []
 |e::t,x::u,n=>match mE e x n with
  |some a=>(match mEs t u (n+a.length)with|some b=>some (a++b)|none=>none)
  |none=>none
 |_,_,_=>none
theorem Zq2{ρ:Env}:∀{t:List E}{u:List D}{n:Nat}{l:List Dat},mEs t u n=some l->Agr' ρ n l->t.map (fun e=>(e.den ρ).dd)=u
 |[],[],_,_,_,_=>rfl
 |e::t,x::u,n,l,h,hρ=>by
  unfold mEs at h;split at h
  ·rename_i a h1;split at h
   ·rename_i b h2;cases h;rw[List.map_cons,Zui h1 hρ.left,Zq2 h2 hρ.right]
   ·cases h
  ·cases h
 |[],_::_,_,_,h,_=>by cases h
 |_::_,[],_,_,h,_=>by cases h
def mT1:Bool×E->Bool×List D->Nat->Option (List Dat)
 |(true,.var m),(true,r),n=>if m=n then some [.r r]else none
 |(false,e),(false,[x]),n=>mE e x n
 |_,_,_=>none
theorem Zvn{e:Bool×E}{x:Bool×List D}{n:Nat}{l:List Dat}(h:mT1 e x n=some l){ρ:Env}(hρ:Agr' ρ n l):Zc2 ρ e=x:=by
 unfold mT1 at h;split at h
 ·split at h
  ·rename_i hm;subst hm;cases h;have:=hρ 0 _ rfl;rw[Nat.add_zero]at this;simp[Zc2,E.den,this,Dat.row]
  ·cases h
 ·simp[Zc2,Zui h hρ]
 ·cases h
def mT':List (Bool×E)->List (Bool×List D)->Nat->Option (List Dat)
 |[],[],_=>some []
 |e::t,x::u,n=>match mT1 e x n with
  |some a=>(match mT' t u (n+a.length)with|some b=>some (a++b)|none=>none)
  |none=>none
 |_,_,_=>none
theorem Zs1{ρ:Env}:∀{t:List (Bool×E)}{u:List (Bool×List D)}{n:Nat}{l:List Dat},mT' t u n=some l->Agr' ρ n l->t.map (Zc2 ρ)=u
 |[],[],_,_,_,_=>rfl
 |e::t,x::u,n,l,h,hρ=>by
  unfold mT' at h;split at h
  ·rename_i a h1;split at h
   ·rename_i b h2;cases h;rw[List.map_cons,Zvn h1 hρ.left,Zs1 h2 hρ.right]
   ·cases h
  ·cases h
 |[],_::_,_,_,h,_=>by cases h
 |_::_,[],_,_,h,_=>by cases h
def mV(l:List RRef):RA->V->Nat->Option (List Dat)
 |.c e,.d x,n=>mE e x n
 |.agg (.var m),.agg r,n=>if m=n then some [.r r]else none
 |.tup t,.tup u,n=>mT' t u n
 |.own sz (.var m) .lnil,.own sz' es [],n=>if m=n/\sz=sz' then some [.l es]else none
 |.own sz .lnil (.var m),.own sz' [] nw,n=>if m=n/\sz=sz' then some [.l nw]else none
 |.zs (.var m),.zs es,n=>if m=n then some [.l es]else none
 |.zs .lnil,.zs [],_=>some []
 |.ptr r o,.ptr i o',_=>if Zmk l r=some i/\o=o' then some []else none
 |.fn f c,.fn f' a,_=>if f=f'/\idxs l c=some a then some []else none
 |.ags pre sz .lnil (.o2 .lcons (.var m) .lnil) post,.ags pre' sz' [] [r] post',n=>if sz=sz' then(match mEs pre pre' n with
  |some a=>if m=n+a.length then(match mEs post post' (n+a.length+1)with|some b=>some (a++([.r r]++b))|none=>none)else none
  |none=>none)else none
 |_,_,_=>none
def mVs(l:List RRef):List RA->List V->Nat->Option (List Dat)
 |[],[],_=>some []
 |e::t,x::u,n=>match mV l e x n with
  |some a=>(match mVs l t u (n+a.length)with|some b=>some (a++b)|none=>none)
  |none=>none
 |_,_,_=>none
def mKs(l:List RRef):List (List RA)->List (List V)->Nat->Option (List Dat)
 |[],[],_=>some []
 |e::t,x::u,n=>match mVs l e x n with
  |some a=>(match mKs l t u (n+a.length)with|some b=>some (a++b)|none=>none)
  |none=>none
 |_,_,_=>none
section
variable {l:List RRef} {up:Nat->Ref} {m:Nm} {ρ:Env}
theorem Zuj{p:RA}{v:V}{n:Nat}{w:List Dat}(h:mV l p v n=some w)(hρ:Agr' ρ n w):p.toV l ρ=some v:=by
 have h0:∀d,w=[d]->ρ n=d:=fun d e=>by subst e;exact hρ 0 d rfl
 unfold mV at h;split at h
 ·simp only[RA.toV,Zui h hρ]
 ·split at h
  ·rename_i hm;subst hm;cases h;simp[RA.toV,E.den,h0 _ rfl,Dat.row]
  ·cases h
 ·simp only[RA.toV,Zs1 h hρ]
 ·split at h
  ·rename_i hm;obtain⟨rfl,rfl⟩:=hm;cases h;simp[RA.toV,E.den,h0 _ rfl,Dat.lst]
  ·cases h
 ·split at h
  ·rename_i hm;obtain⟨rfl,rfl⟩:=hm;cases h;simp[RA.toV,E.den,h0 _ rfl,Dat.lst]
  ·cases h
 ·split at h
  ·rename_i hm;subst hm;cases h;simp[RA.toV,E.den,h0 _ rfl,Dat.lst]
  ·cases h
 ·rfl
 ·split at h
  ·rename_i hm;obtain⟨h1,rfl⟩:=hm;simp[RA.toV,h1]
  ·cases h
 ·split at h
  ·rename_i hm;obtain⟨rfl,h1⟩:=hm;simp[RA.toV,h1]
  ·cases h
 ·split at h
  ·rename_i hs;subst hs;split at h
   ·rename_i a h1;split at h
    ·rename_i hm;split at h
     ·rename_i b h2;cases h;have a1:=Zq2 h1 hρ.left;have a2:=hρ.right.left 0 _ rfl;have a3:=Zq2 h2 (by have:=hρ.right.right;simpa[Nat.add_assoc]using this);subst hm;simp only[Nat.add_zero]at a2;simp only[RA.toV,a1,a3,E.den,sem2,a2,Dat.lst,Dat.row]
     ·cases h
    ·cases h
   ·cases h
  ·cases h
 ·cases h
theorem Zq3:∀{t:List RA}{u:List V}{n:Nat}{w:List Dat},mVs l t u n=some w->Agr' ρ n w->toVs l ρ t=some u
 |[],[],_,_,_,_=>rfl
 |e::t,x::u,n,w,h,hρ=>by
  unfold mVs at h;split at h
  ·rename_i a h1;split at h
   ·rename_i b h2;cases h;unfold toVs;rw[Zuj h1 hρ.left,Zq3 h2 hρ.right]
   ·cases h
  ·cases h
 |[],_::_,_,_,h,_=>by cases h
 |_::_,[],_,_,h,_=>by cases h
theorem Zn1:∀{t:List (RRef×List RA)}{u:List (List V)}{n:Nat}{w:List Dat},mKs l (t.map (·.2)) u n=some w->Agr' ρ n w->toKs l ρ t=some u
 |[],[],_,_,_,_=>rfl
 |e::t,x::u,n,w,h,hρ=>by
  rw[List.map_cons]at h;unfold mKs at h;split at h
  ·rename_i a h1;split at h
   ·rename_i b h2;cases h;unfold toKs;rw[Zq3 h1 hρ.left,Zn1 h2 hρ.right]
   ·cases h
  ·cases h
 |[],_::_,_,_,h,_=>by cases h
 |_::_,[],_,_,h,_=>by cases h
end
def Zuk:Dat->Dk|.i _=>.i|.b _=>.b|.s _=>.s|.l _=>.l|.r _=>.r|.d _=>.d
def Zdj:List Dk->List Dat->Bool
 |[],[]=>true
 |k::ks,x::l=>decide (Zuk x=k)&&Zdj ks l
 |_,_=>false
def setN(ρ:Env):Nat->List Dat->Env
 |_,[]=>ρ
 |n,x::l=>setN (ρ.set n x) (n+1) l
theorem Zul{l:List Dat}:∀{ρ:Env}{n k:Nat},k<n->setN ρ n l k=ρ k:=by
 induction l with
 |nil=>intro ρ n k _;rfl
 |cons x l ih=>intro ρ n k h;rw[setN,ih (by omega)];simp[Env.set];omega
theorem Zjv{l:List Dat}:∀{ρ:Env}{n:Nat},Agr' (setN ρ n l) n l:=by
 induction l with
 |nil=>intro ρ n i x h;simp at h
 |cons y l ih=>
  intro ρ n i x h;cases i with
  |zero=>
   simp only[List.getElem?_cons_zero,Option.some.injEq]at h;subst h;rw[setN,Nat.add_zero,Zul (by omega)];simp[Env.set]
  |succ i=>
   have:=ih (ρ:=ρ.set n y) (n:=n+1) i x (by simpa using h);rw[setN,<-this];congr 1;omega
theorem Zum{k:Dk}{x:Dat}(h:Zuk x=k):k.mk (k.un x)=x:=by subst h;cases x<;>rfl
theorem Zib:∀{ks:List Dk}{l:List Dat}{n:Nat}{ρ:Env}{p:Env->Prop},Zdj ks l=true->p (setN ρ n l)->exK ks n ρ p
 |[],[],_,_,_,_,h=>h
 |k::ks,x::l,n,ρ,p,hk,h=>by
  simp only[Zdj,Bool.and_eq_true,decide_eq_true_eq]at hk;exact⟨k.un x,by rw[Zum hk.1];exact Zib hk.2 h⟩
 |[],_::_,_,_,_,hk,_=>by cases hk
 |_::_,[],_,_,_,hk,_=>by cases hk
theorem Zun(k:Dk)(x:k.ty):Zuk (k.mk x)=k:=by cases k<;>rfl
theorem Zmp:∀{ks:List Dk}{n:Nat}{ρ:Env}{acc:List Dat}{p:Env->List Dat->Prop},(∀l,Zdj ks l=true->p (setN ρ n l) (acc++l))->allK ks n ρ acc p
 |[],_,_,acc,p,h=>by have:=h [] rfl;rwa [List.append_nil]at this
 |k::ks,n,ρ,acc,p,h=>fun x=>Zmp fun l hl=>by
  have:=h (k.mk x::l) (by simp only[Zdj,Bool.and_eq_true,decide_eq_true_eq];exact⟨Zun k x,hl⟩);rw[List.append_assoc];exact this
def curP:(ks:List Dk)->(List Dat->Prop)->CurP ks
 |[],p=>p []
 |k::ks,p=>fun x=>curP ks fun l=>p (k.mk x::l)
def curN:(ks:List Dk)->(List Dat->Nat)->CurN ks
 |[],p=>p []
 |k::ks,p=>fun x=>curN ks fun l=>p (k.mk x::l)
theorem Zn2:∀{ks:List Dk}{l:List Dat}{p:List Dat->Prop},Zdj ks l=true->appP ks (curP ks p) l=p l
 |[],[],_,_=>rfl
 |k::ks,x::l,p,h=>by
  simp only[Zdj,Bool.and_eq_true,decide_eq_true_eq]at h;show appP ks (curP ks _) l=_;rw[Zn2 h.2,Zum h.1]
 |[],_::_,_,h=>by cases h
 |_::_,[],_,h=>by cases h
theorem Zn3:∀{ks:List Dk}{l:List Dat}{p:List Dat->Nat},Zdj ks l=true->appN ks (curN ks p) l=p l
 |[],[],_,_=>rfl
 |k::ks,x::l,p,h=>by
  simp only[Zdj,Bool.and_eq_true,decide_eq_true_eq]at h;show appN ks (curN ks _) l=_;rw[Zn3 h.2,Zum h.1]
 |[],_::_,_,h=>by cases h
 |_::_,[],_,h=>by cases h
noncomputable def mkIs(p:Nat->List Dat->Prop)(q:Nat->List Dat->Nat):List (List Dk)->Nat->Invs
 |[],_=>[]
 |ks::r,j=>(appP ks (curP ks (p j)),appN ks (curN ks (q j)))::mkIs p q r (j+1)
theorem Zs2{p:Nat->List Dat->Prop}{q:Nat->List Dat->Nat}:∀{kss:List (List Dk)}{j:Nat}{f:Invs->Prop},f (mkIs p q kss j)->exL kss f
 |[],_,_,h=>h
 |ks::r,j,f,h=>⟨curP ks (p j),curN ks (q j),Zs2 (j:=j+1) h⟩
noncomputable def mkIc(p:Nat->List Dat->Prop):List (List Dk)->Nat->Invs
 |[],_=>[]
 |ks::r,j=>(appP ks (curP ks (p j)),fun _=>0)::mkIc p r (j+1)
theorem Zs3{p:Nat->List Dat->Prop}:∀{kss:List (List Dk)}{j:Nat}{f:Invs->Prop},f (mkIc p kss j)->exC kss f
 |[],_,_,h=>h
 |ks::r,j,f,h=>⟨curP ks (p j),Zs3 (j:=j+1) h⟩
theorem Zn4{p:Nat->List Dat->Prop}{q:Nat->List Dat->Nat}:∀{kss:List (List Dk)}{j i:Nat},(mkIs p q kss j)[i]? =(kss[i]?).map fun ks=>(appP ks (curP ks (p (j+i))),appN ks (curN ks (q (j+i))))
 |[],_,_=>rfl
 |ks::r,j,0=>rfl
 |ks::r,j,i+1=>by
  rw[mkIs,List.getElem?_cons_succ,List.getElem?_cons_succ,Zn4,show j+1+i=j+(i+1) by omega]
theorem Zn5{p:Nat->List Dat->Prop}:∀{kss:List (List Dk)}{j i:Nat},(mkIc p kss j)[i]? =(kss[i]?).map fun ks=>(appP ks (curP ks (p (j+i))),fun _=>0)
 |[],_,_=>rfl
 |ks::r,j,0=>rfl
 |ks::r,j,i+1=>by
  rw[mkIc,List.getElem?_cons_succ,List.getElem?_cons_succ,Zn5,show j+1+i=j+(i+1) by omega]
theorem Zic{p:Nat->List Dat->Prop}{q:Nat->List Dat->Nat}{kss:List (List Dk)}{ks:List Dk}{i:Nat}{a:List Dat}(h:kss[i]? =some ks)(hk:Zdj ks a=true):
 (Zb7 (mkIs p q kss 0) i a=p i a)/\(Zdy (mkIs p q kss 0) i a=q i a)/\(Zb7 (mkIc p kss 0) i a=p i a):=by
 unfold Zb7 Zdy;rw[Zn4,Zn5,h];simp only[Option.map_some,Nat.zero_add,Zn2 hk,Zn3 hk,and_self]
def vB:Value->Value->Bool
 |.int k n,.int k' n'=>decide (k=k')&&decide (n=n')
 |.bool a,.bool b=>a==b
 |.string a,.string b=>decide (a.data.toList=b.data.toList)
 |.nilIface,.nilIface=>true
 |_,_=>false
theorem Zvo{a b:Value}(h:vB a b=true):a=b:=by
 unfold vB at h;split at h
 ·simp only[Bool.and_eq_true,decide_eq_true_eq]at h;rw[h.1,h.2]
 ·rw[beq_iff_eq]at h;rw[h]
 ·rename_i a b;have h:=of_decide_eq_true h;obtain⟨⟨x⟩⟩:=a;obtain⟨⟨y⟩⟩:=b;have:x=y:=h;rw[this]
 ·rfl
 ·cases h
mutual
def dB:D->D->Bool
 |.lit a,.lit b=>vB a b
 |.slc a,.slc b=>lB a b
 |_,_=>false
def rB:List D->List D->Bool
 |[],[]=>true
 |x::l,y::m=>dB x y&&rB l m
 |_,_=>false
def lB:List (List D)->List (List D)->Bool
 |[],[]=>true
 |x::l,y::m=>rB x y&&lB l m
 |_,_=>false
end
mutual
theorem Zvp:∀{a b:D},dB a b=true->a=b
 |.lit _,.lit _,h=>by rw[dB]at h;rw[Zvo h]
 |.slc _,.slc _,h=>by rw[dB]at h;rw[Zq4 h]
 |.lit _,.slc _,h=>by simp[dB]at h
 |.slc _,.lit _,h=>by simp[dB]at h
theorem Zsm:∀{a b:List D},rB a b=true->a=b
 |[],[],_=>rfl
 |x::l,y::m,h=>by rw[rB,Bool.and_eq_true]at h;rw[Zvp h.1,Zsm h.2]
 |[],_::_,h=>by simp[rB]at h
 |_::_,[],h=>by simp[rB]at h
theorem Zq4:∀{a b:List (List D)},lB a b=true->a=b
 |[],[],_=>rfl
 |x::l,y::m,h=>by rw[lB,Bool.and_eq_true]at h;rw[Zsm h.1,Zq4 h.2]
 |[],_::_,h=>by simp[lB]at h
 |_::_,[],h=>by simp[lB]at h
end
def tpB:List (Bool×List D)->List (Bool×List D)->Bool
 |[],[]=>true
 |x::l,y::m=>decide (x.1=y.1)&&rB x.2 y.2&&tpB l m
 |_,_=>false
theorem Zs4:∀{a b:List (Bool×List D)},tpB a b=true->a=b
 |[],[],_=>rfl
 |(x,x')::l,(y,y')::m,h=>by
  simp only[tpB,Bool.and_eq_true,decide_eq_true_eq]at h;rw[h.1.1,Zsm h.1.2,Zs4 h.2]
 |[],_::_,h=>by simp[tpB]at h
 |_::_,[],h=>by simp[tpB]at h
def V.eqB:V->V->Bool
 |.d x,.d y=>dB x y
 |.agg x,.agg y=>rB x y
 |.tup x,.tup y=>tpB x y
 |.ptr i o,.ptr j u=>decide (i=j)&&decide (o=u)
 |.own z a b,.own z' a' b'=>decide (z=z')&&lB a a'&&lB b b'
 |.zs a,.zs b=>lB a b
 |.fn f a,.fn g b=>decide (f=g)&&decide (a=b)
 |_,_=>false
theorem V.eqB_eq{a b:V}(h:a.eqB b=true):a=b:=by
 unfold V.eqB at h;split at h
 ·rw[Zvp h]
 ·rw[Zsm h]
 ·rw[Zs4 h]
 ·simp only[Bool.and_eq_true,decide_eq_true_eq]at h;rw[h.1,h.2]
 ·simp only[Bool.and_eq_true,decide_eq_true_eq]at h;rw[h.1.1,Zq4 h.1.2,Zq4 h.2]
 ·rw[Zq4 h]
 ·simp only[Bool.and_eq_true,decide_eq_true_eq]at h;rw[h.1,h.2]
 ·cases h
def vsB:List V->List V->Bool
 |[],[]=>true
 |x::l,y::m=>x.eqB y&&vsB l m
 |_,_=>false
theorem Zs5:∀{a b:List V},vsB a b=true->a=b
 |[],[],_=>rfl
 |x::l,y::m,h=>by rw[vsB,Bool.and_eq_true]at h;rw[V.eqB_eq h.1,Zs5 h.2]
 |[],_::_,h=>by simp[vsB]at h
 |_::_,[],h=>by simp[vsB]at h
def ksB:List (List V)->List (List V)->Bool
 |[],[]=>true
 |x::l,y::m=>vsB x y&&ksB l m
 |_,_=>false
theorem Zq5:∀{a b:List (List V)},ksB a b=true->a=b
 |[],[],_=>rfl
 |x::l,y::m,h=>by rw[ksB,Bool.and_eq_true]at h;rw[Zs5 h.1,Zq5 h.2]
 |[],_::_,h=>by simp[ksB]at h
 |_::_,[],h=>by simp[ksB]at h
def VO.eqB:VO->VO->Bool
 |.ret a,.ret b=>a.eqB b
 |.pan a,.pan b=>vB a b
 |_,_=>false
theorem VO.eqB_eq{a b:VO}(h:a.eqB b=true):a=b:=by
 unfold VO.eqB at h;split at h
 ·rw[V.eqB_eq h]
 ·rw[Zvo h]
 ·cases h
def T.nth:T->Nat->Option (List Dk×T)
 |.vcons ks b _,0=>some (ks,b)
 |.vcons _ _ r,i+1=>r.nth i
 |_,_=>none
structure Fr where
 n:Nat
 vs:T
 ρ:Env
 lp:Bool
def ups(k:Nat):List RRef:=(List.range k).map .up
def Zq6(k:Nat)(l:List RRef):Bool:=decide l.Nodup&&l.all fun r=>match r with|.up n=>decide (n<k)|.own _=>true
def endK(k:Nat)(ρ:Env)(o:VO)(K:List (RRef×List RA)):Option Res:=
 if K.map (·.1)=ups k then(match toKs (ups k) ρ K with|some a=>some (o,a)|none=>none)else none
def endR(k:Nat)(ρ:Env)(v:RA)(K:List (RRef×List RA)):Option Res:=
 match v.toV (ups k) ρ with|some v=>endK k ρ (.ret v) K|none=>none
def askC(k:Nat)(ρ:Env)(args:List RA)(caps:List RRef)(bx:List (RRef×List RA)):Option (List V×List (List V)):=
 let l:=bx.map (·.1)
 if Zq6 k l then(match toVs l ρ args,toPs l caps,toKs l ρ bx with
  |some a,some b,some c=>some ((a++b).map V.zsD,c)
  |_,_,_=>none)else none
def gotR(l:List RRef)(ks:List Dk)(n:Nat)(res:RA)(v:V)(bx':List (RRef×List RA))(K:List (List V)):Option (List Dat):=
 match mV l res v n with
 |some a=>(match mKs l (bx'.map (·.2)) K (n+a.length)with
  |some b=>if v.flat&&(Zdj ks (a++b)&&decide (bx'.map (·.1)=l))then some (a++b)else none
  |none=>none)
 |none=>none
def gotP(l:List RRef)(ks:List Dk)(n:Nat)(bx':List (RRef×List RA))(K:List (List V)):Option (List Dat):=
 match mKs l (bx'.map (·.2)) K n with
 |some b=>if Zdj ks b&&decide (bx'.map (·.1)=l)then some b else none
 |none=>none
def gotV(l:List RRef)(ks:List Dk)(n:Nat)(res:RA)(v:V):Option (List Dat):=
 match mV l res v n with
 |some b=>if v.flat&&Zdj ks b then some b else none
 |none=>none
def Zi2{α:Type}(l:List Res)(g:Res->Option α):Option α:=match l with
 |[]=>none
 |r::l=>match g r with|some a=>some a|none=>Zi2 l g
theorem Zbp{α:Type}{g:Res->Option α}{a:α}:∀{l:List Res},Zi2 l g=some a-> ∃r∈l,g r=some a
 |[],h=>by cases h
 |r::l,h=>by
  unfold Zi2 at h;split at h
  ·rename_i x hx;cases h;exact⟨r,List.mem_cons_self ..,hx⟩
  ·obtain⟨r',h1,h2⟩:=Zbp h;exact⟨r',List.mem_cons_of_mem _ h1,h2⟩
inductive Got where
 |ret (v:V) (w:List Dat)|ret2 (v:V) (w:List Dat)|pan (u:Value) (w:List Dat)
def gotC(l:List RRef)(ks:List Dk)(n:Nat)(res:RA)(bx':List (RRef×List RA))(ksp:List Dk)(bxp:List (RRef×List RA)):Res->Option Got
 |(.ret v,K)=>(match gotR l ks n res v bx' K with
  |some w=>some (.ret v w)
  |none=>(match gotR l ks n res v.asD bx' K with|some w=>some (.ret v.asD w)|none=>none))
 |(.pan u,K)=>(match gotP l ksp (n+1) bxp K with|some w=>some (.pan u w)|none=>none)
def Zmq(l:List RRef)(ks:List Dk)(n:Nat)(res:RA)(bx':List (RRef×List RA))(ks2:List Dk)(bx2:List (RRef×List RA))(ksp:List Dk)(bxp:List (RRef×List RA)):Res->Option Got
 |(.ret v,K)=>(match gotR l ks n res v bx' K with
  |some w=>some (.ret v w)
  |none=>(match gotR l ks2 n res v bx2 K with|some w=>some (.ret2 v w)|none=>none))
 |(.pan u,K)=>(match gotP l ksp (n+1) bxp K with|some w=>some (.pan u w)|none=>none)
def gotD(l:List RRef)(ks:List Dk)(n:Nat)(res:RA)(K0:List (List V)):Res->Option (V×List Dat)
 |(.ret v,K)=>if ksB K K0 then(match gotV l ks n res v.asD with|some w=>some (v.asD,w)|none=>none)else none
 |_=>none
def evT(call:Zgi)(k:Nat):Nat->T->Env->List Fr->Option Res
 |0,_,_,_=>none
 |m+1,t,ρ,fr=>match t with
  |.ret v K=>endR k ρ v K
  |.pan v K=>endK k ρ (.pan (dval (v.den ρ).dd)) K
  |.fork e a b=>if(e.den ρ).bool then evT call k m a ρ fr else evT call k m b ρ fr
  |.need e t=>if(e.den ρ).bool then evT call k m t ρ fr else none
  |.hav n e t=>(match evT call k m t (ρ.set n (.b false)) fr with
   |some r=>if(e.den ρ).bool then(match evT call k m t (ρ.set n (.b true)) fr with
    |some r'=>if r.1.eqB r'.1&&ksB r.2 r'.2 then some r else none
    |none=>none)else some r
   |none=>none)
  |.call f args caps bx n ks res bx' kr ksp bxp kp=>(match askC k ρ args caps bx with
   |some q=>(match Zi2 (call f q.1 q.2) (gotC (bx.map (·.1)) ks n res bx' ksp bxp)with
    |some (.ret _ w)=>evT call k m kr (setN ρ n w) fr
    |some (.pan u w)=>evT call k m kp (setN (ρ.set n (.d (.lit u))) (n+1) w) fr
    |_=>none)
   |none=>none)
  |.call2 f args caps bx n ks res bx' kr ks2 bx2 kr2 ksp bxp kp=>(match askC k ρ args caps bx with
   |some q=>(match Zi2 (call f q.1 q.2) (Zmq (bx.map (·.1)) ks n res bx' ks2 bx2 ksp bxp)with
    |some (.ret _ w)=>evT call k m kr (setN ρ n w) fr
    |some (.ret2 _ w)=>evT call k m kr2 (setN ρ n w) fr
    |some (.pan u w)=>evT call k m kp (setN (ρ.set n (.d (.lit u))) (n+1) w) fr
    |none=>none)
   |none=>none)
  |.dcall f args caps bx n ks res t=>(match askC k ρ args caps bx with
   |some q=>(match Zi2 (call f q.1 q.2) (gotD (bx.map (·.1)) ks n res q.2)with
    |some (_,w)=>evT call k m t (setN ρ n w) fr
    |none=>none)
   |none=>none)
  |.loop n j args vs=>(match vs.nth j with
   |some (ks,b)=>let a:=args.map fun e=>e.den ρ
    if Zdj ks a then evT call k m b (setN ρ n a) (fr++[⟨n,vs,ρ,true⟩])else none
   |none=>none)
  |.cut n b vs=>evT call k m b ρ (fr++[⟨n,vs,ρ,false⟩])
  |.again lvl j args=>(match fr[lvl]? with
   |some F=>(match F.vs.nth j with
    |some (ks,b)=>let a:=args.map fun e=>e.den ρ
     if Zdj ks a then evT call k m b (setN F.ρ F.n a) (if F.lp then fr.take lvl++[F]else fr.take lvl)else none
    |none=>none)
   |none=>none)
  |_=>none
def upC(m:Nm)(l:List RRef)(i:Nat):Ref:=match l[i]? with|some r=>r.den m|none=>.own 0 0
theorem Zq7(m:Nm)(l:List RRef):Up m l (upC m l):=fun i r h=>by unfold upC;rw[h]
theorem Zuo(m:Nm)(l:List RRef):(List.range l.length).map (upC m l)=l.map (RRef.den m):=by
 apply List.ext_getElem
 ·simp
 ·intro i h1 h2;have hi:i<l.length:=by simpa using h1
  simp[upC,hi]
theorem Zmr{k:Nat}{l:List RRef}{up:Nat->Ref}{ν:Nat->Nat}(hu:((List.range k).map up).Nodup)(h:Zq6 k l=true):((List.range l.length).map (upC ⟨up,ν⟩ l)).Nodup:=by
 rw[Zuo];simp only[Zq6,Bool.and_eq_true,decide_eq_true_eq,List.all_eq_true]at h
 have hu':∀i j,i<k->j<k->up i=up j->i=j:=fun i j hi hj e=>by
  have h1:=List.getElem_map up (l:=List.range k) (i:=i) (h:=by simpa using hi);have h2:=List.getElem_map up (l:=List.range k) (i:=j) (h:=by simpa using hj);simp only[List.getElem_range]at h1 h2;have hp:=List.pairwise_iff_getElem.1 hu;rcases Nat.lt_trichotomy i j with h|h|h
  ·exact absurd (by rw[h1,h2,e]) (hp i j (by simpa using hi) (by simpa using hj) h)
  ·exact h
  ·exact absurd (by rw[h1,h2,e]) (hp j i (by simpa using hj) (by simpa using hi) h)
 refine List.pairwise_map.2 (List.Pairwise.imp_of_mem ?_ h.1);intro a b ha hb hab e;have h1:=h.2 a ha;have h2:=h.2 b hb;cases a with
 |own t=>cases b with
  |own s=>simp only[RRef.den,Ref.own.injEq]at e;exact hab (by rw[e.1])
  |up n=>cases e
 |up n=>cases b with
  |own s=>cases e
  |up j=>
   simp only[RRef.den,Ref.up.injEq]at e;exact hab (by rw[hu' n j (by simpa using h1) (by simpa using h2) e])
theorem Zn6{l:List RRef}{ρ:Env}:∀{t:List (RRef×List RA)}{K:List (List V)},toKs l ρ t=some K->K.length=t.length
 |[],_,h=>by cases h;rfl
 |x::t,K,h=>by
  unfold toKs at h;split at h
  ·rename_i v a h1 h2;cases h;simp[Zn6 h2]
  ·cases h
theorem Zq8{k:Nat}{ρ:Env}{args:List RA}{caps:List RRef}{bx:List (RRef×List RA)}{q:List V×List (List V)}(h:askC k ρ args caps bx=some q){up:Nat->Ref}(hu:((List.range k).map up).Nodup)(ν:Nat->Nat):
 ((List.range q.2.length).map (upC ⟨up,ν⟩ (bx.map (·.1)))).Nodup/\(∀{P:Program}{f:FuncId}{H:List (Ref×List A)}{R:Out->List (Ref×List A)->Prop},Holds P f (q.1.map (V.den (upC ⟨up,ν⟩ (bx.map (·.1))))) H R->
   Holds P f (args.map (fun a=>(a.den ρ ⟨up,ν⟩ gen0).lift)++caps.map (fun r=>A.ptr (.up (r.den ⟨up,ν⟩)) 0)) H R)/\
 Zao (Zab ρ ⟨up,ν⟩ bx)=bxs (upC ⟨up,ν⟩ (bx.map (·.1))) 0 q.2:=by
 unfold askC at h;simp only at h;split at h
 ·rename_i hn;split at h
  ·rename_i a b c h1 h2 h3;cases h;have hU:=Zq7 ⟨up,ν⟩ (bx.map (·.1));refine⟨?_,?_,Zju hU 0 h3 fun j x hx=>by simp[hx]⟩
   ·have:=Zmr (ν:=ν) hu hn
    rwa [List.length_map,<-Zn6 h3]at this
   ·intro P f H R hH;rw[Zmm hU h1,Zq1 hU h2,<-List.map_append];exact Zsl hH
  ·cases h
 ·cases h
theorem Zms{l:List RRef}{ks:List Dk}{n:Nat}{res:RA}{v:V}{bx':List (RRef×List RA)}{K:List (List V)}{w:List Dat}(h:gotR l ks n res v bx' K=some w){m:Nm}{up:Nat->Ref}(hu:Up m l up)(ρ:Env):
 Zdj ks w=true/\(∀gen,v.den up=res.den (setN ρ n w) m gen)/\bxs up 0 K=Zao (Zab (setN ρ n w) m bx'):=by
 unfold gotR at h;split at h
 ·rename_i a h1;split at h
  ·rename_i b h2;split at h
   ·rename_i hk;cases h;simp only[Bool.and_eq_true,decide_eq_true_eq]at hk;have hA:Agr' (setN ρ n (a++b)) n (a++b):=Zjv;refine⟨hk.2.1,fun gen=>Zn0 (Zuj h1 hA.left) hk.1,?_⟩;exact(Zju hu 0 (Zn1 h2 hA.right) fun j x hx=>by rw[<-hk.2.2];simp[hx]).symm
   ·cases h
  ·cases h
 ·cases h
theorem Zq9{l:List RRef}{ks:List Dk}{n:Nat}{bx':List (RRef×List RA)}{K:List (List V)}{w:List Dat}(h:gotP l ks n bx' K=some w){m:Nm}{up:Nat->Ref}(hu:Up m l up)(ρ:Env):
 Zdj ks w=true/\bxs up 0 K=Zao (Zab (setN ρ n w) m bx'):=by
 unfold gotP at h;split at h
 ·rename_i b h2;split at h
  ·rename_i hk;cases h;simp only[Bool.and_eq_true,decide_eq_true_eq]at hk;exact⟨hk.1,(Zju hu 0 (Zn1 h2 Zjv) fun j x hx=>by rw[<-hk.2];simp[hx]).symm⟩
  ·cases h
 ·cases h
theorem Zup{l:List RRef}{ks:List Dk}{n:Nat}{res:RA}{v:V}{w:List Dat}(h:gotV l ks n res v=some w){m:Nm}{up:Nat->Ref}(ρ:Env):
 Zdj ks w=true/\ ∀gen,v.den up=res.den (setN ρ n w) m gen:=by
 unfold gotV at h;split at h
 ·rename_i a h1;split at h
  ·rename_i hk;cases h;simp only[Bool.and_eq_true]at hk;exact⟨hk.2,fun gen=>Zn0 (Zuj h1 Zjv) hk.1⟩
  ·cases h
 ·cases h
theorem Zel:∀{vs:T}{j:Nat}{ks:List Dk}{b:T},vs.nth j=some (ks,b)->vs.ksL[j]? =some ks
 |.vcons ks b r,0,_,_,h=>by cases h;rfl
 |.vcons ks b r,j+1,_,_,h=>by
  simp only[T.nth]at h;simp only[T.ksL,List.getElem?_cons_succ];exact Zel h
 |.ret ..,_,_,_,h|.pan ..,_,_,_,h|.fork ..,_,_,_,h|.need ..,_,_,_,h|.call ..,_,_,_,h|.call2 ..,_,_,_,h|.dcall ..,_,_,_,h|.loop ..,_,_,_,h|.vnil,_,_,_,h
 |.again ..,_,_,_,h|.cut ..,_,_,_,h|.bad ..,_,_,_,h|.leaf ..,_,_,_,h|.hav ..,_,_,_,h=>by simp[T.nth]at h
section
variable {P:Program} {up:Nat->Ref} {R:Out->List (Ref×List A)->Prop}
theorem Zra{Is:Invs}{n:Nat}{ρ:Env}{σ:Sig}:∀{vs:T}{j:Nat},(∀i ks b,vs.nth i=some (ks,b)->allK ks n ρ [] fun ρ' vals=>Zb7 Is (j+i) vals->b.den P up R ρ' (σ++[fun j' a=>Zb7 Is j' a/\Zdy Is j' a<Zdy Is (j+i) vals]))->vs.denV P up R j Is n ρ σ
 |.vcons ks b r,j,h=>by
  unfold T.denV;refine⟨h 0 ks b rfl,Zra fun i ks' b' e=>?_⟩;have:=h (i+1) ks' b' e;rw[show j+1+i=j+(i+1) by omega];exact this
 |.ret ..,_,_|.pan ..,_,_|.fork ..,_,_|.need ..,_,_|.call ..,_,_|.call2 ..,_,_|.dcall ..,_,_|.loop ..,_,_|.vnil,_,_
 |.again ..,_,_|.cut ..,_,_|.bad ..,_,_|.leaf ..,_,_|.hav ..,_,_=>by unfold T.denV;trivial
theorem Zrb{Is:Invs}{n:Nat}{ρ:Env}{σ:Sig}:∀{vs:T}{j:Nat},(∀i ks b,vs.nth i=some (ks,b)->allK ks n ρ [] fun ρ' vals=>Zb7 Is (j+i) vals->b.den P up R ρ' σ)->vs.denC P up R j Is n ρ σ
 |.vcons ks b r,j,h=>by
  unfold T.denC;refine⟨h 0 ks b rfl,Zrb fun i ks' b' e=>?_⟩;have:=h (i+1) ks' b' e;rw[show j+1+i=j+(i+1) by omega];exact this
 |.ret ..,_,_|.pan ..,_,_|.fork ..,_,_|.need ..,_,_|.call ..,_,_|.call2 ..,_,_|.dcall ..,_,_|.loop ..,_,_|.vnil,_,_
 |.again ..,_,_|.cut ..,_,_|.bad ..,_,_|.leaf ..,_,_|.hav ..,_,_=>by unfold T.denC;trivial
def goto(call:Zgi)(k m:Nat)(F:Fr)(frs:List Fr)(j:Nat)(a:List Dat):Option Res:=
 match F.vs.nth j with
 |some (ks,b)=>if Zdj ks a then evT call k m b (setN F.ρ F.n a) (if F.lp then frs++[F]else frs)else none
 |none=>none
theorem Zlh{call:Zgi}{k m:Nat}{F:Fr}{frs:List Fr}{j:Nat}{a:List Dat}{r:Res}(h:goto call k m F frs j a=some r):
 ∃ks b,F.vs.nth j=some (ks,b)/\Zdj ks a=true/\evT call k m b (setN F.ρ F.n a) (if F.lp then frs++[F]else frs)=some r:=by
 unfold goto at h;split at h
 ·rename_i ks b hb;split at h
  ·rename_i hk;exact⟨ks,b,hb,hk,h⟩
  ·cases h
 ·cases h
theorem Zjw{call:Zgi}{k m:Nat}{F:Fr}{frs:List Fr}{j:Nat}{a:List Dat}{ks:List Dk}{b:T}(h1:F.vs.nth j=some (ks,b))(h2:Zdj ks a=true):
 goto call k m F frs j a=evT call k m b (setN F.ρ F.n a) (if F.lp then frs++[F]else frs):=by
 unfold goto;rw[h1];simp only[h2,if_true]
def FrOk(call:Zgi)(k m:Nat)(r:Res)(fr:List Fr)(σ:Sig):Prop:=
 fr.length=σ.length/\ ∀(lvl:Nat) F h,fr[lvl]? =some F->σ[lvl]? =some h-> ∀m'<m,∀j a,goto call k m' F (fr.take lvl) j a=some r->h j a
theorem FrOk.mono{call:Zgi}{k m m':Nat}{r:Res}{fr:List Fr}{σ:Sig}(h:FrOk call k m r fr σ)(hm:m'<=m):FrOk call k m' r fr σ:=
 ⟨h.1,fun lvl F g h1 h2 n hn=>h.2 lvl F g h1 h2 n (by omega)⟩
theorem FrOk.push{call:Zgi}{k m:Nat}{r:Res}{fr:List Fr}{σ:Sig}(h:FrOk call k m r fr σ){F:Fr}{g:Nat->List Dat->Prop}(hg:∀m'<m,∀j a,goto call k m' F fr j a=some r->g j a):FrOk call k m r (fr++[F]) (σ++[g]):=by
 refine⟨by simp[h.1],fun lvl F' g' h1 h2=>?_⟩;by_cases hl:lvl<fr.length
 ·rw[List.getElem?_append_left hl]at h1;rw[List.getElem?_append_left (by rw[<-h.1];exact hl)]at h2;rw[List.take_append_of_le_length (by omega)];exact h.2 lvl F' g' h1 h2
 ·have hl':lvl=fr.length:=by
   have:=(List.getElem?_eq_some_iff.1 h1).1;simp at this;omega
  subst hl';rw[List.getElem?_append_right (by omega)]at h1;rw[List.getElem?_append_right (by rw[h.1];exact Nat.le_refl _)]at h2;have e:fr.length-σ.length=0:=by rw[h.1];omega
  simp only[Nat.sub_self,List.getElem?_cons_zero,Option.some.injEq,e]at h1 h2;subst h1;subst h2;rw[List.take_append_of_le_length (Nat.le_refl _),List.take_length];exact hg
theorem Zs6{k:Nat}{ρ:Env}{o:VO}{K:List (RRef×List RA)}{r:Res}(h:endK k ρ o K=some r):r.1=o/\Zab ρ ⟨up,gen0⟩ K=bxs up 0 r.2:=by
 unfold endK at h;split at h
 ·rename_i hn;split at h
  ·rename_i a ha;cases h;refine⟨rfl,Zmo (up:=up) (fun i q hq=>?_) 0 ha fun j x hx=>?_⟩
   ·unfold ups at hq;rw[List.getElem?_map,Option.map_eq_some_iff]at hq;obtain⟨j,hj,rfl⟩:=hq;have:=(List.getElem?_eq_some_iff.1 hj);obtain⟨h1,h2⟩:=this;rw[List.getElem_range]at h2;subst h2;rfl
   ·rw[<-hn,Nat.zero_add,List.getElem?_map,hx];rfl
  ·cases h
 ·cases h
theorem Zuq{k:Nat}{ρ:Env}{v:RA}{K:List (RRef×List RA)}{r:Res}(h:endR k ρ v K=some r):Out.ret (v.den ρ ⟨up,gen0⟩ gen0)=r.1.den up/\Zab ρ ⟨up,gen0⟩ K=bxs up 0 r.2:=by
 unfold endR at h;split at h
 ·rename_i u hu;obtain⟨h1,h2⟩:=Zs6 (up:=up) h;refine⟨?_,h2⟩;rw[h1];show Out.ret _=Out.ret (u.den up)
  congr 1
  refine Zs0 (fun i q hq=>?_) hu;unfold ups at hq;rw[List.getElem?_map,Option.map_eq_some_iff]at hq;obtain⟨j,hj,rfl⟩:=hq;obtain⟨h1,h2⟩:=(List.getElem?_eq_some_iff.1 hj);rw[List.getElem_range]at h2;subst h2;rfl
 ·cases h
theorem Zn7{f:Nat}{vs:List V}{K K':List (List V)}{v:V}{up':Nat->Ref}(h:Holds P f (vs.map (V.den up')) (bxs up' 0 K) fun o H=>o=(VO.ret v).den up'/\H=bxs up' 0 K'):
 Holds P f (vs.map (V.den up')) (bxs up' 0 K) fun o H=>o=(VO.ret v.asD).den up'/\H=bxs up' 0 K':=
 h.asData fun o H' ⟨e1,e2⟩=>⟨(VO.ret v.asD).den up',by subst e1;exact V.asD_ok up' v,rfl,e2⟩
section
variable {call:Zgi} {f:Nat} {vs:List V} {K0:List (List V)} {x:Res} {l:List RRef} {ks ks2 ksp:List Dk} {n:Nat} {res:RA} {bx' bx2 bxp:List (RRef×List RA)} {up':Nat->Ref} (hc:Znz P call) (hx:x∈call f vs K0) (hn:((List.range K0.length).map up').Nodup)
include hc hx hn
theorem Zsn{v:V}{w:List Dat}(hg:gotC l ks n res bx' ksp bxp x=some (.ret v w)):
 ∃K,(Holds P f (vs.map (V.den up')) (bxs up' 0 K0) fun o H=>o=(VO.ret v).den up'/\H=bxs up' 0 K)/\gotR l ks n res v bx' K=some w:=by
 have hH:=(hc _ _ _ _ hx).2 _ hn;unfold gotC at hg;split at hg
 ·split at hg
  ·rename_i h1;cases hg;exact⟨_,hH,h1⟩
  ·split at hg
   ·rename_i h1;cases hg;exact⟨_,Zn7 hH,h1⟩
   ·cases hg
 ·split at hg<;>cases hg
theorem Zso{u:Value}{w:List Dat}(hg:gotC l ks n res bx' ksp bxp x=some (.pan u w)):
 ∃K,(Holds P f (vs.map (V.den up')) (bxs up' 0 K0) fun o H=>o=(VO.pan u).den up'/\H=bxs up' 0 K)/\gotP l ksp (n+1) bxp K=some w:=by
 have hH:=(hc _ _ _ _ hx).2 _ hn;unfold gotC at hg;split at hg
 ·split at hg
  ·cases hg
  ·split at hg<;>cases hg
 ·split at hg
  ·rename_i h1;cases hg;exact⟨_,hH,h1⟩
  ·cases hg
theorem Zrc{v:V}{w:List Dat}(hg:Zmq l ks n res bx' ks2 bx2 ksp bxp x=some (.ret v w)):
 ∃K,(Holds P f (vs.map (V.den up')) (bxs up' 0 K0) fun o H=>o=(VO.ret v).den up'/\H=bxs up' 0 K)/\gotR l ks n res v bx' K=some w:=by
 have hH:=(hc _ _ _ _ hx).2 _ hn;unfold Zmq at hg;split at hg
 ·split at hg
  ·rename_i h1;cases hg;exact⟨_,hH,h1⟩
  ·split at hg<;>cases hg
 ·split at hg<;>cases hg
theorem Zo6{v:V}{w:List Dat}(hg:Zmq l ks n res bx' ks2 bx2 ksp bxp x=some (.ret2 v w)):
 ∃K,(Holds P f (vs.map (V.den up')) (bxs up' 0 K0) fun o H=>o=(VO.ret v).den up'/\H=bxs up' 0 K)/\gotR l ks2 n res v bx2 K=some w:=by
 have hH:=(hc _ _ _ _ hx).2 _ hn;unfold Zmq at hg;split at hg
 ·split at hg
  ·cases hg
  ·split at hg
   ·rename_i h1;cases hg;exact⟨_,hH,h1⟩
   ·cases hg
 ·split at hg<;>cases hg
theorem Zrd{u:Value}{w:List Dat}(hg:Zmq l ks n res bx' ks2 bx2 ksp bxp x=some (.pan u w)):
 ∃K,(Holds P f (vs.map (V.den up')) (bxs up' 0 K0) fun o H=>o=(VO.pan u).den up'/\H=bxs up' 0 K)/\gotP l ksp (n+1) bxp K=some w:=by
 have hH:=(hc _ _ _ _ hx).2 _ hn;unfold Zmq at hg;split at hg
 ·split at hg
  ·cases hg
  ·split at hg<;>cases hg
 ·split at hg
  ·rename_i h1;cases hg;exact⟨_,hH,h1⟩
  ·cases hg
theorem Zur{v:V}{w:List Dat}(hg:gotD l ks n res K0 x=some (v,w)):
 Holds P f (vs.map (V.den up')) (bxs up' 0 K0) fun o H=>o=(VO.ret v).den up'/\H=bxs up' 0 K0:=by
 have hH:=(hc _ _ _ _ hx).2 _ hn;unfold gotD at hg;split at hg
 ·split at hg
  ·rename_i hK;split at hg
   ·cases hg;have:=Zn7 hH;rw[Zq5 hK]at this;exact this
   ·cases hg
  ·cases hg
 ·cases hg
end
theorem Zvq{l:List RRef}{ks:List Dk}{n:Nat}{res:RA}{K0:List (List V)}{x:Res}{v:V}{w:List Dat}(hg:gotD l ks n res K0 x=some (v,w)):gotV l ks n res v=some w:=by
 unfold gotD at hg;split at hg
 ·split at hg
  ·split at hg
   ·rename_i h1;cases hg;exact h1
   ·cases hg
  ·cases hg
 ·cases hg
theorem least{p:Nat->Prop}(h:∃n,p n):∃n,p n/\ ∀m,p m->n<=m:=by
 obtain⟨n,hn⟩:=h
 induction n using Nat.strongRecOn with
 |ind n ih=>
  by_cases hx:∃m,m<n/\p m
  ·obtain⟨m,h1,h2⟩:=hx;exact ih m h1 h2
  ·exact⟨n,hn,fun m hm=>by
    by_cases h:n<=m
    ·exact h
    ·exact absurd ⟨m,by omega,hm⟩ hx⟩
theorem Zvr{call:Zgi}(hc:Znz P call){k:Nat}(hu:((List.range k).map up).Nodup){r:Res}(hR:R (r.1.den up) (bxs up 0 r.2)):
 ∀(m:Nat)(t:T)(ρ:Env)(fr:List Fr)(σ:Sig),evT call k m t ρ fr=some r->FrOk call k m r fr σ->t.den P up R ρ σ:=by
 intro m
 induction m using Nat.strongRecOn with
 |ind m ih=>
  intro t ρ fr σ h hF;cases m with
  |zero=>simp[evT]at h
  |succ m=>
   have hF1:=hF.mono (Nat.le_succ m);have go:∀{t:T}{ρ:Env},evT call k m t ρ fr=some r->t.den P up R ρ σ:=fun h=>ih m (Nat.lt_succ_self m) _ _ _ _ h hF1
   unfold evT at h;cases t with
   |ret v K=>
    obtain⟨h1,h2⟩:=Zuq (up:=up) h;unfold T.den;rw[h1,h2];exact hR
   |pan v K=>
    obtain⟨h1,h2⟩:=Zs6 (up:=up) h;unfold T.den;rw[h1]at hR;rw[h2];exact hR
   |fork e a b=>
    simp only at h;unfold T.den;split at h
    ·rename_i hb;exact⟨fun _=>go h,fun hf=>by rw[hb]at hf;cases hf⟩
    ·rename_i hb;exact⟨fun hf=>absurd hf hb,fun _=>go h⟩
   |need e t=>
    simp only at h;unfold T.den;split at h
    ·rename_i hb;exact⟨hb,go h⟩
    ·cases h
   |hav n e t=>
    simp only at h;unfold T.den;split at h
    ·rename_i r0 h0;split at h
     ·split at h
      ·rename_i r1 h1;split at h
       ·rename_i hb;cases h;simp only[Bool.and_eq_true]at hb;have e1:r=r1:=Prod.ext (VO.eqB_eq hb.1) (Zq5 hb.2);intro b _;cases b with
        |false=>exact go h0
        |true=>exact go (by rw[h1,e1])
       ·cases h
      ·cases h
     ·rename_i hb;cases h;intro b hb';cases b with
      |false=>exact go h0
      |true=>exact absurd (hb' rfl) hb
    ·cases h
   |call f args caps bx n ks res bx' kr ksp bxp kp=>
    simp only at h;unfold T.den;split at h
    ·rename_i q hq;intro ν;obtain⟨a1,a2,a3⟩:=Zq8 hq hu ν;rw[a3];have hU:=Zq7 ⟨up,ν⟩ (bx.map (·.1));split at h
     ·rename_i v w hg;obtain⟨x,hx,hg⟩:=Zbp hg;obtain⟨K,hH,hw⟩:=Zsn hc hx a1 hg;obtain⟨b1,b2,b3⟩:=Zms hw hU ρ;exact⟨_,a2 hH,fun v' H' e=>by obtain⟨e1,e2⟩:=e;cases e1;exact Zib b1 ⟨b2 _,by rw[e2];exact b3,go h⟩,fun u H' e=>by cases e.1⟩
     ·rename_i u w hg;obtain⟨x,hx,hg⟩:=Zbp hg;obtain⟨K,hH,hw⟩:=Zso hc hx a1 hg;obtain⟨b1,b3⟩:=Zq9 hw hU (ρ.set n (.d (.lit u)));exact⟨_,a2 hH,fun v' H' e=>(by cases e.1),fun u' H' e=>by obtain⟨e1,e2⟩:=e;cases e1;exact Zib b1 ⟨by rw[e2];exact b3,go h⟩⟩
     ·cases h
    ·cases h
   |call2 f args caps bx n ks res bx' kr ks2 bx2 kr2 ksp bxp kp=>
    simp only at h;unfold T.den;split at h
    ·rename_i q hq;intro ν;obtain⟨a1,a2,a3⟩:=Zq8 hq hu ν;rw[a3];have hU:=Zq7 ⟨up,ν⟩ (bx.map (·.1));split at h
     ·rename_i v w hg;obtain⟨x,hx,hg⟩:=Zbp hg;obtain⟨K,hH,hw⟩:=Zrc hc hx a1 hg;obtain⟨b1,b2,b3⟩:=Zms hw hU ρ;exact⟨_,a2 hH,fun v' H' e=>by obtain⟨e1,e2⟩:=e;cases e1;exact .inl (Zib b1 ⟨b2 _,by rw[e2];exact b3,go h⟩),fun u H' e=>by cases e.1⟩
     ·rename_i v w hg;obtain⟨x,hx,hg⟩:=Zbp hg;obtain⟨K,hH,hw⟩:=Zo6 hc hx a1 hg;obtain⟨b1,b2,b3⟩:=Zms hw hU ρ;exact⟨_,a2 hH,fun v' H' e=>by obtain⟨e1,e2⟩:=e;cases e1;exact .inr (Zib b1 ⟨b2 _,by rw[e2];exact b3,go h⟩),fun u H' e=>by cases e.1⟩
     ·rename_i u w hg;obtain⟨x,hx,hg⟩:=Zbp hg;obtain⟨K,hH,hw⟩:=Zrd hc hx a1 hg;obtain⟨b1,b3⟩:=Zq9 hw hU (ρ.set n (.d (.lit u)));exact⟨_,a2 hH,fun v' H' e=>(by cases e.1),fun u' H' e=>by obtain⟨e1,e2⟩:=e;cases e1;exact Zib b1 ⟨by rw[e2];exact b3,go h⟩⟩
     ·cases h
    ·cases h
   |dcall f args caps bx n ks res t=>
    simp only at h;unfold T.den;split at h
    ·rename_i q hq;split at h
     ·rename_i v w hg;obtain⟨x,hx,hg⟩:=Zbp hg;have key:=fun ν=>(Zq8 hq hu ν)
      have hw:=Zvq hg;have b:=fun ν=>Zup hw (m:=⟨up,ν⟩) (up:=upC ⟨up,ν⟩ (bx.map (·.1))) ρ
      refine Zib (b (fun _=>0)).1 ⟨fun ν=>?_,go h⟩;obtain⟨a1,a2,a3⟩:=key ν;rw[a3];refine(a2 (Zur hc hx a1 hg)).mono fun o H' e=>?_
      obtain⟨e1,e2⟩:=e;refine⟨?_,e2⟩;rw[e1,<-(b ν).2 gen0];rfl
     ·cases h
    ·cases h
   |loop n j args vs=>
    simp only at h;unfold T.den;split at h
    ·rename_i ks b hb;split at h
     ·rename_i hk
      let F:Fr:=⟨n,vs,ρ,true⟩
      classical
      let q:Nat->List Dat->Nat:=fun j a=>if hx:∃m',goto call k m' F fr j a=some r then(least hx).choose else 0
      have hq:∀j a m',goto call k m' F fr j a=some r->goto call k (q j a) F fr j a=some r/\q j a<=m':=fun j a m' hg=>by
       have hx:∃m',goto call k m' F fr j a=some r:=⟨m',hg⟩;have e:q j a=(least hx).choose:=dif_pos hx;rw[e];exact⟨(least hx).choose_spec.1,(least hx).choose_spec.2 _ hg⟩
      refine Zs2 (j:=0) (p:=fun j a=>∃m'≤m,goto call k m' F fr j a=some r) (q:=q) ⟨?_,Zra fun i ks' b' hi=>Zmp fun a ha hinv=>?_⟩
      ·rw[(Zic (Zel hb) hk).1];exact⟨m,Nat.le_refl _,by rw[Zjw (F:=F) hb hk];exact h⟩
      ·rw[List.nil_append,Nat.zero_add]at hinv;rw[(Zic (Zel hi) ha).1]at hinv;obtain⟨m',hm',hg⟩:=hinv;obtain⟨hg1,hg2⟩:=hq i a m' hg;have hrun:=hg1;rw[Zjw (F:=F) hi ha]at hrun;refine ih (q i a) (by omega) _ _ _ _ hrun ?_;refine(hF.mono (m':=q i a) (by omega)).push fun m2 hm2 j' a' hg'=>?_
       obtain⟨ks2,b2,c1,c2,_⟩:=Zlh hg';rw[(Zic (Zel c1) c2).1,(Zic (Zel c1) c2).2.1,List.nil_append,Nat.zero_add,(Zic (Zel hi) ha).2.1];exact⟨⟨m2,by omega,hg'⟩,by have:=(hq j' a' m2 hg').2;omega⟩
     ·cases h
    ·cases h
   |cut n b vs=>
    simp only at h;unfold T.den
    let F:Fr:=⟨n,vs,ρ,false⟩
    refine Zs3 (j:=0) (p:=fun j a=>∃m'<m,goto call k m' F fr j a=some r) ⟨?_,Zrb fun i ks' b' hi=>Zmp fun a ha hinv=>?_⟩
    ·refine ih m (Nat.lt_succ_self m) _ _ _ _ h (hF1.push fun m2 hm2 j' a' hg'=>?_);obtain⟨ks2,b2,c1,c2,_⟩:=Zlh hg';rw[(Zic (p:=fun j a=>∃m'<m,goto call k m' F fr j a=some r) (q:=fun _ _=>0) (Zel c1) c2).2.2];exact⟨m2,hm2,hg'⟩
    ·rw[List.nil_append,Nat.zero_add]at hinv;rw[(Zic (p:=fun j a=>∃m'<m,goto call k m' F fr j a=some r) (q:=fun _ _=>0) (Zel hi) ha).2.2]at hinv;obtain⟨m',hm',hg⟩:=hinv;rw[Zjw (F:=F) hi ha]at hg;exact ih m' (by omega) _ _ _ _ hg (hF.mono (by omega))
   |again lvl j args=>
    simp only at h;unfold T.den;split at h
    ·rename_i F hfr;split at h
     ·rename_i ks b hb;split at h
      ·rename_i hk;have hl:=(List.getElem?_eq_some_iff.1 hfr).1;obtain⟨g,hs⟩:∃g,σ[lvl]? =some g:=⟨_,List.getElem?_eq_getElem (by rw[<-hF.1];exact hl)⟩;rw[hs];exact hF.2 lvl F _ hfr hs m (Nat.lt_succ_self m) j _ (by rw[Zjw hb hk];exact h)
      ·cases h
     ·cases h
    ·cases h
   |vnil=>cases h
   |vcons=>cases h
   |bad=>cases h
   |leaf=>cases h
end
structure Ent where
 f:Nat
 args:List RA
 K:List (List RA)
 t:T
def Zc6:Nat->List (List RA)->List (RRef×List RA)
 |_,[]=>[]
 |i,c::l=>(.up i,c)::Zc6 (i+1) l
def Zus(P:Program)(e:Ent):Prop:=∀(up:Nat->Ref)(ρ:Env)(R:Out->List (Ref×List A)->Prop),((List.range e.K.length).map up).Nodup->e.t.den P up R ρ []->
 Holds P e.f (e.args.map (RA.den ρ ⟨up,gen0⟩ gen0)) (Zab ρ ⟨up,gen0⟩ (Zc6 0 e.K)) R
structure Wk where
 f:Nat
 live:List Nat
 op:Opt
 args:List RA
 K:List (List RA)
 nv:Nat
def Zs7(P:Program)(f:Nat):Code:=match P.funcs[f]? with|some fn=>(match fn.body with|some c=>c|none=>.skip)|none=>.skip
def Zmt(P:Program)(w:Wk):Cfg:=⟨P,(match P.funcs[w.f]? with|some fn=>fn.ntmps|none=>0),true,w.live⟩
def Zvs(P:Program)(f:Nat):List ResultVar:=match P.funcs[f]? with|some fn=>fn.results.toList|none=>[]
def Wk.tree(P:Program)(w:Wk):T:=Zb1 (Zmt P w) w.op (Zs7 P w.f) (Zgh (Nat.log2 (Zmt P w).N+1) w.args (Zc6 0 w.K) w.nv) (finT (Zmt P w) (Zvs P w.f) ((Zc6 0 w.K).map (·.1)))
def Wk.ok(P:Program)(w:Wk):Bool:=P.follows .mixedOrders&&(match P.funcs[w.f]? with|some fn=>(match fn.body with|some _=>!(fn.name== "runtime.NumGoroutine")|none=>false)&&decide (w.args.length<=fn.ntmps)|none=>false)&&Zsk w.args
theorem Zli:∀(l:List (List RA))(i:Nat),Zq0 (Zc6 i l)=true
 |[],_=>rfl
 |c::l,i=>by
  have:=Zli l (i+1);unfold Zq0 at*;rw[Zc6,List.all_cons,this];rfl
theorem Zgt{ρ:Env}{m:Nm}:∀(l:List (List RA))(i:Nat),(Zab ρ m (Zc6 i l)).map (·.1)=(List.range' i l.length).map fun j=>Ref.up (m.up j)
 |[],_=>rfl
 |c::l,i=>by
  show Ref.up (m.up i)::(Zab ρ m (Zc6 (i+1) l)).map (·.1)=_;rw[Zgt l (i+1),List.length_cons,List.range'_succ];rfl
theorem Zv8{P:Program}{w:Wk}(h:w.ok P=true):Zus P ⟨w.f,w.args,w.K,w.tree P⟩:=by
 intro up ρ R hu hd;unfold Wk.ok at h;simp only[Bool.and_eq_true]at h;obtain⟨⟨h1,h2⟩,h3⟩:=h;cases hf:P.funcs[w.f]? with
 |none=>rw[hf]at h2;cases h2
 |some fn=>
  rw[hf]at h2;simp only[Bool.and_eq_true,decide_eq_true_eq]at h2;cases hb:fn.body with
  |none=>rw[hb]at h2;simp at h2
  |some c=>
   rw[hb]at h2;simp only[Bool.not_eq_true']at h2;refine walk (c:=Zmt P w) (op:=w.op) (f:=w.f) (fn:=fn) (code:=c) (rl:=fn.results.toList) (nv:=w.nv) (depth:=Nat.log2 (Zmt P w).N+1) (t:=w.tree P) h1 hf hb rfl ?_ h2.1 ?_ h3 (Zli _ _) ?_ ?_ ?_
   ·unfold Zmt;rw[hf]
   ·unfold Zmt;rw[hf];exact h2.2
   ·unfold Wk.tree Zs7 Zvs;rw[hf];simp only[hb]
   ·rw[Zgt,<-List.range_eq_range'];have:=hu;refine List.pairwise_map.2 ((List.pairwise_map.1 this).imp fun hab e=>hab (by simpa using e))
   ·unfold T.vc;exact hd
def mEnt(e:Ent)(vs:List V)(K:List (List V)):Option (List Dat):=
 match mVs (ups e.K.length) e.args vs 0 with
 |some a=>(match mKs (ups e.K.length) e.K K a.length with|some b=>some (a++b)|none=>none)
 |none=>none
def envL(l:List Dat):Env:=fun n=>l.getD n (.i 0)
theorem Zsp(l:List Dat):Agr' (envL l) 0 l:=fun i x h=>by unfold envL;rw[Nat.zero_add,List.getD_eq_getElem?_getD,h];rfl
theorem Zgj:∀(l:List (List RA))(i:Nat),(Zc6 i l).map (·.2)=l
 |[],_=>rfl
 |c::l,i=>by rw[Zc6,List.map_cons,Zgj l (i+1)]
theorem Zi3:∀(l:List (List RA))(i j:Nat)(x:RRef×List RA),(Zc6 i l)[j]? =some x->x.1=.up (i+j)
 |[],_,_,_,h=>by simp[Zc6]at h
 |c::l,i,0,x,h=>by simp[Zc6]at h;subst h;rfl
 |c::l,i,j+1,x,h=>by
  rw[Zc6,List.getElem?_cons_succ]at h;rw[Zi3 l (i+1) j x h,show i+1+j=i+(j+1) by omega]
theorem Zre{l:List RRef}:∀{t:List (List RA)}{u:List (List V)}{n:Nat}{w:List Dat},mKs l t u n=some w->u.length=t.length
 |[],[],_,_,_=>rfl
 |e::t,x::u,n,w,h=>by
  unfold mKs at h;split at h
  ·split at h
   ·rename_i b h2;cases h;simp[Zre h2]
   ·cases h
  ·cases h
 |[],_::_,_,_,h=>by cases h
 |_::_,[],_,_,h=>by cases h
theorem Zs8(up:Nat->Ref)(k:Nat):Lo ⟨up,gen0⟩ (ups k) up:=fun i q hq=>by
 unfold ups at hq;rw[List.getElem?_map,Option.map_eq_some_iff]at hq;obtain⟨j,hj,rfl⟩:=hq;obtain⟨h1,h2⟩:=List.getElem?_eq_some_iff.1 hj;rw[List.getElem_range]at h2;subst h2;rfl
def tryE(call:Zgi)(m:Nat)(f:Nat)(vs:List V)(K:List (List V)):List Ent->List Res
 |[]=>[]
 |e::l=>if e.f=f then(match mEnt e vs K with
  |some a=>(match evT call K.length m e.t (envL a) []with
   |some r=>if r.2.length=K.length then r::tryE call m f vs K l else tryE call m f vs K l
   |none=>tryE call m f vs K l)
  |none=>tryE call m f vs K l)else tryE call m f vs K l
def evF(tab:List Ent)(prim:Nat->List V->Option V)(m:Nat):Nat->Zgi
 |0=>fun _ _ _=>[]
 |n+1=>fun f vs K=>match prim f vs with
  |some v=>if K.isEmpty then[(.ret v,[])]else[]
  |none=>tryE (evF tab prim m n) m f vs K tab
theorem Zrf{P:Program}{call:Zgi}(hc:Znz P call){m f:Nat}{vs:List V}{K:List (List V)}:∀{l:List Ent}{r:Res},(∀e∈l,Zus P e)->r∈tryE call m f vs K l->Runs P f vs K r
 |[],_,_,h=>by cases h
 |e::l,r,he,h=>by
  have next:r∈tryE call m f vs K l->Runs P f vs K r:=Zrf hc fun e he'=>he e (List.mem_cons_of_mem _ he')
  unfold tryE at h;split at h
  ·rename_i hf;subst hf;split at h
   ·rename_i a ha;split at h
    ·rename_i r0 hr;split at h
     ·rename_i hlen;rcases List.mem_cons.1 h with rfl|h
      ·refine⟨hlen,fun up hu=>?_⟩;unfold mEnt at ha;split at ha
       ·rename_i a1 h1;split at ha
        ·rename_i a2 h2;cases ha;have hA:=Zsp (a1++a2);have hl:=Zre h2;have e1:=Zmn (gen:=gen0) (Zs8 up e.K.length) (Zq3 h1 hA.left)
         have e2:=Zmo (Zs8 up e.K.length) 0 (Zn1 (t:=Zc6 0 e.K) (by rw[Zgj];exact h2) (by have:=hA.right;simpa using this)) fun j x hx=>by
          have hj:=(List.getElem?_eq_some_iff.1 hx).1;have hj':j<e.K.length:=by rw[<-Zgj e.K 0,List.length_map];exact hj
          rw[Zi3 _ _ _ _ hx];unfold ups;rw[List.getElem?_map,List.getElem?_range (by omega)];simp
         have:=he e (List.mem_cons_self ..) up (envL (a1++a2)) (fun o H=>o=r.1.den up/\H=bxs up 0 r.2) (by rw[<-hl];exact hu) (Zvr hc hu ⟨rfl,rfl⟩ m _ _ _ _ hr ⟨rfl,fun lvl F h hF=>by simp at hF⟩);rw[e1,e2]at this;exact this
        ·cases ha
       ·cases ha
      ·exact next h
     ·exact next h
    ·exact next h
   ·exact next h
  ·exact next h
theorem Zvt{P:Program}{tab:List Ent}{prim:Nat->List V->Option V}{m:Nat}(ht:∀e∈tab,Zus P e)(hp:∀f vs v,prim f vs=some v->Runs P f vs [] (.ret v,[])):∀n,Znz P (evF tab prim m n)
 |0,_,_,_,_,h=>by cases h
 |n+1,f,vs,K,r,h=>by
  unfold evF at h;split at h
  ·rename_i v hv;split at h
   ·rename_i hK;have:K=[]:=by simpa using hK
    subst this;rcases List.mem_cons.1 h with rfl|h
    ·exact hp f vs v hv
    ·cases h
   ·cases h
  ·exact Zrf (Zvt ht hp n) ht h
end Go.Rf
end
section
namespace Go.Rf
open Go.Ab
def Zs9(P:Program)(f:FuncId)(args:List A)(H:List (Ref×List A))(u u':FrameMode)(R:List (Ref×List A)->Prop):Prop:=
 ∀(w:World)(cargs:Array Value)(g:Gh),All2 (fun x v=>∀p,RepA w g (fun _=>0) p x v) args cargs.toList->HeapRel (Zag P w g H 0) (Zax H) g w->
  CallsD P f cargs u w fun e u'' w'=>u''=u'/\(∃cv,e=.returned cv)/\ ∃H' g',R H'/\H'.map (·.1)=H.map (·.1)/\HeapRel (Zag P w g H 0) (Zax H') g' w'/\ ∀x∈H',x.2.all Zar=true
def Zds(u:FrameMode):Value×FrameMode:=match u with
 |.panicking ({v,recovered:=false,goexit:=false}::older)=>(v,.panicking ({v,recovered:=true}::older))
 |u=>(.nilIface,u)
theorem Zmu(c₀:Frame)(cs:List Frame):(recoverD (c₀::cs)=some ((Zds c₀.mode).1,{c₀ with mode:=(Zds c₀.mode).2}::cs))\/(recoverD (c₀::cs)=none/\Zds c₀.mode=(.nilIface,c₀.mode)):=by
 cases hm:c₀.mode with
 |run=>right;simp[recoverD,Zds,hm]
 |returning=>right;simp[recoverD,Zds,hm]
 |panicking l=>
  cases l with
  |nil=>right;simp[recoverD,Zds,hm]
  |cons p older=>
   obtain⟨v,r,ge⟩:=p
   cases r<;>cases ge<;>first
    |(left;simp[recoverD,Zds,hm];done)
    |(right;simp[recoverD,Zds,hm];done)
section
variable {P:Program}
theorem Zo7{o1 o2:Oper}{tys:Array TypeId}{d6 d3:Nat}(h1:o1.op=.call {callee:=.builtin .recover,args:= #[],argTypes:=tys})(g1:o1.guard=none)(e1:o1.dst=some d6)
 (h2:o2.op=.assign (.tmp d6)) (g2:o2.guard=none) (e2:o2.dst=some d3) {Q:Exit->Act->List Frame->World->Prop} {a:Act} {c₀:Frame} {cs:List Frame} {w:World} (hs:d6<a.tmps.size)
 (h:Q .normal ((a.put (some d6) (Zds c₀.mode).1).put (some d3) (Zds c₀.mode).1) ({c₀ with mode:=(Zds c₀.mode).2}::cs) w):wpOpsS P #[o1,o2] Q (List.range 2) a (c₀::cs) w:=by
 have hr:List.range 2=[0,1]:=rfl;have w1:∀b:Act,Region.wanted o1 (yielded #[o1,o2] b.tmps)=true:=fun b=>by simp[Region.wanted,g1]
 have w2:∀b:Act,Region.wanted o2 (yielded #[o1,o2] b.tmps)=true:=fun b=>by simp[Region.wanted,g2]
 have x1:∀ev,(execOp ev o1).run P w=.ok .recover w:=fun ev=>by simp[execOp,h1,resolve,invoke,builtin]
 have x2:∀v:Value,(execOp ((a.put (some d6) v).eval) o2).run P w=.ok (.value v) w:=fun v=>by
  simp[execOp,h2,Act.eval,Act.put,hs]
 have e0:(#[o1,o2])[0]? =some o1:=rfl;have e9:(#[o1,o2])[1]? =some o2:=rfl;rw[hr];simp only[wpOpsS,e0,e9,w1,w2,if_true,x1];rcases Zmu c₀ cs with hd|⟨hd,hi⟩
 ·rw[hd];simp only[e1,x2,Oper.upon_value,e2];exact h
 ·rw[hd];rw[hi]at h;simp only[e1,x2,Oper.upon_value,e2];have:({c₀ with mode:=c₀.mode}:Frame)=c₀:=rfl;rw[this]at h;exact h
end
theorem Zwe{c:Cfg}{op:Opt}{f:FuncId}{fn:Func}{id:Nat}{o1 o2:Oper}{rest:Code}{tys:Array TypeId}{d6 d3:Nat}{args:List RA}{K:List (RRef×List RA)}{nv depth:Nat}{up:Nat->Ref}{ρ:Env}{t:T}{e:E}{u:FrameMode}
 {R:List (Ref×List A)->Prop}
 (hmx:c.P.follows .mixedOrders=true) (hf:c.P.funcs[f]? =some fn) (hb:fn.body=some (.seq (.region id #[o1,o2] false) rest)) (hrs:fn.results.toList=[]) (hN:fn.ntmps=c.N)
 (h1:o1.op=.call {callee:=.builtin .recover,args:= #[],argTypes:=tys}) (g1:o1.guard=none) (e1:o1.dst=some d6)
 (h2:o2.op=.assign (.tmp d6)) (g2:o2.guard=none) (e2:o2.dst=some d3) (hd6:d6<c.N) (hd3:d3<c.N)
 (hlen:args.length<=c.N) (ha:Zsk args=true) (hK:Zq0 K=true) (hcell:isCell (Zds u).1=true) (he:(e.den ρ).dd=.lit (Zds u).1)
 (ht:Zb1 c op rest (((Zgh depth args K nv).put d6 (.c e)).put d3 (.c e)) (finT c [] (K.map (·.1)))=t) (hnd:((Zab ρ ⟨up,gen0⟩ K).map (·.1)).Nodup)
 (h:t.vc c.P up (fun o H=>match o with|.ret _=>R H|.pan _=>False) ρ):
 Zs9 c.P f (args.map (RA.den ρ ⟨up,gen0⟩ gen0)) (Zab ρ ⟨up,gen0⟩ K) u (Zds u).2 R:=by
 unfold T.vc at h
 have hargs:∀x∈args,(x.den ρ ⟨up,gen0⟩ gen0).isOwn=false/\(x.den ρ ⟨up,gen0⟩ gen0).plain=true/\x.ali=none:=fun x hx=>by
  have:=List.all_eq_true.1 ha x hx;cases x with
  |c x=>exact⟨rfl,rfl,rfl⟩
  |agg x=>exact⟨rfl,rfl,rfl⟩
  |zs x=>exact⟨rfl,rfl,rfl⟩
  |ptr r o=>exact⟨rfl,rfl,rfl⟩
  |fn f l=>exact⟨rfl,rfl,rfl⟩
  |_=>cases this
 have hnames:∀x∈K,∃n,x.1=.up n:=fun x hx=>by
  have:=List.all_eq_true.1 hK x hx;cases hx1:x.1 with
  |own t=>rw[hx1]at this;cases this
  |up n=>exact⟨n,rfl⟩
 have hget:∀j,(Zgh depth args K nv).tm.get j=.any\/args[j]? =some ((Zgh depth args K nv).tm.get j):=fun j=>by
  rcases Zd1 args (Tr.full depth) 0 j with h|⟨h1,_⟩|⟨_,h2⟩|⟨_,h2⟩
  ·exact .inl h
  ·omega
  ·right;rw[Nat.sub_zero]at h2;exact h2
  ·left;show(Zca (Tr.full depth) 0 args).get j=.any;rw[h2,Zf5]
 have hd:Den ρ ⟨up,gen0⟩ (Zgh depth args K nv) (Zd9 (args.map (RA.den ρ ⟨up,gen0⟩ gen0)) (Zab ρ ⟨up,gen0⟩ K)):=by
  refine⟨fun j=>?_,fun _ j=>?_,fun r x hx=>?_,?_,fun e he=>by cases he⟩
  ·rcases hget j with h1|h1
   ·exact .inl h1
   ·right;show((args.map (RA.den ρ ⟨up,gen0⟩ gen0))[j]?).getD .any=_;rw[List.getElem?_map,h1];rfl
  ·rcases hget j with h1|h1
   ·rw[h1];rfl
   ·exact(hargs _ (List.mem_of_getElem? h1)).2.2
  ·exact Zbf hnd (List.mem_map.2 ⟨(r,x),hx,rfl⟩)
  ·have e:(K.map fun x=>x.1.den ⟨up,gen0⟩)=(Zab ρ ⟨up,gen0⟩ K).map (·.1):=by simp[Zab,Function.comp_def]
   show(K.map fun x=>x.1.den ⟨up,gen0⟩).Nodup;rw[e];exact hnd
 intro w cargs g hcargs hheap;refine callsD_of_wpS hf hb fun c₀ cs hu=>?_
 subst hu
 have hR:=Zjd (N:=fn.ntmps) (by rw[hN];simpa using hlen) (fun x hx=>by
  obtain⟨y,hy,rfl⟩:=List.mem_map.1 hx;exact⟨(hargs y hy).1,(hargs y hy).2.1⟩) hcargs hheap
 have hsz:=hR.size;refine wpS_seq (wpS_region ?_);have hn6:d6<fn.ntmps:=by rw[hN];exact hd6
 have hn3:d3<fn.ntmps:=by rw[hN];exact hd3
 refine Zo7 h1 g1 e1 h2 g2 e2 (by rw[hsz];exact hn6) ?_;refine wpS_of_wp ?_;have hR1:=(hR.put (x:=.d (.lit (Zds c₀.mode).1)) (v:=(Zds c₀.mode).1) hn6 rfl (.lit _ hcell) (fun t n e=>by cases e) (fun t n a b j e=>by cases e));have hR2:=(hR1.put (x:=.d (.lit (Zds c₀.mode).1)) (v:=(Zds c₀.mode).1) hn3 rfl (.lit _ hcell) (fun t n e=>by cases e) (fun t n a b j e=>by cases e));have hd1:=hd.put (d:=d6) (x:=.c e) (y:=.d (.lit (Zds c₀.mode).1)) (fun h=>by cases (show(none:Option Nat)=some _ from h)) (.inr (by simp only[RA.den,he]))
 have hd2:=hd1.put (d:=d3) (x:=.c e) (y:=.d (.lit (Zds c₀.mode).1)) (fun h=>by cases (show(none:Option Nat)=some _ from h)) (.inr (by simp only[RA.den,he]))
 subst ht
 have hupE:∀r∈(Zab ρ ⟨up,gen0⟩ K).map (·.1),∃q,r=.up q:=fun r hr=>by
  obtain⟨c',hc'⟩:=Zcd.2 hr;obtain⟨_,_,_,_,_,h5⟩:=hheap.box r c' hc';cases r with
  |own t n=>exact absurd h5 (Nat.not_lt_zero _)
  |up q=>exact⟨q,rfl⟩
 have hwalk:=Zb2 (c:=c) (op:=op) (C:=Zag c.P w g (Zab ρ ⟨up,gen0⟩ K) fn.ntmps) rfl hN hmx rest (n0:=nv) (ρ0:=ρ) (σ0:=[]) (Zqz (K0:=K) (ρ0:=ρ) rfl hnames) (Agr.refl _ _) (Nat.le_refl _) rfl (List.prefix_rfl) rfl hd2 h;refine wp_mono (hwalk g _ w hR2) fun ex a w' hq=>?_
 have fin:∀s g',Rel (Zag c.P w g (Zab ρ ⟨up,gen0⟩ K) fn.ntmps) s g' a w'->(∃v H',resA c.P s []=some v/\Zar v=true/\Ab.Left s (Zab ρ ⟨up,gen0⟩ K) H'/\R H')->
  a.defers=[]/\ ∃v,(results fn a.tmps).run c.P w'=.ok v w'/\ ∃H' g',R H'/\H'.map (·.1)=(Zab ρ ⟨up,gen0⟩ K).map (·.1)/\HeapRel (Zag c.P w g (Zab ρ ⟨up,gen0⟩ K) 0) (Zax H') g' w'/\ ∀x∈H',x.2.all Zar=true:=by
  rintro s g' hR' ⟨v,H',k1,k2,k3,k4⟩;rw[<-hrs]at k1;obtain⟨cv,m1,_⟩:=Zdt (C:=Zag c.P w g (Zab ρ ⟨up,gen0⟩ K) fn.ntmps) (fn:=fn) hR' k1;obtain⟨m4,_⟩:=HeapRel.out rfl hR'.heap hnd hupE k3;exact⟨hR'.defers,cv,m1,H',g',k4,k3.1,m4,fun x hx=>(k3.2 x hx).2⟩
 cases ex with
 |normal=>
  obtain⟨s,g',hR',hq⟩:=hq;obtain⟨q1,v,q2,q3⟩:=fin s g' hR' hq;exact⟨q1,_,rfl,v,q2,rfl,⟨v,rfl⟩,q3⟩
 |ret=>
  obtain⟨s,g',hR',hq⟩:=hq;obtain⟨q1,v,q2,q3⟩:=fin s g' hR' hq;exact⟨q1,_,rfl,v,q2,rfl,⟨v,rfl⟩,q3⟩
 |panic ch=>obtain⟨v,_,s,g',hR',H',_,hf⟩:=hq;exact hf.elim
 |exit i=>obtain⟨s,g',hR',hq⟩:=hq;exact hq.elim
 |goto l=>exact hq.elim
 |outgrown=>exact hq.elim
end Go.Rf
end
section
namespace Go.Rf
open Go.Ab
def Zlj(P:Program)(post:Code)(N:Nat)(slots:List (Nat×A))(H:List (Ref×List A))(keep:List (Nat×Ref))(R:Out->List (Ref×List A)->Prop):Prop:=
 ∀(w:World)(g:Gh)(a:Act),a.tmps.size=N->(∀x∈slots,RepA w g (fun _=>0) (.slot x.1) x.2 (a.tmps.getD x.1 undef))->HeapRel (Zag P w g H 0) (Zax H) g w->
  post.wp P (fun e a' w'=>∃o H' g',(match o with|.ret _=>e=.normal\/e=.ret|.pan v=>e=.panic [{v,recovered:=false}])/\R o H'/\H'.map (·.1)=H.map (·.1)/\HeapRel (Zag P w g H 0) (Zax H') g' w'/\a'.defers=a.defers/\a'.tmps.size=N/\
   ∀x∈keep,a'.tmps.getD x.1 undef=.pointer (some ⟨g'.bx x.2,0,none⟩)) a w
def Zb5{α:Type}:List (Nat×α)->Nat->Option α
 |[],_=>none
 |(k,x)::l,j=>if j=k then some x else Zb5 l j
theorem Zem{α:Type}:∀{l:List (Nat×α)}{j:Nat}{x:α},Zb5 l j=some x->(j,x)∈l
 |(k,y)::l,j,x,h=>by
  unfold Zb5 at h;split at h
  ·rename_i e;cases h;subst e;exact List.mem_cons_self ..
  ·exact List.mem_cons_of_mem _ (Zem h)
theorem Zlk{α β:Type}(f:α->β):∀(l:List (Nat×α))(j:Nat),Zb5 (l.map fun x=>(x.1,f x.2)) j=(Zb5 l j).map f
 |[],_=>rfl
 |(k,x)::l,j=>by
  simp only[List.map_cons,Zb5];split
  ·rfl
  ·exact Zlk f l j
def Zdg(t:Tr):List (Nat×RA)->Tr
 |[]=>t
 |(k,x)::l=>(Zdg t l).set k x
theorem Zgu(n:Nat):∀(l:List (Nat×RA))(j:Nat),(Zdg (Tr.full n) l).get j=.any\/Zb5 l j=some ((Zdg (Tr.full n) l).get j)
 |[],j=>.inl (Zf5 n j)
 |(k,x)::l,j=>by
  by_cases e:j=k
  ·subst e;rcases Tr.get_set x (Zdg (Tr.full n) l) j with h|h
   ·right;unfold Zb5;rw[if_pos rfl];exact congrArg some h.symm
   ·exact .inl h
  ·have:=Tr.get_set_ne x (Zdg (Tr.full n) l) e;unfold Zb5;rw[if_neg e];show((Zdg (Tr.full n) l).set k x).get j=.any\/_=some (((Zdg (Tr.full n) l).set k x).get j);rw[this];exact Zgu n l j
def Zn8(depth:Nat)(slots:List (Nat×RA))(K:List (RRef×List RA))(nv:Nat):RSt:={tm:=Zdg (Tr.full depth) slots,K:=K,nv:=nv,dep:=0,known:=[],al:=false}
def Zvu(x:RA):Bool:=match x with|.c _|.agg _|.zs _=>true|.ptr (.up _) _=>true|_=>false
def Zv7(rs:RSt)(names:List RRef)(keep:List (Nat×Nat)):Bool:=keep.all fun x=>match names[x.2]?,rs.tm.get x.1 with|some q,.ptr q' 0=>decide (q=q')|_,_=>false
def finP(keep:List (Nat×Nat))(names:List RRef):Re->RSt->T:=fun e rs=>
 match Zb8 rs.K names with
 |some K=>if K.all (fun x=>x.2.all RA.noOwn)&&Zv7 rs names keep then(match e with
  |.nrm|.ret=>.ret (.tup []) K
  |.pan v=>.pan v K
  |.exit _=>.bad 110)else .bad 111
 |none=>.bad 112
theorem HeapRel.conv{C C':Ctx}{s s':St}{g:Gh}{w:World}(h:HeapRel C s g w)(hK:s'.K=s.K)(hgen:s'.gen=s.gen)(ho:∀t,(s'.tm t).isOwn=false)(e1:C'.w0=C.w0)(e2:C'.E=C.E)(e3:C'.Pr0=C.Pr0)(e4:C'.bx0=C.bx0)(e5:C'.U=C.U):HeapRel C' s' g w:=by
 have old:∀{o b},Owns s' g o b->Owns s g o b:=fun{o b} h1=>by
  cases h1 with
  |box h1=>exact .box (by rw[<-hK];exact h1)
  | @slot t h1=>rw[ho t]at h1;cases h1
  |cell h1 h2 h3=>exact .cell (by rw[<-hK];exact h1) h2 h3
 refine⟨fun r c hc=>?_,fun o o' b h1 h2=>h.inj o o' b (old h1) (old h2),fun o b h1=>?_,h.prs,fun b o hp=>?_,fun b o hp=>?_,fun r=>?_,fun r hr=>?_,?_⟩
 ·rw[hK]at hc;rw[hgen];exact h.box r c hc
 ·rw[e1,e2];exact h.wr o b (old h1)
 ·rw[e3]at hp;exact h.pr0 b o hp
 ·rw[e1,e2,e3];exact h.prn b o hp
 ·rw[e4];exact h.up r
 ·rw[e5];exact h.uu r hr
 ·rw[e1,e2,e3];exact h.fr
theorem HeapRel.fresh{C:Ctx}{P:Program}{H:List (Ref×List A)}{g:Gh}{w:World}(h:HeapRel C (Zax H) g w):HeapRel (Zag P w g H 0) (Zax H) g w:=
 ⟨h.box,h.inj,fun o b h1=>.inr ⟨o,h1⟩,h.prs,fun _ _ h=>h,fun _ _ h=>.inl h,fun _=>rfl,fun _ h=>h,Fr.refl _ _ _⟩
theorem HeapRel.trans{P:Program}{w w' w2:World}{g g' g2:Gh}{H H' H2:List (Ref×List A)}(h1:HeapRel (Zag P w g H 0) (Zax H') g' w')(h2:HeapRel (Zag P w' g' H' 0) (Zax H2) g2 w2):HeapRel (Zag P w g H 0) (Zax H2) g2 w2:=by
 have hwr:∀b,(w'.heap.size<=b\/ ∃o,Owns (Zax H') g' o b)->w.heap.size<=b\/ ∃o,Owns (Zax H) g o b:=fun b hb=>by
  rcases hb with hb|⟨o,hb⟩
  ·exact .inl (Nat.le_trans h1.fr.size hb)
  ·exact h1.wr o b hb
 refine⟨h2.box,h2.inj,fun o b ho=>hwr b (h2.wr o b ho),h2.prs,fun b o hp=>h2.pr0 b o (h1.pr0 b o hp),fun b o hp=>?_,fun r=>(h2.up r).trans (h1.up r),fun r hr=>h1.uu r (h2.uu r hr),?_⟩
 ·rcases h2.prn b o hp with h3|h3|h3
  ·exact h1.prn b o h3
  ·exact .inr (hwr b (.inr h3)).symm
  ·exact .inr (hwr b (.inl h3)).symm
 ·exact h1.fr.trans h2.fr (fun b hb=>(hwr b (.inr hb)).symm) h1.pr0
theorem Zvw{c:Cfg}{op:Opt}{post:Code}{slots:List (Nat×RA)}{K:List (RRef×List RA)}{keep:List (Nat×Nat)}{nv depth:Nat}{up:Nat->Ref}{ρ:Env}{t:T}{R:Out->List (Ref×List A)->Prop}
 (hmx:c.P.follows .mixedOrders=true) (hs:slots.all (fun x=>Zvu x.2)=true) (hK:Zq0 K=true)
 (ht:Zb1 c op post (Zn8 depth slots K nv) (finP keep (K.map (·.1)))=t) (hnd:((Zab ρ ⟨up,gen0⟩ K).map (·.1)).Nodup) (h:t.vc c.P up R ρ):
 Zlj c.P post c.N (slots.map fun x=>(x.1,x.2.den ρ ⟨up,gen0⟩ gen0)) (Zab ρ ⟨up,gen0⟩ K) (keep.map fun x=>(x.1,(((K.map (·.1))[x.2]?).map (RRef.den ⟨up,gen0⟩)).getD (.own 0 0))) R:=by
 unfold T.vc at h
 have hslot:∀x∈slots,(x.2.den ρ ⟨up,gen0⟩ gen0).isOwn=false/\(x.2.den ρ ⟨up,gen0⟩ gen0).plain=true/\x.2.ali=none:=fun x hx=>by
  have:=List.all_eq_true.1 hs x hx;revert this;generalize x.2=y;intro this;cases y with
  |c x=>exact⟨rfl,rfl,rfl⟩
  |agg x=>exact⟨rfl,rfl,rfl⟩
  |zs x=>exact⟨rfl,rfl,rfl⟩
  |ptr r o=>exact⟨rfl,rfl,rfl⟩
  |_=>cases this
 have hnames:∀x∈K,∃n,x.1=.up n:=fun x hx=>by
  have:=List.all_eq_true.1 hK x hx;cases hx1:x.1 with
  |own t=>rw[hx1]at this;cases this
  |up n=>exact⟨n,rfl⟩
 intro w g a hsz hsl hheap
 let D:Ctx:={Zag c.P w g (Zab ρ ⟨up,gen0⟩ K) c.N with ds:=a.defers}
 let s0:St:=⟨fun j=>(Zb5 (slots.map fun x:Nat×RA=>(x.1,x.2.den ρ ⟨up,gen0⟩ gen0)) j).getD A.any,kOf (Zab ρ ⟨up,gen0⟩ K),fun _=>0⟩
 have hplain:∀j,(s0.tm j).isOwn=false/\(s0.tm j).plain=true:=fun j=>by
  show((Zb5 (slots.map fun x:Nat×RA=>(x.1,x.2.den ρ ⟨up,gen0⟩ gen0)) j).getD A.any).isOwn=false/\_;cases hl:Zb5 (slots.map fun x=>(x.1,x.2.den ρ ⟨up,gen0⟩ gen0)) j with
  |none=>exact⟨rfl,by show((Zb5 (slots.map fun x:Nat×RA=>(x.1,x.2.den ρ ⟨up,gen0⟩ gen0)) j).getD A.any).plain=true;rw[hl];rfl⟩
  |some x=>
   obtain⟨y,hy,e⟩:=List.mem_map.1 (Zem hl);cases e;exact⟨(hslot y hy).1,by show((Zb5 (slots.map fun x:Nat×RA=>(x.1,x.2.den ρ ⟨up,gen0⟩ gen0)) _).getD A.any).plain=true;rw[hl];exact(hslot y hy).2.1⟩
 have hR:Rel D s0 g a w:=by
  refine⟨rfl,hsz,fun j=>?_,fun u t n hu=>?_,fun u t n m i j hu=>?_,?_⟩
  ·show RepA w g (fun _=>0) (.slot j) ((Zb5 (slots.map fun x:Nat×RA=>(x.1,x.2.den ρ ⟨up,gen0⟩ gen0)) j).getD A.any) _;cases hl:Zb5 (slots.map fun x=>(x.1,x.2.den ρ ⟨up,gen0⟩ gen0)) j with
   |none=>trivial
   |some x=>exact hsl _ (Zem hl)
  ·have:=(hplain u).2;rw[hu]at this;cases this
  ·have:=(hplain u).2;rw[hu]at this;cases this
  ·exact HeapRel.conv hheap rfl rfl (fun t=>(hplain t).1) rfl rfl rfl rfl rfl
 have hget:∀j,(Zn8 depth slots K nv).tm.get j=.any\/Zb5 slots j=some ((Zn8 depth slots K nv).tm.get j):=fun j=>Zgu depth slots j
 have hd:Den ρ ⟨up,gen0⟩ (Zn8 depth slots K nv) s0:=by
  refine⟨fun j=>?_,fun _ j=>?_,fun r x hx=>?_,?_,fun e he=>by cases he⟩
  ·rcases hget j with h1|h1
   ·exact .inl h1
   ·right;show(Zb5 (slots.map fun x:Nat×RA=>(x.1,x.2.den ρ ⟨up,gen0⟩ gen0)) j).getD A.any=_;rw[Zlk (fun x:RA=>x.den ρ ⟨up,gen0⟩ gen0),h1];rfl
  ·rcases hget j with h1|h1
   ·rw[h1];rfl
   ·exact(hslot _ (Zem h1)).2.2
  ·exact Zbf hnd (List.mem_map.2 ⟨(r,x),hx,rfl⟩)
  ·have e:(K.map fun x=>x.1.den ⟨up,gen0⟩)=(Zab ρ ⟨up,gen0⟩ K).map (·.1):=by simp[Zab,Function.comp_def]
   show(K.map fun x=>x.1.den ⟨up,gen0⟩).Nodup;rw[e];exact hnd
 let Q:Ex->St->Prop:=fun ex s=>∃o H',(match o with|.ret _=>ex=.normal\/ex=.ret|.pan v=>ex=.pan v)/\R o H'/\Ab.Left s (Zab ρ ⟨up,gen0⟩ K) H'/\
  ∀x∈keep,∃q,(K.map (·.1))[x.2]? =some q/\s.tm x.1=.ptr (q.den ⟨up,gen0⟩) 0
 have hG:Zge c.P up R nv ρ [] Q (finP keep (K.map (·.1))):=by
  intro e ρ' m rs s σ _ _ hu _ _ hd h;unfold finP at h;split at h
  ·rename_i K' hK';split at h
   ·rename_i hno;rw[Bool.and_eq_true]at hno;obtain⟨hno,hkp⟩:=hno;have hup:(⟨m.up,gen0⟩:Nm)=⟨up,gen0⟩:=by rw[hu]
    have hcell:∀x∈K',kDen ρ' m x.2=kDen ρ' ⟨up,gen0⟩ x.2/\(kDen ρ' m x.2).all Zar=true:=fun x hx=>by
     have h1:=List.all_eq_true.1 hno x hx;refine⟨List.map_congr_left fun y hy=>?_,?_⟩
     ·have:=(Zej (List.all_eq_true.1 h1 y hy) (ρ:=ρ') (m:=m) (gen:=fun _=>0)).1;rw[this,hup];rfl
     ·rw[List.all_eq_true];intro a ha;obtain⟨y,hy,rfl⟩:=List.mem_map.1 ha;exact(Zej (List.all_eq_true.1 h1 y hy)).2
    have hnm:K'.map (·.1)=K.map (·.1):=Zdf hK'
    have hnameD:∀q∈K.map (·.1),q.den m=q.den ⟨up,gen0⟩:=fun q hq=>by
     obtain⟨y,hy,rfl⟩:=List.mem_map.1 hq;obtain⟨n,hn⟩:=hnames y hy;rw[hn];show Ref.up (m.up n)=Ref.up (up n);rw[hu]
    have hleft:Ab.Left s (Zab ρ ⟨up,gen0⟩ K) (Zab ρ' ⟨up,gen0⟩ K'):=by
     refine⟨?_,fun x hx=>?_⟩
     ·have:=congrArg (List.map (RRef.den ⟨up,gen0⟩)) hnm;simpa[Zab,Function.comp_def]using this
     ·obtain⟨y,hy,rfl⟩:=List.mem_map.1 hx;obtain⟨h1,h2⟩:=hcell y hy;rw[<-h1];exact⟨by rw[<-hnameD y.1 (hnm▸List.mem_map.2 ⟨y,hy,rfl⟩)];exact hd.look (Zbs hK' y hy),h2⟩
    have hkeep:∀x∈keep,∃q,(K.map (·.1))[x.2]? =some q/\s.tm x.1=.ptr (q.den ⟨up,gen0⟩) 0:=fun x hx=>by
     have:=List.all_eq_true.1 hkp x hx;split at this
     ·rename_i q q' h1 h2;have e:=of_decide_eq_true this;subst e;refine⟨q,h1,?_⟩;have h3:=(hd.tm x.1).resolve_left (by rw[h2];intro e;cases e);rw[h3,h2];show A.ptr (q.den m) 0=_;rw[hnameD q (List.mem_of_getElem? h1)]
     ·cases this
    cases e with
    |nrm=>unfold T.den at h;exact⟨.ret (.tup []),_,Or.inl rfl,h,hleft,hkeep⟩
    |ret=>unfold T.den at h;exact⟨.ret (.tup []),_,Or.inr rfl,h,hleft,hkeep⟩
    |pan v=>unfold T.den at h;exact⟨.pan (dval (v.den ρ').dd),_,rfl,h,hleft,hkeep⟩
    |exit id=>unfold T.den at h;exact h.elim
   ·unfold T.den at h;exact h.elim
  ·unfold T.den at h;exact h.elim
 subst ht;have hwalk:=Zb2 (c:=c) (op:=op) (C:=D) rfl rfl hmx post (n0:=nv) (ρ0:=ρ) (σ0:=[]) hG (Agr.refl _ _) (Nat.le_refl _) rfl (List.prefix_rfl) rfl hd h;refine wp_mono (hwalk g a w hR) fun ex a' w' hq=>?_
 have hupE:∀r∈(Zab ρ ⟨up,gen0⟩ K).map (·.1),∃q,r=.up q:=fun r hr=>by
  obtain⟨c',hc'⟩:=Zcd.2 hr;obtain⟨_,_,_,_,_,h5⟩:=hheap.box r c' hc';cases r with
  |own t n=>exact absurd h5 (Nat.not_lt_zero _)
  |up q=>exact⟨q,rfl⟩
 have fin:∀(s:St)(g':Gh)(o:Out)(H':List (Ref×List A)),Rel D s g' a' w'->R o H'->Ab.Left s (Zab ρ ⟨up,gen0⟩ K) H'->(∀x∈keep,∃q,(K.map (·.1))[x.2]? =some q/\s.tm x.1=.ptr (q.den ⟨up,gen0⟩) 0)->
  (match o with|.ret _=>ex=.normal\/ex=.ret|.pan v=>ex=.panic [{v,recovered:=false}])->
  ∃o H' g',(match o with|.ret _=>ex=.normal\/ex=.ret|.pan v=>ex=.panic [{v,recovered:=false}])/\R o H'/\H'.map (·.1)=(Zab ρ ⟨up,gen0⟩ K).map (·.1)/\HeapRel (Zag c.P w g (Zab ρ ⟨up,gen0⟩ K) 0) (Zax H') g' w'/\a'.defers=a.defers/\a'.tmps.size=c.N/\
  ∀x∈keep.map fun x=>(x.1,(((K.map (·.1))[x.2]?).map (RRef.den ⟨up,gen0⟩)).getD (.own 0 0)),a'.tmps.getD x.1 undef=.pointer (some ⟨g'.bx x.2,0,none⟩):=fun s g' o H' hR' k1 k2 k3 k4=>by
  have hh:HeapRel (Zag c.P w g (Zab ρ ⟨up,gen0⟩ K) c.N) s g' w':=⟨hR'.heap.box,hR'.heap.inj,hR'.heap.wr,hR'.heap.prs,hR'.heap.pr0,hR'.heap.prn,hR'.heap.up,hR'.heap.uu,hR'.heap.fr⟩;obtain⟨m4,_⟩:=HeapRel.out rfl hh hnd hupE k2;refine⟨o,H',g',k4,k1,k2.1,m4,hR'.defers,hR'.size,fun x hx=>?_⟩;obtain⟨y,hy,rfl⟩:=List.mem_map.1 hx;obtain⟨q,h1,h2⟩:=k3 y hy;have h3:=hR'.slot y.1;rw[h2]at h3;have h4:=h3.1;show a'.tmps.getD y.1 undef=_;rw[h4,h1];rfl
 cases ex with
 |normal=>
  obtain⟨s,g',hR',o,H',h1,h2,h3,h4⟩:=hq;cases o with
  |ret v=>exact fin s g' (.ret v) H' hR' h2 h3 h4 (.inl rfl)
  |pan v=>cases h1
 |ret=>
  obtain⟨s,g',hR',o,H',h1,h2,h3,h4⟩:=hq;cases o with
  |ret v=>exact fin s g' (.ret v) H' hR' h2 h3 h4 (.inr rfl)
  |pan v=>cases h1
 |panic ch=>
  obtain⟨v,e,s,g',hR',o,H',h1,h2,h3,h4⟩:=hq;cases o with
  |ret v=>rcases h1 with h1|h1<;>cases h1
  |pan u=>cases h1;exact fin s g' (.pan v) H' hR' h2 h3 h4 (congrArg Exit.panic e)
 |exit i=>
  obtain⟨s,g',hR',o,H',h1,_⟩:=hq;cases o with
  |ret v=>rcases h1 with h1|h1<;>cases h1
  |pan v=>cases h1
 |goto l=>exact hq.elim
 |outgrown=>exact hq.elim
end Go.Rf
end
section
namespace Go.Rf
open Go.Ab
def Zsq(c:Cfg)(op:Opt):List Code->RSt->(Re->RSt->T)->T
 |[],rs,K=>K .nrm rs
 |x::l,rs,K=>Zb1 c op x rs fun e rs=>match e with
  |.nrm=>Zsq c op l rs K
  |e=>K e rs
def endW(P:Program)(y:Code)(Qw:Exit->Act->World->Prop):Ex->Act->World->Prop
 |.normal,a,w=>y.wp P Qw a w
 |.ret,a,w=>Qw .ret a w
 |.exit i,a,w=>Qw (.exit i) a w
 |.pan v,a,w=>Qw (.panic [{v,recovered:=false}]) a w
def QW(C:Ctx)(y:Code)(Qw:Exit->Act->World->Prop):Ex->St->Prop:=fun ex s=>∀g a w,Rel C s g a w->endW C.P y Qw ex a w
section
variable {up:Nat->Ref} {R:Out->List (Ref×List A)->Prop}
theorem Zvv{C:Ctx}{y:Code}{Qw:Exit->Act->World->Prop}:∀e a w,Qc C (QW C y Qw) e a w->(Exit.then (y.wp C.P Qw) Qw) e a w
 |.normal,_,_,⟨s,g,r,q⟩=>q g _ _ r
 |.exit _,_,_,⟨s,g,r,q⟩=>q g _ _ r
 |.ret,_,_,⟨s,g,r,q⟩=>q g _ _ r
 |.panic _,_,_,⟨v,e,s,g,r,q⟩=>by subst e;exact q g _ _ r
 |.goto _,_,_,q=>q.elim
 |.outgrown,_,_,q=>q.elim
theorem Zn9{c:Cfg}{op:Opt}{C:Ctx}(hP:C.P=c.P)(hN:C.N=c.N)(hmx:c.P.follows .mixedOrders=true){y:Code}{Qw:Exit->Act->World->Prop}{K:Re->RSt->T}{n0:Nat}{ρ0:Env}{σ0:Sig}(hK:Zge c.P up R n0 ρ0 σ0 (QW C y Qw) K):
 ∀(l:List Code){ρ:Env}{m:Nm}{rs:RSt}{s:St}{σ:Sig},Agr n0 ρ0 ρ->n0<=rs.nv->m.up=up->σ0<+:σ->rs.dep=σ.length->Den ρ m rs s->(Zsq c op l rs K).den c.P up R ρ σ->
  ∀g a w,Rel C s g a w->(l.foldr Code.seq y).wp C.P Qw a w
 |[],ρ,m,rs,s,σ,ha,hnv,hu,hσ,hdep,hd,h=>fun g a w hR=>hK .nrm ρ m rs s σ ha hnv hu hσ hdep hd h g a w hR
 |x::l,ρ,m,rs,s,σ,ha,hnv,hu,hσ,hdep,hd,h=>fun g a w hR=>by
  have hx:=Zb2 (c:=c) (op:=op) (C:=C) hP hN hmx x (Q:=QW C (l.foldr Code.seq y) Qw) (K:=fun e rs=>match e with|.nrm=>Zsq c op l rs K|e=>K e rs) (n0:=n0) (ρ0:=ρ0) (σ0:=σ0) (up:=up) (R:=R)
   (fun e ρ' m' rs' s' σ' ha' hnv' hu' hσ' hdep' hd' h'=>by
    cases e with
    |nrm=>exact Zn9 hP hN hmx hK l ha' hnv' hu' hσ' hdep' hd' h'
    |ret=>exact hK .ret ρ' m' rs' s' σ' ha' hnv' hu' hσ' hdep' hd' h'
    |exit i=>exact hK (.exit i) ρ' m' rs' s' σ' ha' hnv' hu' hσ' hdep' hd' h'
    |pan v=>exact hK (.pan v) ρ' m' rs' s' σ' ha' hnv' hu' hσ' hdep' hd' h') ha hnv hu hσ hdep hd h
  exact wp_seq (wp_mono (hx g a w hR) Zvv)
end
def Zoa(rs:RSt):List Nat->Option (List (Bool×E))
 |[]=>some []
 |t::l=>match rs.tm.get t,Zoa rs l with
  |.c e,some r=>some ((false,e)::r)
  |.agg e,some r=>some ((true,e)::r)
  |_,_=>none
def up0:Nat->Ref:=fun i=>.own i i
def idxR:List RRef->RRef->Option Nat
 |[],_=>none
 |q::l,r=>if q=r then some 0 else(idxR l r).map (· +1)
theorem Zll:∀{l:List RRef}{r:RRef}{i:Nat},idxR l r=some i->l[i]? =some r
 |q::l,r,i,h=>by
  unfold idxR at h;split at h
  ·rename_i e;cases h;rw[e];rfl
  ·cases hi:idxR l r with
   |none=>rw[hi]at h;cases h
   |some j=>
    rw[hi]at h;cases h;rw[List.getElem?_cons_succ];exact Zll hi
def renC(refs:List RRef):RA->Option RA
 |.c e=>some (.c e)
 |.zs e=>some (.zs e)
 |.ptr r 0=>(idxR refs r).map fun i=>.ptr (.up i) 0
 |_=>none
def renL(refs:List RRef):List RA->Option (List RA)
 |[]=>some []
 |x::l=>match renC refs x,renL refs l with|some y,some m=>some (y::m)|_,_=>none
def renK(refs:List RRef):List (RRef×List RA)->Option (List (RRef×List RA))
 |[]=>some []
 |(r,c)::l=>match renL refs c,renK refs l with|some d,some m=>some ((r,d)::m)|_,_=>none
def renA(qs:List Ref):A->A
 |.ptr (.up (.own i _)) o=>.ptr (.up (qs.getD i (.own 0 0))) o
 |x=>x
theorem Zrg{refs:List RRef}{x y:RA}(h:renC refs x=some y)(ρ:Env)(m:Nm)(gen:Nat->Nat):(x.den ρ m gen).lift=renA (refs.map (RRef.den m)) (y.den ρ ⟨up0,gen0⟩ gen):=by
 unfold renC at h;split at h
 ·cases h;rfl
 ·cases h;rfl
 ·rename_i r;cases hi:idxR refs r with
  |none=>rw[hi]at h;cases h
  |some i=>
   rw[hi]at h;cases h;have:=Zll hi;show A.ptr (.up (r.den m)) 0=A.ptr (.up ((refs.map (RRef.den m)).getD i (.own 0 0))) 0;rw[List.getD,List.getElem?_map,this];rfl
 ·cases h
theorem Zlm{refs:List RRef}(ρ:Env)(m:Nm):∀{l l2:List RA},renL refs l=some l2->(kDen ρ m l).map A.lift=(kDen ρ ⟨up0,gen0⟩ l2).map (renA (refs.map (RRef.den m)))
 |[],l2,h=>by cases h;rfl
 |x::l,l2,h=>by
  unfold renL at h;split at h
  ·rename_i y n h1 h2;cases h;have:=Zlm ρ m h2;simp only[kDen,List.map_cons]at this⊢;rw[this,Zrg h1]
  ·cases h
theorem Zln{refs:List RRef}(ρ:Env)(m:Nm):∀{K K2:List (RRef×List RA)},renK refs K=some K2->K2.map (·.1)=K.map (·.1)/\Zao (Zab ρ m K)=((K.map (·.1)).map fun r=>Ref.up (r.den m)).zip ((Zab ρ ⟨up0,gen0⟩ K2).map fun x=>x.2.map (renA (refs.map (RRef.den m))))
 |[],K2,h=>by cases h;exact⟨rfl,rfl⟩
 |(r,c)::l,K2,h=>by
  unfold renK at h;split at h
  ·rename_i d n h1 h2;cases h;obtain⟨k1,k2⟩:=Zln ρ m h2;refine⟨by simp[k1],?_⟩;have:=Zlm ρ m h1;simp only[Zao,Zab,List.map_cons,List.zip_cons_cons]at k2⊢;rw[this,k2]
  ·cases h
def preT(c:Cfg)(caps:List Nat)(extra:List RRef)(data:List Nat)(rl:List ResultVar):Re->RSt->T:=fun e rs=>
 match e with
 |.nrm=>(match Zks (caps.map fun t=>rs.tm.get t),Zoa rs data with
  |some refs,some vs=>(match Zb8 rs.K (refs++extra)with
   |some K=>(match renK (refs++extra) K with
    |some K2=>if decide (refs++extra).Nodup&&!(refs++extra).isEmpty then .ret (.tup vs) K2 else .bad 120
    |none=>.bad 123)
   |none=>.bad 121)
  |_,_=>.bad 122)
 |e=>finT c rl [] e rs
def Zut:Bool×List D->A
 |(true,l)=>.agg l
 |(false,[x])=>.d x
 |_=>.any
def Zta:Out->FrameMode|.ret _=>.returning|.pan v=>.panicking [{v,recovered:=false}]
def resD(kn:List (Nat×Nat))(ls:List (List A)):Option (List (Bool×List D)):=kn.mapM fun x=>match ls[x.1]? with
 |some l=>(match Zbl l with|some l=>if l.length=x.2 then some (true,l)else none|none=>none)
 |none=>none
def midR(P:Program)(F:FuncId)(nc:Nat)(kn:List (Nat×Nat))(Rfin:Out->Prop)(qs:List Ref):Out->List (Ref×List A)->Prop:=fun o H'=>
 ∃u' RH,Zs9 P F ((qs.take nc).map fun q=>A.ptr (.up q) 0) H' (Zta o) u' RH/\settle u'=.returning/\ ∀H2,RH H2-> ∃vs,resD kn (H2.map (·.2))=some vs/\Rfin (.ret (.tup vs))
def preR(P:Program)(post:Code)(N:Nat)(F:FuncId)(caps data:List Nat)(keep kn:List (Nat×Nat))(Rfin:Out->Prop):Out->List (Ref×List A)->Prop:=fun o H=>
 (H=[]->Rfin o)/\(H≠[]-> ∃vs,o=.ret (.tup vs)/\ ∀qs:List Ref,qs.length=H.length->qs.Nodup->
  Zlj P post N (data.zip (vs.map Zut)++caps.zip ((qs.take caps.length).map fun q=>A.ptr (.up q) 0)) ((qs.map Ref.up).zip (H.map fun x=>x.2.map (renA qs))) (keep.map fun x=>(x.1,(qs.map Ref.up).getD x.2 (.own 0 0))) (midR P F caps.length kn Rfin qs))
def Zcp(P:Program):List ResultVar->List (Nat×Nat)->List (Nat×Nat)->Bool
 |[],[],[]=>true
 |.cell t ty::l,(t',i)::k,(j,n)::m=>(t==t')&&(i==j)&&(szOf P ty==some (n,true))&&Zcp P l k m
 |_,_,_=>false
theorem Zfc{rs:RSt}:∀{l:List Nat}{vs:List (Bool×E)},Zoa rs l=some vs-> ∀(ρ:Env)(m:Nm)(gen:Nat->Nat),∀x∈l.zip ((vs.map (Zc2 ρ)).map Zut),rs.tm.get x.1≠ .any/\x.2=(rs.tm.get x.1).den ρ m gen/\(∃d,x.2=.d d)\/rs.tm.get x.1≠ .any/\x.2=(rs.tm.get x.1).den ρ m gen/\ ∃d,x.2=.agg d
 |[],_,_,_,_,_,x,hx=>by simp at hx
 |t::l,vs,h,ρ,m,gen,x,hx=>by
  unfold Zoa at h;split at h
  ·rename_i e r h1 h2;cases h;simp only[List.map_cons,List.zip_cons_cons,List.mem_cons]at hx;rcases hx with rfl|hx
   ·left;dsimp only;rw[h1];exact⟨(fun e=>by cases e),rfl,_,rfl⟩
   ·exact Zfc h2 ρ m gen x hx
  ·rename_i e r h1 h2;cases h;simp only[List.map_cons,List.zip_cons_cons,List.mem_cons]at hx;rcases hx with rfl|hx
   ·right;dsimp only;rw[h1];exact⟨(fun e=>by cases e),rfl,_,rfl⟩
   ·exact Zfc h2 ρ m gen x hx
  ·cases h
theorem Zgk:∀{l:List RA}{q:List RRef},Zks l=some q->l=q.map fun r=>RA.ptr r 0
 |[],q,h=>by cases h;rfl
 |x::l,q,h=>by
  unfold Zks at h;split at h
  ·rename_i heq;cases heq
  ·rename_i r l' heq;cases heq;cases hq:Zks l with
   |none=>rw[hq]at h;cases h
   |some q'=>
    rw[hq]at h;cases h;rw[Zgk hq];rfl
  ·cases h
theorem Zid{α:Type}:∀{l:List (Nat×α)}{x:Nat×α},(l.map (·.1)).Nodup->x∈l->Zb5 l x.1=some x.2
 |(k,y)::l,x,hn,hx=>by
  simp only[List.map_cons,List.nodup_cons]at hn;unfold Zb5;rcases List.mem_cons.1 hx with rfl|hx
  ·rw[if_pos rfl]
  ·rw[if_neg (fun e=>hn.1 (by rw[<-e];exact List.mem_map_of_mem hx))];exact Zid hn.2 hx
theorem Zob{P:Program}{s:St}{ls:List (List A)}{qs:List Ref}(hb:∀i (h:i<ls.length),∃r,qs[i]? =some r/\s.K r=some ls[i]):
 ∀{rl:List ResultVar}{keep kn:List (Nat×Nat)}{vs:List (Bool×List D)},Zcp P rl keep kn=true->(∀x∈keep,s.tm x.1=.ptr (qs.getD x.2 (.own 0 0)) 0)->resD kn ls=some vs->
  ∃as,rl.mapM (Zcn P s)=some as/\as.mapM Zfl=some vs
 |[],[],[],vs,_,_,h=>by cases h;exact⟨[],rfl,rfl⟩
 |.cell t ty::rl,(t',i)::keep,(j,n)::kn,vs,hc,hk,h=>by
  simp only[Zcp,Bool.and_eq_true,beq_iff_eq]at hc;obtain⟨⟨⟨rfl,rfl⟩,hz⟩,hc⟩:=hc;unfold resD at h;rw[List.mapM_cons]at h;simp only[bind,Option.bind_eq_some_iff,pure,Option.some.injEq]at h;obtain⟨v,h1,vs',h2,rfl⟩:=h;obtain⟨as,h3,h4⟩:=Zob hb hc (fun x hx=>hk x (List.mem_cons_of_mem _ hx)) h2;split at h1
  ·rename_i l0 hl;split at h1
   rotate_left
   ·cases h1
   rename_i l hcd;split at h1
   ·rename_i hn;cases h1;have hi:i<ls.length:=(List.getElem?_eq_some_iff.1 hl).1;obtain⟨r,hr,hK⟩:=hb i hi;have e:ls[i]=l0:=(List.getElem?_eq_some_iff.1 hl).2;have ht:=hk (t,i) (List.mem_cons_self ..);have hg:qs.getD i (.own 0 0)=r:=by rw[List.getD,hr];rfl
    dsimp only at ht;rw[hg]at ht
    have:Zcn P s (.cell t ty)=some (.agg l):=by
     simp only[Zcn,Zcm,hz,ht,hK,e,List.drop_zero];have:l0.take n=l0:=List.take_of_length_le (by have:=(Zcu hcd).1;omega);rw[this,hcd];simp[hn]
    refine⟨.agg l::as,?_,?_⟩
    ·rw[List.mapM_cons,this,h3];rfl
    ·rw[List.mapM_cons,h4];rfl
   ·cases h1
  ·cases h1
 |[],[],_::_,_,h,_,_=>by simp[Zcp]at h
 |[],_::_,_,_,h,_,_=>by simp[Zcp]at h
 |.tmp _::_,_,_,_,h,_,_=>by simp[Zcp]at h
 |.cell _ _::_,[],_,_,h,_,_=>by simp[Zcp]at h
 |.cell _ _::_,_::_,[],_,h,_,_=>by simp[Zcp]at h
theorem Zlo{α β γ:Type}{R:β->γ->Prop}{f:α->β}{g:α->γ}:∀{l:List α},(∀x∈l,R (f x) (g x))->All2 R (l.map f) (l.map g)
 |[],_=>trivial
 |x::l,h=>⟨h x (List.mem_cons_self ..),Zlo fun y hy=>h y (List.mem_cons_of_mem _ hy)⟩
theorem Zuu(g:Gh)(o:Owner)(b:Nat):¬Owns (Zax []) g o b:=fun h=>by
 cases h with
 |box h=>cases h
 |slot h=>cases h
 |cell h _ _=>cases h
theorem Zrh{P:Program}{ls:List (List A)}:∀{rl:List ResultVar}{keep kn:List (Nat×Nat)}{vs:List (Bool×List D)},Zcp P rl keep kn=true->resD kn ls=some vs-> ∀x∈keep,x.2<ls.length
 |[],[],[],vs,_,_,x,hx=>by cases hx
 |.cell t ty::rl,(t',i)::keep,(j,n)::kn,vs,hc,h,x,hx=>by
  simp only[Zcp,Bool.and_eq_true,beq_iff_eq]at hc;obtain⟨⟨⟨rfl,rfl⟩,hz⟩,hc⟩:=hc;unfold resD at h;rw[List.mapM_cons]at h;simp only[bind,Option.bind_eq_some_iff,pure,Option.some.injEq]at h;obtain⟨v,h1,vs',h2,rfl⟩:=h;rcases List.mem_cons.1 hx with rfl|hx
  ·split at h1
   ·rename_i l hl;exact(List.getElem?_eq_some_iff.1 hl).1
   ·cases h1
  ·exact Zrh hc h2 x hx
 |[],[],_::_,_,h,_,_,_=>by simp[Zcp]at h
 |[],_::_,_,_,h,_,_,_=>by simp[Zcp]at h
 |.tmp _::_,_,_,_,h,_,_,_=>by simp[Zcp]at h
 |.cell _ _::_,[],_,_,h,_,_,_=>by simp[Zcp]at h
 |.cell _ _::_,_::_,[],_,h,_,_,_=>by simp[Zcp]at h
def A.unlift:A->A
 |.ptr (.up r) o=>.ptr r o
 |.fn f rs=>.fn f (rs.map fun r=>match r with|.up q=>q|q=>q)
 |x=>x
theorem Zie{x:A}(h:Zar x=true)(hp:x.plain=true):(A.unlift x).lift=x/\(A.unlift x).plain=true:=by
 cases x with
 |ptr r o=>cases r with
  |own a b=>cases h
  |up q=>exact⟨rfl,rfl⟩
 |fn f rs=>
  refine⟨?_,rfl⟩;show A.fn f ((rs.map _).map Ref.up)=_;rw[List.map_map]
  congr 1
  have:rs.map (Ref.up∘fun r=>match r with|.up q=>q|q=>q)=rs.map _root_.id:=List.map_congr_left fun r hr=>by
   have:=List.all_eq_true.1 h r hr;cases r with
   |own a b=>cases this
   |up q=>rfl
  rw[this,List.map_id]
 |als _ _=>cases hp
 |opt _ _ _ _ _=>cases hp
 |_=>exact⟨rfl,hp⟩
theorem Zuv{l:List A}(h:l.all Zar=true)(hp:∀x∈l,x.plain=true):(l.map A.unlift).map A.lift=l:=by
 rw[List.map_map];have:l.map (A.lift∘A.unlift)=l.map _root_.id:=List.map_congr_left fun x hx=>(Zie (List.all_eq_true.1 h x hx) (hp x hx)).1
 rw[this,List.map_id]
theorem Zri:∀{qs:List Ref}{H:List (Ref×List A)},H.map (·.1)=qs.map Ref.up->(∀x∈H,x.2.all Zar=true/\ ∀y∈x.2,y.plain=true)->Zao (qs.zip (H.map fun x=>x.2.map A.unlift))=H
 |[],[],_,_=>rfl
 |[],x::H,h,_=>by cases h
 |q::qs,[],h,_=>by cases h
 |q::qs,x::H,h,hx=>by
  simp only[List.map_cons,List.cons.injEq]at h;have:=Zri h.2 fun y hy=>hx y (List.mem_cons_of_mem _ hy)
  simp only[Zao,List.map_cons,List.zip_cons_cons]at this⊢;rw[this,Zuv (hx x (List.mem_cons_self ..)).1 (hx x (List.mem_cons_self ..)).2,<-h.1]
theorem Zuw{c:Cfg}{op:Opt}{f F:FuncId}{fn Fn':Func}{Fcode:Code}{l:List Code}{id:Nat}{o1 o2:Oper}{post:Code}{tys:Array TypeId}{dt:Nat}{caps data:List Nat}{extra:List RRef}{rl:List ResultVar}{keep kn:List (Nat×Nat)}{args:List RA}{nv depth:Nat}{ρ:Env}{t:T}{Rfin:Out->Prop}
 (hmx:c.P.follows .mixedOrders=true) (hf:c.P.funcs[f]? =some fn) (hb:fn.body=some (l.foldr Code.seq (.seq (.region id #[o1,o2] false) post))) (hrs:fn.results.toList=rl) (hN:fn.ntmps=c.N)
 (hn:(fn.name== "runtime.NumGoroutine")=false) (hF:c.P.funcs[F]? =some Fn') (hFb:Fn'.body=some Fcode) (hFn:(Fn'.name== "runtime.NumGoroutine")=false)
 (h1:o1.op=.makeFunc (.func F) #[] (caps.map Operand.tmp).toArray) (g1:o1.guard=none) (e1:o1.dst=some dt)
 (h2:o2.op=.defer {callee:=.value (.tmp dt),args:= #[],argTypes:=tys}) (g2:o2.guard=none) (e2:o2.dst=none) (hdt:dt<c.N)
 (hlen:args.length<=c.N) (ha:Zsk args=true) (hne:∀t∈caps++data,t≠dt) (hcap:caps.length≠0) (hrc:Zcp c.P rl keep kn=true) (hkn:(keep.map (·.1)).Nodup) (hrl:rl.length≠1)
 (ht:Zsq c op l (Zgh depth args [] nv) (preT c caps extra data rl)=t)
 (h:t.vc c.P (up0) (preR c.P post c.N F caps data keep kn Rfin) ρ):
 Holds c.P f (args.map (RA.den ρ ⟨up0,gen0⟩ gen0)) [] (fun o H=>H=[]/\Rfin o):=by
 unfold T.vc at h
 have hargs:∀x∈args,(x.den ρ ⟨up0,gen0⟩ gen0).isOwn=false/\(x.den ρ ⟨up0,gen0⟩ gen0).plain=true/\x.ali=none:=fun x hx=>by
  have:=List.all_eq_true.1 ha x hx;cases x with
  |c x=>exact⟨rfl,rfl,rfl⟩
  |agg x=>exact⟨rfl,rfl,rfl⟩
  |zs x=>exact⟨rfl,rfl,rfl⟩
  |ptr r o=>exact⟨rfl,rfl,rfl⟩
  |fn f l=>exact⟨rfl,rfl,rfl⟩
  |_=>cases this
 have hget:∀j,(Zgh depth args [] nv).tm.get j=.any\/args[j]? =some ((Zgh depth args [] nv).tm.get j):=fun j=>by
  rcases Zd1 args (Tr.full depth) 0 j with h|⟨h1,_⟩|⟨_,h2⟩|⟨_,h2⟩
  ·exact .inl h
  ·omega
  ·right;rw[Nat.sub_zero]at h2;exact h2
  ·left;show(Zca (Tr.full depth) 0 args).get j=.any;rw[h2,Zf5]
 have hd:Den ρ ⟨up0,gen0⟩ (Zgh depth args [] nv) (Zd9 (args.map (RA.den ρ ⟨up0,gen0⟩ gen0)) []):=by
  refine⟨fun j=>?_,fun _ j=>?_,fun r x hx=>(by cases hx),List.nodup_nil,fun e he=>by cases he⟩
  ·rcases hget j with h1|h1
   ·exact .inl h1
   ·right;show((args.map (RA.den ρ ⟨up0,gen0⟩ gen0))[j]?).getD .any=_;rw[List.getElem?_map,h1];rfl
  ·rcases hget j with h1|h1
   ·rw[h1];rfl
   ·exact(hargs _ (List.mem_of_getElem? h1)).2.2
 intro w0 cargs g0 hcargs hheap0;unfold CallsX;have hbody:fn.body=some (l.foldr Code.seq (.seq (.region id #[o1,o2] false) post)):=hb;rw[Zea hf hbody hn];refine calls_of_wp_defers hf hbody ?_
 have hR0:=Zjd (N:=fn.ntmps) (by rw[hN];simpa using hlen) (fun x hx=>by
  obtain⟨y,hy,rfl⟩:=List.mem_map.1 hx;exact⟨(hargs y hy).1,(hargs y hy).2.1⟩) hcargs hheap0
 let Rend:Ending->World->Prop:=fun e w'=>∃out H' g',((fun o H=>H=[]/\Rfin o:Out->List (Ref×List A)->Prop)) out H'/\H'.map (·.1)=([]:List (Ref×List A)).map (·.1)/\HeapRel (Zag c.P w0 g0 [] 0) (Zax H') g' w'/\Zm1 (Zag c.P w0 g0 [] 0) (Zax H') g' w' out e
 show(l.foldr Code.seq (.seq (.region id #[o1,o2] false) post)).wp c.P (bodyPostD c.P fn Rend) _ w0
 let C:Ctx:=Zag c.P w0 g0 [] fn.ntmps
 have hnil:∀{s:St}{g':Gh}{a:Act}{w:World},Rel C s g' a w->HeapRel (Zag c.P w0 g0 [] 0) (Zax []) g' w:=fun{s g' a w} hR=>
  (HeapRel.out (H:=[]) (H':=[]) rfl hR.heap List.nodup_nil (fun r hr=>by cases hr) ⟨rfl,fun x hx=>by cases hx⟩).1
 have hgood:Zge c.P (up0) (preR c.P post c.N F caps data keep kn Rfin) nv ρ [] (QW C (.seq (.region id #[o1,o2] false) post) (bodyPostD c.P fn Rend)) (preT c caps extra data rl):=by
  intro e ρ' m rs s σ hag hnv hu hσ hdep hd h
  have early:e≠ .nrm->QW C (.seq (.region id #[o1,o2] false) post) (bodyPostD c.P fn Rend) (e.conv ρ') s:=fun hne=>by
   have hfin:(finT c rl [] e rs).den c.P (up0) (preR c.P post c.N F caps data keep kn Rfin) ρ' σ:=by
    unfold preT at h;cases e with
    |nrm=>exact absurd rfl hne
    |ret=>exact h
    |exit i=>exact h
    |pan v=>exact h
   have hk:=Zqz (c:=c) (rl:=rl) (H:=[]) (K0:=[]) (ρ0:=ρ) (up:=up0) (R:=preR c.P post c.N F caps data keep kn Rfin) (n0:=nv) rfl (fun x hx=>by cases hx) e ρ' m rs s σ hag hnv hu (List.nil_prefix) hdep hd hfin;intro g a w hR;cases e with
   |nrm=>exact absurd rfl hne
   |ret=>
    obtain⟨v,H',k1,k2,k3,k4⟩:=hk;have hH':H'=[]:=List.map_eq_nil_iff.1 k3.1;subst hH';show Leaves c.P fn a.tmps Rend a.defers .returning w;have hdf:a.defers=[]:=hR.defers;rw[hdf];rw[<-hrs]at k1;obtain⟨cv,m1,p,m2,m3⟩:=Zdt (C:=C) (fn:=fn) hR k1;refine⟨cv,m1,.ret v,[],g.give .res (g.ow p),⟨rfl,k4.1 rfl⟩,rfl,?_,cv,rfl,?_,fun ho=>?_⟩
    ·have k5:=hnil hR;exact⟨fun r c hc=>(by cases hc),fun o o' b h1 h2=>(Zuu _ _ _ h1).elim,fun o b h1=>(Zuu _ _ _ h1).elim,k5.prs,k5.pr0,k5.prn,k5.up,k5.uu,k5.fr⟩
    ·refine(m2.gen0 (p':=p) k2 fun _=>rfl).keep (g.give_keeps .res _ w _ _ fun _=>Nat.le_refl _) fun _=>⟨Zad _ _ _,rfl,fun _=>Iff.rfl⟩
    ·obtain⟨t,ho',_⟩:=m3 ho;refine⟨fun o h5=>Zuu _ _ _ h5,?_⟩;have e0:(g.give .res (g.ow p)).ow .res=g.ow p:=Zad _ _ _;rw[e0];exact hR.heap.wr _ _ ho'
   |pan v=>
    obtain⟨H',k3,k4⟩:=hk;have hH':H'=[]:=List.map_eq_nil_iff.1 k3.1;subst hH';show Leaves c.P fn a.tmps Rend a.defers (.panicking _) w;have hdf:a.defers=[]:=hR.defers;rw[hdf];exact⟨.pan _,[],g,⟨rfl,k4.1 rfl⟩,rfl,hnil hR,rfl⟩
   |exit i=>exact hk.elim
  cases e with
  |ret=>exact early (by intro e;cases e)
  |exit i=>exact early (by intro e;cases e)
  |pan v=>exact early (by intro e;cases e)
  |nrm=>
   unfold preT at h;dsimp only at h;split at h
   ·rename_i refs1 vs hrefs hvs
    let refs:List RRef:=refs1++extra
    split at h
    rotate_left
    ·unfold T.den at h;exact h.elim
    ·rename_i K hK;split at h
     rotate_left
     ·unfold T.den at h;exact h.elim
     rename_i K2 hK2;split at h
     ·rename_i hchk;simp only[Bool.and_eq_true,decide_eq_true_eq,Bool.not_eq_true',List.isEmpty_eq_false_iff]at hchk;obtain⟨hrn,hrne⟩:=hchk;obtain⟨hK2n,hK2l⟩:=Zln ρ' m hK2;unfold T.den at h;intro g a w hR;show(Code.seq (.region id #[o1,o2] false) post).wp c.P (bodyPostD c.P fn Rend) a w;have hnm:K.map (·.1)=refs:=Zdf hK;have hin:=Zbs hK;have hsub:∀x∈K,x.1∈rs.K.map (·.1):=fun x hx=>List.mem_map.2 ⟨_,Zbh (hin x hx),rfl⟩
      let H:List (Ref×List A):=Zab ρ' m K
      have hHK:∀x∈H,s.K x.1=some x.2:=fun x hx=>by
       obtain⟨y,hy,rfl⟩:=List.mem_map.1 hx;exact hd.look (hin y hy)
      have hHfst:H.map (·.1)=refs.map (RRef.den m):=by
       show(Zab ρ' m K).map (·.1)=_;rw[<-hnm];simp[Zab,Function.comp_def]
      have hHn:(H.map (·.1)).Nodup:=by
       have hrn':(K.map (·.1)).Nodup:=by rw[hnm];exact hrn
       rw[hHfst];show(refs.map (RRef.den m)).Nodup;have hnm':refs=K.map (·.1):=hnm.symm;rw[hnm'];refine List.pairwise_map.2 (List.Pairwise.imp_of_mem (fun{x y} hx hy hxy e=>hxy ?_) hrn');obtain⟨x',hx',rfl⟩:=List.mem_map.1 hx;obtain⟨y',hy',rfl⟩:=List.mem_map.1 hy;exact Zbo hd.nd (hsub _ hx') (hsub _ hy') e
      let qs:List Ref:=refs.map (RRef.den m)
      have hlift:Zao H=(qs.map Ref.up).zip ((Zab ρ' ⟨up0,gen0⟩ K2).map fun x=>x.2.map (renA qs)):=by
       show Zao (Zab ρ' m K)=_;rw[hK2l,hnm];show _=((refs.map (RRef.den m)).map Ref.up).zip _;rw[List.map_map];rfl
      have hHne:Zab ρ' ⟨up0,gen0⟩ K2≠[]:=fun e0=>by
       have hk0:K2=[]:=List.map_eq_nil_iff.1 e0;have hk1:K.map (·.1)=[]:=by rw[<-hK2n,hk0];rfl
       exact hrne (hnm.symm.trans hk1)
      obtain⟨vs',hvs',hpost⟩:=h.2 hHne
      have hvs2:vs'=vs.map (Zc2 ρ'):=by
       have:(RA.tup vs).den ρ' ⟨up0,gen0⟩ gen0=A.tup vs':=by injection hvs'
       have e9:(RA.tup vs).den ρ' ⟨up0,gen0⟩ gen0=A.tup (vs.map (Zc2 ρ')):=rfl;rw[e9]at this;injection this with this;exact this.symm
      subst hvs2
      have hqlen:qs.length=(Zab ρ' ⟨up0,gen0⟩ K2).length:=by
       show(refs.map (RRef.den m)).length=_;have:=congrArg List.length hK2n;rw[<-hnm];simp[Zab]at this⊢;omega
      have hqn:qs.Nodup:=by show(refs.map (RRef.den m)).Nodup;rw[<-hHfst];exact hHn
      have hP:=hpost qs hqlen hqn;rw[<-hlift]at hP
      have hcl:caps.length=refs1.length:=by
       have:=Zgk hrefs;have:=congrArg List.length this;simpa using this
      have hgetc:∀i (hi:i<caps.length),rs.tm.get caps[i]=.ptr (refs1[i]'(by omega)) 0:=fun i hi=>by
       have:=Zgk hrefs;have h3:=congrArg (fun l=>l[i]?) this;simp only[List.getElem?_map]at h3;rw[List.getElem?_eq_getElem hi,List.getElem?_eq_getElem (show i<refs1.length by omega)]at h3;simpa using h3
      have hec:∀i (hi:i<caps.length),s.tm caps[i]=.ptr ((refs1[i]'(by omega)).den m) 0:=fun i hi=>by
       have h3:=(hd.tm caps[i]).resolve_left (by rw[hgetc i hi];intro e;cases e);rw[h3,hgetc i hi];rfl
      let qc:List Ref:=refs1.map (RRef.den m)
      have hqc:qs.take caps.length=qc:=by
       show((refs1++extra).map (RRef.den m)).take caps.length=_;rw[List.map_append,hcl,List.take_left' (by simp)]
      have hev:Zas c.P s o1=some (.fn F qc):=by
       unfold Zas;rw[h1]
       have e5:(caps.map Operand.tmp).toArray.toList.map s.ev=(caps.map fun t=>rs.tm.get t).map fun x=>x.den ρ' m s.gen:=by
        simp only[List.map_map];refine List.ext_getElem (by simp) fun i h3 h4=>?_
        have hi:i<caps.length:=by simpa using h3
        simp only[List.getElem_map,Function.comp];show s.tm caps[i]=_;rw[hec i hi,hgetc i hi];rfl
       have e6:=(Zp5 (ρ:=ρ') (m:=m) (s:=s) hrefs).1;show(if(#[]:Array Operand).toList=[]then(Zc9 ((caps.map Operand.tmp).toArray.toList.map s.ev)).map (fun rs=>A.fn F rs)else none)=_
       rw[e5,e6];rfl
      obtain⟨v,hv1,hv2,_,_⟩:=Zmz (C:=C) hev hR (.slot dt);obtain⟨hv3,hv4⟩:=hv2
      let ptrs:Array Value:=(qc.map fun r=>Value.pointer (some ⟨g.bx r,0,none⟩)).toArray
      have hv5:v=.func (.func F) #[] ptrs:=hv3
      let d:Deferred:={target:=.fn (.func F) ptrs,args:= #[]}
      have hdt':dt<fn.ntmps:=by rw[hN];exact hdt
      have hR1:Rel C (s.put dt (.fn F qc)) g (a.put (some dt) v) w:=hR.put hdt' rfl ⟨hv3,hv4⟩ (fun t n e=>by cases e) (fun t n sz i j e=>by cases e)
      let a2:Act:={(a.put (some dt) v)with defers:=[d]}
      have hadf:a.defers=[]:=hR.defers;have hsz:dt<a.tmps.size:=by rw[hR.size];exact hdt'
      refine wp_seq (wp_region ?_);have w1:∀b:Act,Region.wanted o1 (yielded #[o1,o2] b.tmps)=true:=fun b=>by simp[Region.wanted,g1]
      have w2:∀b:Act,Region.wanted o2 (yielded #[o1,o2] b.tmps)=true:=fun b=>by simp[Region.wanted,g2]
      have x2:(execOp ((a.put (some dt) v).eval) o2).run c.P w=.ok (.defer d) w:=by
       have e6:(a.put (some dt) v).eval (.tmp dt)=v:=by simp[Act.eval,Act.put,hsz]
       have e7:=e6.trans hv5;simp[execOp,h2,resolve,e7,Deferred.ofValue,d]
      have hrg:List.range (#[o1,o2]:Array Oper).size=[0,1]:=rfl;have z0:(#[o1,o2]:Array Oper)[0]? =some o1:=rfl;have z1:(#[o1,o2]:Array Oper)[1]? =some o2:=rfl;rw[hrg];simp only[wpOps,z0,z1,w1,w2,if_true];left;unfold Oper.wp;have x1:(execOp a.eval o1).run c.P w=.ok (.value v) w:=hv1;rw[x1,Oper.upon_value,e1];left;rw[x2,Oper.upon_defer,e2];show post.wp c.P (bodyPostD c.P fn Rend) ({(a.put (some dt) v)with defers:=d::(a.put (some dt) v).defers}.put none undef) w
      have ea2:({(a.put (some dt) v)with defers:=d::(a.put (some dt) v).defers}.put none undef:Act)=a2:=by
       have:(a.put (some dt) v).defers=[]:=by rw[Zen];exact hadf
       simp only[this];rfl
      rw[ea2]
      have hsz2:a2.tmps.size=c.N:=by
       show(a.put (some dt) v).tmps.size=_;rw[Zgw,hR.size];exact hN
      have hslots:∀x∈data.zip ((vs.map (Zc2 ρ')).map Zut)++caps.zip ((qs.take caps.length).map fun q=>A.ptr (.up q) 0),RepA w (g.down s.gen) (fun _=>0) (.slot x.1) x.2 (a2.tmps.getD x.1 undef):=fun x hx=>by
       have hsame:∀t,t≠dt->a2.tmps.getD t undef=a.tmps.getD t undef:=fun t ht=>by
        show(a.put (some dt) v).tmps.getD t undef=_;rw[Za3 hsz,if_neg ht]
       rcases List.mem_append.1 hx with hx|hx
       ·have ht:x.1≠dt:=hne _ (List.mem_append.2 (.inr (List.of_mem_zip hx).1));rw[hsame _ ht];have h3:=hR.slot x.1;rcases Zfc hvs ρ' m s.gen x hx with⟨k1,k2,d',k3⟩|⟨k1,k2,d',k3⟩
        ·have h4:=(hd.tm x.1).resolve_left k1;rw[h4,<-k2,k3]at h3;rw[k3];exact h3
        ·have h4:=(hd.tm x.1).resolve_left k1;rw[h4,<-k2,k3]at h3;rw[k3];exact h3
       ·have ht:x.1≠dt:=hne _ (List.mem_append.2 (.inl (List.of_mem_zip hx).1));rw[hsame _ ht];rw[hqc]at hx;obtain⟨i,hi,rfl⟩:=List.mem_iff_getElem.1 hx
        have hi':i<caps.length:=by
         simp only[List.length_zip]at hi;omega
        simp only[List.getElem_zip,List.getElem_map];have h3:=hR.slot caps[i];rw[hec i hi']at h3;have h5:qc[i]'(by show i<(refs1.map _).length;simp;omega)=(refs1[i]'(by omega)).den m:=List.getElem_map _;rw[h5];exact⟨h3.1,h3.2⟩
      have hheapD:HeapRel (Zag c.P w (g.down s.gen) (Zao H) 0) (Zax (Zao H)) (g.down s.gen) w:=hR.down hHK;refine wp_mono (hP w (g.down s.gen) a2 hsz2 hslots hheapD) fun ex a' w' hq=>?_
      obtain⟨o,H',g',k1,k2,k3,k4,k5,k6,k7⟩:=hq;obtain⟨u',RH,k8,k9,k10⟩:=k2;have hadf':a'.defers=[d]:=k5;have hlf:(Zao H).map (·.1)=qs.map Ref.up:=by rw[Zkf,hHfst]
      have hH'n:(H'.map (·.1)).Nodup:=by rw[k3];exact Zhg hHn
      have hgbx:∀r,g'.bx (.up r)=g.bx r:=fun r=>k4.up r
      have hok':∀q∈qs,RefOk g' (fun _=>0) (.up q):=fun q hq=>by
       have hmem:Ref.up q∈H'.map (·.1):=by rw[k3,hlf];exact List.mem_map_of_mem hq
       obtain⟨c',hc'⟩:=Zcd.2 hmem;obtain⟨_,_,_,_,_,h5⟩:=k4.box _ c' hc';exact h5
      have hleave:Leaves c.P fn a'.tmps Rend [d] (Zta o) w':=by
       refine leaves_cons (f:=F) (args:=ptrs) (by cases o<;>(intro e;cases e)) ?_ ?_
       ·have:(#[]:Array Value)++ptrs=ptrs:=by simp
        simp only[invoke,this];exact Zea hF hFb hFn ptrs w'
       ·have hall:All2 (fun x v=>∀p,RepA w' g' (fun _=>0) p x v) ((qs.take caps.length).map fun q=>A.ptr (.up q) 0) ptrs.toList:=by
         rw[hqc];exact Zlo fun q hq p=>⟨by rw[hgbx],hok' q (List.mem_of_mem_take (by rw[hqc];exact hq))⟩
        have hcall:=k8 w' ptrs g' hall (HeapRel.fresh k4);refine hcall.mono fun e u2 w2 hq2=>?_
        obtain⟨rfl,⟨cv0,rfl⟩,H2,g2,m1,m2,m3,m3n⟩:=hq2;show Leaves c.P fn a'.tmps Rend [] (settle u2) w2;rw[k9];obtain⟨vs2,m5,m6⟩:=k10 H2 m1;have hH2f:H2.map (·.1)=qs.map Ref.up:=by rw[m2,k3,hlf]
        have hH2n:(H2.map (·.1)).Nodup:=by rw[m2];exact hH'n
        have hll:H2.length=qs.length:=by
         have h6:=congrArg List.length hH2f;simpa using h6
        let kq:List (Nat×Ref):=keep.map fun x=>(x.1,(qs.map Ref.up).getD x.2 (.own 0 0))
        let s3:St:=⟨fun t=>match Zb5 kq t with|some q=>if(kOf H2 q).isSome=true then .ptr q 0 else .any|none=>.any,kOf H2,fun _=>0⟩
        have hs3:∀t,(s3.tm t).isOwn=false/\(s3.tm t).plain=true:=fun t=>by
         show(match Zb5 kq t with|some q=>if(kOf H2 q).isSome=true then A.ptr q 0 else .any|none=>.any).isOwn=false/\(match Zb5 kq t with|some q=>if(kOf H2 q).isSome=true then A.ptr q 0 else .any|none=>.any).plain=true
         cases Zb5 kq t with
         |none=>exact⟨rfl,rfl⟩
         |some q=>dsimp only;split<;>exact⟨rfl,rfl⟩
        let D2:Ctx:={Zag c.P w2 g2 H2 fn.ntmps with ds:=a'.defers}
        have hRel3:Rel D2 s3 g2 a' w2:=by
         refine⟨rfl,by show a'.tmps.size=fn.ntmps;rw[k6,hN],fun t=>?_,fun u t n hu=>?_,fun u t n x i j hu=>?_,?_⟩
         ·show RepA w2 g2 (fun _=>0) (.slot t) (match Zb5 kq t with|some q=>if(kOf H2 q).isSome=true then A.ptr q 0 else .any|none=>.any) _
          cases hl:Zb5 kq t with
          |none=>trivial
          |some q=>
           dsimp only;split
           ·rename_i hex;have hkk:=k7 _ (Zem hl);dsimp only at hkk;obtain⟨c',hc'⟩:=Option.isSome_iff_exists.1 hex;obtain⟨_,_,_,_,_,h5⟩:=m3.box q c' hc';have hmem:q∈qs.map Ref.up:=by rw[<-hH2f];exact Zcd.1 ⟨c',hc'⟩
            obtain⟨q',hq',rfl⟩:=List.mem_map.1 hmem;refine⟨?_,h5⟩;rw[hkk,m3.up q'];rfl
           ·trivial
         ·have:=(hs3 u).2;rw[hu]at this;cases this
         ·have:=(hs3 u).2;rw[hu]at this;cases this
         ·exact HeapRel.conv (C:=Zag c.P w2 g2 H2 0) (HeapRel.fresh m3) rfl rfl (fun t=>(hs3 t).1) rfl rfl rfl rfl rfl
        have hbb:∀i (hi:i<(H2.map (·.2)).length),∃r,(qs.map Ref.up)[i]? =some r/\s3.K r=some (H2.map (·.2))[i]:=fun i hi=>by
         have hi2:i<H2.length:=by simpa using hi
         refine⟨H2[i].1,?_,?_⟩
         ·rw[<-hH2f,List.getElem?_map,List.getElem?_eq_getElem hi2];rfl
         ·refine Zbf hH2n ?_;simp only[List.getElem_map];exact List.getElem_mem hi2
        have hkeep:∀x∈keep,s3.tm x.1=.ptr ((qs.map Ref.up).getD x.2 (.own 0 0)) 0:=fun x hx=>by
         have hlt:=Zrh hrc m5 x hx
         have hl:Zb5 kq x.1=some ((qs.map Ref.up).getD x.2 (.own 0 0)):=Zid (x:=(x.1,(qs.map Ref.up).getD x.2 (.own 0 0))) (by
          have:kq.map (·.1)=keep.map (·.1):=by show(keep.map _).map _=_;rw[List.map_map];rfl
          rw[this];exact hkn) (List.mem_map.2 ⟨x,hx,rfl⟩)
         obtain⟨r,h5,h6⟩:=hbb x.2 hlt;have hg:(qs.map Ref.up).getD x.2 (.own 0 0)=r:=by rw[List.getD,h5];rfl
         show(match Zb5 kq x.1 with|some q=>if(kOf H2 q).isSome=true then A.ptr q 0 else .any|none=>.any)=_
         rw[hl,hg];have h7:kOf H2 r=some _:=h6;exact if_pos (by rw[h7];rfl)
        obtain⟨as,n1,n2⟩:=Zob hbb hrc hkeep m5
        have hres:resA D2.P s3 fn.results.toList=some (.tup vs2):=by
         rw[hrs];unfold resA;split
         ·exact absurd rfl hrl
         ·show(((rl.mapM (Zcn c.P s3)).bind fun vs=>vs.mapM Zfl)).map A.tup=_;rw[n1];simp only[Option.bind_some,n2,Option.map_some]
        obtain⟨cv,r1,p,r2,_⟩:=Zdt (C:=D2) (fn:=fn) hRel3 hres;refine⟨cv,r1,.ret (.tup vs2),[],?_⟩;have htr:HeapRel (Zag c.P w (g.down s.gen) (Zao H) 0) (Zax H2) g2 w2:=HeapRel.trans k4 m3
        have hpl2:∀x∈H2,x.2.all Zar=true/\ ∀y∈x.2,y.plain=true:=fun x hx=>⟨m3n x hx,fun y hy=>by
         obtain⟨cs,_,_,h7,_,_⟩:=m3.box x.1 x.2 (Zbf hH2n hx);obtain⟨j,hj⟩:=List.mem_iff_getElem?.1 hy;exact(h7 j y hj).1⟩
        let H2c:List (Ref×List A):=qs.zip (H2.map fun x=>x.2.map A.unlift)
        have hl2:Zao H2c=H2:=Zri hH2f hpl2
        have hback:=hR.back (H:=H) hHK hHn (g':=g2) (w':=w2) (H2:=H2c) (by
         show(qs.zip (H2.map fun x=>x.2.map A.unlift)).map (·.1)=H.map (·.1);rw[List.map_fst_zip (by simp;omega),hHfst]) (fun x hx y hy=>by
         have:=(List.of_mem_zip hx).2;obtain⟨z,hz,e8⟩:=List.mem_map.1 this;rw[<-e8]at hy;obtain⟨v9,hv9,rfl⟩:=List.mem_map.1 hy;exact(Zie (List.all_eq_true.1 (hpl2 z hz).1 v9 hv9) ((hpl2 z hz).2 v9 hv9)).2) (by rw[hl2];exact htr)
        refine⟨g.back g2 H,⟨rfl,m6⟩,rfl,hnil hback.rel,cv,rfl,?_,fun ho=>by cases ho⟩;obtain⟨vs3,r3,r4⟩:=r2;exact⟨vs3,r3,r4⟩
      cases o with
      |ret v'=>
       rcases k1 with rfl|rfl
       ·show Leaves c.P fn a'.tmps Rend a'.defers .returning w';rw[hadf'];exact hleave
       ·show Leaves c.P fn a'.tmps Rend a'.defers .returning w';rw[hadf'];exact hleave
      |pan v'=>
       cases k1;show Leaves c.P fn a'.tmps Rend a'.defers (.panicking [{v:=v',recovered:=false}]) w';rw[hadf'];exact hleave
     ·unfold T.den at h;exact h.elim
   ·unfold T.den at h;exact h.elim
 subst ht;exact Zn9 (c:=c) (op:=op) (C:=C) rfl hN hmx hgood l (Agr.refl _ _) (Nat.le_refl _) rfl (List.prefix_rfl) rfl hd h g0 _ w0 hR0
def Zv9(fn:Func):Code:=fn.body.getD .skip
def Zoc(id:Nat):Code->List Code
 |.seq (.region i ops d) y=>if i=id then[]else .region i ops d::Zoc id y
 |.seq x y=>x::Zoc id y
 |_=>[]
def Ztb(id:Nat):Code->Array Oper
 |.seq (.region i ops d) y=>if i=id then ops else Ztb id y
 |.seq _ y=>Ztb id y
 |_=> #[]
def Zod(id:Nat):Code->Code
 |.seq (.region i _ _) y=>if i=id then y else Zod id y
 |.seq _ y=>Zod id y
 |_=>.skip
def opAt(ops:Array Oper)(i:Nat):Oper:=ops.toList.getD i {dst:=none,op:=.alloc 0,type:=0,pos:= "",after:= #[],guard:=none}
end Go.Rf
end
