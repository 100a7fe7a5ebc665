/- Part 4 of the proof: RfSound2, RfDraw, RfDrawn, RfLatA, RfLat, RfPoke, RfLatP, RfFlow, RfLatB, RfLatS, RfLatQ. -/
import Derived.Test.YtpcnadmaeebhbaaGreatDoorJac
set_option linter.unusedVariables false
set_option linter.unusedSimpArgs false
section
namespace Go.Rf
open Go.Ab
section
variable {ρ:Env} {m:Nm} {rs:RSt} {s:St} {P:Program} {up:Nat->Ref} {R:Out->List (Ref×List A)->Prop} {σ:Sig}
theorem Zce:∀{ks:List Dk}{n:Nat}{ρ:Env}{p:Env->Prop},exK ks n ρ p-> ∃ρ',Agr n ρ ρ'/\p ρ'
 |[],n,ρ,p,h=>⟨ρ,Agr.refl _ _,h⟩
 |k::ks,n,ρ,p,h=>by
  obtain⟨x,h⟩:=h;obtain⟨ρ',h1,h2⟩:=Zce h;exact⟨ρ',((Agr.refl n ρ).set (k.mk x) (Nat.le_refl n)).trans h1 (Nat.le_succ n),h2⟩
theorem Env.set_same(ρ:Env)(n:Nat)(x:Dat):(ρ.set n x) n=x:=by simp[Env.set]
theorem RA.den_agr{n:Nat}{ρ ρ':Env}(h:Agr n ρ ρ'){gen:Nat->Nat}:∀{x:RA},x.lt n=true->x.den ρ' m gen=x.den ρ m gen
 |.c x,hl=>by simp only[RA.den];rw[E.den_agr h hl]
 |.agg x,hl=>by simp only[RA.den];rw[E.den_agr h hl]
 |.tup l,hl=>by
  simp only[RA.den]
  congr 1
  refine List.map_congr_left fun x hx=>?_
  obtain⟨t,e⟩:=x;have:e.lt n=true:=List.all_eq_true.1 hl _ hx;cases t<;>simp only[Zc2]<;>rw[E.den_agr h this]
 |.elp x o,hl=>by simp only[RA.den];rw[E.den_agr h hl]
 |.own sz a b,hl=>by
  simp only[RA.lt,Bool.and_eq_true]at hl;simp only[RA.den];rw[E.den_agr h hl.1,E.den_agr h hl.2]
 |.zs a,hl=>by simp only[RA.den];rw[E.den_agr h hl]
 |.opt t sz i j,hl=>by simp only[RA.den];rw[E.den_agr h hl]
 |.gv g v,hl=>by
  simp only[RA.lt,Bool.and_eq_true]at hl;simp only[RA.den];rw[E.den_agr h hl.1,RA.den_agr h hl.2]
 |.ags pre sz a b post,hl=>by
  simp only[RA.lt,Bool.and_eq_true,List.all_eq_true]at hl;simp only[RA.den];rw[E.den_agr h hl.2.2.1,E.den_agr h hl.2.2.2]
  congr 1
  ·exact List.map_congr_left fun e he=>by rw[E.den_agr h (hl.1 e he)]
  ·exact List.map_congr_left fun e he=>by rw[E.den_agr h (hl.2.1 e he)]
 |.any,_|.ptr _ _,_|.als _,_|.fn _ _,_=>rfl
theorem Tr.lt_get{n:Nat}:∀{t:Tr},t.lt n=true-> ∀k,(t.get k).lt n=true
 |.nil,_,_=>rfl
 |.node v l r,h,k=>by
  simp only[Tr.lt,Bool.and_eq_true]at h;unfold Tr.get;split
  ·exact h.1
  ·split
   ·exact Tr.lt_get h.2.1 _
   ·exact Tr.lt_get h.2.2 _
theorem Zr6{n:Nat}{ρ ρ':Env}(h:Agr n ρ ρ'){c:List RA}(hl:c.all (RA.lt n)=true):kDen ρ' m c=kDen ρ m c:=
 List.map_congr_left fun x hx=>RA.den_agr h (List.all_eq_true.1 hl x hx)
theorem Den.agr{ρ':Env}(hd:Den ρ m rs s)(h:Agr rs.nv ρ ρ')(hl:rs.lt=true):Den ρ' m rs s:=by
 simp only[RSt.lt,Bool.and_eq_true]at hl;refine⟨fun t=>?_,hd.al,fun r c hc=>?_,hd.nd,fun e he=>?_⟩
 ·rw[RA.den_agr h (Tr.lt_get hl.1 t)];exact hd.tm t
 ·rw[Zr6 h (List.all_eq_true.1 hl.2.1 _ hc)];exact hd.K r c hc
 ·rw[E.den_agr h (List.all_eq_true.1 hl.2.2 _ he)];exact hd.known e he
def Good(P:Program)(up:Nat->Ref)(R:Out->List (Ref×List A)->Prop)(n0:Nat)(ρ0:Env)(σ0:Sig)(Q:St->Prop)(K:RSt->T):Prop:=
 ∀ρ m rs s σ,Agr n0 ρ0 ρ->n0<=rs.nv->m.up=up->σ0<+:σ->rs.dep=σ.length->Den ρ m rs s->(K rs).den P up R ρ σ->Q s
def Re.conv(ρ:Env):Re->Ex
 |.nrm=>.normal
 |.exit id=>.exit id
 |.ret=>.ret
 |.pan v=>.pan (dval (v.den ρ).dd)
def Zge(P:Program)(up:Nat->Ref)(R:Out->List (Ref×List A)->Prop)(n0:Nat)(ρ0:Env)(σ0:Sig)(Q:Ex->St->Prop)(K:Re->RSt->T):Prop:=
 ∀e ρ m rs s σ,Agr n0 ρ0 ρ->n0<=rs.nv->m.up=up->σ0<+:σ->rs.dep=σ.length->Den ρ m rs s->(K e rs).den P up R ρ σ->Q (e.conv ρ) s
def Zr7(P:Program)(up:Nat->Ref)(R:Out->List (Ref×List A)->Prop)(n0:Nat)(ρ0:Env)(σ0:Sig)(Q:Ex->St->Prop)(K:E->RSt->T):Prop:=
 ∀v ρ m rs s σ,Agr n0 ρ0 ρ->n0<=rs.nv->m.up=up->σ0<+:σ->rs.dep=σ.length->Den ρ m rs s->(K v rs).den P up R ρ σ->Q (.pan (dval (v.den ρ).dd)) s
theorem Zeq(hd:Den ρ m rs s):∀{l:List Operand}{v:List RA},Zkw rs l=some v->Zdm s l=some (v.map fun x=>x.den ρ m s.gen)
 |[],_,h=>by cases h;rfl
 |x::l,v,h=>by
  unfold Zkw at h;split at h
  ·rename_i a b h1 h2;cases h;have he:=Zbc hd (x:=x) (by intro e;rw[e]at h1;simp[rval]at h1);simp only[Zdm,(Zit hd he h1).1,Zeq hd h2,List.map_cons]
  ·cases h
theorem Zbs{K:List (RRef×List RA)}:∀{l:List RRef}{b:List (RRef×List RA)},Zb8 K l=some b-> ∀x∈b,Zb3 K x.1=some x.2
 |[],_,h,x,hx=>by cases h;cases hx
 |r::l,b,h,x,hx=>by
  unfold Zb8 at h;split at h
  ·rename_i c b' h1 h2;cases h;rcases List.mem_cons.1 hx with rfl|hx
   ·exact h1
   ·exact Zbs h2 x hx
  ·cases h
theorem Zbo{K:List (RRef×List RA)}(hn:(K.map fun x=>x.1.den m).Nodup){r r':RRef}(h:r∈K.map (·.1))(h':r'∈K.map (·.1))(e:r.den m=r'.den m):r=r':=by
 induction K with
 |nil=>cases h
 |cons x l ih=>
  simp only[List.map_cons,List.nodup_cons]at hn;rcases List.mem_cons.1 h with h|h<;>rcases List.mem_cons.1 h' with h'|h'
  ·rw[h,h']
  ·have h:r=x.1:=h;exact absurd (by obtain⟨y,hy,rfl⟩:=List.mem_map.1 h';rw[<-h,e];exact List.mem_map.2 ⟨y,hy,rfl⟩) hn.1
  ·have h':r'=x.1:=h';exact absurd (by obtain⟨y,hy,rfl⟩:=List.mem_map.1 h;rw[<-h',<-e];exact List.mem_map.2 ⟨y,hy,rfl⟩) hn.1
  ·exact ih hn.2 h h'
theorem Zfb:∀(l:List (RRef×List RA))(K:List (RRef×List RA)),(Zbt K l).map (·.1)=K.map (·.1)
 |[],_=>rfl
 |(r,c)::l,K=>by unfold Zbt;rw[Zfb l,Zeo]
theorem Zkz:∀{l:List (RRef×List RA)}{q:RRef}{x c:List RA},(l.map (·.1)).Nodup->(q,c)∈putK l q x->c=x
 |[],_,_,_,_,h=>by cases h
 |(r,d)::l,q,x,c,hn,h=>by
  simp only[List.map_cons,List.nodup_cons]at hn;unfold putK at h;split at h
  ·rename_i e;subst e;rcases List.mem_cons.1 h with h|h
   ·cases h;rfl
   ·exact absurd (List.mem_map.2 ⟨_,h,rfl⟩) hn.1
  ·rename_i e;rcases List.mem_cons.1 h with h|h
   ·cases h;exact absurd rfl e
   ·exact Zkz hn.2 h
theorem Zk0:∀{l:List (RRef×List RA)}{K:List (RRef×List RA)}{r:RRef}{c:List RA},(K.map (·.1)).Nodup->(l.map (·.1)).Nodup->(r,c)∈Zbt K l->(r,c)∈l\/((r,c)∈K/\r∉l.map (·.1))
 |[],K,r,c,_,_,h=>.inr ⟨h,by simp⟩
 |(q,d)::l,K,r,c,hK,hn,h=>by
  simp only[List.map_cons,List.nodup_cons]at hn;unfold Zbt at h;rcases Zk0 (l:=l) (by rw[Zeo];exact hK) hn.2 h with h|⟨h,hnot⟩
  ·exact .inl (List.mem_cons_of_mem _ h)
  ·by_cases e:r=q
   ·subst e;left;rw[Zkz hK h];exact List.mem_cons_self ..
   ·rcases Zna h with⟨e1,_⟩|h
    ·exact absurd e1 e
    ·exact .inr ⟨h,by simpa using⟨e,by simpa using hnot⟩⟩
theorem Zmc{K:List (RRef×List RA)}(hn:(K.map fun x=>x.1.den m).Nodup):(K.map (·.1)).Nodup:=by
 have:(K.map fun x=>x.1.den m)=(K.map (·.1)).map (RRef.den m):=by simp[Function.comp_def]
 rw[this]at hn;exact List.Pairwise.imp (fun h e=>h (by rw[e])) (List.pairwise_map.1 hn)
theorem Den.setH(hd:Den ρ m rs s){b:List (RRef×List RA)}(hsub:∀x∈b,x.1∈rs.K.map (·.1))(hn:(b.map (·.1)).Nodup):Den ρ m {rs with K:=Zbt rs.K b} (s.setH (Zab ρ m b)):=by
 have hnd:((Zab ρ m b).map (·.1)).Nodup:=by
  have:(Zab ρ m b).map (·.1)=(b.map (·.1)).map (RRef.den m):=by simp[Zab,Function.comp_def]
  rw[this];refine List.pairwise_map.2 (List.Pairwise.imp_of_mem (fun{x y} hx hy hxy e=>hxy ?_) hn);obtain⟨x',hx',rfl⟩:=List.mem_map.1 hx;obtain⟨y',hy',rfl⟩:=List.mem_map.1 hy;exact Zbo hd.nd (hsub _ hx') (hsub _ hy') e
 refine⟨hd.tm,hd.al,fun r c hc=>?_,?_,hd.known⟩
 ·show(match kOf (Zab ρ m b) (r.den m)with|some c=>some c|none=>s.K (r.den m))=_
  have hrK:r∈rs.K.map (·.1):=by
   have:r∈(Zbt rs.K b).map (·.1):=List.mem_map.2 ⟨_,hc,rfl⟩
   rwa [Zfb]at this
  rcases Zk0 (Zmc hd.nd) hn hc with h|⟨h,hnot⟩
  ·rw[Zbf hnd (List.mem_map.2 ⟨(r,c),h,rfl⟩)]
  ·rw[Zm2]
   ·exact hd.K r c h
   ·intro hm;obtain⟨y,hy,e⟩:=List.mem_map.1 hm;obtain⟨z,hz,rfl⟩:=List.mem_map.1 hy;have:=Zbo hd.nd (hsub _ hz) hrK e;exact hnot (this▸List.mem_map.2 ⟨z,hz,rfl⟩)
 ·have:(Zbt rs.K b).map (fun x=>x.1.den m)=rs.K.map fun x=>x.1.den m:=by
   have:=congrArg (List.map (RRef.den m)) (Zfb b rs.K);simpa[Function.comp_def]using this
  show((Zbt rs.K b).map fun x=>x.1.den m).Nodup;rw[this];exact hd.nd
theorem Zci{x:RA}(h:x.okCell=true):(x.den ρ m gen0).plain=true:=by
 unfold RA.okCell at h;split at h<;>first|rfl|cases h
theorem Zdz{x:RA}(h:x.okCellP=true):(x.den ρ m gen0).plain=true:=by
 cases x with
 |any=>rfl
 |_=>exact Zci h
theorem Zcv{x:RA}{gen:Nat->Nat}(h:x.okRes=true):(x.den ρ m gen).back=some (x.den ρ m gen)/\x.ali=none/\x.den ρ m gen=x.den ρ m gen0:=by
 unfold RA.okRes at h;split at h<;>first|exact⟨rfl,rfl,rfl⟩|cases h
theorem Zdq:∀{x:RA},x.plain=true->x.ali=none
 |.gv _ v,h=>Zdq (x:=v) h
 |.any,_|.c _,_|.agg _,_|.tup _,_|.ptr _ _,_|.elp _ _,_|.own _ _ _,_|.zs _,_|.fn _ _,_|.ags _ _ _ _ _,_=>rfl
 |.als _,h|.opt _ _ _ _,h=>by cases h
theorem Zty{c:Cfg}{op:Opt}{ops:Array Oper}{C:Ctx}(hP:C.P=c.P)(hN:C.N=c.N){Q:Ex->St->Prop}{i:Nat}{rest:List Nat}{o:Oper}{q:Call}(ho:ops[i]? =some o)(hop:o.op=.call q)(hw:Zan ops s o=some true)
 {n0:Nat} {ρ0:Env} {σ0:Sig} {Kr:RSt->T} {Kp:E->RSt->T} (hg:Good c.P up R n0 ρ0 σ0 (AO C ops rest Q) Kr) (hp:Zr7 c.P up R n0 ρ0 σ0 Q Kp)
 (ha:Agr n0 ρ0 ρ) (hnv:n0<=rs.nv) (hu:m.up=up) (hσ:σ0<+:σ) (hdep:rs.dep=σ.length) (hd:Den ρ m rs s) (h:(callT c op rs o q Kr Kp).den c.P up R ρ σ):AO C ops (i::rest) Q s:=by
 unfold callT at h;split at h
 ·rename_i d fx hdst hcal;split at h
  ·rename_i hlt;split at h
   ·rename_i F caps vals hfx hvals;split at h
    ·rename_i bx hbx;split at h
     ·rename_i res k1 hres;split at h
      ·rename_i bx' k2 bxp k3 hb2 hb3;split at h
       ·rename_i hc;simp only[Bool.and_eq_true,decide_eq_true_eq]at hc;obtain⟨⟨⟨⟨⟨⟨⟨⟨hlt0,hnd⟩,hnm⟩,hnmp⟩,hokr⟩,hpl⟩,hok⟩,hok'⟩,hokp⟩:=hc;unfold T.den at h;obtain⟨R',hh,hret,hpan⟩:=h m.ν;have hm:(⟨up,m.ν⟩:Nm)=m:=by rw[<-hu]
        rw[hm]at hh;simp only[hm]at hret hpan;have hin:=Zbs hbx;have hsub:∀x∈bx,x.1∈rs.K.map (·.1):=fun x hx=>List.mem_map.2 ⟨_,Zbh (hin x hx),rfl⟩
        have hH:∀x∈Zab ρ m bx,s.K x.1=some x.2:=fun x hx=>by
         obtain⟨y,hy,rfl⟩:=List.mem_map.1 hx;exact hd.look (hin y hy)
        have hHn:((Zab ρ m bx).map (·.1)).Nodup:=by
         have:(Zab ρ m bx).map (·.1)=(bx.map (·.1)).map (RRef.den m):=by simp[Zab,Function.comp_def]
         rw[this];refine List.pairwise_map.2 (List.Pairwise.imp_of_mem (fun{x y} hx hy hxy e=>hxy ?_) hnd);obtain⟨x',hx',rfl⟩:=List.mem_map.1 hx;obtain⟨y',hy',rfl⟩:=List.mem_map.1 hy;exact Zbo hd.nd (hsub _ hx') (hsub _ hy') e
        have hfst:∀{ρ':Env}{b:List (RRef×List RA)},b.map (·.1)=bx.map (·.1)->(Zab ρ' m b).map (·.1)=(Zab ρ m bx).map (·.1):=fun{ρ' b} e=>by
         have:=congrArg (List.map (RRef.den m)) e;simpa[Zab,Function.comp_def]using this
        have hplain:∀{ρ':Env}{b:List (RRef×List RA)},(b.all fun x=>x.2.all RA.okCell)=true-> ∀x∈Zab ρ' m b,∀y∈x.2,y.plain=true:=fun{ρ' b} hb x hx y hy=>by
         obtain⟨z,hz,rfl⟩:=List.mem_map.1 hx;obtain⟨w,hw,rfl⟩:=List.mem_map.1 hy;exact Zci (List.all_eq_true.1 (List.all_eq_true.1 hb z hz) w hw)
        have hplainP:∀{ρ':Env}{b:List (RRef×List RA)},(b.all fun x=>x.2.all RA.okCellP)=true-> ∀x∈Zab ρ' m b,∀y∈x.2,y.plain=true:=fun{ρ' b} hb x hx y hy=>by
         obtain⟨z,hz,rfl⟩:=List.mem_map.1 hx;obtain⟨w,hw,rfl⟩:=List.mem_map.1 hy;exact Zdz (List.all_eq_true.1 (List.all_eq_true.1 hb z hz) w hw)
        have hsub':∀{b:List (RRef×List RA)},b.map (·.1)=bx.map (·.1)-> ∀x∈b,x.1∈rs.K.map (·.1):=fun{b} e x hx=>by
         have:x.1∈bx.map (·.1):=e▸List.mem_map.2 ⟨x,hx,rfl⟩;obtain⟨y,hy,e2⟩:=List.mem_map.1 this;rw[<-e2];exact hsub y hy
        have hcall:o.op=.call {callee:=.value fx,args:=q.args,argTypes:=q.argTypes}:=by rw[hop,<-hcal]
        have hfx':s.ev fx=.fn F (caps.map (RRef.den m)):=by
         have:=Zbc hd (x:=fx) (by rw[hfx];intro e;cases e);rw[hfx]at this;exact this
        refine Zlw (H:=Zab ρ m bx) (R:=R') ho hw hcall hdst (by rw[hN];exact hlt) hfx' (Zeq hd hvals) hH hHn ?_ ?_ ?_
        ·rw[hP]
         have e1:(vals.map fun x=>x.den ρ m s.gen).map A.lift=vals.map fun a=>(a.den ρ m gen0).lift:=by
          rw[List.map_map];refine List.map_congr_left fun x hx=>?_
          have:=Zdq (List.all_eq_true.1 hpl x hx);show A.lift (x.den ρ m s.gen)=_;rw[RA.den_gen (gen:=gen0) (gen':=s.gen) fun t ht=>by rw[this]at ht;cases ht]
         rw[e1,List.map_map];exact hh
        ·intro v H' hR;obtain⟨ρ',hag,hv,hH',hk⟩:=Zce (hret v H' hR);obtain⟨hb,hali,hgen⟩:=Zcv (ρ:=ρ') (m:=m) (gen:=s.gen) hokr;refine⟨v,Zab ρ' m bx',by rw[hv,<-hgen];exact hb,hH',hfst hnm,hplain hok',?_⟩;have hd2:=(hd.agr hag hlt0).setH (hsub' hnm) (by rw[hnm];exact hnd);have hd3:Den ρ' m {rs with K:=Zbt rs.K bx',nv:=rs.nv+k1.length+k2.length} (s.setH (Zab ρ' m bx')):=⟨hd2.tm,hd2.al,hd2.K,hd2.nd,hd2.known⟩;refine hg ρ' m _ _ σ (ha.trans hag hnv) ?_ hu hσ (by rw[Zae];exact hdep) (hd3.put (d:=d) (x:=res) (y:=v) (by rw[hali];intro e;cases e) (.inr (by rw[hv,<-hgen];rfl))) hk;rw[Zai];show n0<=rs.nv+k1.length+k2.length;omega
        ·intro v H' hR;obtain⟨ρ',hag,hH',hk⟩:=Zce (hpan v H' hR);have hag':Agr rs.nv ρ ρ':=((Agr.refl rs.nv ρ).set (.d (.lit v)) (Nat.le_refl _)).trans hag (Nat.le_succ _);have hvn:ρ' rs.nv=.d (.lit v):=by rw[hag rs.nv (Nat.lt_succ_self _),Env.set_same]
         refine⟨Zab ρ' m bxp,hH',hfst hnmp,hplainP hokp,?_⟩;have hd2:=(hd.agr hag' hlt0).setH (hsub' hnmp) (by rw[hnmp];exact hnd);have hd3:Den ρ' m {rs with K:=Zbt rs.K bxp,nv:=rs.nv+1+k3.length} (s.setH (Zab ρ' m bxp)):=⟨hd2.tm,hd2.al,hd2.K,hd2.nd,hd2.known⟩;have:=hp (.var rs.nv) ρ' m {rs with K:=Zbt rs.K bxp,nv:=rs.nv+1+k3.length} _ σ (ha.trans hag' hnv) (by show n0<=rs.nv+1+k3.length;omega) hu hσ hdep hd3 hk;have e:dval (((E.var rs.nv).den ρ').dd)=v:=by show dval (ρ' rs.nv).dd=v;rw[hvn];rfl
         rw[e]at this;exact this
       ·unfold T.den at h;exact h.elim
      ·unfold T.den at h;exact h.elim
     ·unfold T.den at h;exact h.elim
    ·unfold T.den at h;exact h.elim
   ·unfold T.den at h;exact h.elim
  ·unfold T.den at h;exact h.elim
 ·unfold T.den at h;exact h.elim
theorem Zr8{c:Cfg}{op:Opt}{ops:Array Oper}{C:Ctx}(hP:C.P=c.P)(hN:C.N=c.N){Q:Ex->St->Prop}{i:Nat}{rest:List Nat}{o:Oper}{q:Call}(ho:ops[i]? =some o)(hop:o.op=.call q)(hw:Zan ops s o=some true)
 {n0:Nat} {ρ0:Env} {σ0:Sig} {Kr:RSt->T} {Kp:E->RSt->T} (hg:Good c.P up R n0 ρ0 σ0 (AO C ops rest Q) Kr) (hp:Zr7 c.P up R n0 ρ0 σ0 Q Kp)
 (ha:Agr n0 ρ0 ρ) (hnv:n0<=rs.nv) (hu:m.up=up) (hσ:σ0<+:σ) (hdep:rs.dep=σ.length) (hd:Den ρ m rs s) (h:(Zqe c op rs o q Kr Kp).den c.P up R ρ σ):AO C ops (i::rest) Q s:=by
 unfold Zqe at h;split at h
 ·rename_i d fx hdst hcal;split at h
  ·rename_i hlt;split at h
   ·rename_i F caps vals hfx hvals;split at h
    ·rename_i bx hbx;split at h
     ·rename_i res k1 hres;split at h
      ·rename_i bx' k2 bx2 k4 bxp k3 hb2 hb4 hb3;split at h
       ·rename_i hc;simp only[Bool.and_eq_true,decide_eq_true_eq]at hc;obtain⟨⟨⟨⟨⟨⟨⟨⟨⟨⟨hlt0,hnd⟩,hnm⟩,hnm2⟩,hnmp⟩,hokr⟩,hpl⟩,hok⟩,hok'⟩,hok2⟩,hokp⟩:=hc;unfold T.den at h;obtain⟨R',hh,hret,hpan⟩:=h m.ν;have hm:(⟨up,m.ν⟩:Nm)=m:=by rw[<-hu]
        rw[hm]at hh;simp only[hm]at hret hpan;have hin:=Zbs hbx;have hsub:∀x∈bx,x.1∈rs.K.map (·.1):=fun x hx=>List.mem_map.2 ⟨_,Zbh (hin x hx),rfl⟩
        have hH:∀x∈Zab ρ m bx,s.K x.1=some x.2:=fun x hx=>by
         obtain⟨y,hy,rfl⟩:=List.mem_map.1 hx;exact hd.look (hin y hy)
        have hHn:((Zab ρ m bx).map (·.1)).Nodup:=by
         have:(Zab ρ m bx).map (·.1)=(bx.map (·.1)).map (RRef.den m):=by simp[Zab,Function.comp_def]
         rw[this];refine List.pairwise_map.2 (List.Pairwise.imp_of_mem (fun{x y} hx hy hxy e=>hxy ?_) hnd);obtain⟨x',hx',rfl⟩:=List.mem_map.1 hx;obtain⟨y',hy',rfl⟩:=List.mem_map.1 hy;exact Zbo hd.nd (hsub _ hx') (hsub _ hy') e
        have hfst:∀{ρ':Env}{b:List (RRef×List RA)},b.map (·.1)=bx.map (·.1)->(Zab ρ' m b).map (·.1)=(Zab ρ m bx).map (·.1):=fun{ρ' b} e=>by
         have:=congrArg (List.map (RRef.den m)) e;simpa[Zab,Function.comp_def]using this
        have hplain:∀{ρ':Env}{b:List (RRef×List RA)},(b.all fun x=>x.2.all RA.okCell)=true-> ∀x∈Zab ρ' m b,∀y∈x.2,y.plain=true:=fun{ρ' b} hb x hx y hy=>by
         obtain⟨z,hz,rfl⟩:=List.mem_map.1 hx;obtain⟨w,hw,rfl⟩:=List.mem_map.1 hy;exact Zci (List.all_eq_true.1 (List.all_eq_true.1 hb z hz) w hw)
        have hplainP:∀{ρ':Env}{b:List (RRef×List RA)},(b.all fun x=>x.2.all RA.okCellP)=true-> ∀x∈Zab ρ' m b,∀y∈x.2,y.plain=true:=fun{ρ' b} hb x hx y hy=>by
         obtain⟨z,hz,rfl⟩:=List.mem_map.1 hx;obtain⟨w,hw,rfl⟩:=List.mem_map.1 hy;exact Zdz (List.all_eq_true.1 (List.all_eq_true.1 hb z hz) w hw)
        have hsub':∀{b:List (RRef×List RA)},b.map (·.1)=bx.map (·.1)-> ∀x∈b,x.1∈rs.K.map (·.1):=fun{b} e x hx=>by
         have:x.1∈bx.map (·.1):=e▸List.mem_map.2 ⟨x,hx,rfl⟩;obtain⟨y,hy,e2⟩:=List.mem_map.1 this;rw[<-e2];exact hsub y hy
        have hcall:o.op=.call {callee:=.value fx,args:=q.args,argTypes:=q.argTypes}:=by rw[hop,<-hcal]
        have hfx':s.ev fx=.fn F (caps.map (RRef.den m)):=by
         have:=Zbc hd (x:=fx) (by rw[hfx];intro e;cases e);rw[hfx]at this;exact this
        refine Zlw (H:=Zab ρ m bx) (R:=R') ho hw hcall hdst (by rw[hN];exact hlt) hfx' (Zeq hd hvals) hH hHn ?_ ?_ ?_
        ·rw[hP]
         have e1:(vals.map fun x=>x.den ρ m s.gen).map A.lift=vals.map fun a=>(a.den ρ m gen0).lift:=by
          rw[List.map_map];refine List.map_congr_left fun x hx=>?_
          have:=Zdq (List.all_eq_true.1 hpl x hx);show A.lift (x.den ρ m s.gen)=_;rw[RA.den_gen (gen:=gen0) (gen':=s.gen) fun t ht=>by rw[this]at ht;cases ht]
         rw[e1,List.map_map];exact hh
        ·intro v H' hR;rcases hret v H' hR with hr|hr
         ·obtain⟨ρ',hag,hv,hH',hk⟩:=Zce hr;obtain⟨hb,hali,hgen⟩:=Zcv (ρ:=ρ') (m:=m) (gen:=s.gen) hokr;refine⟨v,Zab ρ' m bx',by rw[hv,<-hgen];exact hb,hH',hfst hnm,hplain hok',?_⟩;have hd2:=(hd.agr hag hlt0).setH (hsub' hnm) (by rw[hnm];exact hnd);have hd3:Den ρ' m {rs with K:=Zbt rs.K bx',nv:=rs.nv+k1.length+k2.length} (s.setH (Zab ρ' m bx')):=⟨hd2.tm,hd2.al,hd2.K,hd2.nd,hd2.known⟩;refine hg ρ' m _ _ σ (ha.trans hag hnv) ?_ hu hσ (by rw[Zae];exact hdep) (hd3.put (d:=d) (x:=res) (y:=v) (by rw[hali];intro e;cases e) (.inr (by rw[hv,<-hgen];rfl))) hk;rw[Zai];show n0<=rs.nv+k1.length+k2.length;omega
         ·obtain⟨ρ',hag,hv,hH',hk⟩:=Zce hr;obtain⟨hb,hali,hgen⟩:=Zcv (ρ:=ρ') (m:=m) (gen:=s.gen) hokr;refine⟨v,Zab ρ' m bx2,by rw[hv,<-hgen];exact hb,hH',hfst hnm2,hplain hok2,?_⟩;have hd2:=(hd.agr hag hlt0).setH (hsub' hnm2) (by rw[hnm2];exact hnd);have hd3:Den ρ' m {rs with K:=Zbt rs.K bx2,nv:=rs.nv+k1.length+k4.length} (s.setH (Zab ρ' m bx2)):=⟨hd2.tm,hd2.al,hd2.K,hd2.nd,hd2.known⟩;refine hg ρ' m _ _ σ (ha.trans hag hnv) ?_ hu hσ (by rw[Zae];exact hdep) (hd3.put (d:=d) (x:=res) (y:=v) (by rw[hali];intro e;cases e) (.inr (by rw[hv,<-hgen];rfl))) hk;rw[Zai];show n0<=rs.nv+k1.length+k4.length;omega
        ·intro v H' hR;obtain⟨ρ',hag,hH',hk⟩:=Zce (hpan v H' hR);have hag':Agr rs.nv ρ ρ':=((Agr.refl rs.nv ρ).set (.d (.lit v)) (Nat.le_refl _)).trans hag (Nat.le_succ _);have hvn:ρ' rs.nv=.d (.lit v):=by rw[hag rs.nv (Nat.lt_succ_self _),Env.set_same]
         refine⟨Zab ρ' m bxp,hH',hfst hnmp,hplainP hokp,?_⟩;have hd2:=(hd.agr hag' hlt0).setH (hsub' hnmp) (by rw[hnmp];exact hnd);have hd3:Den ρ' m {rs with K:=Zbt rs.K bxp,nv:=rs.nv+1+k3.length} (s.setH (Zab ρ' m bxp)):=⟨hd2.tm,hd2.al,hd2.K,hd2.nd,hd2.known⟩;have:=hp (.var rs.nv) ρ' m {rs with K:=Zbt rs.K bxp,nv:=rs.nv+1+k3.length} _ σ (ha.trans hag' hnv) (by show n0<=rs.nv+1+k3.length;omega) hu hσ hdep hd3 hk;have e:dval (((E.var rs.nv).den ρ').dd)=v:=by show dval (ρ' rs.nv).dd=v;rw[hvn];rfl
         rw[e]at this;exact this
       ·unfold T.den at h;exact h.elim
      ·unfold T.den at h;exact h.elim
     ·unfold T.den at h;exact h.elim
    ·unfold T.den at h;exact h.elim
   ·unfold T.den at h;exact h.elim
  ·unfold T.den at h;exact h.elim
 ·unfold T.den at h;exact h.elim
theorem Zmd{P:Program}(w:World)(t e:TypeId)(a:Option Addr)(n c n' c':Nat)(h:P.underlying t=some (.slice e)):
 (binOp .eql t (.slice a n c) (.slice none n' c')).run P w=.ok (.bool a.isNone) w:=by
 have key:∀d:Nat,(Op.equalIn (d+1) t (.slice a n c) (.slice none n' c')).run P w=.ok a.isNone w:=fun d=>by
  cases a<;>simp[Op.equalIn,run_underlying h]
 simp only[binOp];simp[Op.equal,Op.maxDepth,key 9999]
theorem Zqg{s:St}{g:Gh}{w:World}{ρ:Env}{m:Nm}{v:Value}{vs:List RA}
 (h:v.cells.size=(kDen ρ m vs).length/\ ∀(j:Nat)(y:A),(kDen ρ m vs)[j]? =some y->y.plain=true/\y.isOwn=false/\ ∃u,v.cells[j]? =some u/\isCell u=true/\ ∀p,RepA w g s.gen p y u):
 v.cells.size=(kDen ρ m (vs.map zsC)).length/\ ∀(j:Nat)(y:A),(kDen ρ m (vs.map zsC))[j]? =some y->y.plain=true/\y.isOwn=false/\ ∃u,v.cells[j]? =some u/\isCell u=true/\ ∀p,RepA w g s.gen p y u:=by
 refine⟨by rw[h.1];simp[kDen],fun j y hy=>?_⟩;simp only[kDen,List.map_map,List.getElem?_map,Option.map_eq_some_iff,Function.comp]at hy;obtain⟨r,hr,rfl⟩:=hy;obtain⟨h1,h2,u,h3,h4,h5⟩:=h.2 j (r.den ρ m fun _=>0) (by simp[kDen,hr]);unfold zsC;split
 ·refine⟨rfl,rfl,u,h3,h4,fun p=>?_⟩;have h6:RepD w g.Pr (.lit (.slice none 0 0)) u:=h5 p;cases h6;exact⟨.emp _ _,_,_,rfl⟩
 ·exact⟨h1,h2,u,h3,h4,h5⟩
theorem Zqh{c:Cfg}{C:Ctx}(hP:C.P=c.P){ρ:Env}{m:Nm}{rs:RSt}{s:St}(hd:Den ρ m rs s){o:Oper}{l:List E}{rs':RSt}(h:rstn c rs o=some (l,rs'))(hn:Nds ρ l):
 ∃s',OpOk C o s s'/\Den ρ m rs' s'/\rs'.nv=rs.nv/\rs'.dep=rs.dep:=by
 unfold rstn at h;split at h
 ·rename_i t p x hdst hop;split at h
  ·rename_i r off n ag row hp hsz hx;have hep:s.ev p=.ptr (r.den m) off:=by have:=Zbc hd (x:=p) (by rw[hp];intro e;cases e);rw[hp]at this;exact this
   split at h
   ·rename_i cs hcs;have hK:=hd.look hcs;split at h
    ·rename_i a vs hb;split at h
     ·rename_i hc;cases h;rw[<-hx]at hb;have hv:=Zqf hd hb hn;refine⟨s.setK (r.den m) (Zd5 (kDen ρ m cs) off (kDen ρ m (vs.map zsC))),?_,?_,rfl,rfl⟩
      ·refine OpOk.storeBoxG hop hdst (by rw[hP];exact hsz) hep hK (fun g a w hR=>Zqg (hR.boxC hv)) (by simpa[kDen]using hc.2.1) (by simpa[kDen]using hc.2.2)
      ·exact hd.setK hcs (Zgd cs off (vs.map zsC)).symm
     ·cases h
    ·cases h
   ·cases h
  ·cases h
 ·cases h
theorem Ztz{c:Cfg}{C:Ctx}(hP:C.P=c.P)(hN:C.N=c.N){ρ:Env}{m:Nm}{rs:RSt}{s:St}(hd:Den ρ m rs s){fr:List Nat}{o:Oper}{l:List E}{rs':RSt}(h:rags c fr rs o=some (l,rs'))(hn:Nds ρ l):
 ∃s',OpOk C o s s'/\Den ρ m rs' s'/\rs'.nv=rs.nv/\rs'.dep=rs.dep:=by
 have tt:((E.bool true).den ρ).bool=true:=rfl
 have slot:∀{u:Nat}{x:RA},rs.tm.get u=x->x≠ .any->s.tm u=x.den ρ m s.gen:=fun{u x} e hx=>by
  have:=(hd.tm u).resolve_left (by rw[e];exact hx);rw[e]at this;exact this
 unfold rags at h;split at h
 ·rename_i d t n parts hdst hop;split at h
  ·split at h
   ·rename_i mm by_ cc el l' e hs hp;split at h
    ·rename_i hc;cases h;rw[hs]at hp;have hpar:=Zfq hd tt hp hn;have hlen:=Zed (ρ:=ρ) hp;refine⟨s.put d (.zs []),?_,hd.put (by intro e;cases e) (.inr rfl),Zai ..,Zae ..⟩;have he:(e.den ρ).lst=[]:=List.length_eq_zero_iff.1 (by rw[hlen];exact hc.1.1);rw[he]at hpar;exact OpOk.buildNone (by rw[hop,hc.1.2]) hdst (by rw[hN];exact hc.2) (by rw[hP];exact hs) hpar
    split at h
    ·rename_i hc;cases h;rw[hs]at hp;have hpar:=Zfq hd tt hp hn;have hlen:=Zed (ρ:=ρ) hp;refine⟨s.put d (.own mm [] (e.den ρ).lst),?_,hd.put (by intro e;cases e) (.inr rfl),Zai ..,Zae ..⟩;exact OpOk.buildSliceW hop hdst (by rw[hN];exact hc.2) (by rw[hP];exact hs) hpar (by rw[hlen];exact hc.1.1) hc.1.2
    ·cases h
   ·cases h
  ·cases h
 ·rename_i d T ps hdst hop;split at h
  ·rename_i i u hps;have hps':ps= #[(i,.tmp u)]:=by apply Array.toList_inj.1;rw[hps]
   subst hps';split at h
   ·rename_i mm es z q zz off hu hz hpl;split at h
    ·rename_i hc;cases h;have hu':=slot hu (by intro e;cases e);refine⟨(s.reset u .any).put d (.ags ((zz.take off).map constD) mm (es.den ρ).lst ((z.den ρ).row::(q.den ρ).lst) ((zz.drop (off+1)).map constD)),?_,?_,by rw[Zai,Zai],by rw[Zae,Zae]⟩
     ·exact OpOk.buildAgs hop hdst (by rw[hN];exact hc.2.2) (by rw[hP];exact hz) hc.1.1 (by rw[hP];exact hc.1.2) (by rw[hP];exact hpl) hc.2.1 hu'
     ·refine(hd.reset u .any).put (by intro e;cases e) (.inr ?_);simp only[RA.den,List.map_map,A.ags.injEq];exact⟨List.map_congr_left fun v _=>(Zbr ρ v).symm,trivial,trivial,rfl,List.map_congr_left fun v _=>(Zbr ρ v).symm⟩
    ·cases h
   ·cases h
  ·cases h
 ·rename_i t p u hdst hop;split at h
  ·rename_i pre mm es nw post r off n ag hu hp hsz;split at h
   ·rename_i cs hcs;split at h
    ·rename_i hc;cases h;have hu':=slot hu (by intro e;cases e);have hep:s.ev p=.ptr (r.den m) off:=by have:=Zbc hd (x:=p) (by rw[hp];intro e;cases e);rw[hp]at this;exact this
     refine⟨_,OpOk.storeAgs hop hdst (by rw[hP];exact hsz) hep (hd.look hcs) hu' (by simpa using hc.1) (by simpa[kDen]using hc.2),?_,by simp[RSt.setK,Zai],by simp[RSt.setK,Zae]⟩;refine(hd.reset u .any).setK (by rw[Zma];exact hcs) ?_;rw[Zdb,Zgd];simp only[List.length_map,RA.den,kDen,List.map_append,List.map_cons,List.map_map];rfl
    ·cases h
   ·cases h
  ·cases h
 ·rename_i d u hdst hop;split at h
  ·split at h
   ·rename_i sz es nw hu;split at h
    ·rename_i hc;cases h;have hu':=slot hu (by intro e;cases e);refine⟨(s.reset u .any).put d (.own sz (es.den ρ).lst (nw.den ρ).lst),?_,(hd.reset u .any).put (by intro e;cases e) (.inr rfl),by simp[Zai],by simp[Zae]⟩;exact OpOk.hand hdst (by rw[hN];exact hc) (.inl hop) hu'
    ·cases h
   ·cases h
  ·cases h
 ·rename_i d t p hdst hop;split at h
  ·split at h
   ·rename_i r off n hp hsz;have hep:s.ev p=.ptr (r.den m) off:=by have:=Zbc hd (x:=p) (by rw[hp];intro e;cases e);rw[hp]at this;exact this
    split at h
    ·rename_i cs hcs;have hK:=hd.look hcs;split at h
     ·rename_i sz es nw hc;split at h
      ·rename_i hdn;cases h;have hcell:(kDen ρ m cs)[off]? =some (.own sz (es.den ρ).lst (nw.den ρ).lst):=by simp[kDen,hc,RA.den]
       exact⟨_,OpOk.take hdst (by rw[hN];exact hdn) hop (by rw[hP];exact hsz) hep hK hcell,(hd.setK hcs (by rw[Zdb];rfl)).put (by intro e;cases e) (.inr rfl),by simp[Zai,RSt.setK],by simp[Zae,RSt.setK]⟩
      ·cases h
     ·cases h
    ·cases h
   ·cases h
  ·cases h
 ·cases h
theorem Zt0{c:Cfg}{C:Ctx}(hP:C.P=c.P)(hN:C.N=c.N){ρ:Env}{m:Nm}{rs:RSt}{s:St}(hd:Den ρ m rs s){fr:List Nat}{o:Oper}{l:List E}{rs':RSt}(h:rpre c fr rs o=some (l,rs'))(hn:Nds ρ l):
 ∃s',OpOk C o s s'/\Den ρ m rs' s'/\rs'.nv=rs.nv/\rs'.dep=rs.dep:=by
 unfold rpre at h;split at h
 ·rename_i x hx;cases h;exact Zqh hP hd hx hn
 ·exact Ztz hP hN hd h hn
theorem Zqi{c:Cfg}{op:Opt}{ops:Array Oper}{C:Ctx}(hP:C.P=c.P)(hN:C.N=c.N){Q:Ex->St->Prop}{i:Nat}{rest:List Nat}{o:Oper}(ho:ops[i]? =some o)(hw:Zan ops s o=some true)
 {n0:Nat} {ρ0:Env} {σ0:Sig} {Kr:RSt->T} {Kp:E->RSt->T} (hg:Good c.P up R n0 ρ0 σ0 (AO C ops rest Q) Kr) (hp:Zr7 c.P up R n0 ρ0 σ0 Q Kp)
 (ha:Agr n0 ρ0 ρ) (hnv:n0<=rs.nv) (hu:m.up=up) (hσ:σ0<+:σ) (hdep:rs.dep=σ.length) (hd:Den ρ m rs s) (h:(Zo1 c op ops o rs Kr Kp).den c.P up R ρ σ):AO C ops (i::rest) Q s:=by
 have tt:((E.bool true).den ρ).bool=true:=rfl;unfold Zo1 at h;split at h
 ·rename_i l rs' hr;obtain⟨kn,h1,h2,h3⟩:=Za0 hd.known h;obtain⟨s',he,hd',hnv',hdep'⟩:=Zt0 (C:=C) hP hN hd hr (h2 tt);refine Zhh ho hw he ?_;exact hg ρ m _ s' σ ha (by show n0<=rs'.nv;rw[hnv'];exact hnv) hu hσ (by show rs'.dep=_;rw[hdep'];exact hdep) (hd'.knew h1) h3
 split at h
 ·rename_i l rs' hr;split at h
  ·rename_i hdn;obtain⟨kn,h1,h2,h3⟩:=Za0 hd.known h;have hlt:∀d,o.dst=some d->d<c.N:=fun d e=>by unfold Zr5 at hdn;rw[e]at hdn;simpa using hdn
   obtain⟨s',he,hd',hnv',hdep'⟩:=Zjm (hd.knew h1|>fun _=>hd) hr (h2 tt) hlt;refine Zhh ho hw (Zbz (by rw[hP,hN];exact he)) ?_;exact hg ρ m _ s' σ ha (by show n0<=rs'.nv;rw[hnv'];exact hnv) hu hσ (by show rs'.dep=_;rw[hdep'];exact hdep) (hd'.knew h1) h3
  ·unfold T.den at h;exact h.elim
 ·split at h
  ·rename_i d hdst;split at h
   ·rename_i hlt;split at h
    ·rename_i l cs hr;split at h
     ·rename_i hcs;obtain⟨kn,h1,h2,h3⟩:=Za0 hd.known h;have hA:=Zl9 hd hr (h2 tt);refine Zhh ho hw (Zbz (ops:=ops) (by rw[hP,hN];exact Ze8 hdst hlt hA)) ?_
      have hk:kDen ρ m cs=kDen ρ (m.set d (s.gen d)) cs:=List.map_congr_left fun x hx=>by
       have:=List.all_eq_true.1 hcs x hx;simp only[Bool.and_eq_true,Bool.not_eq_true']at this;exact(RA.den_nm (m:=m) (m':=m.set d (s.gen d)) rfl (fun t ht=>by simp[Nm.set,ht]) this.1).symm
      exact hg ρ (m.set d (s.gen d)) _ _ σ ha (by rw[Zjl];exact hnv) hu hσ (by rw[Zh0];exact hdep) ((hd.knew h1).alloc hk) h3
     ·unfold T.den at h;exact h.elim
    ·split at h
     ·rename_i l v hr;obtain⟨kn,h1,h2,h3⟩:=Za0 hd.known h;obtain⟨hq,hali⟩:=Zdx hd tt hr (h2 tt) (r:=v) rfl;refine Zhh ho hw (Zdn hdst (by rw[hN];exact hlt) (by rw[hP];exact hq)) ?_;exact hg ρ m _ _ σ ha (by rw[Zai];exact hnv) hu hσ (by rw[Zae];exact hdep) ((hd.knew h1).put hali (.inr rfl)) h3
     ·rename_i l i' vs hr;obtain⟨kn,h1,h2,h3⟩:=Za0 hd.known h;obtain⟨k,v,rs1,hv,hi,hd1,e1,e2,h4⟩:=Zsw (hd.knew h1) h3;obtain⟨hq,hali⟩:=Zdx hd tt hr (h2 tt) (r:=v) ⟨k,by simpa using hi,hv⟩;refine Zhh ho hw (Zdn hdst (by rw[hN];exact hlt) (by rw[hP];exact hq)) ?_;exact hg ρ m _ _ σ ha (by rw[Zai,e1];exact hnv) hu hσ (by rw[Zae,e2];exact hdep) (hd1.put hali (.inr rfl)) h4
     ·split at h
      ·rename_i l e v1 v2 hr;obtain⟨kn,h1,h2,h3⟩:=Za0 hd.known h;obtain⟨v,hv,he,hali⟩:=Znh hd hdst hlt hr (h2 tt);unfold T.den at h3;refine Zhh ho hw (Zbz (by rw[hP,hN];exact he)) ?_
       have hk:(Kr ({rs with known:=kn}.put d v)).den c.P up R ρ σ:=by
        rcases hv with⟨hb,rfl⟩|⟨hb,rfl⟩
        ·exact h3.1 hb
        ·exact h3.2 hb
       exact hg ρ m _ _ σ ha (by rw[Zai];exact hnv) hu hσ (by rw[Zae];exact hdep) ((hd.knew h1).put (by rw[hali];intro e;cases e) (.inr rfl)) hk
      ·split at h
       ·rename_i q hop;split at h
        ·exact Zr8 hP hN ho hop hw hg hp ha hnv hu hσ hdep hd h
        ·exact Zty hP hN ho hop hw hg hp ha hnv hu hσ hdep hd h
       ·rename_i Ty x y hop;split at h
        ·rename_i l v hm;obtain⟨kn,h1,h2,h3⟩:=Za0 hd.known h;obtain⟨hok,hali⟩:=Zvd hP hN hd hdst hlt hop hm (h2 tt);refine Zhh ho hw hok ?_;exact hg ρ m _ _ σ ha (by rw[Zai];exact hnv) hu hσ (by rw[Zae];exact hdep) ((hd.knew h1).put (by rw[hali];intro e;cases e) (.inr rfl)) h3
        ·unfold T.den at h;exact h.elim
       ·rename_i Ty x n' c' p hop;split at h
        ·rename_i l e q hr hs;split at h
         ·rename_i hlt0;obtain⟨kn,h1,h2,h3⟩:=Za0 hd.known h;unfold T.den at h3;have hex:=Zbc hd (x:=x) (by intro e;rw[e]at hr;simp[Zch,resc]at hr);obtain⟨hsl,_⟩:=Zct hd hex hr (h2 tt);obtain⟨mq,byq,cq,eq⟩:=q;obtain⟨hun,_⟩:=Zav hs;intro g a w hR;have hrep:=hR.esc (hR.slice hsl)
          have hv:∃a0 n cap,a.eval x=.slice a0 n cap/\(a0.isNone=true->(e.den ρ).lst=[]):=by
           generalize a.eval x=v at hrep;generalize(e.den ρ).lst=es at hrep;cases hrep with
           |emp a c=>exact⟨a,0,c,rfl,fun _=>rfl⟩
           |slc _ sz b off cap vs h0 hl hc hv hp hr=>exact⟨_,_,cap,rfl,fun h=>by cases h⟩
          obtain⟨a0,n,cap,hv,hn⟩:=hv
          have hrun:(execOp a.eval o).run C.P w=.ok (.value (.bool a0.isNone)) w:=by
           have e2:a.eval (.const (.slice none n' c'))=.slice none n' c':=rfl;rw[<-hP]at hun;simp only[execOp,hop,hv,e2,eqGuard];have:=Zmd (P:=C.P) w Ty eq a0 n cap n' c' hun;simp[this]
          have hok:AO C ops rest Q (s.put d (.d (.lit (.bool a0.isNone)))):=by
           refine hg (ρ.set rs.nv (.b a0.isNone)) m ({rs with nv:=rs.nv+1}.put d (.c (.o1 .cb (.o1 .tb (.var rs.nv))))) (s.put d (.d (.lit (.bool a0.isNone)))) σ (ha.set _ hnv) (by rw[Zai];exact Nat.le_succ_of_le hnv) hu hσ (by rw[Zae];exact hdep) ?_ (h3 a0.isNone fun hb=>?_)
           ·have hd1:=hd.agr (Agr.set (Agr.refl rs.nv ρ) (.b a0.isNone) (Nat.le_refl _)) hlt0;have hd2:Den (ρ.set rs.nv (.b a0.isNone)) m {rs with nv:=rs.nv+1} s:=⟨hd1.tm,hd1.al,hd1.K,hd1.nd,hd1.known⟩;refine hd2.put (by intro e;cases e) (.inr ?_);simp[RA.den,E.den,sem1,Env.set,Dat.bool,Dat.dd]
           ·rw[Zah,Zaf];simp[sem2,sem1,Dat.bool_b,Dat.int_i,E.den,hn hb]
          simp only[wpOps,ho,Za5 hR hw,if_true];refine .inl (Zbg hrun ?_);refine hok g _ w ?_;rw[hdst];exact hR.put (by rw[hN];exact hlt) rfl (.lit _ rfl) (fun t n e=>by cases e) (fun t n sz i j e=>by cases e)
         ·unfold T.den at h;exact h.elim
        ·unfold T.den at h;exact h.elim
       ·unfold T.den at h;exact h.elim
   ·unfold T.den at h;exact h.elim
  ·rename_i hdst;split at h
   ·rename_i x hop
    have key:∀{e:E}{t:TypeId}{u:Value},rev rs x=.c e->(e.den ρ).dd=.lit (.iface t u)->(Kp e rs).den c.P up R ρ σ->AO C ops (i::rest) Q s:=fun{e t u} hx he hk=>by
     have h1:=Zbc hd (x:=x) (by rw[hx];intro e;cases e);rw[hx]at h1;have h2:s.lit x=some (.iface t u):=Za8 (by rw[h1];simp only[RA.den,he]);have:=hp e ρ m rs s σ ha hnv hu hσ hdep hd hk;rw[he]at this;exact Zrl ho hw hop h2 this
    split at h
    ·rename_i t y hx;exact key hx rfl h
    ·rename_i t y hx;exact key hx rfl h
    ·rename_i t y hx;exact key hx rfl h
    ·unfold T.den at h;exact h.elim
   ·split at h
    ·rename_i l rs' hr;obtain⟨kn,h1,h2,h3⟩:=Za0 hd.known h;obtain⟨s',he,hd',hnv',hdep'⟩:=Zmb (ops:=ops) hd hdst hr (h2 tt);refine Zhh ho hw (Zbz (by rw[hP,hN];exact he)) ?_;exact hg ρ m _ s' σ ha (by show n0<=rs'.nv;rw[hnv'];exact hnv) hu hσ (by show rs'.dep=_;rw[hdep'];exact hdep) (hd'.knew h1) h3
    ·unfold T.den at h;exact h.elim
theorem Zjn{ops:Array Oper}{o:Oper}{G:E}(hd:Den ρ m rs s)(h:Zku ops rs o=some G):Zan ops s o=some (G.den ρ).bool:=by
 unfold Zku at h;unfold Zan;split at h
 ·rename_i hg;cases h;rw[hg];rfl
 ·rename_i j want hg;rw[hg];simp only;split at h
  ·rename_i q hq;rw[hq];simp only;split at h
   ·rename_i t ht;rw[ht];simp only;split at h
    ·rename_i e he;cases h;have h1:=(hd.tm t).resolve_left (by rw[he];intro e;cases e);rw[h1,he];simp only[RA.den,E.den,sem1,Dat.dd_d];cases want<;>simp[Zaf,sem1,Dat.bool_b]
    ·rename_i g e he;cases h;have h1:=(hd.tm t).resolve_left (by rw[he];intro e;cases e);rw[h1,he];simp only[RA.den,E.den,sem1,Dat.dd_d,Zah,sem2,Dat.bool_b];cases hgb:(g.den ρ).bool
     ·simp
     ·cases want<;>simp[Zaf,sem1,Dat.bool_b]
    ·rename_i he;cases h;have h1:=(hd.tm t).resolve_left (by rw[he];intro e;cases e);rw[h1,he];rfl
    ·cases h
   ·cases h
  ·cases h
theorem Zr9{kt kf:RSt->T}:∀{G:E}{rs:RSt},Den ρ m rs s->(Zky G rs kt kf).den P up R ρ σ->
 ∃rs',Den ρ m rs' s/\rs'.nv=rs.nv/\rs'.dep=rs.dep/\(((G.den ρ).bool=true/\(kt rs').den P up R ρ σ)\/((G.den ρ).bool=false/\(kf rs').den P up R ρ σ)):=by
 have base:∀{G:E}{rs:RSt},Den ρ m rs s->(T.fork G (kt (rs.assume G true)) (kf (rs.assume G false))).den P up R ρ σ->
  ∃rs',Den ρ m rs' s/\rs'.nv=rs.nv/\rs'.dep=rs.dep/\(((G.den ρ).bool=true/\(kt rs').den P up R ρ σ)\/((G.den ρ).bool=false/\(kf rs').den P up R ρ σ)):=fun{G rs} hd h=>by
  unfold T.den at h;cases hb:(G.den ρ).bool
  ·exact⟨_,hd.assume hb,(Zaj rs G false).1,(Zaj rs G false).2,.inr ⟨rfl,h.2 hb⟩⟩
  ·exact⟨_,hd.assume hb,(Zaj rs G true).1,(Zaj rs G true).2,.inl ⟨rfl,h.1 hb⟩⟩
 intro G
 induction G with
 |o2 o a b iha ihb=>
  intro rs hd h;cases o with
  |and=>
   have h:(T.fork a (Zky b (rs.assume a true) kt kf) (kf (rs.assume a false))).den P up R ρ σ:=h;unfold T.den at h;cases hb:(a.den ρ).bool
   ·exact⟨_,hd.assume hb,(Zaj rs a false).1,(Zaj rs a false).2,.inr ⟨by simp[E.den,sem2,Dat.bool_b,hb],h.2 hb⟩⟩
   ·obtain⟨rs',h1,h2,h3,h4⟩:=ihb (hd.assume hb) (h.1 hb);refine⟨rs',h1,h2.trans (Zaj rs a true).1,h3.trans (Zaj rs a true).2,?_⟩;simpa[E.den,sem2,Dat.bool_b,hb]using h4
  |or=>
   have h:(T.fork a (kt (rs.assume a true)) (Zky b (rs.assume a false) kt kf)).den P up R ρ σ:=h;unfold T.den at h;cases hb:(a.den ρ).bool
   ·obtain⟨rs',h1,h2,h3,h4⟩:=ihb (hd.assume hb) (h.2 hb);refine⟨rs',h1,h2.trans (Zaj rs a false).1,h3.trans (Zaj rs a false).2,?_⟩;simpa[E.den,sem2,Dat.bool_b,hb]using h4
   ·exact⟨_,hd.assume hb,(Zaj rs a true).1,(Zaj rs a true).2,.inl ⟨by simp[E.den,sem2,Dat.bool_b,hb],h.1 hb⟩⟩
  |_=>exact base hd h
 |_=>intro rs hd h;exact base hd h
theorem Zni{c:Cfg}{op:Opt}{ops:Array Oper}{C:Ctx}(hP:C.P=c.P)(hN:C.N=c.N){Q:Ex->St->Prop}{K:Re->RSt->T}:∀{l:List Oper}{k n0:Nat}{ρ0 ρ:Env}{σ0 σ:Sig}{m:Nm}{rs:RSt}{s:St},
 (∀j,l[j]? =ops[k+j]?)->Zge c.P up R n0 ρ0 σ0 Q K->Agr n0 ρ0 ρ->n0<=rs.nv->m.up=up->σ0<+:σ->rs.dep=σ.length->Den ρ m rs s->(opsT c op ops K l rs).den c.P up R ρ σ->AO C ops (List.range' k l.length) Q s
 |[],k,n0,ρ0,ρ,σ0,σ,m,rs,s,_,hK,ha,hnv,hu,hσ,hdep,hd,h=>Zfj (hK .nrm ρ m rs s σ ha hnv hu hσ hdep hd h)
 |o::l,k,n0,ρ0,ρ,σ0,σ,m,rs,s,hl,hK,ha,hnv,hu,hσ,hdep,hd,h=>by
  have h0:ops[k]? =some o:=by simpa using(hl 0).symm
  have hl':∀j,l[j]? =ops[k+1+j]? :=fun j=>by
   have:=hl (j+1);simpa[Nat.add_assoc,Nat.add_comm 1 j]using this
  simp only[List.length_cons,List.range'_succ];have hgood:Good c.P up R n0 ρ0 σ0 (AO C ops (List.range' (k+1) l.length) Q) (opsT c op ops K l):=fun ρ m rs s σ h1 h2 h3 h4 h5 h6 h7=>Zni hP hN hl' hK h1 h2 h3 h4 h5 h6 h7
  have hpan:Zr7 c.P up R n0 ρ0 σ0 Q (fun v rs=>K (.pan v) rs):=fun v ρ m rs s σ h1 h2 h3 h4 h5 h6 h7=>hK (.pan v) ρ m rs s σ h1 h2 h3 h4 h5 h6 h7
  unfold opsT at h;split at h
  ·unfold T.den at h;exact h.elim
  ·rename_i G0 hG;have hwant:=Zjn hd hG;rw[<-Zng hd.known]at hwant;generalize Zkv rs.known G0=G at*
   have skip:∀{rs:RSt},Den ρ m rs s->n0<=rs.nv->rs.dep=σ.length->(G.den ρ).bool=false->(match o.dst with
    |some d=>if d<c.N then opsT c op ops K l (rs.put d (.tup []))else .bad 31
    |none=>opsT c op ops K l rs:T).den c.P up R ρ σ->AO C ops (k::List.range' (k+1) l.length) Q s:=fun{rs} hd hnv hdep hf hk=>by
    rw[hf]at hwant;split at hk
    ·rename_i d hdst;split at hk
     ·rename_i hlt;refine Zja h0 hwant (fun d' e=>by rw[hdst]at e;cases e;rw[hN];exact hlt) ?_;rw[hdst];exact hgood ρ m _ _ σ ha (by rw[Zai];exact hnv) hu hσ (by rw[Zae];exact hdep) (hd.put (by intro e;cases e) (.inr rfl)) hk
     ·unfold T.den at hk;exact hk.elim
    ·rename_i hdst;refine Zja h0 hwant (fun d' e=>by rw[hdst]at e;cases e) ?_;rw[hdst];exact hgood ρ m _ _ σ ha hnv hu hσ hdep hd hk
   have fork:(Zky G rs (fun rs=>Zo1 c op ops o rs (opsT c op ops K l) (fun v rs=>K (.pan v) rs)) (fun rs=>match o.dst with
    |some d=>if d<c.N then opsT c op ops K l (rs.put d (.tup []))else .bad 31
    |none=>opsT c op ops K l rs)).den c.P up R ρ σ->AO C ops (k::List.range' (k+1) l.length) Q s:=fun hk=>by
    obtain⟨rs',h1,h2,h3,h4⟩:=Zr9 hd hk;rcases h4 with⟨hb,h4⟩|⟨hb,h4⟩
    ·rw[hb]at hwant;exact Zqi hP hN h0 hwant hgood hpan ha (by rw[h2];exact hnv) hu hσ (by rw[h3];exact hdep) h1 h4
    ·exact skip h1 (by rw[h2];exact hnv) (by rw[h3];exact hdep) hb h4
   simp only at h;split at h
   ·rename_i hF;exact skip hd hnv hdep (by rw[Znf hF];rfl) h
   ·split at h
    ·rename_i hT;rw[Zgq hT]at hwant;exact Zqi hP hN h0 hwant hgood hpan ha hnv hu hσ hdep hd h
    ·split at h
     ·rename_i d hdst;split at h
      ·rename_i n v hr;split at h
       ·rename_i hc;obtain⟨kn,h1,h2,h3⟩:=Za0 hd.known h;cases hb:(G.den ρ).bool
        ·rw[hb]at hwant;refine Zja h0 hwant (fun d' e=>by rw[hdst]at e;cases e;rw[hN];exact hc.1) ?_;rw[hdst];exact hgood ρ m _ _ σ ha (by rw[Zai];exact hnv) hu hσ (by rw[Zae];exact hdep) ((hd.knew h1).put (x:=.gv G v) hc.2 (.inr (by simp[RA.den,hb]))) h3
        ·rw[hb]at hwant;obtain⟨hq,hali⟩:=Zdx hd hb hr (h2 hb) (r:=v) rfl;refine Zhh h0 hwant (Zdn hdst (by rw[hN];exact hc.1) (by rw[hP];exact hq)) ?_;exact hgood ρ m _ _ σ ha (by rw[Zai];exact hnv) hu hσ (by rw[Zae];exact hdep) ((hd.knew h1).put (x:=.gv G v) hali (.inr (by simp[RA.den,hb]))) h3
       ·unfold T.den at h;exact h.elim
      ·exact fork (by rw[hdst];exact h)
     ·rename_i hdst;exact fork (by rw[hdst];exact h)
end
end Go.Rf
end
section
namespace Go.Ab
open Classical
theorem Zh1{P:Program}{ops:Array Oper}{Q:Exit->Act->World->Prop}{m:Nat}(pre:Nat->Nat->Prop)(hpre:∀i j,pre i j->j∈Za7 ops i\/ ∃k∈Za7 ops i,pre k j)(hplt:∀i j,pre i j->j<i)(hsuf:∀i,m<=i->i<ops.size-> ∀j<i,pre i j)(hdir:∀i j,j∈Za7 ops i->j<i):
 ∀(n k:Nat)(listed:Array Bool)(a:Act)(w:World),m<=k->k+n=ops.size->listed.size=ops.size->(∀j,listed.getD j false=decide (j<k))->
  wpOps P ops Q (List.range' k n) a w->wpAny P .any ops Q n listed a w:=by
 have hr:∀(k:Nat)(listed:Array Bool),m<=k->listed.size=ops.size->(∀j,listed.getD j false=decide (j<k))-> ∀i∈Region.ready .any ops listed,i=k:=by
  intro k listed hm hsz hl i hi;rw[mem_ready]at hi;obtain⟨h1,o,ho,h2⟩:=hi;have hlt:i<ops.size:=(Array.getElem?_eq_some_iff.1 ho).1
  have h3:¬i<k:=fun h=>by
   have:=hl i;rw[decide_eq_true h]at this;simp[hsz,hlt]at this h1;rw[this]at h1;cases h1
  refine Nat.le_antisymm (Nat.le_of_not_lt fun h4=>?_) (Nat.le_of_not_lt h3);have h5:=hsuf i (by omega) hlt k h4
  have dl:∀q,q∈Za7 ops i->q<k:=fun q hq=>by
   unfold Za7 at hq;rw[ho]at hq;obtain⟨e,he,rfl⟩:=List.mem_map.1 hq;have h6:=List.mem_filter.1 he;have:=h2 e (by simpa using h6.1) h6.2;rw[hl]at this;simpa using this
  rcases hpre i k h5 with h6|⟨q,h6,h7⟩
  ·exact absurd (dl k h6) (Nat.lt_irrefl _)
  ·have:=dl q h6;have:=hplt q k h7;omega
 intro n
 induction n with
 |zero=>
  intro k listed a w hm hk hsz hl h;refine⟨?_,by simpa[wpOps]using h⟩;refine List.eq_nil_iff_forall_not_mem.2 fun i hi=>?_
  have:=hr k listed hm hsz hl i hi;rw[mem_ready]at hi;obtain⟨_,o,ho,_⟩:=hi;have hlt:i<ops.size:=(Array.getElem?_eq_some_iff.1 ho).1;omega
 |succ n ih=>
  intro k listed a w hm hk hsz hl h;refine⟨fun hnil=>?_,fun i hi=>?_⟩
  ·exfalso;have hlt:k<ops.size:=by omega
   have:k∈Region.ready .any ops listed:=by
    rw[mem_ready];refine⟨?_,ops[k],Array.getElem?_eq_getElem hlt,fun e he hb=>?_⟩
    ·have:=hl k;simp[hsz,hlt]at this⊢;exact this
    ·rw[hl]
     have:e.on∈Za7 ops k:=by
      unfold Za7;rw[Array.getElem?_eq_getElem hlt];exact List.mem_map.2 ⟨e,List.mem_filter.2 ⟨by simpa using he,hb⟩,rfl⟩
     simpa using hdir k _ this
   rw[hnil]at this;cases this
  ·have:=hr k listed hm hsz hl i hi;subst this;rw[List.range'_succ,wpOps_cons]at h;refine wpOp_mono (fun a w h=>ih (i+1) _ a w (by omega) (by omega) (by simpa using hsz) (fun j=>?_) h) h;by_cases hj:j=i
   ·subst hj;have hlt:j<listed.size:=by omega
    simp[hlt]
   ·rw[getD_set_ne false (Ne.symm hj),hl];simp;omega
theorem Zqj{C:Ctx}{ops:Array Oper}{id:Nat}{Q:Ex->St->Prop}(hm:C.P.follows .mixedOrders=true)(m:Nat)(ds:List Nat)(S:Nat->St)(T:Nat->List Nat)(pre:Nat->Nat->Prop)
 (hds:ds.length=m) (hnd:ds.Nodup) (hpre:∀i j,pre i j->j∈Za7 ops i\/ ∃k∈Za7 ops i,pre k j)
 (hT:∀i<m,∀t∈T i,∀j,ds[j]? =some t->pre i j) (hlt:∀i j,pre i j->j<i)
 (hloc:∀i (h:i<m),Loc C ops i (ds[i]'(hds▸h)) (T i) (S i) (S (i+1)))
 (hsuf:∀i,m<=i->i<ops.size-> ∀j<i,pre i j) (hdir:∀i j,j∈Za7 ops i->j<i) (hsz:m<=ops.size)
 (h:AO C ops (List.range' m (ops.size-m)) Q (S m)):AW C (.region id ops true) Q (S 0):=by
 subst hds;have inj:∀i j (hi:i<ds.length) (hj:j<ds.length),ds[i]=ds[j]->i=j:=fun i j hi hj e=>(List.getElem_inj hnd).1 e
 have step1:∀i (hi:i<ds.length) t,t≠ds[i]->Same t (S (i+1)) (S i):=fun i hi t ht=>by
  rw[(hloc i hi).eq];exact Zlx ht
 have base:∀i,i<=ds.length-> ∀t,(∀j (hj:j<ds.length),j<i->ds[j]≠t)->Same t (S i) (S 0):=by
  intro i
  induction i with
  |zero=>intro _ t _;exact .rfl'
  |succ i ih=>
   intro hi t ht;exact(step1 i (by omega) t fun e=>ht i (by omega) (by omega) e.symm).trans (ih (by omega) t fun j hj hji=>ht j hj (by omega))
 have late:∀j (hj:j<ds.length) i,j<i->i<=ds.length->Same ds[j] (S i) (S (j+1)):=by
  intro j hj i
  induction i with
  |zero=>intro h;omega
  |succ i ih=>
   intro hji hi;by_cases e:j=i
   ·subst e;exact .rfl'
   ·exact(step1 i (by omega) _ fun e'=>e (inj _ _ hj (by omega) e')).trans (ih (by omega) (by omega))
 have final:∀j (hj:j<ds.length) i,j<i->i<=ds.length->Same ds[j] (S i) (S ds.length):=fun j hj i hji hi=>(late j hj i hji hi).trans (late j hj _ hj (Nat.le_refl _)).symm
 have up0:∀i,i<=ds.length->Zm5 (S i) (S 0):=by
  intro i
  induction i with
  |zero=>intro _ q;rfl
  |succ i ih=>
   intro hi q;rw[(hloc i (by omega)).eq];exact ih (by omega) q
 have main:∀(U:List Nat)(listed:Array Bool)(u:St)(g:Gh)(a:Act)(w:World),U.Nodup->(∀i∈U,i<ds.length)->listed.size=ops.size->
  (∀j,listed.getD j false=true↔j<ds.length/\j∉U)->(∀j,listed.getD j false=true-> ∀k,pre j k->listed.getD k false=true)->
  Zm5 u (S 0)->(∀j (hj:j<ds.length),j∉U->Same ds[j] u (S ds.length))->(∀t,(∀j (hj:j<ds.length),j∉U->ds[j]≠t)->Same t u (S 0))->
  Rel C u g a w->wpAny C.P .any ops (Qc C Q) (U.length+(ops.size-ds.length)) listed a w:=by
  intro U
  induction hn:U.length generalizing U with
  |zero=>
   intro listed u g a w _ _ hlsz hl _ hup hin hout hR;have hU:U=[]:=List.eq_nil_of_length_eq_zero hn;subst hU
   have hu:u=S ds.length:=by
    refine St.ext' (fun t=>?_) fun q=>(hup q).trans (up0 _ (Nat.le_refl _) q).symm
    by_cases ht:∃j,∃hj:j<ds.length,ds[j]=t
    ·obtain⟨j,hj,rfl⟩:=ht;exact hin j hj (by simp)
    ·refine(hout t fun j hj _ e=>ht ⟨j,hj,e⟩).trans (base _ (Nat.le_refl _) t fun j hj _ e=>ht ⟨j,hj,e⟩).symm
   subst hu;rw[Nat.zero_add];refine Zh1 pre hpre hlt hsuf hdir _ ds.length listed a w (Nat.le_refl _) (by omega) hlsz (fun j=>?_) (h g a w hR);have:=hl j;simp at this;by_cases hj:j<ds.length
   ·simp[hj]at this⊢;exact this
   ·simp[hj]at this⊢;exact this
  |succ n ih=>
   intro listed u g a w hUnd hUlt hlsz hl hclosed hup hin hout hR;rw[Nat.succ_add];have hne:U≠[]:=fun e=>by subst e;cases hn
   refine⟨fun hnil=>?_,fun i hi=>?_⟩
   ·
    exfalso;obtain⟨x,hx⟩:=List.exists_mem_of_ne_nil _ hne;obtain⟨i,hmin,hbelow⟩:=least x hx;have hid:=hUlt i hmin
    have:i∈Region.ready .any ops listed:=by
     rw[mem_ready];have hio:i<ops.size:=by omega
     refine⟨?_,ops[i],Array.getElem?_eq_getElem hio,fun e he hb=>?_⟩
     ·have h1:¬listed.getD i false=true:=fun h1=>((hl i).1 h1).2 hmin
      simp[hlsz,hio]at h1⊢;exact h1
     ·have h2:e.on∈Za7 ops i:=by
       unfold Za7;rw[Array.getElem?_eq_getElem hio];exact List.mem_map.2 ⟨e,List.mem_filter.2 ⟨by simpa using he,hb⟩,rfl⟩
      have h3:=hdir i _ h2;exact(hl _).2 ⟨by omega,hbelow _ h3⟩
    rw[hnil]at this;cases this
   ·rw[mem_ready]at hi;obtain⟨h1,o,ho,h2⟩:=hi;have hio:i<ops.size:=(Array.getElem?_eq_some_iff.1 ho).1
    have hdl:∀j∈Za7 ops i,listed.getD j false=true:=fun j hj=>by
     unfold Za7 at hj;rw[ho]at hj;obtain⟨e,he,rfl⟩:=List.mem_map.1 hj;have h3:=List.mem_filter.1 he;exact h2 e (by simpa using h3.1) h3.2
    have hnl:¬listed.getD i false=true:=by
     simp[hlsz,hio]at h1⊢;exact h1
    have hid:i<ds.length:=Nat.lt_of_not_le fun hle=>by
     obtain⟨x,hx⟩:=List.exists_mem_of_ne_nil _ hne;have hxl:=hUlt x hx;rcases hpre i x (hsuf i hle hio x (by omega))with h5|⟨q,h5,h6⟩
     ·exact((hl x).1 (hdl x h5)).2 hx
     ·exact((hl x).1 (hclosed q (hdl q h5) x h6)).2 hx
    have hiU:i∈U:=Classical.byContradiction fun hi=>hnl ((hl i).2 ⟨hid,hi⟩)
    have hpl:∀k,pre i k->listed.getD k false=true:=fun k hk=>by
     rcases hpre i k hk with h3|⟨j,h3,h4⟩
     ·exact hdl k h3
     ·exact hclosed j (hdl j h3) k h4
    have hag:Agree (ds[i]::T i) (S i) u:=by
     refine⟨fun q=>((hup q).trans (up0 i (by omega) q).symm).symm,fun t ht=>?_⟩;rcases List.mem_cons.1 ht with rfl|ht
     ·refine(base i (by omega) _ fun j hj hji e=>?_).trans (hout _ fun j hj hjU e=>?_).symm
      ·exact absurd (inj _ _ hj hid e) (by omega)
      ·have:=inj _ _ hj hid e;subst this;exact hjU hiU
     ·by_cases htd:∃j,∃hj:j<ds.length,ds[j]=t
      ·obtain⟨j,hj,rfl⟩:=htd;have hjp:=hT i hid _ ht j (List.getElem?_eq_getElem hj);have hji:=hlt i j hjp;have hjl:=(hl j).1 (hpl j hjp);exact(final j hj i hji (by omega)).trans (hin j hj hjl.2).symm
      ·exact(base i (by omega) t fun j hj _ e=>htd ⟨j,hj,e⟩).trans (hout t fun j hj _ e=>htd ⟨j,hj,e⟩).symm
    refine((hloc i hid).step u hag).wpOp (fun g' a' w' hR'=>?_) hR;have hlen:(U.erase i).length=n:=by rw[List.length_erase_of_mem hiU];omega
    refine ih (U.erase i) hlen _ (u.at (S (i+1)) ds[i]) g' a' w' (hUnd.erase i) (fun j hj=>hUlt j (List.mem_of_mem_erase hj)) (by simpa using hlsz) (fun j=>?_) (fun j hj k hk=>?_) (fun q=>hup q) (fun j hj hjU=>?_) (fun t ht=>?_) hR'
    ·by_cases hji:j=i
     ·subst hji;simp[hlsz,hio,hid,hUnd.mem_erase_iff]
     ·rw[getD_set_ne false (Ne.symm hji),hl,hUnd.mem_erase_iff];simp[hji]
    ·by_cases hji:j=i
     ·subst hji;exact getD_set_true (hpl k hk)
     ·rw[getD_set_ne false (Ne.symm hji)]at hj;exact getD_set_true (hclosed j hj k hk)
    ·by_cases hji:j=i
     ·subst hji;exact(Zhk _ _ _).trans (final j hj (j+1) (by omega) (by omega))
     ·refine(Zlx fun e=>hji (inj _ _ hj hid e)).trans (hin j hj fun hm=>hjU ((hUnd.mem_erase_iff).2 ⟨hji,hm⟩))
    ·refine(Zlx fun e=>?_).trans (hout t fun j hj hjU=>ht j hj fun hm=>hjU (List.mem_of_mem_erase hm));exact ht i hid (fun hm=>(hUnd.mem_erase_iff.1 hm).1 rfl) e.symm
 intro g a w hR;refine wp_region_any hm ?_;have hR':Rel C (S 0) g a {w with drawn:=w.drawn+1}:=hR.ext (Ext.drawn w _)
 have hrep:∀j,¬(Array.replicate ops.size false).getD j false=true:=fun j=>by
  simp only[Array.getD_eq_getD_getElem?,Array.getElem?_replicate];split<;>simp
 have:=main (List.range ds.length) (Array.replicate ops.size false) (S 0) g a _ List.nodup_range (fun i hi=>List.mem_range.1 hi) (by simp) (fun j=>⟨fun hj=>absurd hj (hrep j),fun hj=>absurd (List.mem_range.2 hj.1) hj.2⟩) (fun j hj=>absurd hj (hrep j))
  (fun _=>rfl) (fun j hj hjU=>absurd (List.mem_range.2 hj) hjU) (fun t _=>.rfl') hR'
 rw[List.length_range]at this
 rwa [show ds.length+(ops.size-ds.length)=ops.size by omega]at this
end Go.Ab
end
section
namespace Go.Rf
open Go.Ab
def clos:List (List Nat)->List Nat->List Nat
 |[],L=>L
 |d::ds,L=>clos ds (L++[d.foldl (fun a k=>(a|||(1<<<k))|||L.getD k 0) 0])
def clOf(ops:Array Oper):List Nat:=clos ((List.range ops.size).map (Za7 ops)) []
theorem Ziy{L:List Nat}{j:Nat}:∀{d:List Nat}{a:Nat},(d.foldl (fun a k=>(a|||(1<<<k))|||L.getD k 0) a).testBit j=true->a.testBit j=true\/j∈d\/ ∃k∈d,(L.getD k 0).testBit j=true
 |[],a,h=>.inl h
 |k::d,a,h=>by
  rcases Ziy (d:=d) h with h|h|⟨q,h1,h2⟩
  ·rw[Nat.testBit_or,Nat.testBit_or,Bool.or_eq_true,Bool.or_eq_true]at h;rcases h with(h|h)|h
   ·exact .inl h
   ·rw[Nat.one_shiftLeft,Nat.testBit_two_pow]at h;exact .inr (.inl (by rw[<-of_decide_eq_true h];exact List.mem_cons_self ..))
   ·exact .inr (.inr ⟨k,List.mem_cons_self ..,h⟩)
  ·exact .inr (.inl (List.mem_cons_of_mem _ h))
  ·exact .inr (.inr ⟨q,List.mem_cons_of_mem _ h1,h2⟩)
theorem Zjo:∀(ds:List (List Nat))(L:List Nat)(i:Nat),i<L.length->(clos ds L).getD i 0=L.getD i 0
 |[],_,_,_=>rfl
 |d::ds,L,i,h=>by
  unfold clos;rw[Zjo ds _ i (by simp;omega)];simp[List.getD,List.getElem?_append_left h]
theorem Zk1:∀(ds:List (List Nat))(L:List Nat)(i j:Nat),L.length<=i->((clos ds L).getD i 0).testBit j=true-> ∃d,ds[i-L.length]? =some d/\(j∈d\/ ∃k∈d,((clos ds L).getD k 0).testBit j=true)
 |[],L,i,j,hi,h=>by
  unfold clos at h;rw[List.getD,List.getElem?_eq_none (by omega)]at h;simp at h
 |d::ds,L,i,j,hi,h=>by
  unfold clos at h⊢;by_cases e:i=L.length
  ·subst e;refine⟨d,by simp,?_⟩;rw[Zjo _ _ _ (by simp)]at h;simp only[List.getD,List.getElem?_concat_length,Option.getD_some]at h;rcases Ziy (L:=L) (by simpa[List.getD]using h)with h|h|⟨k,h1,h2⟩
   ·simp at h
   ·exact .inl h
   ·right;refine⟨k,h1,?_⟩
    have hk:k<L.length:=Nat.lt_of_not_le fun hle=>by
     rw[List.getD,List.getElem?_eq_none hle]at h2;simp at h2
    rw[Zjo _ _ _ (by simp;omega)];simpa[List.getD,List.getElem?_append_left hk]using h2
  ·obtain⟨d',h1,h2⟩:=Zk1 ds (L++[d.foldl (fun a k=>(a|||(1<<<k))|||L.getD k 0) 0]) i j (by simp;omega) h;refine⟨d',?_,h2⟩;rw[List.length_append,List.length_singleton]at h1;have:i-L.length=(i-(L.length+1))+1:=by omega
   rw[this];simpa using h1
def preP(ops:Array Oper)(i j:Nat):Prop:=((clOf ops).getD i 0).testBit j=true
theorem Zeh{ops:Array Oper}(i j:Nat)(h:preP ops i j):j∈Za7 ops i\/ ∃k∈Za7 ops i,preP ops k j:=by
 obtain⟨d,h1,h2⟩:=Zk1 _ [] i j (Nat.zero_le _) h;simp only[List.length_nil,Nat.sub_zero,List.getElem?_map,Option.map_eq_some_iff]at h1;obtain⟨i',h3,rfl⟩:=h1
 have:i'=i:=by
  obtain⟨_,h4⟩:=List.getElem?_eq_some_iff.1 h3;simp at h4;exact h4.symm
 subst this;exact h2
def Zfw(ops:Array Oper)(m:Nat):List Nat:=(List.range m).map (Zou ops)
def Znj(ops:Array Oper)(cl:List Nat)(m:Nat):Bool:=
 Nat.ble m ops.size&&((List.range ops.size).all (fun i=>(Za7 ops i).all fun j=>Nat.blt j i))&&((List.range ops.size).all fun i=>Nat.blt (cl.getD i 0) (2^i))&&
  ((List.range ops.size).all fun i=>Nat.blt i m||cl.getD i 0==2^i-1)&&decide (Zfw ops m).Nodup
def wrAt:List Nat->Nat->Nat->Option Nat
 |[],_,_=>none
 |d::l,t,i=>if d=t then some i else wrAt l t (i+1)
theorem Zqk:∀{l:List Nat}{t i j:Nat},l.Nodup->l[j]? =some t->wrAt l t i=some (i+j)
 |d::l,t,i,0,_,h=>by simp at h;simp[wrAt,h]
 |d::l,t,i,j+1,hn,h=>by
  simp only[List.nodup_cons]at hn;simp only[List.getElem?_cons_succ]at h;have:d≠t:=fun e=>hn.1 (e▸List.mem_of_getElem? h)
  unfold wrAt;rw[if_neg this,Zqk hn.2 h]
  congr 1;omega
def Zk2(ds:List Nat)(c:Nat)(l:List Nat):Bool:=l.all fun t=>match wrAt ds t 0 with|some j=>c.testBit j|none=>true
def DP(C:Ctx)(ops:Array Oper)(cl ds:List Nat)(m:Nat)(Q:Ex->St->Prop):List Oper->Nat->St->Prop
 |[],_,s=>AO C ops (List.range' m (ops.size-m)) Q s
 |o::l,k,s=>∃d l' s',o.dst=some d/\Ab.Loc C ops k d l' s s'/\Zk2 ds (cl.getD k 0) l'=true/\DP C ops cl ds m Q l (k+1) s'
theorem Znk{C:Ctx}{ops:Array Oper}{cl ds:List Nat}{m:Nat}{Q:Ex->St->Prop}:∀(l:List Oper)(k:Nat)(s:St),(∀j,j<l.length->l[j]? =ops[k+j]?)->DP C ops cl ds m Q l k s->
 ∃(S:Nat->St)(F:Nat->List Nat),S k=s/\(∀i,k<=i->i<k+l.length->Ab.Loc C ops i (Zou ops i) (F i) (S i) (S (i+1))/\Zk2 ds (cl.getD i 0) (F i)=true)/\AO C ops (List.range' m (ops.size-m)) Q (S (k+l.length))
 |[],k,s,_,h=>⟨fun _=>s,fun _=>[],rfl,(fun i h1 h2=>by simp at h2;omega),h⟩
 |o::l,k,s,hl,h=>by
  have h0:ops[k]? =some o:=by simpa using(hl 0 (by simp)).symm
  have hl':∀j,j<l.length->l[j]? =ops[k+1+j]? :=fun j hj=>by
   have:=hl (j+1) (by simpa using hj);simpa[Nat.add_assoc,Nat.add_comm 1 j]using this
  obtain⟨d,T0,s',hd,h1,h2,h3⟩:=h;obtain⟨S,F,e,h4,h5⟩:=Znk l (k+1) s' hl' h3;have hk:Zou ops k=d:=by simp[Zou,h0,hd]
  refine⟨fun i=>if i=k then s else S i,fun i=>if i=k then T0 else F i,by simp,fun i hi1 hi2=>?_,?_⟩
  ·by_cases hik:i=k
   ·subst hik;simp only[if_true,Nat.succ_ne_self,if_false,e,hk];exact⟨h1,h2⟩
   ·have:=h4 i (by omega) (by simp at hi2;omega);simp only[hik,if_false,show i+1≠k by omega];exact this
  ·simp only[List.length_cons,show k+(l.length+1)≠k by omega,if_false]
   rwa [show k+(l.length+1)=k+1+l.length by omega]
theorem Zv1{C:Ctx}(hm:C.P.follows .mixedOrders=true){id:Nat}{ops:Array Oper}{Q:Ex->St->Prop}{s:St}{m:Nat}(hc:Znj ops (clOf ops) m=true)
 (h:DP C ops (clOf ops) (Zfw ops m) m Q (ops.toList.take m) 0 s):AW C (.region id ops true) Q s:=by
 simp only[Znj,Bool.and_eq_true,Nat.ble_eq,List.all_eq_true,List.mem_range,Nat.blt_eq,Bool.or_eq_true,beq_iff_eq,decide_eq_true_eq]at hc;obtain⟨⟨⟨⟨h1,h2⟩,h3⟩,h4⟩,hnd⟩:=hc;have hlen:(ops.toList.take m).length=m:=by simp;omega
 obtain⟨S,F,e,h5,h6⟩:=Znk (ops.toList.take m) 0 s (fun j hj=>by rw[hlen]at hj;simp[hj]) h;rw[hlen,Nat.zero_add]at h6;subst e
 have hdir:∀i j,j∈Za7 ops i->j<i:=fun i j hj=>by
  by_cases hi:i<ops.size
  ·exact h2 i hi j hj
  ·unfold Za7 at hj;rw[Array.getElem?_eq_none (by omega)]at hj;cases hj
 have hcllen:∀(ds:List (List Nat))(L:List Nat),(clos ds L).length=L.length+ds.length:=by
  intro ds
  induction ds with
  |nil=>intro L;rfl
  |cons d ds ih=>intro L;unfold clos;rw[ih];simp;omega
 have hplt:∀i j,preP ops i j->j<i:=fun i j hj=>by
  by_cases hi:i<ops.size
  ·refine Nat.lt_of_not_le fun hle=>?_
   have:=Nat.testBit_lt_two_pow (Nat.lt_of_lt_of_le (h3 i hi) (Nat.pow_le_pow_right (by decide) hle));unfold preP at hj;rw[this]at hj;cases hj
  ·unfold preP at hj;rw[List.getD,List.getElem?_eq_none (by unfold clOf;rw[hcllen];simp;omega)]at hj;simp at hj
 have hds:(Zfw ops m).length=m:=by simp[Zfw]
 have hget:∀i (h:i<(Zfw ops m).length),(Zfw ops m)[i]=Zou ops i:=fun i h=>by simp[Zfw]
 refine Zqj hm m (Zfw ops m) S F (preP ops) hds hnd Zeh (fun i hi t ht j hj=>?_) hplt (fun i hi=>?_) (fun i hi hio j hji=>?_) hdir h1 h6
 ·have h7:=(h5 i (Nat.zero_le _) (by rw[hlen];omega)).2;have h8:=List.all_eq_true.1 h7 t ht;rw[Zqk hnd hj]at h8;simp only[Nat.zero_add]at h8;exact h8
 ·rw[hget];exact(h5 i (Nat.zero_le _) (by rw[hlen];omega)).1
 ·rcases h4 i hio with h|h
  ·omega
  ·unfold preP;rw[h,Nat.testBit_two_pow_sub_one];exact decide_eq_true hji
def Zt1(cl:List Nat):Nat->Nat
 |0=>0
 |k+1=>if cl.getD k 0==2^k-1 then Zt1 cl k else k+1
def Zt2:RA->List Nat
 |.als u=>[u]
 |.opt u _ _ _=>[u]
 |.ptr (.own t) _=>[t]
 |.gv _ v=>Zt2 v
 |_=>[]
def Zql(ops:Array Oper)(rs:RSt)(o:Oper):Option (List Nat):=
 let la:=o.looksAt ops
 if la.all (fun t=>match rs.tm.get t with|.any=>false|_=>true)then some (la++la.flatMap fun t=>Zt2 (rs.tm.get t))else none
def Znl(c:Cfg)(ops:Array Oper)(rs:RSt)(o:Oper)(q:Call)(Kr:RSt->T):T:=
 match o.dst,q.callee with
 |some d,.value fx=>(match rev rs fx,Zkw rs q.args.toList with
  |.fn F caps,some vals=>(match Zb8 rs.K (Zgp rs.K 64 (vals.flatMap Zix++caps) [])with
   |some bx=>(match Zft c {} F rs.nv with
    |some (res,k1)=>
     if rs.lt&&decide ((bx.map (·.1)).Nodup)&&res.okRes&&vals.all RA.plain&&bx.all (fun x=>x.2.all RA.okCell)&&(bx.all fun x=>match x.1 with|.own t=>(o.looksAt ops).any (fun u=>match rs.tm.get u with|.ptr (.own t') _=>t'==t|_=>false)|.up _=>true)then
      .dcall F vals caps bx rs.nv k1 res (Kr ({rs with nv:=rs.nv+k1.length}.put d res))
     else .bad 40
    |none=>.bad 41)
   |none=>.bad 42)
  |_,_=>.bad 43)
 |_,_=>.bad 44
def Zgf(c:Cfg)(op:Opt)(ops:Array Oper)(cl ds:List Nat)(m:Nat)(K:Re->RSt->T):List Oper->Nat->RSt->T
 |[],_,rs=>opsT c op ops K (ops.toList.drop m) rs
 |o::l,k,rs=>match o.dst,Zku ops rs o,Zql ops rs o with
  |some d,some G,some looks=>
   if d<c.N/\Zk2 ds (cl.getD k 0) looks=true then
    if G.isF then Zgf c op ops cl ds m K l (k+1) (rs.put d (.tup []))
    else match Zhu c G rs o d with
     |some (n,.val v)=>if v.ali≠some d then asks G n rs (fun rs0=>Zgf c op ops cl ds m K l (k+1) ({rs with known:=rs0.known}.put d (if G.isT then v else .gv G v)))else .bad 50
     |some (n,.sel i vs)=>if G.isT then asks (.bool true) n rs (fun rs0=>selT i (fun rs1 v=>Zgf c op ops cl ds m K l (k+1) (rs1.put d v)) 0 vs {rs with known:=rs0.known})else .bad 51
     |none=>
      if G.isT then
       (match rnew c rs o with
       |some (n,cs)=>if cs.all fun x=>!x.names d&&x.okCell then asks (.bool true) n rs (fun rs0=>Zgf c op ops cl ds m K l (k+1) ({rs with known:=rs0.known}.alloc d cs))else .bad 52
       |none=>(match o.op with
        |.call q=>Znl c ops rs o q (Zgf c op ops cl ds m K l (k+1))
        |_=>.bad 53))
      else(match o.op with
       |.call q=>.fork G (Znl c ops (rs.assume G true) o q (Zgf c op ops cl ds m K l (k+1))) (Zgf c op ops cl ds m K l (k+1) ((rs.assume G false).put d (.tup [])))
       |_=>.bad 54)
   else .bad 55
  |_,_,_=>.bad 56
section
variable {ρ:Env} {m:Nm} {rs:RSt} {s:St} {P:Program} {up:Nat->Ref} {R:Out->List (Ref×List A)->Prop} {σ:Sig}
theorem Zk3{gen:Nat->Nat}:∀{x:RA}{t:Nat},t∈(x.den ρ m gen).deps->t∈Zt2 x
 |.gv g v,t,h=>by
  simp only[RA.den]at h;split at h
  ·exact Zk3 (x:=v) h
  ·cases h
 |.als u,t,h|.opt u _ _ _,t,h=>h
 |.ptr (.own u) o,t,h=>h
 |.ptr (.up u) o,t,h=>by cases h
 |.any,t,h|.c _,t,h|.agg _,t,h|.tup _,t,h|.elp _ _,t,h|.own _ _ _,t,h|.zs _,t,h|.fn _ _,t,h|.ags _ _ _ _ _,t,h=>by cases h
theorem Zqm{ops:Array Oper}{o:Oper}{l:List Nat}(hd:Den ρ m rs s)(h:Zql ops rs o=some l):∀t∈Zb6 ops s o,t∈l:=by
 unfold Zql at h;simp only at h;split at h
 ·rename_i hall;cases h;intro t ht;rcases List.mem_append.1 ht with ht|ht
  ·exact List.mem_append_left _ ht
  ·obtain⟨u,hu,h2⟩:=List.mem_flatMap.1 ht;refine List.mem_append_right _ (List.mem_flatMap.2 ⟨u,hu,?_⟩);have h3:=List.all_eq_true.1 hall u hu;have h4:s.tm u=(rs.tm.get u).den ρ m s.gen:=(hd.tm u).resolve_left (by intro e;rw[e]at h3;cases h3);rw[h4]at h2;exact Zk3 h2
 ·cases h
theorem Zo3{ds l l':List Nat}{c:Nat}(h:Zk2 ds c l=true)(hs:∀t∈l',t∈l):Zk2 ds c l'=true:=List.all_eq_true.2 fun t ht=>List.all_eq_true.1 h t (hs t ht)
theorem Znm{c:Cfg}{ops:Array Oper}{C:Ctx}(hP:C.P=c.P)(hN:C.N=c.N){k:Nat}{o:Oper}{d:Nat}{q:Call}(h0:ops[k]? =some o)(hdst:o.dst=some d)(hlt:d<c.N)(hop:o.op=.call q)(hw:Zan ops s o=some true){Kr:RSt->T}
 (hu:m.up=up) (hd:Den ρ m rs s) (h:(Znl c ops rs o q Kr).den c.P up R ρ σ):
 ∃v x ρ' kn,Agr rs.nv ρ ρ'/\Ab.Loc C ops k d (Zb6 ops s o) s (s.put d v)/\Den ρ' m ({rs with nv:=rs.nv+kn}.put d x) (s.put d v)/\(Kr ({rs with nv:=rs.nv+kn}.put d x)).den c.P up R ρ' σ:=by
 unfold Znl at h;split at h
 ·rename_i d' fx hdst' hcal;rw[hdst]at hdst';cases hdst';split at h
  ·rename_i F caps vals hfx hvals;split at h
   ·rename_i bx hbx;split at h
    ·rename_i res k1 hres;split at h
     ·rename_i hc;simp only[Bool.and_eq_true,decide_eq_true_eq]at hc;obtain⟨⟨⟨⟨⟨hlt0,hnd⟩,hokr⟩,hpl⟩,hok⟩,hlk⟩:=hc;unfold T.den at h;obtain⟨ρ',hag,hh,hk⟩:=Zce h;have hm:(⟨up,m.ν⟩:Nm)=m:=by rw[<-hu]
      have hh:=hh m.ν;rw[hm]at hh;have hin:=Zbs hbx;have hsub:∀x∈bx,x.1∈rs.K.map (·.1):=fun x hx=>List.mem_map.2 ⟨_,Zbh (hin x hx),rfl⟩
      have hH:∀x∈Zab ρ m bx,s.K x.1=some x.2:=fun x hx=>by
       obtain⟨y,hy,rfl⟩:=List.mem_map.1 hx;exact hd.look (hin y hy)
      have hHn:((Zab ρ m bx).map (·.1)).Nodup:=by
       have:(Zab ρ m bx).map (·.1)=(bx.map (·.1)).map (RRef.den m):=by simp[Zab,Function.comp_def]
       rw[this];refine List.pairwise_map.2 (List.Pairwise.imp_of_mem (fun{x y} hx hy hxy e=>hxy ?_) hnd);obtain⟨x',hx',rfl⟩:=List.mem_map.1 hx;obtain⟨y',hy',rfl⟩:=List.mem_map.1 hy;exact Zbo hd.nd (hsub _ hx') (hsub _ hy') e
      have hplain:∀x∈Zab ρ m bx,∀y∈x.2,y.plain=true:=fun x hx y hy=>by
       obtain⟨z,hz,rfl⟩:=List.mem_map.1 hx;obtain⟨w,hw,rfl⟩:=List.mem_map.1 hy;exact Zci (List.all_eq_true.1 (List.all_eq_true.1 hok z hz) w hw)
      have hcall:o.op=.call {callee:=.value fx,args:=q.args,argTypes:=q.argTypes}:=by rw[hop,<-hcal]
      have hfx':s.ev fx=.fn F (caps.map (RRef.den m)):=by
       have:=Zbc hd (x:=fx) (by rw[hfx];intro e;cases e);rw[hfx]at this;exact this
      obtain⟨hb,hali,hgen⟩:=Zcv (ρ:=ρ') (m:=m) (gen:=s.gen) hokr
      have e1:(vals.map fun x=>x.den ρ m s.gen).map A.lift=vals.map fun a=>(a.den ρ m gen0).lift:=by
       rw[List.map_map];refine List.map_congr_left fun x hx=>?_
       have:=Zdq (List.all_eq_true.1 hpl x hx);show A.lift (x.den ρ m s.gen)=_;rw[RA.den_gen (gen:=gen0) (gen':=s.gen) fun t ht=>by rw[this]at ht;cases ht]
      have hloc:=Zrs (C:=C) (ops:=ops) (i:=k) (H:=Zab ρ m bx) (v:=res.den ρ' m gen0) (v':=res.den ρ' m gen0) h0 hdst (by rw[hN];exact hlt) hw hcall hfx' (Zeq hd hvals) hH hHn hplain
       (fun x hx t n e=>by
        obtain⟨y,hy,rfl⟩:=List.mem_map.1 hx;have h5:=List.all_eq_true.1 hlk y hy;cases hy1:y.1 with
        |own t'=>
         rw[hy1]at h5;have e2:(RRef.own t').den m=.own t n:=by rw[<-hy1];exact e
         simp only[RRef.den,Ref.own.injEq]at e2;rw[<-e2.1];obtain⟨u,hu1,hu2⟩:=List.any_eq_true.1 h5;split at hu2
         ·rename_i t2 o2 he2;have e3:t2=t':=by simpa using hu2
          subst e3;have h4:=(hd.tm u).resolve_left (by rw[he2];intro e;cases e);rw[he2]at h4;refine List.mem_append_right _ (List.mem_flatMap.2 ⟨u,hu1,?_⟩);rw[h4];simp[RA.den,RRef.den,A.deps]
         ·cases hu2
        |up k=>
         have e2:(RRef.up k).den m=.own t n:=by rw[<-hy1];exact e
         cases e2)
       (by rw[hP,e1,List.map_map];exact hh) (by rw[<-hgen];exact hb)
      refine⟨res.den ρ' m gen0,res,ρ',k1.length,hag,hloc,?_,hk⟩;have hd2:=hd.agr hag hlt0;have hd3:Den ρ' m {rs with nv:=rs.nv+k1.length} s:=⟨hd2.tm,hd2.al,hd2.K,hd2.nd,hd2.known⟩;exact hd3.put (by rw[hali];intro e;cases e) (.inr hgen.symm)
     ·unfold T.den at h;exact h.elim
    ·unfold T.den at h;exact h.elim
   ·unfold T.den at h;exact h.elim
  ·unfold T.den at h;exact h.elim
 ·unfold T.den at h;exact h.elim
end
end Go.Rf
end
section
namespace Go.Ab
open Classical
theorem Zqn{C:Ctx}{ops:Array Oper}{id:Nat}{Q:Ex->St->Prop}{s0:St}(hm:C.P.follows .mixedOrders=true)(m:Nat)(pre:Nat->Nat->Prop)(Inv:Nat->St->Prop)
 (hpre:∀i j,pre i j->j∈Za7 ops i\/ ∃k∈Za7 ops i,pre k j) (hlt:∀i j,pre i j->j<i)
 (hsuf:∀i,m<=i->i<ops.size-> ∀j<m,pre i j) (hdir:∀i j,j∈Za7 ops i->j<i) (hsz:m<=ops.size) (h0:Inv 0 s0)
 (hstep:∀(L:Nat)(s:St)(i:Nat),Inv L s->i<m->L.testBit i=false->(∀j∈Za7 ops i,L.testBit j=true)-> ∀g a w,Rel C s g a w->
  wpOp C.P ops (Qc C Q) i (fun a w=>∃s' g',Rel C s' g' a w/\Inv (L|||1<<<i) s') a w)
 (hend:∀s,Inv (2^m-1) s-> ∀g a w (listed:Array Bool),listed.size=ops.size->(∀j,listed.getD j false=decide (j<m))->Rel C s g a w->wpAny C.P .any ops (Qc C Q) (ops.size-m) listed a w):AW C (.region id ops true) Q s0:=by
 have main:∀(U:List Nat)(L:Nat)(listed:Array Bool)(u:St)(g:Gh)(a:Act)(w:World),U.Nodup->(∀i∈U,i<m)->listed.size=ops.size->
  (∀j,listed.getD j false=true↔j<m/\j∉U)->(∀j,L.testBit j=true↔j<m/\j∉U)->(∀j,listed.getD j false=true-> ∀k,pre j k->listed.getD k false=true)->
  Inv L u->Rel C u g a w->wpAny C.P .any ops (Qc C Q) (U.length+(ops.size-m)) listed a w:=by
  intro U
  induction hn:U.length generalizing U with
  |zero=>
   intro L listed u g a w _ _ hlsz hl hL _ hI hR;have hU:U=[]:=List.eq_nil_of_length_eq_zero hn;subst hU
   have hLe:L=2^m-1:=by
    refine Nat.eq_of_testBit_eq fun j=>?_
    rw[Nat.testBit_two_pow_sub_one];have:=hL j;simp at this;by_cases hj:j<m
    ·simp[hj]at this⊢;exact this
    ·simp[hj]at this⊢;exact this
   subst hLe;rw[Nat.zero_add];refine hend u hI g a w listed hlsz (fun j=>?_) hR;have:=hl j;simp at this;by_cases hj:j<m
   ·simp[hj]at this⊢;exact this
   ·simp[hj]at this⊢;exact this
  |succ n ih=>
   intro L listed u g a w hUnd hUlt hlsz hl hL hclosed hI hR;rw[Nat.succ_add];have hne:U≠[]:=fun e=>by subst e;cases hn
   refine⟨fun hnil=>?_,fun i hi=>?_⟩
   ·exfalso;obtain⟨x,hx⟩:=List.exists_mem_of_ne_nil _ hne;obtain⟨i,hmin,hbelow⟩:=least x hx;have hid:=hUlt i hmin
    have:i∈Region.ready .any ops listed:=by
     rw[mem_ready];have hio:i<ops.size:=by omega
     refine⟨?_,ops[i],Array.getElem?_eq_getElem hio,fun e he hb=>?_⟩
     ·have h1:¬listed.getD i false=true:=fun h1=>((hl i).1 h1).2 hmin
      simp[hlsz,hio]at h1⊢;exact h1
     ·have h2:e.on∈Za7 ops i:=by
       unfold Za7;rw[Array.getElem?_eq_getElem hio];exact List.mem_map.2 ⟨e,List.mem_filter.2 ⟨by simpa using he,hb⟩,rfl⟩
      have h3:=hdir i _ h2;exact(hl _).2 ⟨by omega,hbelow _ h3⟩
    rw[hnil]at this;cases this
   ·rw[mem_ready]at hi;obtain⟨h1,o,ho,h2⟩:=hi;have hio:i<ops.size:=(Array.getElem?_eq_some_iff.1 ho).1
    have hdl:∀j∈Za7 ops i,listed.getD j false=true:=fun j hj=>by
     unfold Za7 at hj;rw[ho]at hj;obtain⟨e,he,rfl⟩:=List.mem_map.1 hj;have h3:=List.mem_filter.1 he;exact h2 e (by simpa using h3.1) h3.2
    have hnl:¬listed.getD i false=true:=by
     simp[hlsz,hio]at h1⊢;exact h1
    have hid:i<m:=Nat.lt_of_not_le fun hle=>by
     obtain⟨x,hx⟩:=List.exists_mem_of_ne_nil _ hne;have hxl:=hUlt x hx;rcases hpre i x (hsuf i hle hio x hxl)with h5|⟨q,h5,h6⟩
     ·exact((hl x).1 (hdl x h5)).2 hx
     ·exact((hl x).1 (hclosed q (hdl q h5) x h6)).2 hx
    have hiU:i∈U:=Classical.byContradiction fun hi=>hnl ((hl i).2 ⟨hid,hi⟩)
    have hpl:∀k,pre i k->listed.getD k false=true:=fun k hk=>by
     rcases hpre i k hk with h3|⟨j,h3,h4⟩
     ·exact hdl k h3
     ·exact hclosed j (hdl j h3) k h4
    have hlen:(U.erase i).length=n:=by rw[List.length_erase_of_mem hiU];omega
    have hLi:L.testBit i=false:=by
     cases h:L.testBit i with
     |false=>rfl
     |true=>exact absurd hiU ((hL i).1 h).2
    refine wpOp_mono (fun a' w' hk=>?_) (hstep L u i hI hid hLi (fun j hj=>(hL j).2 ((hl j).1 (hdl j hj))) g a w hR);obtain⟨s',g',hR',hI'⟩:=hk;refine ih (U.erase i) hlen (L|||1<<<i) _ s' g' a' w' (hUnd.erase i) (fun j hj=>hUlt j (List.mem_of_mem_erase hj)) (by simpa using hlsz) (fun j=>?_) (fun j=>?_) (fun j hj k hk=>?_) hI' hR'
    ·by_cases hji:j=i
     ·subst hji;simp[hlsz,hio,hid,hUnd.mem_erase_iff]
     ·rw[getD_set_ne false (Ne.symm hji),hl,hUnd.mem_erase_iff];simp[hji]
    ·rw[Nat.testBit_or,Nat.one_shiftLeft,Nat.testBit_two_pow];by_cases hji:j=i
     ·subst hji;simp[hid,hUnd.mem_erase_iff]
     ·have hij:¬i=j:=fun e=>hji e.symm
      rw[decide_eq_false hij,Bool.or_false,hL,hUnd.mem_erase_iff];simp[hji]
    ·by_cases hji:j=i
     ·subst hji;exact getD_set_true (hpl k hk)
     ·rw[getD_set_ne false (Ne.symm hji)]at hj;exact getD_set_true (hclosed j hj k hk)
 intro g a w hR;refine wp_region_any hm ?_;have hR':Rel C s0 g a {w with drawn:=w.drawn+1}:=hR.ext (Ext.drawn w _)
 have hrep:∀j,¬(Array.replicate ops.size false).getD j false=true:=fun j=>by
  simp only[Array.getD_eq_getD_getElem?,Array.getElem?_replicate];split<;>simp
 have:=main (List.range m) 0 (Array.replicate ops.size false) s0 g a _ List.nodup_range (fun i hi=>List.mem_range.1 hi) (by simp) (fun j=>⟨fun hj=>absurd hj (hrep j),fun hj=>absurd (List.mem_range.2 hj.1) hj.2⟩)
  (fun j=>⟨fun hj=>by simp at hj,fun hj=>absurd (List.mem_range.2 hj.1) hj.2⟩) (fun j hj=>absurd hj (hrep j)) h0 hR'
 rw[List.length_range]at this
 rwa [show m+(ops.size-m)=ops.size by omega]at this
theorem Rel.dropCells{C:Ctx}{s:St}{g:Gh}{a:Act}{w:World}(h:Rel C s g a w){K':Ref->Option (List A)}(hK:∀r c',K' r=some c'-> ∃c,s.K r=some c/\c'.length=c.length/\ ∀(j:Nat)(x:A),c'[j]? =some x->x=A.any\/c[j]? =some x):
 Rel C {s with K:=K'} g a w:=by
 have old:∀{o b},Owns {s with K:=K'} g o b->Owns s g o b:=fun{o b} ho=>by
  cases ho with
  |box h1=>obtain⟨c,h2,_⟩:=hK _ _ h1;exact .box h2
  |slot h1=>exact .slot h1
  |cell h1 h2 h3=>
   obtain⟨c,h4,_,h5⟩:=hK _ _ h1;rcases h5 _ _ h2 with e|e
   ·rw[e]at h3;cases h3
   ·exact .cell h4 e h3
 refine⟨h.defers,h.size,h.slot,h.als,h.opt,?_⟩;refine⟨fun r c' hc=>?_,fun o o' b h1 h2=>h.heap.inj o o' b (old h1) (old h2),fun o b h1=>h.heap.wr o b (old h1),h.heap.prs,h.heap.pr0,h.heap.prn,h.heap.up,h.heap.uu,h.heap.fr⟩;obtain⟨c,h1,h2,h3⟩:=hK r c' hc;obtain⟨cs,k1,k2,k3,k4,k5⟩:=h.heap.box r c h1;refine⟨cs,k1,by rw[k2,h2],fun j x hx=>?_,k4,k5⟩;rcases h3 j x hx with e|e
 ·subst e;have hj:j<c.length:=by rw[<-h2];exact(List.getElem?_eq_some_iff.1 hx).1
  exact⟨rfl,cs[j]'(by omega),by simp,trivial⟩
 ·exact k3 j x e
theorem Zjp{C:Ctx}{ops:Array Oper}{s s':St}{i:Nat}{o:Oper}(ho:ops[i]? =some o)(hw:Zan ops s o=some true)(he:OpOk C o s s'){g:Gh}{a:Act}{w:World}(hR:Rel C s g a w)
 {K:Act->World->Prop} {Q:Exit->Act->World->Prop} (hK:∀g' a' w',Rel C s' g' a' w'->K a' w'):wpOp C.P ops Q i K a w:=by
 simp only[wpOp,ho,Za5 hR hw,if_true];exact .inl (he g a w hR _ _ hK)
theorem Zqo{C:Ctx}{ops:Array Oper}{s:St}{i:Nat}{o:Oper}(ho:ops[i]? =some o)(hw:Zan ops s o=some false)(hN:∀d,o.dst=some d->d<C.N){g:Gh}{a:Act}{w:World}(hR:Rel C s g a w)
 {K:Act->World->Prop} {Q:Exit->Act->World->Prop} (hK:∀g' a' w',Rel C (s.undef o.dst) g' a' w'->K a' w'):wpOp C.P ops Q i K a w:=by
 simp only[wpOp,ho,Za5 hR hw,Bool.false_eq_true,if_false];refine hK g _ w ?_;cases hd:o.dst with
 |none=>exact hR
 |some d=>exact hR.put (hN d hd) rfl ⟨[],rfl,trivial⟩ (fun t n e=>by cases e) (fun t n sz i j e=>by cases e)
end Go.Ab
end
section
namespace Go.Rf
open Go.Ab
def RA.beq:RA->RA->Bool
 |.any,.any=>true
 |.c a,.c b=>a.beq b
 |.agg a,.agg b=>a.beq b
 |.ptr r o,.ptr q u=>decide (r=q)&&o==u
 |.elp a o,.elp b u=>a.beq b&&o==u
 |.own z a b,.own y a2 b2=>z==y&&(a.beq a2&&b.beq b2)
 |.zs a,.zs b=>a.beq b
 |.fn f l,.fn g k=>f==g&&decide (l=k)
 |.als t,.als u=>t==u
 |.opt t z i j,.opt u y k n=>t==u&&(z==y&&(i.beq k&&j==n))
 |.tup l,.tup k=>l.length==k.length&&((l.zip k).all fun x=>x.1.1==x.2.1&&x.1.2.beq x.2.2)
 |.gv g v,.gv h w=>g.beq h&&v.beq w
 |_,_=>false
theorem Zsx:∀{l k:List (Bool×E)},l.length=k.length->((l.zip k).all fun x=>x.1.1==x.2.1&&x.1.2.beq x.2.2)=true->l=k
 |[],[],_,_=>rfl
 |(a,e)::l,(b,f)::k,h,hz=>by
  simp only[List.zip_cons_cons,List.all_cons,Bool.and_eq_true,beq_iff_eq]at hz;rw[hz.1.1,E.beq_eq hz.1.2,Zsx (l:=l) (k:=k) (by simpa using h) hz.2]
theorem RA.beq_eq:∀{a b:RA},a.beq b=true->a=b:=by
 intro a
 induction a with
 |gv g v ih=>
  intro b h;cases b<;>simp[RA.beq]at h;rw[E.beq_eq h.1,ih h.2]
 |tup l=>
  intro b h;cases b<;>simp only[RA.beq,Bool.and_eq_true,beq_iff_eq]at h<;>try (cases h;done)
  rw[Zsx h.1 h.2]
 |_=>
  intro b h
  cases b<;>simp[RA.beq]at h<;>first
   |rfl
   |(rw[E.beq_eq h];done)
   |(rw[h];done)
   |(rw[h.1,h.2];done)
   |(rw[E.beq_eq h.1,h.2];done)
   |(rw[h.1,E.beq_eq h.2.1,E.beq_eq h.2.2];done)
   |(rw[h.1,h.2.1,E.beq_eq h.2.2.1,h.2.2.2];done)
def Tr.beq:Tr->Tr->Bool
 |.nil,.nil=>true
 |.node v l r,.node v' l' r'=>v.beq v'&&(l.beq l'&&r.beq r')
 |_,_=>false
theorem Tr.beq_eq:∀{a b:Tr},a.beq b=true->a=b
 |.nil,.nil,_=>rfl
 |.node v l r,.node v' l' r',h=>by
  simp only[Tr.beq,Bool.and_eq_true]at h;rw[RA.beq_eq h.1,Tr.beq_eq h.2.1,Tr.beq_eq h.2.2]
 |.nil,.node _ _ _,h=>by cases h
 |.node _ _ _,.nil,h=>by cases h
def Ziz:List RA->List RA->Bool
 |[],[]=>true
 |x::l,y::k=>x.beq y&&Ziz l k
 |_,_=>false
theorem Zfx:∀{a b:List RA},Ziz a b=true->a=b
 |[],[],_=>rfl
 |x::l,y::k,h=>by
  simp only[Ziz,Bool.and_eq_true]at h;rw[RA.beq_eq h.1,Zfx h.2]
 |[],_::_,h=>by cases h
 |_::_,[],h=>by cases h
def Zk4:List (RRef×List RA)->List (RRef×List RA)->Bool
 |[],[]=>true
 |(r,x)::l,(q,y)::k=>decide (r=q)&&(Ziz x y&&Zk4 l k)
 |_,_=>false
theorem Zh2:∀{a b:List (RRef×List RA)},Zk4 a b=true->a=b
 |[],[],_=>rfl
 |(r,x)::l,(q,y)::k,h=>by
  simp only[Zk4,Bool.and_eq_true,decide_eq_true_eq]at h;rw[h.1,Zfx h.2.1,Zh2 h.2.2]
 |[],_::_,h=>by cases h
 |_::_,[],h=>by cases h
def RSt.beq(a b:RSt):Bool:=a.tm.beq b.tm&&(Zk4 a.K b.K&&(a.nv==b.nv&&(a.dep==b.dep&&(a.al==b.al&&(a.known.isEmpty&&b.known.isEmpty)))))
theorem RSt.beq_eq{a b:RSt}(h:a.beq b=true):a=b:=by
 simp only[RSt.beq,Bool.and_eq_true,beq_iff_eq,List.isEmpty_iff]at h;obtain⟨h1,h2,h3,h4,h5,h6,h7⟩:=h;cases a;cases b;simp only at h1 h2 h3 h4 h5 h6 h7;rw[Tr.beq_eq h1,Zh2 h2,h3,h4,h5,h6,h7]
def Zsa:List E->E
 |[]=>.lnil
 |x::l=>.o2 .lcons (.o1 .rone x) (Zsa l)
theorem Zk5(ρ:Env):∀l:List E,((Zsa l).den ρ).lst=(l.map fun e=>(e.den ρ).dd).map fun x=>[x]
 |[]=>rfl
 |x::l=>by
  have:=Zk5 ρ l;simp only[Zsa,E.den,sem2,sem1,List.map_cons,Dat.lst_l,Dat.row_r];rw[this]
def rslB(c:Cfg)(rs:RSt)(o:Oper):Option RSt:=
 match o.dst,o.op with
 |some d,.slice T (.tmp p) none none none=>(match rs.tm.get p,Zez c.P T with
  |.ptr r 0,some (n,1,false)=>(match Zb3 rs.K r with
   |some cs=>(match Zee cs with
    |some l=>if cs.length=n/\n≠0/\d<c.N then some (({rs with K:=rs.K.filter fun x=>!decide (x.1=r)}:RSt).put d (.c (.o1 .cl (Zsa l))))else none
    |none=>none)
   |none=>none)
  |_,_=>none)
 |_,_=>none
theorem Zt3{c:Cfg}{C:Ctx}(hP:C.P=c.P)(hN:C.N=c.N){ρ:Env}{m:Nm}{rs:RSt}{s:St}(hd:Den ρ m rs s){o:Oper}{rs':RSt}(h:rslB c rs o=some rs'):
 ∃s',OpOk C o s s'/\Den ρ m rs' s'/\rs'.nv=rs.nv/\rs'.dep=rs.dep:=by
 unfold rslB at h;split at h
 ·rename_i d T p hdst hop;split at h
  ·rename_i r n hp hA;split at h
   ·rename_i cs hcs;split at h
    ·rename_i l hl;split at h
     ·rename_i hc;cases h
      have hp':s.tm p=.ptr (r.den m) 0:=by
       have:=(hd.tm p).resolve_left (by rw[hp];intro e;cases e);rw[hp]at this;exact this
      have hcell:=Zfr (ρ:=ρ) (m:=m) hl;refine⟨(s.dropBox (r.den m)).put d (.d (.slc ((l.map fun e=>(e.den ρ).dd).map fun x=>[x]))),?_,?_,by rw[Zai],by rw[Zae]⟩
      ·exact OpOk.sliceBox hop hdst (by rw[hN];exact hc.2.2) (by rw[hP];exact hA) hc.2.1 hp' (hd.look hcs) hcell (by simpa[kDen]using hc.1)
      ·have hd2:Den ρ m {rs with K:=rs.K.filter fun x=>!decide (x.1=r)} (s.dropBox (r.den m)):=by
        refine⟨hd.tm,hd.al,fun q x hq=>?_,(List.Sublist.map _ List.filter_sublist).nodup hd.nd,hd.known⟩;have hq':=List.mem_filter.1 hq;have hne:q≠r:=by simpa using hq'.2
        show upd s.K (r.den m) none (q.den m)=_;rw[Zac _ _ fun e=>hne (Zbo hd.nd (List.mem_map.2 ⟨_,hq'.1,rfl⟩) (List.mem_map.2 ⟨_,Zbh hcs,rfl⟩) e)];exact hd.K q x hq'.1
       refine hd2.put (by intro e;cases e) (.inr ?_);simp only[RA.den,E.den,sem1,Zk5,Dat.dd_d]
     ·cases h
    ·cases h
   ·cases h
  ·cases h
 ·cases h
def Zgv(c:Cfg)(ops:Array Oper)(o:Oper)(rs:RSt):Option (List E×RSt):=
 match Zku ops rs o with
 |none=>none
 |some G=>
  if G.isF then(match o.dst with
   |some d=>if d<c.N then some ([],rs.put d (.tup []))else none
   |none=>some ([],rs))
  else if G.isT then
   (match rstn c rs o with
   |some (l,rs')=>some (l,rs')
   |none=>match rslB c rs o with
   |some rs'=>some ([],rs')
   |none=>match roth c ops rs o with
   |some (l,rs')=>if Zr5 c.N o then some (l,rs')else none
   |none=>(match o.dst with
    |some d=>if d<c.N then(match rnew c rs o with
     |some (l,cs)=>if cs.all (fun x=>!x.names d&&x.okCell)then some (l,(rs.alloc d cs).sorted)else none
     |none=>(match Zhu c (.bool true) rs o d with
      |some (l,.val v)=>some (l,rs.put d v)
      |_=>none))else none
    |none=>rpst c rs o))
  else(match o.dst with
   |some d=>(match Zhu c G rs o d with
    |some (n,.val v)=>if d<c.N/\v.ali≠some d then some (n.map fun e=>m2 .or (m1 .not G) e,rs.put d (.gv G v))else none
    |_=>none)
   |none=>none)
section
variable {ρ:Env} {m:Nm} {rs:RSt} {s:St} {P:Program} {up:Nat->Ref} {R:Out->List (Ref×List A)->Prop} {σ:Sig}
theorem Zer{c:Cfg}{ops:Array Oper}{C:Ctx}(hP:C.P=c.P)(hN:C.N=c.N){i:Nat}{o:Oper}(ho:ops[i]? =some o)(hd:Den ρ m rs s){l:List E}{rs':RSt}(h:Zgv c ops o rs=some (l,rs'))(hn:Nds ρ l):
 ∃m' s',m'.up=m.up/\Den ρ m' rs' s'/\rs'.nv=rs.nv/\rs'.dep=rs.dep/\ ∀(g:Gh)(a:Act)(w:World),Rel C s g a w-> ∀(K:Act->World->Prop)(Q:Exit->Act->World->Prop),(∀g' a' w',Rel C s' g' a' w'->K a' w')->wpOp C.P ops Q i K a w:=by
 have tt:((E.bool true).den ρ).bool=true:=rfl;unfold Zgv at h;split at h
 ·cases h
 ·rename_i G hG;have hwant:=Zjn hd hG
  have skip:(G.den ρ).bool=false-> ∀(d:Option Nat),o.dst=d->(∀t,d=some t->t<c.N)-> ∃s',Den ρ m (match d with|some t=>rs.put t (.tup [])|none=>rs) s'/\ ∀(g:Gh)(a:Act)(w:World),Rel C s g a w-> ∀(K:Act->World->Prop)(Q:Exit->Act->World->Prop),(∀g' a' w',Rel C s' g' a' w'->K a' w')->wpOp C.P ops Q i K a w:=fun hf d hdst hlt=>by
   rw[hf]at hwant;refine⟨s.undef o.dst,?_,fun g a w hR K Q hK=>Zqo ho hwant (fun d' e=>by rw[hN];exact hlt d' (by rw[<-hdst];exact e)) hR hK⟩;rw[hdst];cases d with
   |none=>exact hd
   |some t=>exact hd.put (by intro e;cases e) (.inr rfl)
  split at h
  ·rename_i hF;have hf:(G.den ρ).bool=false:=by rw[Znf hF];rfl
   split at h
   ·rename_i d hdst;split at h
    ·rename_i hlt;cases h;obtain⟨s',h1,h2⟩:=skip hf (some d) hdst (fun t e=>by cases e;exact hlt);exact⟨m,s',rfl,h1,Zai ..,Zae ..,h2⟩
    ·cases h
   ·rename_i hdst;cases h;obtain⟨s',h1,h2⟩:=skip hf none hdst (fun t e=>by cases e);exact⟨m,s',rfl,h1,rfl,rfl,h2⟩
  ·split at h
   ·rename_i hT;rw[Zgq hT]at hwant;split at h
    ·rename_i l' rs2 hr;cases h;obtain⟨s',he,hd',hnv',hdep'⟩:=Zqh (C:=C) hP hd hr hn;exact⟨m,s',rfl,hd',hnv',hdep',fun g a w hR K Q hK=>Zjp ho hwant he hR hK⟩
    split at h
    ·rename_i rs2 hr;cases h;obtain⟨s',he,hd',hnv',hdep'⟩:=Zt3 (C:=C) hP hN hd hr;exact⟨m,s',rfl,hd',hnv',hdep',fun g a w hR K Q hK=>Zjp ho hwant he hR hK⟩
    split at h
    ·rename_i l' rs2 hr;split at h
     ·rename_i hdn;cases h;have hlt:∀d,o.dst=some d->d<c.N:=fun d e=>by unfold Zr5 at hdn;rw[e]at hdn;simpa using hdn
      obtain⟨s',he,hd',hnv',hdep'⟩:=Zjm hd hr hn hlt;exact⟨m,s',rfl,hd',hnv',hdep',fun g a w hR K Q hK=>Zjp ho hwant (Zbz (by rw[hP,hN];exact he)) hR hK⟩
     ·cases h
    ·split at h
     ·rename_i d hdst;split at h
      ·rename_i hlt;split at h
       ·rename_i l' cs hr;split at h
        ·rename_i hcs;cases h;have hA:=Zl9 hd hr hn
         have hk:kDen ρ m cs=kDen ρ (m.set d (s.gen d)) cs:=List.map_congr_left fun x hx=>by
          have:=List.all_eq_true.1 hcs x hx;simp only[Bool.and_eq_true,Bool.not_eq_true']at this;exact(RA.den_nm (m:=m) (m':=m.set d (s.gen d)) rfl (fun t ht=>by simp[Nm.set,ht]) this.1).symm
         exact⟨m.set d (s.gen d),_,rfl,(hd.alloc hk).sorted,Zjl rs d cs,Zh0 rs d cs,fun g a w hR K Q hK=>Zjp ho hwant (Zbz (ops:=ops) (by rw[hP,hN];exact Ze8 hdst hlt hA)) hR hK⟩
        ·cases h
       ·split at h
        ·rename_i l' v hr;cases h;obtain⟨hq,hali⟩:=Zdx hd tt hr hn (r:=v) rfl;exact⟨m,_,rfl,hd.put hali (.inr rfl),Zai ..,Zae ..,fun g a w hR K Q hK=>Zjp ho hwant (Zdn hdst (by rw[hN];exact hlt) (by rw[hP];exact hq)) hR hK⟩
        ·cases h
      ·cases h
     ·rename_i hdst;obtain⟨s',he,hd',hnv',hdep'⟩:=Zmb (ops:=ops) hd hdst h hn;exact⟨m,s',rfl,hd',hnv',hdep',fun g a w hR K Q hK=>Zjp ho hwant (Zbz (by rw[hP,hN];exact he)) hR hK⟩
   ·split at h
    ·rename_i d hdst;split at h
     ·rename_i n v hr;split at h
      ·rename_i hc;cases h;cases hb:(G.den ρ).bool
       ·obtain⟨s',h1,h2⟩:=skip hb (some d) hdst (fun t e=>by cases e;exact hc.1);rw[hb]at hwant;refine⟨m,s.put d (.tup []),rfl,hd.put (x:=.gv G v) hc.2 (.inr (by simp[RA.den,hb])),Zai ..,Zae ..,fun g a w hR K Q hK=>Zqo ho hwant (fun d' e=>by rw[hdst]at e;cases e;rw[hN];exact hc.1) hR ?_⟩;rw[hdst];exact hK
       ·rw[hb]at hwant
        have hn':Nds ρ n:=fun e he=>by
         have:=hn _ (List.mem_map.2 ⟨e,he,rfl⟩);rw[Zah,Zaf]at this;simpa[sem2,sem1,Dat.bool_b,hb]using this
        obtain⟨hq,hali⟩:=Zdx hd hb hr hn' (r:=v) rfl;exact⟨m,_,rfl,hd.put (x:=.gv G v) (y:=v.den ρ m s.gen) hali (.inr (by simp[RA.den,hb])),Zai ..,Zae ..,fun g a w hR K Q hK=>Zjp ho hwant (Zdn hdst (by rw[hN];exact hc.1) (by rw[hP];exact hq)) hR hK⟩
      ·cases h
     ·cases h
    ·cases h
end
def Zcj:List (Nat×RSt)->Nat->Option RSt
 |[],_=>none
 |(L,rs)::l,k=>if k=L then some rs else Zcj l k
theorem Zc5:∀{l:List (Nat×RSt)}{k:Nat}{rs:RSt},Zcj l k=some rs->(k,rs)∈l
 |(L,r)::l,k,rs,h=>by
  unfold Zcj at h;split at h
  ·rename_i e;cases h;subst e;exact List.mem_cons_self ..
  ·exact List.mem_cons_of_mem _ (Zc5 h)
def Zdc(ops:Array Oper)(L i:Nat):Bool:=!L.testBit i&&(Za7 ops i).all fun j=>L.testBit j
def Zv2(c:Cfg)(ops:Array Oper)(m skip L:Nat)(rs:RSt):List (Nat×RSt):=(List.range m).filterMap fun i=>
 if i≠skip&&Zdc ops L i then(match ops[i]? with
  |some o=>(match Zgv c ops o rs with
   |some (_,rs')=>some (L|||1<<<i,rs')
   |none=>none)
  |none=>none)else none
def Zk6(c:Cfg)(ops:Array Oper)(m skip:Nat):Nat->List (Nat×RSt)->List (Nat×RSt)->List (Nat×RSt)
 |0,_,done=>done
 |_+1,[],done=>done
 |k+1,(L,rs)::t,done=>if(Zcj done L).isSome then Zk6 c ops m skip k t done else Zk6 c ops m skip k (Zv2 c ops m skip L rs++t) ((L,rs)::done)
def Znn(c:Cfg)(ops:Array Oper)(skip:Nat)(nodes:List (Nat×RSt))(L:Nat)(rs:RSt):List Nat->Option (List E)
 |[]=>some []
 |i::is=>match Znn c ops skip nodes L rs is with
  |none=>none
  |some r=>if i=skip||!Zdc ops L i then some r else(match ops[i]? with
   |some o=>(match Zgv c ops o rs with
    |some (l,rs')=>(match Zcj nodes (L|||1<<<i)with
     |some rs''=>if rs'.beq rs'' then some (l++r)else none
     |none=>none)
    |none=>none)
   |none=>none)
def allL(c:Cfg)(ops:Array Oper)(m skip:Nat)(nodes:List (Nat×RSt)):List (Nat×RSt)->Option (List E)
 |[]=>some []
 |(L,rs)::t=>match Znn c ops skip nodes L rs (List.range m),allL c ops m skip nodes t with
  |some a,some b=>some (a++b)
  |_,_=>none
theorem Zk7{c:Cfg}{ops:Array Oper}{skip:Nat}{nodes:List (Nat×RSt)}{L:Nat}{rs:RSt}{ρ:Env}:∀{is:List Nat}{n:List E},Znn c ops skip nodes L rs is=some n->Nds ρ n-> ∀i∈is,i≠skip->Zdc ops L i=true->
 ∃o l rs',ops[i]? =some o/\Zgv c ops o rs=some (l,rs')/\Nds ρ l/\Zcj nodes (L|||1<<<i)=some rs'
 |[],n,h,hn,i,hi,_,_=>by cases hi
 |j::is,n,h,hn,i,hi,hs,hr=>by
  unfold Znn at h;split at h
  ·cases h
  ·rename_i r he;have rest:Nds ρ r->i∈is-> ∃o l rs',ops[i]? =some o/\Zgv c ops o rs=some (l,rs')/\Nds ρ l/\Zcj nodes (L|||1<<<i)=some rs':=fun h1 h2=>Zk7 he h1 i h2 hs hr
   split at h
   ·rename_i hc;cases h;rcases List.mem_cons.1 hi with rfl|hi
    ·simp only[Bool.or_eq_true,decide_eq_true_eq,Bool.not_eq_true']at hc;rcases hc with hc|hc
     ·exact absurd hc hs
     ·rw[hr]at hc;cases hc
    ·exact rest hn hi
   ·split at h
    ·rename_i o ho;split at h
     ·rename_i l rs' hq;split at h
      ·rename_i rs'' hl;split at h
       ·rename_i hb;cases h;have hn':=Zaw.1 hn;rcases List.mem_cons.1 hi with rfl|hi
        ·exact⟨o,l,rs',ho,hq,hn'.1,by rw[hl,RSt.beq_eq hb]⟩
        ·exact rest hn'.2 hi
       ·cases h
      ·cases h
     ·cases h
    ·cases h
theorem Zjq{c:Cfg}{ops:Array Oper}{m skip:Nat}{nodes:List (Nat×RSt)}{ρ:Env}:∀{t:List (Nat×RSt)}{n:List E},allL c ops m skip nodes t=some n->Nds ρ n-> ∀L rs,(L,rs)∈t-> ∀i,i<m->i≠skip->Zdc ops L i=true->
 ∃o l rs',ops[i]? =some o/\Zgv c ops o rs=some (l,rs')/\Nds ρ l/\Zcj nodes (L|||1<<<i)=some rs'
 |[],n,h,hn,L,rs,hm,_,_,_,_=>by cases hm
 |(L0,rs0)::t,n,h,hn,L,rs,hm,i,hi,hs,hr=>by
  unfold allL at h;split at h
  ·rename_i a b h1 h2;cases h;have hn':=Zaw.1 hn;rcases List.mem_cons.1 hm with e|hm
   ·cases e;exact Zk7 h1 hn'.1 i (List.mem_range.2 hi) hs hr
   ·exact Zjq h2 hn'.2 L rs hm i hi hs hr
  ·cases h
def Zno(ops:Array Oper):List Nat->Option Nat
 |[]=>none
 |i::l=>match ops[i]? with
  |some o=>(match o.op with
   |.call q=>(match q.callee with|.value _=>some i|_=>Zno ops l)
   |_=>Zno ops l)
  |none=>Zno ops l
def Zk8(rs:RSt)(fx:Operand)(args:List Operand):Option (Nat×List RRef×List RA×List (RRef×List RA)):=
 match rev rs fx,Zkw rs args with
 |.fn F caps,some vals=>(match Zb8 rs.K (Zgp rs.K 64 (vals.flatMap Zix++caps) [])with
  |some bx=>some (F,caps,vals,bx)
  |none=>none)
 |_,_=>none
def Zve:List RA->List RA->List RA
 |x::l,y::k=>(if x.beq y then x else .any)::Zve l k
 |_,_=>[]
def Zvf(a b:List (RRef×List RA)):List (RRef×List RA):=a.filterMap fun x=>match Zb3 b x.1 with|some y=>some (x.1,Zve x.2 y)|none=>none
def leC:List RA->List RA->Bool
 |[],[]=>true
 |x::l,y::k=>(match x with|.any=>true|x=>x.beq y)&&leC l k
 |_,_=>false
def leK(a b:List (RRef×List RA)):Bool:=a.all fun x=>match Zb3 b x.1 with|some y=>leC x.2 y|none=>false
def Zme(ops:Array Oper)(cl:List Nat)(m:Nat)(tl:Bool):Bool:=
 Nat.ble m ops.size&&((List.range ops.size).all (fun i=>(Za7 ops i).all fun j=>Nat.blt j i))&&((List.range ops.size).all fun i=>Nat.blt (cl.getD i 0) (2^i))&&
  ((List.range ops.size).all fun i=>Nat.blt i m||(if tl then cl.getD i 0 % 2^m==2^m-1 else cl.getD i 0==2^i-1))&&(!tl||ops.size==m+3)
def Znp(ops:Array Oper):Bool:=
 match ops[ops.size-3]?,ops[ops.size-2]?,ops[ops.size-1]? with
 |some o6,some o7,some o8=>(match o6.op,o7.op,o8.op with
  |.indexAddr _ (.tmp t) _,.store _ (.tmp _) _,.store _ (.tmp _) (.tmp t')=>t==t'
  |_,_,_=>false)
 |_,_,_=>false
def latM(ops:Array Oper)(m:Nat):Nat:=if Znp ops then ops.size-3 else m
def sufT(c:Cfg)(op:Opt)(ops:Array Oper)(m:Nat)(tl:Bool)(K:Re->RSt->T)(rf:RSt):T:=
 if tl then(match ops[m]?,ops[m+1]?,ops[m+2]? with
  |some o6,some o7,some o8=>(match o6.dst,o6.op,o7.op,o8.op with
   |some d,.indexAddr T6 (.tmp t) ix,.store _ (.tmp d') _,.store _ (.tmp p) (.tmp t')=>(match rf.tm.get p,rf.tm.get t,Zr2 c T6 d rf (.tmp t) (revG (.bool true) rf (.tmp t)) (revG (.bool true) rf ix)with
    |.ptr _ _,.own _ _ _,some (l6,.opt t7 m7 i7 j7)=>(match rpst c (rf.put d (.opt t7 m7 i7 j7)) o7 with
     |some (l7,r2)=>(match roth c ops r2 o8,roth c ops rf o8 with
      |some (l8,r3),some (l9,_)=>
       if d'==d&&t'==t&&!(p==d)&&!(t==d)&&o6.guard.isNone&&o7.guard.isNone&&o8.guard.isNone&&o7.dst.isNone&&o8.dst.isNone&&decide (d<c.N)&&(Za7 ops (m+1)).contains m&&!(t7==d)then
        asks (.bool true) (l6++(l7++(l8++l9))) rf (fun rs0=>K .nrm {r3 with known:=rs0.known})
       else .bad 100
      |_,_=>.bad 101)
     |none=>.bad 102)
    |_,_,_=>.bad 103)
   |_,_,_,_=>.bad 104)
  |_,_,_=>.bad 105)
 else opsT c op ops K (ops.toList.drop m) rf
def latT(c:Cfg)(op:Opt)(ops:Array Oper)(cl:List Nat)(m:Nat)(tl:Bool)(K:Re->RSt->T)(rs:RSt):T:=
 let r0:RSt:={rs with known:=[]}
 match Zno ops (List.range m)with
 |none=>
  let nodes:=Zk6 c ops m ops.size 4000 [(0,r0)] []
  (match Zcj nodes 0,allL c ops m ops.size nodes nodes,Zcj nodes (2^m-1)with
  |some r1,some l,some rf=>if r0.beq r1 then asks (.bool true) l rs (fun rs0=>sufT c op ops m tl K {rf with known:=rs0.known})else .bad 85
  |some _,none,_=>.bad 86
  |_,_,_=>.bad 87)
 |some ci=>(match ops[ci]? with
  |none=>.bad 88
  |some o=>(match o.dst,o.op with
   |some d,.call q=>(match q.callee with
    |.value fx=>
     let nodes:=Zk6 c ops m ci 4000 [(0,r0)] []
     (match Zcj nodes 0,allL c ops m ci nodes nodes,Zcj nodes (cl.getD ci 0)with
     |some r1,some l1,some rc=>(match Zk8 rc fx q.args.toList with
      |some (F,caps,vals,bx)=>(match Zft c op F rc.nv with
       |some (res,k1)=>(match Zgz (Zoy op.grow F) bx (rc.nv+k1.length),Zfu (op.lose.contains F) bx (rc.nv+1)with
        |some (bx',k2),some (bxp,k3)=>
         let after:=fun r:RSt=>({r with K:=Zbt r.K bx',nv:=rc.nv+k1.length+k2.length}:RSt).put d res
         let n2:=Zk6 c ops m ops.size 4000 [(cl.getD ci 0|||1<<<ci,after rc)] []
         let rdy:=nodes.filter fun x=>Zdc ops x.1 ci
         let Kp:=rdy.foldl (fun a x=>Zvf a (Zbt x.2.K bxp)) (Zbt rc.K bxp)
         (match allL c ops m ops.size n2 n2,Zcj n2 (2^m-1)with
         |some l2,some rf=>
          if d<c.N&&ci<m&&r0.beq r1&&o.guard.isNone&&decide ((bx.map (·.1)).Nodup)&&decide (bx'.map (·.1)=bx.map (·.1))&&decide (bxp.map (·.1)=bx.map (·.1))&&res.okRes&&vals.all RA.plain&&bx.all (fun x=>x.2.all RA.okCell)&&(bx'.all fun x=>x.2.all RA.okCell)&&(bxp.all fun x=>x.2.all RA.okCellP)&&
           decide ((Kp.map (·.1)).Nodup)&&(nodes.all fun x=>x.2.lt&&x.2.nv==rc.nv&&x.2.dep==rs.dep)&&
           (rdy.all fun x=>(match Zk8 x.2 fx q.args.toList with
            |some (F',caps',vals',bxx)=>F'==F&&decide (caps'=caps)&&Ziz vals' vals&&Zk4 bxx bx
            |none=>false)&&(match Zcj n2 (x.1|||1<<<ci)with|some r2=>(after x.2).beq r2|none=>false)&&leK Kp (Zbt x.2.K bxp))then
           asks (.bool true) l1 rs (fun rs0=>.call F vals caps bx rc.nv (k1++k2) res bx'
            (asks (.bool true) l2 {rf with known:=rs0.known.filter (E.lt rc.nv)} fun rs1=>sufT c op ops m tl K {rf with known:=rs1.known})
            k3 bxp (K (.pan (.var rc.nv)) {tm:=.nil,K:=Kp,nv:=rc.nv+1+k3.length,dep:=rs.dep,known:=rs0.known.filter (E.lt rc.nv),al:=false}))
          else .bad 90
         |none,_=>.bad 91
         |_,_=>.bad 92)
        |_,_=>.bad 93)
       |none=>.bad 94)
      |none=>.bad 95)
     |_,none,_=>.bad 96
     |_,_,_=>.bad 97)
    |_=>.bad 98)
   |_,_=>.bad 99))
end Go.Rf
end
section
namespace Go.Rf
open Go.Ab
def Zsb(c:Cfg)(rs:RSt)(o:Oper):Option (Nat×Nat×RRef×Nat×List RA×Nat×E×E):=
 match o.dst,o.op with
 |some d1,.load t (.tmp p)=>(match rs.tm.get p,szOf c.P t with
  |.ptr r j,some (_,false)=>(match Zb3 rs.K r with
   |some cs=>(match cs[j]? with
    |some (.own m .lnil (.o2 .lcons row q))=>if o.guard.isNone=true/\d1<c.N/\p≠d1 then some (d1,p,r,j,cs,m,row,q)else none
    |_=>none)
   |none=>none)
  |_,_=>none)
 |_,_=>none
def Zvg(c:Cfg)(rs:RSt)(d1 p:Nat)(o:Oper):Option (List E×RSt):=
 match o.dst,o.op with
 |some d2,.buildSlice t n parts=>(match slOf c.P t,Zgo (.bool true) rs (match slOf c.P t with|some (m,_)=>m|none=>0) 0 parts.toList with
   |some (m,_,_,_),some (l,e)=>if((parts.toList.length=n/\n*m<=16777216)/\d2<c.N)/\o.guard.isNone=true/\p≠d2/\d1≠d2 then some (l,rs.put d2 (.own m e .lnil))else none
   |_,_=>none)
 |_,_=>none
def Zsc(c:Cfg)(rs:RSt)(d1:Nat)(r:RRef)(j:Nat)(cs:List RA)(m:Nat)(row q:E)(o3 o4 o5:Oper):Option (List E×RSt):=
 match o3.dst,o3.op,o4.dst,o4.op,o5.dst,o5.op with
 |some d3,.indexAddr T (.tmp t1) (.const (.int ik i)),some d4,.fieldAddr T2 (.tmp t3) fi,none,.store T3 (.tmp t4) x=>(match slOf c.P T,Zc7 c.P T2 fi,szOf c.P T3 with
  |some (m',_,_,_),some (off,_,_),some (n,_)=>(match rrow ((rs.put d3 .any).put d4 .any) n (rev ((rs.put d3 .any).put d4 .any) x)with
   |some (l,e)=>if((o3.guard.isNone&&(o4.guard.isNone&&o5.guard.isNone))=true/\t1=d1/\i=0/\t3=d3/\t4=d4/\m'=m)/\d3<c.N/\d4<c.N/\off+n<=m then
     some (l,((rs.put d3 .any).put d4 .any).setK r (cs.set j (.own m .lnil (.o2 .lcons (m2 (.rset off) row e) q))))else none
   |none=>none)
  |_,_,_=>none)
 |_,_,_,_,_,_=>none
def Zt4(c:Cfg)(ops:Array Oper)(rs:RSt):Option (List E×RSt):=
 match ops.toList with
 |[o0,o1,o3,o4,o5]=>(match Zgv c ops o0 rs with
  |some (l0,rs0)=>(match Zsb c rs0 o1 with
   |some (d1,_,r,j,cs,m,row,q)=>(match Zsc c (rs0.put d1 .any) d1 r j cs m row q o3 o4 o5 with
    |some (l,rs')=>some (l0++l,rs')
    |none=>none)
   |none=>none)
  |none=>none)
 |[o0,o1,o2,o3,o4,o5]=>(match Zgv c ops o0 rs with
  |some (l0,rs0)=>(match Zsb c rs0 o1 with
   |some (d1,p,r,j,cs,m,row,q)=>(match Zvg c (rs0.put d1 .any) d1 p o2 with
    |some (l2,rs2)=>(match Zsc c rs2 d1 r j cs m row q o3 o4 o5 with
     |some (l,rs')=>some (l0++(l2++l),rs')
     |none=>none)
    |none=>none)
   |none=>none)
  |none=>none)
 |_=>none
section
variable {ρ:Env} {m:Nm} {rs:RSt} {s:St}
theorem Zg1{c:Cfg}{C:Ctx}(hP:C.P=c.P)(hN:C.N=c.N){ops:Array Oper}{Q:Ex->St->Prop}{i3 i4 i5:Nat}{rest:List Nat}{o3 o4 o5:Oper}(h3:ops[i3]? =some o3)(h4:ops[i4]? =some o4)(h5:ops[i5]? =some o5)
 {d1 j mm:Nat} {r:RRef} {cs:List RA} {row q:E} (hd:Den ρ m rs s) (hcs:Zb3 rs.K r=some cs) (hc:cs[j]? =some (.own mm .lnil (.o2 .lcons row q))) {l:List E} {rs':RSt} (h:Zsc c rs d1 r j cs mm row q o3 o4 o5=some (l,rs')) (hn:Nds ρ l)
 (hnext:∀s',Den ρ m rs' s'->AO C ops rest Q s'):
 (rs'.nv=rs.nv/\rs'.dep=rs.dep)/\ ∀(g:Gh)(a:Act)(w:World),Rel C s g a w->(∃bs,Row w (g.bx (r.den m)) bs/\bs[j]? =some (a.tmps.getD d1 undef))->wpOps C.P ops (Qc C Q) (i3::i4::i5::rest) a w:=by
 unfold Zsc at h;split at h
 ·rename_i d3 T t1 ik i d4 T2 t3 fi T3 t4 x e3 p3 e4 p4 e5 p5;split at h
  ·rename_i m' by_ cc el off fn fc n ag hT hF hS;split at h
   ·rename_i l' e hr;split at h
    ·rename_i hcond;cases h;obtain⟨⟨hg,rfl,rfl,rfl,rfl,rfl⟩,n3,n4,hm⟩:=hcond;simp only[Bool.and_eq_true,Option.isNone_iff_eq_none]at hg;have hd2:=(hd.put (d:=t3) (x:=.any) (y:=.any) (by intro e;cases e) (.inl rfl)).put (d:=t4) (x:=.any) (y:=.any) (by intro e;cases e) (.inl rfl);have hx:=Znc hd2 (Zbc hd2 (Znd hr)) hr hn;refine⟨⟨by simp[RSt.setK,Zai],by simp[RSt.setK,Zae]⟩,fun g a w hR hv=>?_⟩;have hK:=hd.look hcs
     have hcell:(kDen ρ m cs)[j]? =some (.own m' [] ((row.den ρ).row::(q.den ρ).lst)):=by
      simp only[kDen,List.getElem?_map,hc,Option.map_some];rfl
     refine Zpk (fi:=fi) h3 h4 h5 hg.1 hg.2.1 hg.2.2 p3 p4 p5 e3 e4 e5 (by rw[hN];exact n3) (by rw[hN];exact n4) (by rw[hP];exact hT) (by rw[hP];exact hF) (vs:=(e.den ρ).row) (by rw[hP,hx.2];exact hS) (by rw[hx.2];exact hm) hK hcell hx.1 ?_ hR hv;refine hnext _ (hd2.setK (by rw[Zma,Zma];exact hcs) ?_);rw[Zdb];simp only[RA.den,Zah,sem2,E.den,Dat.lst_l,Dat.row_r,Dat.row]
    ·cases h
   ·cases h
  ·cases h
 ·cases h
theorem Zsd{c:Cfg}{C:Ctx}(hP:C.P=c.P)(hN:C.N=c.N){ops:Array Oper}{Q:Ex->St->Prop}(hd:Den ρ m rs s){l:List E}{rs':RSt}(h:Zt4 c ops rs=some (l,rs'))(hn:Nds ρ l)
 (hQ:∀m' s',m'.up=m.up->rs'.nv=rs.nv->rs'.dep=rs.dep->Den ρ m' rs' s'->Q .normal s'):AO C ops (List.range ops.size) Q s:=by
 have tt:((E.bool true).den ρ).bool=true:=rfl;unfold Zt4 at h;split at h
 ·rename_i o0 o1 o3 o4 o5 hops;have hat:∀i,ops[i]? =[o0,o1,o3,o4,o5][i]? :=fun i=>by rw[<-hops,Array.getElem?_toList]
  have hsize:ops.size=5:=by have:=congrArg List.length hops;simpa using this
  split at h
  ·rename_i l0 rs0 hq;split at h
   ·rename_i d1 p r j cs mm row q hl;split at h
    ·rename_i l3 rs3 hs;cases h;obtain⟨n0,n3⟩:=Zaw.1 hn;obtain⟨m1,s1,u1,hd1,nv1,dp1,hwp⟩:=Zer hP hN (hat 0) hd hq n0;rw[hsize];intro g a w hR;rw[show List.range 5=[0,1,2,3,4]from rfl,wpOps_cons]
     refine hwp g a w hR _ _ fun g1 a1 w1 hR1=>?_
     unfold Zsb at hl;split at hl
     ·rename_i d1' t p' e1 p1;split at hl
      ·rename_i r' j' _ hp hsz;split at hl
       ·rename_i cs' hcs;split at hl
        ·rename_i mm' row' q' hc;split at hl
         ·rename_i hcond;cases hl
          have hp':s1.tm p=.ptr (r.den m1) j:=by
           have:=(hd1.tm p).resolve_left (by rw[hp];intro e;cases e);rw[hp]at this;exact this
          have hcell:(kDen ρ m1 cs)[j]? =some (.own mm [] ((row.den ρ).row::(q.den ρ).lst)):=by
           simp only[kDen,List.getElem?_map,hc,Option.map_some];rfl
          have hdp:=hd1.put (d:=d1) (x:=.any) (y:=.any) (by intro e;cases e) (.inl rfl);refine Zkg (hat 1) (by simpa using hcond.1) p1 e1 (by rw[hN];exact hcond.2.1) (by rw[hP];exact hsz) hp' (hd1.look hcs) hcell ?_ g1 a1 w1 hR1;intro g2 a2 w2 hR2 hv;have hcs2:Zb3 (rs0.put d1 .any).K r=some cs:=by rw[Zma];exact hcs
          have hnx:∀s',((rs'.nv=(rs0.put d1 .any).nv/\rs'.dep=(rs0.put d1 .any).dep))->Den ρ m1 rs' s'->AO C ops [] Q s':=fun s' hh hds=>
           Zfj (hQ m1 s' u1 (by rw[hh.1,Zai];exact nv1) (by rw[hh.2,Zae];exact dp1) hds)
          obtain⟨hnv,_⟩:=Zg1 (Q:=fun _ _=>True) (rest:=[]) hP hN (hat 2) (hat 3) (hat 4) hdp hcs2 hc hs n3 (fun _ _=>Zfj trivial);exact(Zg1 hP hN (hat 2) (hat 3) (hat 4) hdp hcs2 hc hs n3 (fun s' h=>hnx s' hnv h)).2 g2 a2 w2 hR2 hv
         ·cases hl
        ·cases hl
       ·cases hl
      ·cases hl
     ·cases hl
    ·cases h
   ·cases h
  ·cases h
 ·rename_i o0 o1 o2 o3 o4 o5 hops;have hat:∀i,ops[i]? =[o0,o1,o2,o3,o4,o5][i]? :=fun i=>by rw[<-hops,Array.getElem?_toList]
  have hsize:ops.size=6:=by have:=congrArg List.length hops;simpa using this
  split at h
  ·rename_i l0 rs0 hq;split at h
   ·rename_i d1 p r j cs mm row q hl;split at h
    ·rename_i l2 rs2 hm;split at h
     ·rename_i l3 rs3 hs;cases h;obtain⟨n0,n23⟩:=Zaw.1 hn;obtain⟨n2,n3⟩:=Zaw.1 n23;obtain⟨m1,s1,u1,hd1,nv1,dp1,hwp⟩:=Zer hP hN (hat 0) hd hq n0;rw[hsize];intro g a w hR;rw[show List.range 6=[0,1,2,3,4,5]from rfl,wpOps_cons]
      refine hwp g a w hR _ _ fun g1 a1 w1 hR1=>?_
      unfold Zsb at hl;split at hl
      ·rename_i d1' t p' e1 p1;split at hl
       ·rename_i r' j' _ hp hsz;split at hl
        ·rename_i cs' hcs;split at hl
         ·rename_i mm' row' q' hc;split at hl
          ·rename_i hcond;cases hl
           have hp':s1.tm p=.ptr (r.den m1) j:=by
            have:=(hd1.tm p).resolve_left (by rw[hp];intro e;cases e);rw[hp]at this;exact this
           have hcell:(kDen ρ m1 cs)[j]? =some (.own mm [] ((row.den ρ).row::(q.den ρ).lst)):=by
            simp only[kDen,List.getElem?_map,hc,Option.map_some];rfl
           have hdp:=hd1.put (d:=d1) (x:=.any) (y:=.any) (by intro e;cases e) (.inl rfl);refine Zkg (hat 1) (by simpa using hcond.1) p1 e1 (by rw[hN];exact hcond.2.1) (by rw[hP];exact hsz) hp' (hd1.look hcs) hcell ?_ g1 a1 w1 hR1;intro g2 a2 w2 hR2 hv;unfold Zvg at hm;split at hm
           ·rename_i d2 T2 nn parts e2 p2;split at hm
            ·rename_i m2 by2 cc2 el2 l' e hsl hpa;split at hm
             ·rename_i hc2;cases hm;rw[hsl]at hpa;have hpar:=Zfq hdp tt hpa n2;have hlen:=Zed (ρ:=ρ) hpa;have hdq:=hdp.put (d:=d2) (x:=.own m2 e .lnil) (y:=.own m2 (e.den ρ).lst []) (by intro e;cases e) (.inr rfl);have hcs2:Zb3 ((rs0.put d1 .any).put d2 (.own m2 e .lnil)).K r=some cs:=by rw[Zma,Zma];exact hcs
              have hnx:∀s',((rs'.nv=((rs0.put d1 .any).put d2 (.own m2 e .lnil)).nv/\rs'.dep=((rs0.put d1 .any).put d2 (.own m2 e .lnil)).dep))->Den ρ m1 rs' s'->AO C ops [] Q s':=fun s' hh hds=>
               Zfj (hQ m1 s' u1 (by rw[hh.1,Zai,Zai];exact nv1) (by rw[hh.2,Zae,Zae];exact dp1) hds)
              refine Zrm (r:=r.den m1) (j:=j) (d1:=d1) (hat 2) (by simpa using hc2.2.1) p2 e2 (by rw[hN];exact hc2.1.2) (by rw[hP];exact hsl) hpar (by rw[hlen];exact hc2.1.1.1) hc2.1.1.2
               (by rw[<-hp'];exact Zac _ _ hcond.2.2) hc2.2.2.1 hc2.2.2.2 ?_ hR2 hv
              intro g3 a3 w3 hR3 hv3;obtain⟨hnv,_⟩:=Zg1 (Q:=fun _ _=>True) (rest:=[]) hP hN (hat 3) (hat 4) (hat 5) hdq hcs2 hc hs n3 (fun _ _=>Zfj trivial);exact(Zg1 hP hN (hat 3) (hat 4) (hat 5) hdq hcs2 hc hs n3 (fun s' h=>hnx s' hnv h)).2 g3 a3 w3 hR3 hv3
             ·cases hm
            ·cases hm
           ·cases hm
          ·cases hl
         ·cases hl
        ·cases hl
       ·cases hl
      ·cases hl
     ·cases h
    ·cases h
   ·cases h
  ·cases h
 ·cases h
def com2(rs:RSt)(b j:Nat):RSt:=
 match Zb3 rs.K (.own b)with
 |some cs=>(match cs[j]? with
  |some (.own _ es nw)=>rs.setK (.own b) (cs.set j (.c (.o1 .cl (Zij es nw))))
  |some (.zs es)=>rs.setK (.own b) (cs.set j (.c (.o1 .cl es)))
  |_=>rs)
 |none=>rs
theorem Zt5{C:Ctx}(hd:Den ρ m rs s)(b j:Nat):∃s',Den ρ m (com2 rs b j) s'/\(com2 rs b j).nv=rs.nv/\(com2 rs b j).dep=rs.dep/\ ∀(code:Code)(Q:Ex->St->Prop),AW C code Q s'->AW C code Q s:=by
 unfold com2;split
 ·rename_i cs hcs;have hK:=hd.look hcs;split
  ·rename_i mm es nw hc;have hcell:(kDen ρ m cs)[j]? =some (.own mm (es.den ρ).lst (nw.den ρ).lst):=by simp only[kDen,List.getElem?_map,hc,Option.map_some];rfl
   refine⟨_,hd.setK hcs (k:=(kDen ρ m cs).set j (.d (.slc ((es.den ρ).lst++(nw.den ρ).lst)))) ?_,rfl,rfl,fun code Q h g a w hR=>?_⟩
   ·rw[Zdb];simp only[RA.den,Zc4,E.den,sem1,Dat.lst_l,Dat.dd_d]
   ·obtain⟨g',hR'⟩:=hR.cellToData hK hcell;exact h g' a w hR'
  ·rename_i es hc;have hcell:(kDen ρ m cs)[j]? =some (.zs (es.den ρ).lst):=by simp only[kDen,List.getElem?_map,hc,Option.map_some];rfl
   refine⟨_,hd.setK hcs (k:=(kDen ρ m cs).set j (.d (.slc (es.den ρ).lst))) ?_,rfl,rfl,fun code Q h g a w hR=>h g a w (hR.cellZsData hK hcell)⟩;rw[Zdb];simp only[RA.den,E.den,sem1,Dat.dd_d]
  ·exact⟨s,hd,rfl,rfl,fun _ _ h=>h⟩
 ·exact⟨s,hd,rfl,rfl,fun _ _ h=>h⟩
def com0(rs:RSt)(b j:Nat):RSt:=
 match Zb3 rs.K (.own b)with
 |some cs=>(match cs[j]? with
  |some (.own m es nw)=>rs.setK (.own b) (cs.set j (.own m (Zij es nw) .lnil))
  |_=>rs)
 |none=>rs
def com3(rs:RSt)(b:Nat):RSt:={rs with tm:=rs.tm.set b .any,K:=rs.K.filter fun x=>!decide (x.1=.own b)}
theorem Zt6(hd:Den ρ m rs s)(b:Nat):Den ρ m (com3 rs b) s:=by
 have hg:∀t,(rs.tm.set b .any).get t=.any\/(rs.tm.set b .any).get t=rs.tm.get t:=fun t=>by
  by_cases e:t=b
  ·subst e;left;rcases Tr.get_set .any rs.tm t with h|h<;>exact h
  ·exact .inr (Tr.get_set_ne .any rs.tm e)
 refine⟨fun t=>?_,fun hal t=>?_,fun q x hq=>hd.K q x (List.mem_filter.1 hq).1,(List.Sublist.map _ List.filter_sublist).nodup hd.nd,hd.known⟩
 ·show(rs.tm.set b .any).get t=.any\/_=((rs.tm.set b .any).get t).den ρ m s.gen;rcases hg t with h|h
  ·exact .inl h
  ·rw[h];exact hd.tm t
 ·show((rs.tm.set b .any).get t).ali=none;rcases hg t with h|h
  ·rw[h];rfl
  ·rw[h];exact hd.al hal t
def com1(rs:RSt)(b j:Nat):RSt:=if 5000<=j then com3 rs b else if 1000<=j then com2 rs b (j-1000)else com0 rs b j
def comL(id:Nat):List (Nat×Nat×Nat)->RSt->RSt
 |[],rs=>rs
 |(k,b,j)::l,rs=>comL id l (if k=id then com1 rs b j else rs)
theorem Zt7{C:Ctx}(hd:Den ρ m rs s)(b j:Nat):∃s',Den ρ m (com0 rs b j) s'/\(com0 rs b j).nv=rs.nv/\(com0 rs b j).dep=rs.dep/\ ∀(code:Code)(Q:Ex->St->Prop),AW C code Q s'->AW C code Q s:=by
 unfold com0;split
 ·rename_i cs hcs;split
  ·rename_i mm es nw hc;have hK:=hd.look hcs;have hcell:(kDen ρ m cs)[j]? =some (.own mm (es.den ρ).lst (nw.den ρ).lst):=by simp only[kDen,List.getElem?_map,hc,Option.map_some];rfl
   refine⟨_,hd.setK hcs (k:=(kDen ρ m cs).set j (.own mm ((es.den ρ).lst++(nw.den ρ).lst) [])) ?_,rfl,rfl,fun code Q h g a w hR=>?_⟩
   ·rw[Zdb];simp only[RA.den,Zc4,E.den,Dat.lst_l]
   ·obtain⟨g',hR'⟩:=hR.commitCell hK hcell;exact h g' a w hR'
  ·exact⟨s,hd,rfl,rfl,fun _ _ h=>h⟩
 ·exact⟨s,hd,rfl,rfl,fun _ _ h=>h⟩
theorem Zt8{C:Ctx}(hd:Den ρ m rs s)(b j:Nat):∃s',Den ρ m (com1 rs b j) s'/\(com1 rs b j).nv=rs.nv/\(com1 rs b j).dep=rs.dep/\ ∀(code:Code)(Q:Ex->St->Prop),AW C code Q s'->AW C code Q s:=by
 unfold com1;split
 ·exact⟨s,Zt6 hd b,rfl,rfl,fun _ _ h=>h⟩
 split
 ·exact Zt5 hd _ _
 ·exact Zt7 hd _ _
theorem Zmf{C:Ctx}(id:Nat):∀(l:List (Nat×Nat×Nat)){rs:RSt}{s:St},Den ρ m rs s-> ∃s',Den ρ m (comL id l rs) s'/\(comL id l rs).nv=rs.nv/\(comL id l rs).dep=rs.dep/\ ∀(code:Code)(Q:Ex->St->Prop),AW C code Q s'->AW C code Q s
 |[],rs,s,hd=>⟨s,hd,rfl,rfl,fun _ _ h=>h⟩
 |(k,b,j)::l,rs,s,hd=>by
  unfold comL;split
  ·obtain⟨s1,h1,h2,h3,h4⟩:=Zt8 (C:=C) hd b j;obtain⟨s2,k1,k2,k3,k4⟩:=Zmf id l h1;exact⟨s2,k1,k2.trans h2,k3.trans h3,fun code Q h=>h4 code Q (k4 code Q h)⟩
  ·exact Zmf id l hd
end
end Go.Rf
end
section
namespace Go.Rf
open Go.Ab
structure Pc where
 ci:Nat
 F:Nat
 vals:List RA
 res:RA
def Zse:List Pc->Nat->Option Pc
 |[],_=>none
 |p::l,i=>if p.ci=i then some p else Zse l i
theorem Zk9:∀{l:List Pc}{i:Nat}{p:Pc},Zse l i=some p->p∈l
 |q::l,i,p,h=>by
  unfold Zse at h;split at h
  ·cases h;exact List.mem_cons_self ..
  ·exact List.mem_cons_of_mem _ (Zk9 h)
def Zt9(c:Cfg)(dat:List Nat)(ops:Array Oper)(rs:RSt)(o:Oper):Option (List E×RSt):=
 match o.dst,Zr4 c ops rs o with
 |some d,some (l,.o2 .eqI (.o1 .llen e2) (.int 0),.zs es,.own _ (.o2 .lcat a b) .lnil)=>
  if dat.contains d=true/\d<c.N/\o.guard=none/\a.beq es=true/\b.beq e2=true then some (l,rs.put d (.c (.o1 .cl (.o2 .lcat es e2))))else none
 |_,_=>none
def Zh3(c:Cfg)(dat:List Nat)(ops:Array Oper)(ps:List Pc)(i:Nat)(o:Oper)(rs:RSt):Option (List E×RSt):=
 match Zse ps i with
 |none=>(match Zt9 c dat ops rs o with
  |some x=>some x
  |none=>Zgv c ops o rs)
 |some p=>(match o.dst,o.op with
  |some d,.call q=>(match q.callee with
   |.value fx=>(match Zk8 rs fx q.args.toList with
    |some (F,[],vals,[])=>if F=p.F/\Ziz vals p.vals=true/\d<c.N/\o.guard=none then some ([],rs.put d p.res)else none
    |_=>none)
   |_=>none)
  |_,_=>none)
def Zv3(c:Cfg)(dat:List Nat)(ops:Array Oper)(ps:List Pc)(m L:Nat)(rs:RSt):List (Nat×RSt):=(List.range m).filterMap fun i=>
 if Zdc ops L i then(match ops[i]? with
  |some o=>(match Zh3 c dat ops ps i o rs with
   |some (_,rs')=>some (L|||1<<<i,rs')
   |none=>none)
  |none=>none)else none
def Zsf(c:Cfg)(dat:List Nat)(ops:Array Oper)(ps:List Pc)(m:Nat):Nat->List (Nat×RSt)->List (Nat×RSt)->List (Nat×RSt)
 |0,_,done=>done
 |_+1,[],done=>done
 |k+1,(L,rs)::t,done=>if(Zcj done L).isSome then Zsf c dat ops ps m k t done else Zsf c dat ops ps m k (Zv3 c dat ops ps m L rs++t) ((L,rs)::done)
def Znq(c:Cfg)(dat:List Nat)(ops:Array Oper)(ps:List Pc)(nodes:List (Nat×RSt))(L:Nat)(rs:RSt):List Nat->Option (List E)
 |[]=>some []
 |i::is=>match Znq c dat ops ps nodes L rs is with
  |none=>none
  |some r=>if !Zdc ops L i then some r else(match ops[i]? with
   |some o=>(match Zh3 c dat ops ps i o rs with
    |some (l,rs')=>(match Zcj nodes (L|||1<<<i)with
     |some rs''=>if rs'.beq rs'' then some (l++r)else none
     |none=>none)
    |none=>none)
   |none=>none)
def allP(c:Cfg)(dat:List Nat)(ops:Array Oper)(ps:List Pc)(m:Nat)(nodes:List (Nat×RSt)):List (Nat×RSt)->Option (List E)
 |[]=>some []
 |(L,rs)::t=>match Znq c dat ops ps nodes L rs (List.range m),allP c dat ops ps m nodes t with
  |some a,some b=>some (a++b)
  |_,_=>none
theorem Zla{c:Cfg}{dat:List Nat}{ops:Array Oper}{ps:List Pc}{nodes:List (Nat×RSt)}{L:Nat}{rs:RSt}{ρ:Env}:∀{is:List Nat}{n:List E},Znq c dat ops ps nodes L rs is=some n->Nds ρ n-> ∀i∈is,Zdc ops L i=true->
 ∃o l rs',ops[i]? =some o/\Zh3 c dat ops ps i o rs=some (l,rs')/\Nds ρ l/\Zcj nodes (L|||1<<<i)=some rs'
 |[],n,h,hn,i,hi,_=>by cases hi
 |j::is,n,h,hn,i,hi,hr=>by
  unfold Znq at h;split at h
  ·cases h
  ·rename_i r he;have rest:Nds ρ r->i∈is-> ∃o l rs',ops[i]? =some o/\Zh3 c dat ops ps i o rs=some (l,rs')/\Nds ρ l/\Zcj nodes (L|||1<<<i)=some rs':=fun h1 h2=>Zla he h1 i h2 hr
   split at h
   ·rename_i hc;cases h;rcases List.mem_cons.1 hi with rfl|hi
    ·simp only[Bool.not_eq_true']at hc;rw[hr]at hc;cases hc
    ·exact rest hn hi
   ·split at h
    ·rename_i o ho;split at h
     ·rename_i l rs' hq;split at h
      ·rename_i rs'' hl;split at h
       ·rename_i hb;cases h;have hn':=Zaw.1 hn;rcases List.mem_cons.1 hi with rfl|hi
        ·exact⟨o,l,rs',ho,hq,hn'.1,by rw[hl,RSt.beq_eq hb]⟩
        ·exact rest hn'.2 hi
       ·cases h
      ·cases h
     ·cases h
    ·cases h
theorem Zqp{c:Cfg}{dat:List Nat}{ops:Array Oper}{ps:List Pc}{m:Nat}{nodes:List (Nat×RSt)}{ρ:Env}:∀{t:List (Nat×RSt)}{n:List E},allP c dat ops ps m nodes t=some n->Nds ρ n-> ∀L rs,(L,rs)∈t-> ∀i,i<m->Zdc ops L i=true->
 ∃o l rs',ops[i]? =some o/\Zh3 c dat ops ps i o rs=some (l,rs')/\Nds ρ l/\Zcj nodes (L|||1<<<i)=some rs'
 |[],n,h,hn,L,rs,hm,_,_,_=>by cases hm
 |(L0,rs0)::t,n,h,hn,L,rs,hm,i,hi,hr=>by
  unfold allP at h;split at h
  ·rename_i a b h1 h2;cases h;have hn':=Zaw.1 hn;rcases List.mem_cons.1 hm with e|hm
   ·cases e;exact Zla h1 hn'.1 i (List.mem_range.2 hi) hr
   ·exact Zqp h2 hn'.2 L rs hm i hi hr
  ·cases h
def latQ(c:Cfg)(op:Opt)(ops:Array Oper)(m:Nat)(tl:Bool)(K:Re->RSt->T)(ps:List Pc)(rs:RSt):T:=
 let r0:RSt:={rs with known:=[]}
 let nodes:=Zsf c op.dat ops ps m 4000 [(0,r0)] []
 (match Zcj nodes 0,allP c op.dat ops ps m nodes nodes,Zcj nodes (2^m-1)with
 |some r1,some l,some rf=>if r0.beq r1 then asks (.bool true) l rs (fun rs0=>sufT c op ops m tl K {rf with known:=rs0.known})else .bad 130
 |some _,none,_=>.bad 131
 |_,_,_=>.bad 132)
def latP(c:Cfg)(op:Opt)(ops:Array Oper)(m:Nat)(tl:Bool)(K:Re->RSt->T):List Nat->RSt->List Pc->RSt->T
 |[],_,ps,rs=>latQ c op ops m tl K ps rs
 |i::l,rr,ps,rs=>(match ops[i]? with
  |some o=>(match o.dst,o.op with
   |some d,.call q=>(match q.callee with
    |.value fx=>(match Zk8 rr fx q.args.toList with
     |some (F,[],vals,[])=>(match Zft c (Ztx op d) F rs.nv with
      |some (res,k1)=>if rs.lt&&res.okRes&&vals.all RA.plain&&vals.all (RA.lt rs.nv)&&res.lt (rs.nv+k1.length)then
        .dcall F vals [] [] rs.nv k1 res (latP c op ops m tl K l ({rr with nv:=rs.nv+k1.length}.put d res) (⟨i,F,vals,res⟩::ps) {rs with nv:=rs.nv+k1.length})
       else .bad 133
      |none=>.bad 134)
     |_=>.bad 135)
    |_=>latP c op ops m tl K l (match Zgv c ops o rr with|some (_,r)=>r|none=>rr) ps rs)
   |_,_=>latP c op ops m tl K l (match Zgv c ops o rr with|some (_,r)=>r|none=>rr) ps rs)
  |none=>.bad 136)
end Go.Rf
end
section
namespace Go.Rf
open Go.Ab
structure Pat where
 ks:List Dk
 rs:RSt
abbrev Args:=List (Nat×Dk×E)
def eqA(base:Nat)(p v:RA):Option Args:=if p.beq v&&p.lt base then some []else none
def mA(base:Nat)(p v:RA):Option Args:=
 match p with
 |.any=>some []
 |.c (.o1 (.ci k) (.var n))=>if base<=n then(match v with|.c (.o1 (.ci k') e)=>if k=k' then some [(n,.i,e)]else none|_=>none)else eqA base p v
 |.c (.o1 .cb (.o1 .tb (.var n)))=>if base<=n then(match v with|.c (.o1 .cb e)=>some [(n,.b,e)]|_=>none)else eqA base p v
 |.c (.o1 .cs (.var n))=>if base<=n then(match v with|.c (.o1 .cs e)=>some [(n,.s,e)]|_=>none)else eqA base p v
 |.c (.o1 .cl (.var n))=>if base<=n then(match v with|.c (.o1 .cl e)=>some [(n,.l,e)]|_=>none)else eqA base p v
 |.c (.var n)=>if base<=n then(match v with|.c e=>some [(n,.d,e)]|_=>none)else eqA base p v
 |.agg (.var n)=>if base<=n then(match v with|.agg e=>some [(n,.r,e)]|_=>none)else eqA base p v
 |.own sz (.var n) nw=>if base<=n then(match v with|.own sz' e nw'=>if sz=sz'/\(nw.beq nw'&&nw.lt base)=true then some [(n,.l,e)]else none|_=>none)else eqA base p v
 |.own sz .lnil (.var n)=>if base<=n then(match v with|.own sz' .lnil e=>if sz=sz' then some [(n,.l,e)]else none|_=>none)else eqA base p v
 |.zs (.var n)=>if base<=n then(match v with|.zs e=>some [(n,.l,e)]|_=>none)else eqA base p v
 |p=>eqA base p v
def mT(base:Nat):Tr->Tr->Option Args
 |.nil,_=>some []
 |.node .any l r,.nil=>(match mT base l .nil,mT base r .nil with|some a,some b=>some (a++b)|_,_=>none)
 |.node _ _ _,.nil=>none
 |.node p l r,.node v l' r'=>(match mA base p v,mT base l l',mT base r r' with|some a,some b,some c=>some (a++(b++c))|_,_,_=>none)
def mC(base:Nat):List RA->List RA->Option Args
 |[],[]=>some []
 |p::l,v::l'=>if p.okCell&&v.okCell then(match mA base p v,mC base l l' with|some a,some b=>some (a++b)|_,_=>none)else none
 |_,_=>none
def mK(base:Nat)(K:List (RRef×List RA)):List (RRef×List RA)->Option Args
 |[]=>some []
 |(r,c)::l=>(match Zb3 K r with
  |some c'=>(match mC base c c',mK base K l with|some a,some b=>some (a++b)|_,_=>none)
  |none=>none)
def Zsg:Args->Nat->Dk->Option E
 |[],_,_=>none
 |(n,k,e)::l,m,k'=>if n=m/\k=k' then some e else Zsg l m k'
def Znr(l:Args):List Dk->Nat->Option (List E)
 |[],_=>some []
 |k::ks,n=>match Zsg l n k,Znr l ks (n+1)with|some e,some r=>some (e::r)|_,_=>none
def Zvh(l:Args)(ks:List Dk)(base:Nat):Bool:=l.all fun x=>ks[x.1-base]? ==some x.2.1&&(match Zsg l x.1 x.2.1 with|some e=>e.beq x.2.2|none=>false)
def Zns(base:Nat)(p:Pat)(rs:RSt):Option (List E):=
 match mT base p.rs.tm rs.tm,mK base rs.K p.rs.K with
 |some a,some b=>if Zvh (a++b) p.ks base&&decide ((p.rs.K.map (·.1)).Nodup)&&(p.rs.al||!p.rs.tm.anyAli)then Znr (a++b) p.ks base else none
 |_,_=>none
def Zgr(base:Nat):List Pat->RSt->Nat->Option (Nat×List E)
 |[],_,_=>none
 |p::l,rs,j=>match Zns base p rs with
  |some a=>some (j,a)
  |none=>Zgr base l rs (j+1)
def isV(base:Nat):E->Bool|.var n=>Nat.ble base n|_=>false
def genA(base:Nat)(p v:RA):Option RA:=
 match p,v with
 |.any,_=>some .any
 |_,.any=>some .any
 |.c _,.own _ _ _=>none
 |.own _ _ _,.c _=>none
 |.c (.o1 .cl _),.zs _=>none
 |.zs _,.c (.o1 .cl _)=>none
 |.c (.o1 (.ci k) x),.c (.o1 (.ci k') y)=>if k=k' then(if x.beq y&&x.lt base then some p else some (.c (.o1 (.ci k) (.var base))))else some .any
 |.c (.o1 .cb x),.c (.o1 .cb y)=>if x.beq y&&x.lt base then some p else some (.c (.o1 .cb (.o1 .tb (.var base))))
 |.c (.o1 .cs x),.c (.o1 .cs y)=>if x.beq y&&x.lt base then some p else some (.c (.o1 .cs (.var base)))
 |.c (.o1 .cl x),.c (.o1 .cl y)=>if x.beq y&&x.lt base then some p else some (.c (.o1 .cl (.var base)))
 |.c x,.c y=>if x.beq y&&x.lt base then some p else some (.c (.var base))
 |.agg x,.agg y=>if x.beq y&&x.lt base then some p else some (.agg (.var base))
 |.own sz x a,.own sz' y b=>if sz=sz' then(if a.beq b&&a.lt base then(if x.beq y&&x.lt base then some p else some (.own sz (.var base) a))else(match x,y with
   |.lnil,.lnil=>some (.own sz .lnil (.var base))
   |_,_=>none))else some .any
 |.zs x,.zs y=>if x.beq y&&x.lt base then some p else some (.zs (.var base))
 |.zs _,.own _ _ _=>none
 |.own _ _ _,.zs _=>none
 |p,v=>if p.beq v&&p.lt base then some p else some .any
def genT(base:Nat):Tr->Tr->Option Tr
 |.nil,_=>some .nil
 |.node _ _ _,.nil=>none
 |.node p l r,.node v l' r'=>(match genA base p v,genT base l l',genT base r r' with|some a,some b,some c=>some (.node a b c)|_,_,_=>none)
def genC(base:Nat):List RA->List RA->Option (List RA)
 |[],[]=>some []
 |p::l,v::l'=>(match genA base p v,genC base l l' with|some a,some b=>some (a::b)|_,_=>none)
 |_,_=>none
def genK(base:Nat)(K:List (RRef×List RA)):List (RRef×List RA)->Option (List (RRef×List RA))
 |[]=>some []
 |(r,c)::l=>(match Zb3 K r,genK base K l with
  |some c',some b=>(match genC base c c' with
   |some a=>some ((if a.any (fun x=>match x with|.any=>true|_=>false)then[]else[(r,a)])++b)
   |none=>none)
  |none,some b=>some b
  |_,none=>none)
def numA(base:Nat)(x:RA)(n:Nat):RA×List Dk:=
 match x with
 |.c (.o1 (.ci k) e)=>if isV base e then(.c (.o1 (.ci k) (.var n)),[.i])else(x,[])
 |.c (.o1 .cb (.o1 .tb e))=>if isV base e then(.c (.o1 .cb (.o1 .tb (.var n))),[.b])else(x,[])
 |.c (.o1 .cs e)=>if isV base e then(.c (.o1 .cs (.var n)),[.s])else(x,[])
 |.c (.o1 .cl e)=>if isV base e then(.c (.o1 .cl (.var n)),[.l])else(x,[])
 |.c e=>if isV base e then(.c (.var n),[.d])else(x,[])
 |.agg e=>if isV base e then(.agg (.var n),[.r])else(x,[])
 |.own sz e nw=>if isV base e then(.own sz (.var n) nw,[.l])else if isV base nw then(.own sz e (.var n),[.l])else(x,[])
 |.zs e=>if isV base e then(.zs (.var n),[.l])else(x,[])
 |x=>(x,[])
def numT(base:Nat)(todo:List Nat)(t:Tr)(ks:List Dk):Tr×List Dk:=
 match todo with
 |[]=>(t,ks)
 |k::l=>let a:=numA base (t.get k) (base+ks.length)
  match a.2 with
  |[]=>numT base l t ks
  |_=>numT base l (t.set k a.1) (ks++a.2)
def numC(base:Nat):List RA->List Dk->List RA×List Dk
 |[],ks=>([],ks)
 |x::l,ks=>let a:=numA base x (base+ks.length);let b:=numC base l (ks++a.2);(a.1::b.1,b.2)
def numK(base:Nat):List (RRef×List RA)->List Dk->List (RRef×List RA)×List Dk
 |[],ks=>([],ks)
 |(r,c)::l,ks=>let a:=numC base c ks;let b:=numK base l a.2;((r,a.1)::b.1,b.2)
def Zsh(c:Cfg)(base:Nat)(known:List E)(tm:Tr)(K:List (RRef×List RA)):Pat:=
 let a:=numT base c.live tm []
 let b:=numK base K a.2
 {ks:=b.2,rs:={tm:=a.1,K:=b.1,nv:=base+b.2.length,dep:=0,known:=known,al:=a.1.anyAli}}
def Znt(c:Cfg)(base:Nat)(known:List E)(leaf:RSt):List Pat->List Pat
 |[]=>(match genT base leaf.tm leaf.tm,genK base leaf.K leaf.K with
  |some t,some K=>[Zsh c base known t K]
  |_,_=>[])
 |p::l=>match genT base p.rs.tm leaf.tm,genK base leaf.K p.rs.K with
  |some t,some K=>Zsh c base known t K::l
  |_,_=>p::Znt c base known leaf l
def Zd0(c:Cfg)(base:Nat)(known:List E):List RSt->List Pat->Bool->List Pat×Bool
 |[],ps,ch=>(ps,ch)
 |x::l,ps,ch=>match Zgr base ps x 0 with
  |some _=>Zd0 c base known l ps ch
  |none=>Zd0 c base known l (Znt c base known x ps) true
def T.leaves:T->List RSt
 |.fork _ a b=>a.leaves++b.leaves
 |.need _ k=>k.leaves
 |.hav _ _ k=>k.leaves
 |.call _ _ _ _ _ _ _ _ kr _ _ kp=>kr.leaves++kp.leaves
 |.call2 _ _ _ _ _ _ _ _ kr _ _ kr2 _ _ kp=>kr.leaves++(kr2.leaves++kp.leaves)
 |.dcall _ _ _ _ _ _ _ k=>k.leaves
 |.loop _ _ _ vs=>vs.leaves
 |.cut _ b vs=>b.leaves++vs.leaves
 |.vcons _ b r=>b.leaves++r.leaves
 |.leaf rs=>[rs]
 |_=>[]
def Zqq(c:Cfg)(run:RSt->(Re->RSt->T)->T)(base dep:Nat)(known:List E):Nat->List Pat->List Pat
 |0,ps=>ps
 |n+1,ps=>
  let lv:=ps.flatMap fun p=>(run {p.rs with dep:=dep+1,nv:=base+p.ks.length} (fun e rs=>match e with|.nrm=>.leaf rs|_=>.vnil)).leaves
  match Zd0 c base known lv ps false with
  |(ps',true)=>Zqq c run base dep known n ps'
  |(_,false)=>ps
def Zmg(run:RSt->(Re->RSt->T)->T)(base dep:Nat)(ps:List Pat)(K:Re->RSt->T):List Pat->T
 |[]=>.vnil
 |p::l=>.vcons p.ks (run {p.rs with dep:=dep+1,nv:=base+p.ks.length} (fun e rs=>match e with
   |.nrm=>(match Zgr base ps rs 0 with
    |some (j,a)=>.again dep j a
    |none=>.bad 61)
   |e=>K e rs)) (Zmg run base dep ps K l)
def Zvi(c:Cfg)(run:RSt->(Re->RSt->T)->T)(rs:RSt)(K:Re->RSt->T):T:=
 let known:=rs.known.filter (E.lt rs.nv)
 let ps:=Zqq c run rs.nv rs.dep known 6 [Zsh c rs.nv known rs.tm rs.K]
 match Zgr rs.nv ps rs 0 with
 |some (j,a)=>if ps.all (fun p=>p.rs.known.all fun e=>e.lt rs.nv&&rs.known.any fun k=>k.beq e)then .loop rs.nv j a (Zmg run rs.nv rs.dep ps K ps)else .bad 62
 |none=>.bad 60
def Zmh(next:RSt->T)(base dep:Nat):List Pat->T
 |[]=>.vnil
 |p::l=>.vcons p.ks (next {p.rs with dep:=dep,nv:=base+p.ks.length}) (Zmh next base dep l)
def cutT(c:Cfg)(run:RSt->(Re->RSt->T)->T)(next:RSt->T)(rs:RSt)(K:Re->RSt->T):T:=
 let known:=rs.known.filter (E.lt rs.nv)
 let lv:=(run {rs with dep:=rs.dep+1} (fun e rs=>match e with|.nrm=>.leaf rs|_=>.vnil)).leaves
 let ps:=(Zd0 c rs.nv known lv (Zd0 c rs.nv known lv [] false).1 false).1
 if ps.all (fun p=>p.rs.known.all fun e=>e.lt rs.nv&&rs.known.any fun k=>k.beq e)then
  .cut rs.nv (run {rs with dep:=rs.dep+1} (fun e rs'=>match e with
   |.nrm=>(match Zgr rs.nv ps rs' 0 with
    |some (j,a)=>.again rs.dep j a
    |none=>.bad 63)
   |e=>K e rs')) (Zmh next rs.nv rs.dep ps)else .bad 64
def Zg2:Code->Option Nat
 |.region i _ _=>some i
 |.seq x _=>Zg2 x
 |.block _ x=>Zg2 x
 |.loop x=>Zg2 x
 |_=>none
def Zv4(op:Opt)(y:Code):Bool:=match Zg2 y with|some i=>op.cuts.contains i|none=>false
def Zv5(o:Oper):List Operand:=
 match o.op with
 |.store _ _ x=>[x]
 |.box _ x=>[x]
 |.build _ p=>p.toList.map (·.2)
 |.buildSlice _ _ p=>p.toList.map (·.2)
 |.slice _ x _ _ _=>[x]
 |.convert _ _ x=>[x]
 |.assign x=>[x]
 |.call q=>(match q.callee with
  |.builtin .append=>q.args.toList.drop 1
  |.builtin .len=>[]
  |_=>q.args.toList)
 |_=>[]
def Zvj(u:Nat):Operand->Bool|.tmp t=>t==u|_=>false
def Zv6(u:Nat)(ops:List Oper):List Nat:=ops.filterMap fun o=>match o.op,o.dst with
 |.move x,some d=>if Zvj u x then some d else none
 |_,_=>none
def Zqr(ops:List Oper)(u:Nat):Bool:=
 let us:=u::Zv6 u ops
 ops.any fun o=>(Zv5 o).any fun x=>us.any fun t=>Zvj t x
def Zh4(c:Cfg)(rs:RSt)(u:Nat):RSt:=
 match rs.tm.get u with
 |.own _ _ .lnil=>rs
 |.own z es nw=>if u<c.N then rs.put u (.own z (Zij es nw) .lnil)else rs
 |_=>rs
def Zb9(c:Cfg)(rs:RSt)(l:List Nat):RSt:=l.foldl (Zh4 c) rs
def Zua(rs:RSt)(u:Nat):Bool:=match rs.tm.get u with|.own _ _ .lnil=>false|.own _ _ _=>true|_=>false
def Zh5(c:Cfg)(ops:Array Oper)(rs:RSt):RSt:=Zb9 c rs (c.live.filter fun u=>Zua rs u&&Zqr ops.toList u)
def dat1(c:Cfg)(rs:RSt)(u:Nat):RSt:=
 match rs.tm.get u with
 |.own _ es nw=>if u<c.N then rs.put u (.c (.o1 .cl (Zij es nw)))else rs
 |.zs es=>if u<c.N then rs.put u (.c (.o1 .cl es))else rs
 |_=>rs
def datL(c:Cfg)(rs:RSt)(l:List Nat):RSt:=l.foldl (dat1 c) rs
def Zmi(c:Cfg)(K:Re->RSt->T):Re->RSt->T:=fun e rs=>match e with
 |.nrm=>K .nrm (rs.keep c.live c.N)
 |e=>K e rs
def Zb1(c:Cfg)(op:Opt):Code->RSt->(Re->RSt->T)->T
 |.skip,rs,K=>K .nrm rs
 |.label _,rs,K=>K .nrm rs
 |.ret,rs,K=>K .ret (Zb9 c rs c.live)
 |.exit id,rs,K=>K (.exit id) rs
 |.seq x y,rs,K=>if Zv4 op y then cutT c (Zb1 c op x) (fun rs=>Zb1 c op y rs K) rs K else Zb1 c op x rs fun e rs=>match e with
  |.nrm=>Zb1 c op y rs K
  |e=>K e rs
 |.cond q x y,rs,K=>(match rev rs q with
  |.c (.o1 .cb e)=>if e.isT then Zb1 c op x rs K else if e.isF then Zb1 c op y rs K else .fork e (Zb1 c op x (rs.assume e true) K) (Zb1 c op y (rs.assume e false) K)
  |_=>.bad 70)
 |.block id x,rs,K=>Zb1 c op x rs fun e rs=>match e with
  |.exit id'=>if id'=id then K .nrm rs else K (.exit id') rs
  |e=>K e rs
 |.region id ops false,rs,K=>if op.poke.contains id then(match Zt4 c ops rs with
   |some (l,rs')=>asks (.bool true) l rs (fun rs0=>Zmi c K .nrm {rs' with known:=rs0.known})
   |none=>.bad 120)else opsT c op ops (Zmi c K) ops.toList (Zh5 c ops (comL id op.com (datL c rs op.dat)))
 |.region id ops true,rs,K=>
  let cl:=clOf ops
  let m:=Zt1 cl ops.size
  if op.lat.contains id then(if Zme ops cl (latM ops m) (Znp ops)then(if op.lat.contains (id+1000)then latP c op ops (latM ops m) (Znp ops) (Zmi c K) (List.range (latM ops m)) (Zh5 c ops (datL c rs op.dat)) [] (Zh5 c ops (datL c rs op.dat))else latT c op ops cl (latM ops m) (Znp ops) (Zmi c K) (Zh5 c ops (datL c rs op.dat)))else .bad 73)
  else if Znj ops cl m then Zgf c op ops cl (Zfw ops m) m (Zmi c K) (ops.toList.take m) 0 (Zh5 c ops (datL c rs op.dat))else .bad 71
 |.loop b,rs,K=>Zvi c (Zb1 c op b) (datL c rs op.dat) K
 |_,_,_=>.bad 72
end Go.Rf
end
section
namespace Go.Ab
open Classical
def Zau(w:World)(b off:Nat):List Value->World
 |[]=>w
 |v::vs=>Zau (w.setCell ⟨b,off,none⟩ v) b (off+1) vs
theorem Zo4(w:World){b b':Nat}(o:Nat)(v:Value)(h:b'≠b):(w.setCell ⟨b,o,none⟩ v).heap[b']? =w.heap[b']? :=by
 simp only[World.setCell,Array.getElem?_modify];rw[if_neg (fun e=>h e.symm)]
theorem Zdd{b b':Nat}{cs:Array Value}(h:b'≠b):∀(vs:List Value)(w:World)(off:Nat),Row w b' cs->Row (Zau w b off vs) b' cs
 |[],_,_,hr=>hr
 |v::vs,w,off,hr=>Zdd h vs _ _ (hr.of_same (Zo4 w off v h))
theorem Zlb(w:World){b b':Nat}(h:b≠b')(o o':Nat)(v v':Value):(w.setCell ⟨b,o,none⟩ v).setCell ⟨b',o',none⟩ v'=(w.setCell ⟨b',o',none⟩ v').setCell ⟨b,o,none⟩ v:=by
 unfold World.setCell;simp only[World.mk.injEq,and_true,true_and];refine Array.ext (by simp) fun i h1 h2=>?_
 simp only[Array.getElem_modify];by_cases hb:b=i
 ·subst hb;rw[if_neg (fun e=>h e.symm)];simp[h.symm]
 ·by_cases hb':b'=i
  ·subst hb';simp[h]
  ·simp[hb,hb']
theorem Zgs(b b':Nat)(h:b≠b')(o':Nat)(v':Value):∀(vs:List Value)(w:World)(off:Nat),(Zau w b off vs).setCell ⟨b',o',none⟩ v'=Zau (w.setCell ⟨b',o',none⟩ v') b off vs
 |[],_,_=>rfl
 |v::vs,w,off=>by
  simp only[Zau];rw[Zgs b b' h o' v' vs,Zlb w h]
theorem Zfy(b b':Nat)(h:b≠b')(vs:List Value)(off:Nat):∀(vs':List Value)(w:World)(off':Nat),Zau (Zau w b off vs) b' off' vs'=Zau (Zau w b' off' vs') b off vs
 |[],_,_=>rfl
 |v::vs',w,off'=>by
  simp only[Zau];rw[Zgs b b' h,Zfy b b' h vs off vs']
theorem Zei{P:Program}{b:Nat}:∀(vs:List Value)(w:World)(cs:Array Value)(off i:Nat),Row w b cs->off+i+vs.length<=cs.size->(∀v∈vs,isCell v=true)->
 (storeCells ⟨b,off,none⟩ vs i).run P w=.ok () (Zau w b (off+i) vs)
 |[],w,cs,off,i,h,_,_=>rfl
 |v::vs,w,cs,off,i,h,hs,hv=>by
  simp only[List.length_cons]at hs;have h1:=Zfd h (off+i) v;have h2:=Zei (P:=P) vs (w.setCell ⟨b,off+i,none⟩ v) _ off (i+1) h1.row (by simp;omega) (fun x hx=>hv x (List.mem_cons_of_mem _ hx));unfold storeCells;rw[Zg3,Zaz,Zjx h (by omega) (hv v (List.mem_cons_self ..))];simp only;rw[h2];rfl
theorem Zfz{P:Program}{t:TypeId}{n:Nat}{ag:Bool}(h:szOf P t=some (n,ag)){w:World}{b off:Nat}{cs:Array Value}{v:Value}(hr:Row w b cs)(hs:v.cells.size=n)
 (hf:off+n<=cs.size) (hc:∀u∈v.cells.toList,isCell u=true):(storeVar t ⟨b,off,none⟩ v).run P w=.ok () (Zau w b off v.cells.toList):=by
 have h1:=Zei (P:=P) v.cells.toList w cs off 0 hr (by simp;omega) hc;simp[storeVar,Zbe h,hs,h1]
theorem Zsi{C:Ctx}{s:St}{g:Gh}{a:Act}{w:World}(hR:Rel C s g a w){o:Oper}{d:Nat}{y:A}{T:TypeId}{x ix:Operand}(hop:o.op=.indexAddr T x ix)(h:Zbj C.P d s T x ix=some y):
 ∃v,∀w1,(execOp a.eval o).run C.P w1=.ok (.value v) w1:=by
 unfold Zbj at h;split at h
 ·rename_i u sz es nw k i m by_ c e ho hi hs;split at h
  ·rename_i hc;cases h;obtain⟨h1,h2,h3,h4⟩:=hc;subst h1;obtain⟨ht,hv⟩:=Zm0 hR ho;obtain⟨cap,cs,hw⟩:=hR.own ht;refine⟨.pointer (some ⟨g.ow (.slot u),0+i.toNat*sz,none⟩),fun w1=>?_⟩;have:=Zcb hs w1 (g.ow (.slot u)) 0 (es.length+nw.length) cap k i (by omega) (by omega);rw[<-hw.val]at this;simp only[execOp,hop,hR.lit hi,hv,Sem.run_bind,this,Result.andThen_ok,Sem.run_pure]
  ·cases h
 ·cases h
theorem Zub{C:Ctx}{s:St}{g:Gh}{a:Act}{w:World}(hR:Rel C s g a w){o:Oper}{T:TypeId}{p:Operand}{t off:Nat}{r:Ref}{s':St}(hop:o.op=.store T p (.tmp t))(hp:s.ev p=.ptr r off){m:Nat}{es nw:List (List D)}(ht:s.tm t=.own m es nw)
 (h:Zbk C.P C.N s T p (.tmp t)=some s'):∃vs cs,Row w (g.bx r) cs/\Owns s g (.box r) (g.bx r)/\ ∀w1,Row w1 (g.bx r) cs->(execOp a.eval o).run C.P w1=.ok .skip (Zau w1 (g.bx r) off vs):=by
 unfold Zbk at h;rw[hp]at h;have hoT:ownT s (.tmp t)=some (t,m,es,nw):=by simp[ownT,ht]
 simp only[hoT]at h;split at h
 ·rename_i r' off' n ag e hT;cases e;split at h
  ·rename_i c hK;split at h
   ·rename_i hc;obtain⟨h1,h2,h3⟩:=hc;subst h1;subst h2;obtain⟨cs,hr,hs,hcs,_,_⟩:=hR.heap.box r c hK;obtain⟨cap,ds,ho⟩:=hR.own ht;have hev:=hR.ev p (by rw[hp];rfl) .res;rw[hp]at hev;have hval:(a.tmps.getD t undef).cells= #[a.tmps.getD t undef]:=by rw[ho.val];rfl
    refine⟨(a.tmps.getD t undef).cells.toList,cs,hr,.box hK,fun w1 hr1=>?_⟩;have h3:=Zfz (P:=C.P) hT (w:=w1) (off:=off) (v:=a.tmps.getD t undef) hr1 (by rw[hval];rfl) (by omega) (fun u hu=>by rw[hval]at hu;simp at hu;subst hu;rw[<-Array.getD_eq_getD_getElem?,ho.val];rfl);have:a.eval (.tmp t)=a.tmps.getD t undef:=rfl;simp only[execOp,hop,hev.1,this,Instr.storeAt,Instr.sureAddr,Sem.run_bind,Sem.run_pure,Result.andThen_ok,h3]
   ·cases h
  ·cases h
 ·rename_i e _;cases e
 ·cases h
theorem Zuc{C:Ctx}{s:St}{g:Gh}{a:Act}{w:World}(hR:Rel C s g a w){o:Oper}{T:TypeId}{u:Nat}{x:Operand}{t k m i j:Nat}{s':St}(hop:o.op=.store T (.tmp u) x)(hp:s.ev (.tmp u)=.opt t k m i j)
 (h:Zbk C.P C.N s T (.tmp u) x=some s'):∃off vs cs,Row w (g.ow (.slot t)) cs/\Owns s g (.slot t) (g.ow (.slot t))/\ ∀w1,Row w1 (g.ow (.slot t)) cs->(execOp a.eval o).run C.P w1=.ok .skip (Zau w1 (g.ow (.slot t)) off vs):=by
 unfold Zbk at h;rw[hp]at h;split at h
 ·rename_i e _;cases e
 ·rename_i t' k' m' i' j' n ag e hT;cases e;split at h
  ·rename_i u' q sz es nw vs e1 ho hv;split at h
   ·rename_i e he;split at h
    ·rename_i hc;obtain⟨h1,h2,h3,h4,h5,h6⟩:=hc;obtain⟨e2,ht'⟩:=Za2 ho;cases e2;subst h2;have h1:k=s.gen t:=h1;obtain⟨cap,cs,hw⟩:=hR.own ht';obtain⟨_,h7⟩:=hR.opt u t k sz i j hp;obtain⟨_,hpv⟩:=h7 h1;have hx:=hR.escs hv;have hlen:=Zam hx;simp only[Array.length_toList]at hlen;have hown:Owns s g (.slot t) (g.ow (.slot t)):=.slot (by rw[ht'];rfl);have hlt:i-es.length<nw.length:=(List.getElem?_eq_some_iff.1 he).1;have hi2:i<es.length+nw.length:=by omega
     have hcells:∀z∈(a.eval x).cells.toList,isCell z=true:=fun z hz=>by
      obtain⟨k,hk,rfl⟩:=List.mem_iff_getElem.1 hz;simp only[Array.length_toList]at hk;obtain⟨y,h2,h3⟩:=Zat hx k (vs[k]'(by omega)) (List.getElem?_eq_getElem _)
      have e':(a.eval x).cells.toList[k]=y:=by
       rw[List.getElem?_eq_getElem (by simpa using hk)]at h2;exact Option.some.inj h2
      rw[e'];exact h3.isCell
     have hpos:i*sz+j+vs.length<=cs.size:=by
      rw[hw.size];have h2:(i+1)*sz<=cap*sz:=Nat.mul_le_mul_right _ (Nat.le_trans hi2 hw.room);rw[Nat.add_mul]at h2;omega
     refine⟨i*sz+j,(a.eval x).cells.toList,cs,hw.row,hown,fun w1 hr1=>?_⟩;have h3:=Zfz (P:=C.P) hT (w:=w1) (off:=i*sz+j) (v:=a.eval x) hr1 (by omega) (by omega) hcells;have:a.eval (.tmp u)=.pointer (some ⟨g.ow (.slot t),i*sz+j,none⟩):=hpv;simp only[execOp,hop,this,Instr.storeAt,Instr.sureAddr,Sem.run_bind,Sem.run_pure,Result.andThen_ok,h3]
    ·cases h
   ·cases h
  ·cases h
 ·cases h
theorem OpOk.at_val{C:Ctx}{o:Oper}{s s':St}(h:OpOk C o s s'){g:Gh}{a:Act}{w w':World}{v:Value}(hR:Rel C s g a w)(hr:(execOp a.eval o).run C.P w=.ok (.value v) w'):∃g',Rel C s' g' (a.put o.dst v) w':=by
 have:=h g a w hR (fun a w=>∃g',Rel C s' g' a w) (fun _ _ _=>False) (fun g' a' w' hR'=>⟨g',hR'⟩);unfold Oper.wp at this;rw[hr]at this;exact this
theorem OpOk.at_skip{C:Ctx}{o:Oper}{s s':St}(h:OpOk C o s s'){g:Gh}{a:Act}{w w':World}(hR:Rel C s g a w)(hr:(execOp a.eval o).run C.P w=.ok .skip w'):∃g',Rel C s' g' (a.put o.dst undef) w':=by
 have:=h g a w hR (fun a w=>∃g',Rel C s' g' a w) (fun _ _ _=>False) (fun g' a' w' hR'=>⟨g',hR'⟩);unfold Oper.wp at this;rw[hr]at this;exact this
theorem Znu{P:Program}{ops:Array Oper}{Q:Exit->Act->World->Prop}{i:Nat}{o:Oper}(ho:ops[i]? =some o)(hg:o.guard=none){a:Act}{w w':World}{v:Value}{K:Act->World->Prop}(hr:(execOp a.eval o).run P w=.ok (.value v) w')(hk:K (a.put o.dst v) w'):wpOp P ops Q i K a w:=by
 have:Region.wanted o (yielded ops a.tmps)=true:=by unfold Region.wanted;rw[hg]
 simp only[wpOp,ho,this,if_true];exact .inl (Zbg hr hk)
theorem Zf0{P:Program}{ops:Array Oper}{Q:Exit->Act->World->Prop}{i:Nat}{o:Oper}(ho:ops[i]? =some o)(hg:o.guard=none)(hd:o.dst=none){a:Act}{w w':World}{K:Act->World->Prop}(hr:(execOp a.eval o).run P w=.ok .skip w')(hk:K a w'):wpOp P ops Q i K a w:=by
 have:Region.wanted o (yielded ops a.tmps)=true:=by unfold Region.wanted;rw[hg]
 simp only[wpOp,ho,this,if_true];refine .inl (Zik hr ?_);rw[hd];exact hk
theorem Zes{ops:Array Oper}{listed:Array Bool}(hs:listed.size=ops.size){i:Nat}(h:i∈Region.ready .any ops listed):i<ops.size/\listed.getD i false=false/\ ∀j∈Za7 ops i,listed.getD j false=true:=by
 rw[mem_ready]at h;obtain⟨h1,o,ho,h2⟩:=h;have hio:i<ops.size:=(Array.getElem?_eq_some_iff.1 ho).1;refine⟨hio,by simp[hs,hio]at h1⊢;exact h1,fun j hj=>?_⟩;unfold Za7 at hj;rw[ho]at hj;obtain⟨e,he,rfl⟩:=List.mem_map.1 hj;have h3:=List.mem_filter.1 he;exact h2 e (by simpa using h3.1) h3.2
theorem Zf1{ops:Array Oper}{listed:Array Bool}(hs:listed.size=ops.size)(hdir:∀i j,j∈Za7 ops i->j<i){i:Nat}(hi:i<ops.size)(h1:listed.getD i false=false)(h2:∀j<i,listed.getD j false=true):i∈Region.ready .any ops listed:=by
 rw[mem_ready];refine⟨by simp[hs,hi]at h1⊢;exact h1,ops[i],Array.getElem?_eq_getElem hi,fun e he hb=>h2 _ (hdir i _ ?_)⟩;unfold Za7;rw[Array.getElem?_eq_getElem hi];exact List.mem_map.2 ⟨e,List.mem_filter.2 ⟨by simpa using he,hb⟩,rfl⟩
theorem any3{C:Ctx}{ops:Array Oper}{Q:Ex->St->Prop}{k:Nat}{o6 o7 o8:Oper}{d t p:Nat}{T6 T7 T8:TypeId}{ix x7:Operand}{s s2 s3:St}{y:A}(hsz:ops.size=k+3)(hdir:∀i j,j∈Za7 ops i->j<i)
 (h6:ops[k]? =some o6) (h7:ops[k+1]? =some o7) (h8:ops[k+2]? =some o8) (g6:o6.guard=none) (g7:o7.guard=none) (g8:o8.guard=none) (d6:o6.dst=some d) (d7:o7.dst=none) (d8:o8.dst=none)
 (op6:o6.op=.indexAddr T6 (.tmp t) ix) (op7:o7.op=.store T7 (.tmp d) x7) (op8:o8.op=.store T8 (.tmp p) (.tmp t)) (hdN:d<C.N) (hpd:p≠d) (htd:t≠d) (h76:k∈Za7 ops (k+1))
 {r:Ref} {off m:Nat} {es nw:List (List D)} (hp:s.tm p=.ptr r off) (ht:s.tm t=.own m es nw) (hpoke:Zbj C.P d s T6 (.tmp t) ix=some y) {i7:Nat} {n7 m7 j7:Nat} {t7:Nat} (hy:y=.opt t7 n7 m7 i7 j7)
 (hs7:Zbk C.P C.N (s.put d y) T7 (.tmp d) x7=some s2) (hs8:Zbk C.P C.N s T8 (.tmp p) (.tmp t)=some s3) {s4:St} (hs4:Zbk C.P C.N s2 T8 (.tmp p) (.tmp t)=some s4) (hQ:Q .normal s4):
 ∀g a w (listed:Array Bool),listed.size=ops.size->(∀j,listed.getD j false=decide (j<k))->Rel C s g a w->wpAny C.P .any ops (Qc C Q) 3 listed a w:=by
 intro g a w listed hls hl hR;obtain⟨v6,run6⟩:=Zsi hR op6 hpoke;have hp':s.ev (.tmp p)=.ptr r off:=hp;obtain⟨vs8,cs8,row8,own8,run8⟩:=Zub hR op8 hp' ht hs8;obtain⟨g1,R1⟩:=(Zhf d6 hdN op6 hpoke).at_val hR (run6 w);rw[d6]at R1;have hdN':d<a.tmps.size:=by rw[hR.size];exact hdN
 have hev:∀q,q≠d->(a.put (some d) v6).eval (.tmp q)=a.eval (.tmp q):=fun q hq=>by
  show(a.put (some d) v6).tmps.getD q undef=a.tmps.getD q undef;rw[Za3 hdN',if_neg hq]
 have hp1:(s.put d y).ev (.tmp p)=.ptr r off:=by show(s.put d y).tm p=_;rw[<-hp];exact Zac _ _ hpd
 have hbx:g1.bx r=g.bx r:=by
  have e1:=hR.ev (.tmp p) (by rw[hp'];rfl) .res;have e2:=R1.ev (.tmp p) (by rw[hp1];rfl) .res;rw[hp']at e1;rw[hp1]at e2;have e3:=e2.1;rw[hev p hpd,e1.1]at e3;injection e3 with e3;injection e3 with e3;injection e3 with e4 _ _;exact e4.symm
 have hd1:(s.put d y).ev (.tmp d)=.opt t7 n7 m7 i7 j7:=by show(s.put d y).tm d=_;rw[<-hy];exact Zad _ _ _
 obtain⟨off7,vs7,cs7,row7,own7,run7⟩:=Zuc R1 op7 hd1 hs7
 have own8':Owns (s.put d y) g1 (.box r) (g.bx r):=by
  rw[<-hbx];cases own8 with
  |box h=>exact .box (c:=_) h
 have hne:g1.ow (.slot t7)≠g.bx r:=fun e=>by
  have:=R1.heap.inj _ _ _ own7 (e▸own8');cases this
 have run8':∀w1,Row w1 (g.bx r) cs8->(execOp (a.put (some d) v6).eval o8).run C.P w1=.ok .skip (Zau w1 (g.bx r) off vs8):=fun w1 hr=>by
  have:=run8 w1 hr;simp only[execOp,op8]at this⊢;rw[hev p hpd,hev t htd];exact this
 obtain⟨g2,R2⟩:=(Zgb d7 op7 hs7).at_skip R1 (run7 w row7);rw[d7]at R2;obtain⟨g3,R3⟩:=(Zgb d8 op8 hs4).at_skip R2 (run8' _ (Zdd hne.symm vs7 w off7 row8));rw[d8]at R3;have hfin:Qc C Q .normal (a.put (some d) v6) (Zau (Zau w (g1.ow (.slot t7)) off7 vs7) (g.bx r) off vs8):=⟨s4,g3,R3,hQ⟩
 have hfin':Qc C Q .normal (a.put (some d) v6) (Zau (Zau w (g.bx r) off vs8) (g1.ow (.slot t7)) off7 vs7):=by
  rw[Zfy _ _ hne.symm];exact hfin
 have hgl:∀{l:Array Bool}{i:Nat},l.size=ops.size->i<ops.size-> ∀j,(l.setIfInBounds i true).getD j false=(decide (j=i)||l.getD j false):=fun{l i} hs hi j=>by
  by_cases e:j=i
  ·subst e;simp[hs,hi]
  ·rw[getD_set_ne false (Ne.symm e)];simp[e]
 have done0:∀{l:Array Bool}{a:Act}{w:World},l.size=ops.size->(∀j<k+3,l.getD j false=true)->Qc C Q .normal a w->wpAny C.P .any ops (Qc C Q) 0 l a w:=fun{l a w} hs hall hq=>by
  refine⟨List.eq_nil_iff_forall_not_mem.2 fun i hi=>?_,hq⟩;obtain⟨h1,h2,_⟩:=Zes hs hi;rw[hall i (by omega)]at h2;cases h2
 have hk:k<ops.size:=by omega
 have hk1:k+1<ops.size:=by omega
 have hk2:k+2<ops.size:=by omega
 have last7:∀{l:Array Bool},l.size=ops.size->(∀j,l.getD j false=(decide (j<k)||decide (j=k)||decide (j=k+2)))->wpAny C.P .any ops (Qc C Q) 1 l (a.put (some d) v6) (Zau w (g.bx r) off vs8):=fun{l} hs hb=>by
  refine⟨fun hnil=>?_,fun i hi=>?_⟩
  ·have:=Zf1 hs hdir hk1 (by rw[hb];simp) (fun j hj=>by rw[hb];simp;omega);rw[hnil]at this;cases this
  ·obtain⟨h1,h2,_⟩:=Zes hs hi;rw[hb]at h2;have:i=k+1:=by simp at h2;omega
   subst this;refine Zf0 h7 g7 d7 (run7 _ (Zdd hne vs8 w off row7)) (done0 (by simpa using hs) (fun j hj=>?_) hfin');rw[hgl hs hk1,hb];simp;omega
 have last8:∀{l:Array Bool},l.size=ops.size->(∀j,l.getD j false=(decide (j<k)||decide (j=k)||decide (j=k+1)))->wpAny C.P .any ops (Qc C Q) 1 l (a.put (some d) v6) (Zau w (g1.ow (.slot t7)) off7 vs7):=fun{l} hs hb=>by
  refine⟨fun hnil=>?_,fun i hi=>?_⟩
  ·have:=Zf1 hs hdir hk2 (by rw[hb];simp) (fun j hj=>by rw[hb];simp;omega);rw[hnil]at this;cases this
  ·obtain⟨h1,h2,_⟩:=Zes hs hi;rw[hb]at h2;have:i=k+2:=by simp at h2;omega
   subst this;refine Zf0 h8 g8 d8 (run8' _ (Zdd hne.symm vs7 w off7 row8)) (done0 (by simpa using hs) (fun j hj=>?_) hfin);rw[hgl hs hk2,hb];simp;omega
 refine⟨fun hnil=>?_,fun i hi=>?_⟩
 ·have:=Zf1 hls hdir hk (by rw[hl];simp) (fun j hj=>by rw[hl];simpa using hj);rw[hnil]at this;cases this
 ·obtain⟨h1,h2,h3⟩:=Zes hls hi;rw[hl]at h2;have hi3:i=k\/i=k+1\/i=k+2:=by simp at h2;omega
  rcases hi3 with rfl|rfl|rfl
  ·refine Znu h6 g6 (run6 w) ?_;rw[d6];have hb1:∀j,(listed.setIfInBounds i true).getD j false=(decide (j<i)||decide (j=i)):=fun j=>by rw[hgl hls hk,hl,Bool.or_comm]
   have hls1:(listed.setIfInBounds i true).size=ops.size:=by simpa using hls
   refine⟨fun hnil=>?_,fun j hj=>?_⟩
   ·have:=Zf1 hls1 hdir hk1 (by rw[hb1];simp) (fun j hj=>by rw[hb1];simp;omega);rw[hnil]at this;cases this
   ·obtain⟨k1,k2,_⟩:=Zes hls1 hj;rw[hb1]at k2;have hj2:j=i+1\/j=i+2:=by simp at k2;omega
    rcases hj2 with rfl|rfl
    ·refine Zf0 h7 g7 d7 (run7 w row7) (last8 (by simpa using hls) fun q=>?_);rw[hgl hls1 hk1,hb1,Bool.or_comm]
    ·refine Zf0 h8 g8 d8 (run8' w row8) (last7 (by simpa using hls) fun q=>?_);rw[hgl hls1 hk2,hb1,Bool.or_comm]
  ·have:=h3 k h76;rw[hl]at this;simp at this
  ·refine Zf0 h8 g8 d8 (run8 w row8) ?_;have hb1:∀j,(listed.setIfInBounds (k+2) true).getD j false=(decide (j<k)||decide (j=k+2)):=fun j=>by rw[hgl hls hk2,hl,Bool.or_comm]
   have hls1:(listed.setIfInBounds (k+2) true).size=ops.size:=by simpa using hls
   refine⟨fun hnil=>?_,fun j hj=>?_⟩
   ·have:=Zf1 hls1 hdir hk (by rw[hb1];simp) (fun j hj=>by rw[hb1];simp;omega);rw[hnil]at this;cases this
   ·obtain⟨k1,k2,k3⟩:=Zes hls1 hj;rw[hb1]at k2;have hj2:j=k\/j=k+1:=by simp at k2;omega
    rcases hj2 with rfl|rfl
    ·refine Znu h6 g6 (run6 _) ?_;rw[d6];refine last7 (by simpa using hls) fun q=>?_
     rw[hgl hls1 hk,hb1];cases decide (q<j)<;>cases decide (q=j)<;>rfl
    ·have:=k3 k h76;rw[hb1]at this;simp at this
end Go.Ab
end
section
namespace Go.Rf
open Go.Ab
theorem Zh6{ops:Array Oper}{m:Nat}{tl:Bool}(hc:Zme ops (clOf ops) m tl=true):m<=ops.size/\(∀i j,j∈Za7 ops i->j<i)/\(∀i j,preP ops i j->j<i)/\(∀i,m<=i->i<ops.size-> ∀j<m,preP ops i j)/\
 (tl=false-> ∀i,m<=i->i<ops.size-> ∀j<i,preP ops i j)/\(tl=true->ops.size=m+3):=by
 simp only[Zme,Bool.and_eq_true,Nat.ble_eq,List.all_eq_true,List.mem_range,Nat.blt_eq,Bool.or_eq_true,Bool.not_eq_true',beq_iff_eq]at hc;obtain⟨⟨⟨⟨h1,h2⟩,h3⟩,h4⟩,h5⟩:=hc
 have hA:tl=false-> ∀i,m<=i->i<ops.size-> ∀j<i,preP ops i j:=fun htl i hi hio j hji=>by
  subst htl;rcases h4 i hio with h|h
  ·omega
  ·have h:(clOf ops).getD i 0=2^i-1:=by simpa using h
   unfold preP;rw[h,Nat.testBit_two_pow_sub_one];exact decide_eq_true hji
 have hB:tl=true-> ∀i,m<=i->i<ops.size-> ∀j<m,preP ops i j:=fun htl i hi hio j hjm=>by
  subst htl;rcases h4 i hio with h|h
  ·omega
  ·have h:(clOf ops).getD i 0 % 2^m=2^m-1:=by simpa using h
   have:=congrArg (Nat.testBit · j) h;simp only[Nat.testBit_mod_two_pow,Nat.testBit_two_pow_sub_one,decide_eq_true hjm,Bool.true_and]at this;exact this
 have hcllen:∀(ds:List (List Nat))(L:List Nat),(clos ds L).length=L.length+ds.length:=by
  intro ds
  induction ds with
  |nil=>intro L;rfl
  |cons d ds ih=>intro L;unfold clos;rw[ih];simp;omega
 refine⟨h1,fun i j hj=>?_,fun i j hj=>?_,fun i hi hio j hji=>?_,hA,fun htl=>?_⟩
 ·by_cases hi:i<ops.size
  ·exact h2 i hi j hj
  ·unfold Za7 at hj;rw[Array.getElem?_eq_none (by omega)]at hj;cases hj
 ·by_cases hi:i<ops.size
  ·refine Nat.lt_of_not_le fun hle=>?_
   have:=Nat.testBit_lt_two_pow (Nat.lt_of_lt_of_le (h3 i hi) (Nat.pow_le_pow_right (by decide) hle));unfold preP at hj;rw[this]at hj;cases hj
  ·unfold preP at hj;rw[List.getD,List.getElem?_eq_none (by unfold clOf;rw[hcllen];simp;omega)]at hj;simp at hj
 ·cases tl with
  |false=>exact hA rfl i hi hio j (by omega)
  |true=>exact hB rfl i hi hio j hji
 ·rcases h5 with h5|h5
  ·rw[h5]at htl;cases htl
  ·exact h5
theorem Zqs{ρ:Env}{m:Nm}:∀{x y:List RA},leC x y=true->x.length=y.length/\ ∀(j:Nat)(a:A),(kDen ρ m x)[j]? =some a->a=.any\/(kDen ρ m y)[j]? =some a
 |[],[],_=>⟨rfl,fun j a h=>by simp[kDen]at h⟩
 |x::l,y::k,h=>by
  simp only[leC,Bool.and_eq_true]at h;obtain⟨h1,h2⟩:=Zqs (ρ:=ρ) (m:=m) h.2;refine⟨by simp[h1],fun j a ha=>?_⟩;cases j with
  |zero=>
   have h3:=h.1;have ha:x.den ρ m (fun _=>0)=a:=by simpa[kDen]using ha
   split at h3
   ·exact .inl ha.symm
   ·rw[RA.beq_eq h3]at ha;exact .inr (by simp[kDen,ha])
  |succ j=>
   have:=h2 j a (by simpa[kDen]using ha);simpa[kDen]using this
 |[],_::_,h=>by cases h
 |_::_,[],h=>by cases h
theorem Zud{a b:List (RRef×List RA)}(h:leK a b=true):∀r x,(r,x)∈a-> ∃y,(r,y)∈b/\leC x y=true:=fun r x hx=>by
 have:=List.all_eq_true.1 h (r,x) hx;simp only at this;split at this
 ·rename_i y hy;exact⟨y,Zbh hy,this⟩
 ·cases this
section
variable {ρ:Env} {m:Nm} {rs:RSt} {s:St} {P:Program} {up:Nat->Ref} {R:Out->List (Ref×List A)->Prop} {σ:Sig}
theorem Den.meet(hd:Den ρ m rs s){Kp:List (RRef×List RA)}(hKn:(Kp.map (·.1)).Nodup)(hle:leK Kp rs.K=true){nv dep:Nat}{kn:List E}(hk:∀e∈kn,(e.den ρ).bool=true):
 ∃s',(∀(C:Ctx)(g:Gh)(a:Act)(w:World),Rel C s g a w->Rel C s' g a w)/\Den ρ m {tm:=.nil,K:=Kp,nv:=nv,dep:=dep,known:=kn,al:=false} s':=by
 have hg:=Zud hle
 have hnd:(Kp.map fun x=>x.1.den m).Nodup:=by
  have:(Kp.map fun x=>x.1.den m)=(Kp.map (·.1)).map (RRef.den m):=by simp[Function.comp_def]
  rw[this];refine List.pairwise_map.2 (List.Pairwise.imp_of_mem (fun{x y} hx hy hxy e=>hxy ?_) hKn);obtain⟨x',hx',rfl⟩:=List.mem_map.1 hx;obtain⟨y',hy',rfl⟩:=List.mem_map.1 hy;obtain⟨c1,h1,_⟩:=hg x'.1 x'.2 hx';obtain⟨c2,h2,_⟩:=hg y'.1 y'.2 hy';exact Zbo hd.nd (List.mem_map.2 ⟨_,h1,rfl⟩) (List.mem_map.2 ⟨_,h2,rfl⟩) e
 have hnd2:((Zab ρ m Kp).map (·.1)).Nodup:=by
  have:(Zab ρ m Kp).map (·.1)=Kp.map fun x=>x.1.den m:=by simp[Zab,Function.comp_def]
  rw[this];exact hnd
 refine⟨{s with K:=kOf (Zab ρ m Kp)},fun C g a w hR=>hR.dropCells fun r c' hc=>?_,fun t=>.inl rfl,fun _ t=>rfl,fun r c hc=>?_,hnd,hk⟩
 ·obtain⟨x,hx,e⟩:=List.mem_map.1 (Zd7 hc);cases e;obtain⟨y,hy,hl⟩:=hg x.1 x.2 hx;obtain⟨h1,h2⟩:=Zqs (ρ:=ρ) (m:=m) hl;exact⟨kDen ρ m y,hd.K x.1 y hy,by simp[kDen,h1],h2⟩
 ·exact Zbf hnd2 (List.mem_map.2 ⟨(r,c),hc,rfl⟩)
theorem Zgg{c:Cfg}{ops:Array Oper}{s s':St}{o:Oper}{t:TypeId}{p x:Operand}(hd:o.dst=none)(hop:o.op=.store t p x)(h:Zbn c.P c.N ops s o=some s'):Zbk c.P c.N s t p x=some s':=by
 unfold Zbn at h;rw[hd,hop]at h;exact h
theorem Zmj{c:Cfg}{op:Opt}{ops:Array Oper}{C:Ctx}(hP:C.P=c.P)(hN:C.N=c.N){mm:Nat}{tl:Bool}(hcl:Zme ops (clOf ops) mm tl=true){Q:Ex->St->Prop}{K:Re->RSt->T}{n0:Nat}{ρ0:Env}{σ0:Sig}
 (hK:Zge c.P up R n0 ρ0 σ0 Q K) (ha:Agr n0 ρ0 ρ) (hnv:n0<=rs.nv) (hu:m.up=up) (hσ:σ0<+:σ) (hdep:rs.dep=σ.length) (hd:Den ρ m rs s) (h:(sufT c op ops mm tl K rs).den c.P up R ρ σ):
 ∀g a w (listed:Array Bool),listed.size=ops.size->(∀j,listed.getD j false=decide (j<mm))->Rel C s g a w->wpAny C.P .any ops (Qc C Q) (ops.size-mm) listed a w:=by
 obtain⟨hmm,hdir,hplt,_,hsuf,htl⟩:=Zh6 hcl;unfold sufT at h;split at h
 ·rename_i htr;split at h
  ·rename_i o6 o7 o8 h6 h7 h8;split at h
   ·rename_i d T6 t ix T7 d' x7 T8 p t' hd6 hop6 hop7 hop8;split at h
    ·rename_i r off m0 es nw l6 t7 m7 i7 j7 hp ht hpk;split at h
     ·rename_i l7 r2 h7s;split at h
      ·rename_i l8 r3 l9 q9 h8s h9s;split at h
       ·rename_i hc;simp only[Bool.and_eq_true,beq_iff_eq,Bool.not_eq_true',beq_eq_false_iff_ne,Option.isNone_iff_eq_none,decide_eq_true_eq,List.contains_iff_mem]at hc;obtain⟨⟨⟨⟨⟨⟨⟨⟨⟨⟨⟨e1,e2⟩,e3⟩,e4⟩,e5⟩,e6⟩,e7⟩,e8⟩,e9⟩,e10⟩,e11⟩,e12⟩:=hc;subst e1;subst e2;obtain⟨kn,hkn,hn,hk⟩:=Za0 hd.known h;have hn:=Zaw.1 (hn rfl);have hn2:=Zaw.1 hn.2;have hn3:=Zaw.1 hn2.2;obtain⟨hpoke,hali⟩:=Zp9 hd (G:=.bool true) rfl hpk hn.1;have hd1:Den ρ m (rs.put d' (.opt t7 m7 i7 j7)) (s.put d' ((RA.opt t7 m7 i7 j7).den ρ m s.gen)):=hd.put hali (.inr rfl);obtain⟨s2,hev7,hd2,hnv2,hdep2⟩:=Zmb (ops:=ops) hd1 e8 h7s hn2.1;obtain⟨s4,hev8,hd3,hnv3,hdep3⟩:=Zjm hd2 h8s hn3.1 (fun d e=>by rw[e9]at e;cases e);obtain⟨s3,hev9,_,_,_⟩:=Zjm hd h9s hn3.2 (fun d e=>by rw[e9]at e;cases e)
        have hpv:s.tm p=.ptr (r.den m) off:=by
         have:=(hd.tm p).resolve_left (by rw[hp];intro e;cases e);rw[hp]at this;exact this
        have htv:s.tm t'=.own m0 (es.den ρ).lst (nw.den ρ).lst:=by
         have:=(hd.tm t').resolve_left (by rw[ht];intro e;cases e);rw[ht]at this;exact this
        have hsz:=htl htr;intro g a w listed hls hl hR;have e13:ops.size-mm=3:=by omega
        rw[e13];refine any3 (s2:=s2) (s3:=s3) (s4:=s4) hsz hdir h6 h7 h8 e5 e6 e7 hd6 e8 e9 hop6 hop7 hop8 (by rw[hN];exact e10) e3 e4 e11 hpv htv (by rw[hP];exact hpoke) rfl (by rw[hP,hN];exact Zgg e8 hop7 hev7) (by rw[hP,hN];exact Zgg e9 hop8 hev9) (by rw[hP,hN];exact Zgg e9 hop8 hev8) ?_ g a w listed hls hl hR;exact hK .nrm ρ m _ s4 σ ha (by show n0<=r3.nv;rw[hnv3,hnv2,Zai];exact hnv) hu hσ (by show r3.dep=_;rw[hdep3,hdep2,Zae];exact hdep) (hd3.knew hkn) hk
       ·unfold T.den at h;exact h.elim
      ·unfold T.den at h;exact h.elim
     ·unfold T.den at h;exact h.elim
    ·unfold T.den at h;exact h.elim
   ·unfold T.den at h;exact h.elim
  ·unfold T.den at h;exact h.elim
 ·rename_i htr;have:=Zni hP hN (l:=ops.toList.drop mm) (k:=mm) (fun j=>by simp) hK ha hnv hu hσ hdep hd h;have e:(ops.toList.drop mm).length=ops.size-mm:=by simp
  rw[e]at this;intro g a w listed hls hl hR;exact Zh1 (preP ops) Zeh hplt (hsuf (by simpa using htr)) hdir _ mm listed a w (Nat.le_refl _) (by omega) hls hl (this g a w hR)
theorem Zvk{c:Cfg}{op:Opt}{ops:Array Oper}{C:Ctx}(hP:C.P=c.P)(hN:C.N=c.N)(hmx:C.P.follows .mixedOrders=true){id mm:Nat}{tl:Bool}(hcl:Zme ops (clOf ops) mm tl=true){Q:Ex->St->Prop}{K:Re->RSt->T}{n0:Nat}{ρ0:Env}{σ0:Sig}
 (hK:Zge c.P up R n0 ρ0 σ0 Q K) (ha:Agr n0 ρ0 ρ) (hnv:n0<=rs.nv) (hu:m.up=up) (hσ:σ0<+:σ) (hdep:rs.dep=σ.length) (hd:Den ρ m rs s) (h:(latT c op ops (clOf ops) mm tl K rs).den c.P up R ρ σ):
 AW C (.region id ops true) Q s:=by
 have tt:((E.bool true).den ρ).bool=true:=rfl;obtain⟨hmm,hdir,hplt,hsuf,_,_⟩:=Zh6 hcl;have hd0:Den ρ m {rs with known:=[]} s:=hd.knew (by intro e he;cases he)
 have hready:∀{L i:Nat},L.testBit i=false->(∀j∈Za7 ops i,L.testBit j=true)->Zdc ops L i=true:=fun{L i} h1 h2=>by
  simp only[Zdc,h1,Bool.not_false,Bool.true_and,List.all_eq_true];exact h2
 unfold latT at h;simp only at h;split at h
 ·
  generalize Zk6 c ops mm ops.size 4000 [(0,{rs with known:=[]})] []=nodes at h;split at h
  ·rename_i r1 l rf h1 h2 h3;split at h
   ·rename_i hb;have hr1:=RSt.beq_eq hb;obtain⟨kn,hkn,hn,hrest⟩:=Za0 hd.known h;have hn:=hn tt
    refine Zqn hmx mm (preP ops) (fun L s=>∃rsL m',Zcj nodes L=some rsL/\m'.up=up/\Den ρ m' rsL s/\rsL.nv=rs.nv/\rsL.dep=rs.dep) Zeh hplt hsuf hdir hmm ⟨r1,m,h1,hu,by rw[<-hr1];exact hd0,by rw[<-hr1],by rw[<-hr1]⟩
     (fun L s i hI hi hLi hdl g a w hR=>?_) (fun s hI=>?_)
    ·obtain⟨rsL,m',hl,hu',hd',e1,e2⟩:=hI;obtain⟨o,l',rs',ho,hq,hnl,hlk⟩:=Zjq h2 hn L rsL (Zc5 hl) i hi (by omega) (hready hLi hdl);obtain⟨m'',s',hu'',hd'',e3,e4,hstep⟩:=Zer hP hN ho hd' hq hnl;exact hstep g a w hR _ _ fun g' a' w' hR'=>⟨s',g',hR',rs',m'',hlk,hu''.trans hu',hd'',e3.trans e1,e4.trans e2⟩
    ·obtain⟨rsL,m',hl,hu',hd',e1,e2⟩:=hI;rw[h3]at hl;cases hl;exact Zmj hP hN hcl hK ha (by show n0<=rf.nv;rw[e1];exact hnv) hu' hσ (by show rf.dep=_;rw[e2];exact hdep) (hd'.knew hkn) hrest
   ·unfold T.den at h;exact h.elim
  ·unfold T.den at h;exact h.elim
  ·unfold T.den at h;exact h.elim
 ·
  rename_i ci hci;split at h
  ·unfold T.den at h;exact h.elim
  ·rename_i o ho;split at h
   ·rename_i d q hdst hop;split at h
    ·rename_i fx hcal;generalize Zk6 c ops mm ci 4000 [(0,{rs with known:=[]})] []=nodes at h;split at h
     ·rename_i r1 l1 rc h1 h2 h3;split at h
      ·rename_i F caps vals bx hinfo;split at h
       ·rename_i res k1 hres;split at h
        ·rename_i bx' k2 bxp k3 hb2 hb3;generalize(nodes.filter fun x=>Zdc ops x.1 ci).foldl (fun a x=>Zvf a (Zbt x.2.K bxp)) (Zbt rc.K bxp)=Kp at h;generalize hn2:Zk6 c ops mm ops.size 4000 [((clOf ops).getD ci 0|||1<<<ci,({rc with K:=Zbt rc.K bx',nv:=rc.nv+k1.length+k2.length}:RSt).put d res)] []=n2 at h;split at h
         ·rename_i l2 rf h4 h5;split at h
          ·rename_i hc;simp only[Bool.and_eq_true,decide_eq_true_eq,List.all_eq_true,beq_iff_eq,Option.isNone_iff_eq_none]at hc;obtain⟨⟨⟨⟨⟨⟨⟨⟨⟨⟨⟨⟨⟨⟨hlt,hcim⟩,hr1⟩,hgd⟩,hnd⟩,hnm⟩,hnmp⟩,hokr⟩,hpl⟩,hok⟩,hok'⟩,hokp⟩,hKn⟩,hnodes⟩,hrdy⟩:=hc;have hr1:=RSt.beq_eq hr1;obtain⟨kn,hkn,hn,hrest⟩:=Za0 hd.known h;have hn:=hn tt;have hpl:vals.all RA.plain=true:=List.all_eq_true.2 hpl;have hok:(bx.all fun x=>x.2.all RA.okCell)=true:=List.all_eq_true.2 fun x hx=>List.all_eq_true.2 (hok x hx)
           have hok':(bx'.all fun x=>x.2.all RA.okCell)=true:=List.all_eq_true.2 fun x hx=>List.all_eq_true.2 (hok' x hx)
           have hokp:(bxp.all fun x=>x.2.all RA.okCellP)=true:=List.all_eq_true.2 fun x hx=>List.all_eq_true.2 (hokp x hx)
           unfold T.den at hrest
           have hnv0:rc.nv=rs.nv:=by
            have:=(hnodes _ (Zc5 h1)).1.2;rw[<-this,<-hr1]
           refine Zqn hmx mm (preP ops) (fun L s=>if L.testBit ci then
            ∃ρ' kn' rsL m',Agr rc.nv ρ ρ'/\(∀e∈kn',(e.den ρ').bool=true)/\Nds ρ' l2/\(sufT c op ops mm tl K {rf with known:=kn'}).den c.P up R ρ' σ/\Zcj n2 L=some rsL/\m'.up=up/\Den ρ' m' rsL s/\rsL.nv=rc.nv+k1.length+k2.length/\rsL.dep=rs.dep
            else∃rsL m',Zcj nodes L=some rsL/\m'.up=up/\Den ρ m' rsL s) Zeh hplt hsuf hdir hmm ?_
            (fun L s i hI hi hLi hdl g a w hR=>?_) (fun s hI=>?_)
           ·rw[if_neg (by simp)];exact⟨r1,m,h1,hu,by rw[<-hr1];exact hd0⟩
           ·by_cases hLc:L.testBit ci=true
            ·
             rw[if_pos hLc]at hI;obtain⟨ρ',kn',rsL,m',hag,hkn',hnl2,hk2,hl,hu',hd',e1,e2⟩:=hI;obtain⟨o',l',rs',ho',hq,hnl,hlk⟩:=Zjq h4 hnl2 L rsL (Zc5 hl) i hi (by omega) (hready hLi hdl);obtain⟨m'',s',hu'',hd'',e3,e4,hstep⟩:=Zer hP hN ho' hd' hq hnl;refine hstep g a w hR _ _ fun g' a' w' hR'=>⟨s',g',hR',?_⟩
             rw[if_pos (by rw[Nat.testBit_or,hLc];rfl)];exact⟨ρ',kn',rs',m'',hag,hkn',hnl2,hk2,hlk,hu''.trans hu',hd'',e3.trans e1,e4.trans e2⟩
            ·rw[if_neg hLc]at hI;obtain⟨rsL,m',hl,hu',hd'⟩:=hI;by_cases hic:i=ci
             ·
              subst hic;have hmem:=Zc5 hl;obtain⟨⟨hltL,hnvL⟩,hdepL⟩:=hnodes _ hmem;have hrd:=hrdy (L,rsL) (List.mem_filter.2 ⟨hmem,hready hLi hdl⟩);obtain⟨⟨hr2,hr3⟩,hr4⟩:=hrd;have hnvL:rsL.nv=rc.nv:=hnvL;have hdepL:rsL.dep=rs.dep:=hdepL;have hltL:rsL.lt=true:=hltL
              have hinf:Zk8 rsL fx q.args.toList=some (F,caps,vals,bx):=by
               split at hr2
               ·rename_i F' caps' vals' bxx hi';simp only[Bool.and_eq_true,beq_iff_eq,decide_eq_true_eq]at hr2;obtain⟨⟨⟨e1,e2⟩,e3⟩,e4⟩:=hr2;have hi':Zk8 rsL fx q.args.toList=some (F',caps',vals',bxx):=hi';rw[hi',e1,e2,Zfx e3,Zh2 e4]
               ·cases hr2
              have hlk2:Zcj n2 (L|||1<<<i)=some (({rsL with K:=Zbt rsL.K bx',nv:=rc.nv+k1.length+k2.length}:RSt).put d res):=by
               split at hr3
               ·rename_i r2 e;rw[e,RSt.beq_eq hr3]
               ·cases hr3
              unfold Zk8 at hinf;split at hinf
              ·rename_i F0 caps0 vals0 hfx hvals;split at hinf
               ·rename_i bx0 hbx;cases hinf;obtain⟨R',hh,hret,hpan⟩:=hrest m'.ν;have hm:(⟨up,m'.ν⟩:Nm)=m':=by rw[<-hu']
                rw[hm]at hh;simp only[hm]at hret hpan;have hin:=Zbs hbx;have hsub:∀x∈bx,x.1∈rsL.K.map (·.1):=fun x hx=>List.mem_map.2 ⟨_,Zbh (hin x hx),rfl⟩
                have hH:∀x∈Zab ρ m' bx,s.K x.1=some x.2:=fun x hx=>by
                 obtain⟨y,hy,rfl⟩:=List.mem_map.1 hx;exact hd'.look (hin y hy)
                have hHn:((Zab ρ m' bx).map (·.1)).Nodup:=by
                 have:(Zab ρ m' bx).map (·.1)=(bx.map (·.1)).map (RRef.den m'):=by simp[Zab,Function.comp_def]
                 rw[this];refine List.pairwise_map.2 (List.Pairwise.imp_of_mem (fun{x y} hx hy hxy e=>hxy ?_) hnd);obtain⟨x',hx',rfl⟩:=List.mem_map.1 hx;obtain⟨y',hy',rfl⟩:=List.mem_map.1 hy;exact Zbo hd'.nd (hsub _ hx') (hsub _ hy') e
                have hfst:∀{ρ':Env}{b:List (RRef×List RA)},b.map (·.1)=bx.map (·.1)->(Zab ρ' m' b).map (·.1)=(Zab ρ m' bx).map (·.1):=fun{ρ' b} e=>by
                 have:=congrArg (List.map (RRef.den m')) e;simpa[Zab,Function.comp_def]using this
                have hplain:∀{ρ':Env}{b:List (RRef×List RA)},(b.all fun x=>x.2.all RA.okCell)=true-> ∀x∈Zab ρ' m' b,∀y∈x.2,y.plain=true:=fun{ρ' b} hb x hx y hy=>by
                 obtain⟨z,hz,rfl⟩:=List.mem_map.1 hx;obtain⟨w,hw,rfl⟩:=List.mem_map.1 hy;exact Zci (List.all_eq_true.1 (List.all_eq_true.1 hb z hz) w hw)
                have hplainP:∀{ρ':Env}{b:List (RRef×List RA)},(b.all fun x=>x.2.all RA.okCellP)=true-> ∀x∈Zab ρ' m' b,∀y∈x.2,y.plain=true:=fun{ρ' b} hb x hx y hy=>by
                 obtain⟨z,hz,rfl⟩:=List.mem_map.1 hx;obtain⟨w,hw,rfl⟩:=List.mem_map.1 hy;exact Zdz (List.all_eq_true.1 (List.all_eq_true.1 hb z hz) w hw)
                have hsub':∀{b:List (RRef×List RA)},b.map (·.1)=bx.map (·.1)-> ∀x∈b,x.1∈rsL.K.map (·.1):=fun{b} e x hx=>by
                 have:x.1∈bx.map (·.1):=e▸List.mem_map.2 ⟨x,hx,rfl⟩;obtain⟨y,hy,e2⟩:=List.mem_map.1 this;rw[<-e2];exact hsub y hy
                have hcall:o.op=.call {callee:=.value fx,args:=q.args,argTypes:=q.argTypes}:=by rw[hop,<-hcal]
                have hfx':s.ev fx=.fn F (caps.map (RRef.den m')):=by
                 have:=Zbc hd' (x:=fx) (by rw[hfx];intro e;cases e);rw[hfx]at this;exact this
                have hw:Zan ops s o=some true:=by unfold Zan;rw[hgd]
                refine Zlv (H:=Zab ρ m' bx) (R:=R') ho hw hcall hdst (by rw[hN];exact hlt) hfx' (Zeq hd' hvals) hH hHn ?_ ?_ ?_ g a w hR
                ·rw[hP]
                 have e1:(vals.map fun x=>x.den ρ m' s.gen).map A.lift=vals.map fun a=>(a.den ρ m' gen0).lift:=by
                  rw[List.map_map];refine List.map_congr_left fun x hx=>?_
                  have:=Zdq (List.all_eq_true.1 hpl x hx);show A.lift (x.den ρ m' s.gen)=_;rw[RA.den_gen (gen:=gen0) (gen':=s.gen) fun t ht=>by rw[this]at ht;cases ht]
                 rw[e1,List.map_map];exact hh
                ·intro v H' hR';obtain⟨ρ',hag,hv,hH',hk⟩:=Zce (hret v H' hR');obtain⟨hb,hali,hgen⟩:=Zcv (ρ:=ρ') (m:=m') (gen:=s.gen) hokr;refine⟨v,Zab ρ' m' bx',by rw[hv,<-hgen];exact hb,hH',hfst hnm,hplain hok',fun g' a' w' hR2=>⟨_,g',hR2,?_⟩⟩;have hag':Agr rsL.nv ρ ρ':=by rw[hnvL];exact hag
                 have hd2:=(hd'.agr hag' hltL).setH (hsub' hnm) (by rw[hnm];exact hnd);have hd3:Den ρ' m' {rsL with K:=Zbt rsL.K bx',nv:=rc.nv+k1.length+k2.length} (s.setH (Zab ρ' m' bx')):=⟨hd2.tm,hd2.al,hd2.K,hd2.nd,hd2.known⟩
                 have hfk:∀e∈kn.filter (E.lt rc.nv),(e.den ρ').bool=true:=fun e he=>by
                  have:=List.mem_filter.1 he;rw[E.den_agr hag this.2];exact hkn e this.1
                 obtain⟨kn',hkn',hn',hk'⟩:=Za0 hfk hk;rw[if_pos (by rw[Nat.testBit_or,Nat.one_shiftLeft,Nat.testBit_two_pow_self,Bool.or_true])];exact⟨ρ',kn',_,m',hag,hkn',hn' rfl,hk',hlk2,hu',hd3.put (d:=d) (x:=res) (y:=v) (by rw[hali];intro e;cases e) (.inr (by rw[hv,<-hgen];rfl)),by rw[Zai],by rw[Zae];exact hdepL⟩
                ·intro v H' hR';obtain⟨ρ',hag,hH',hk⟩:=Zce (hpan v H' hR');have hag':Agr rc.nv ρ ρ':=((Agr.refl rc.nv ρ).set (.d (.lit v)) (Nat.le_refl _)).trans hag (Nat.le_succ _);have hvn:ρ' rc.nv=.d (.lit v):=by rw[hag rc.nv (Nat.lt_succ_self _),Env.set_same]
                 have hd2:=(hd'.agr (by rw[hnvL];exact hag') hltL).setH (hsub' hnmp) (by rw[hnmp];exact hnd)
                 have hfk:∀e∈kn.filter (E.lt rc.nv),(e.den ρ').bool=true:=fun e he=>by
                  have:=List.mem_filter.1 he;rw[E.den_agr hag' this.2];exact hkn e this.1
                 obtain⟨s',hs',hd3⟩:=hd2.meet (Kp:=Kp) hKn hr4 (nv:=rc.nv+1+k3.length) (dep:=rs.dep) hfk;refine⟨Zab ρ' m' bxp,hH',hfst hnmp,hplainP hokp,s',fun g a w hR=>hs' C g a w hR,?_⟩;have:=hK (.pan (.var rc.nv)) ρ' m' {tm:=.nil,K:=Kp,nv:=rc.nv+1+k3.length,dep:=rs.dep,known:=kn.filter (E.lt rc.nv),al:=false} s' σ (ha.trans hag' (by rw[hnv0];exact hnv)) (by show n0<=rc.nv+1+k3.length;omega) hu' hσ hdep hd3 hk;have e:dval (((E.var rc.nv).den ρ').dd)=v:=by show dval (ρ' rc.nv).dd=v;rw[hvn];rfl
                 simp only[Re.conv]at this
                 rw[e]at this;exact this
               ·cases hinf
              ·cases hinf
             ·
              obtain⟨o',l',rs',ho',hq,hnl,hlk⟩:=Zjq h2 hn L rsL (Zc5 hl) i hi hic (hready hLi hdl);obtain⟨m'',s',hu'',hd'',e3,e4,hstep⟩:=Zer hP hN ho' hd' hq hnl;refine hstep g a w hR _ _ fun g' a' w' hR'=>⟨s',g',hR',?_⟩
              rw[if_neg (by
               rw[Nat.testBit_or,Nat.one_shiftLeft,Nat.testBit_two_pow];have:¬i=ci:=hic;simp[this];simpa using hLc)]
              exact⟨rs',m'',hlk,hu''.trans hu',hd''⟩
           ·rw[if_pos (by rw[Nat.testBit_two_pow_sub_one];exact decide_eq_true hcim)]at hI;obtain⟨ρ',kn',rsL,m',hag,hkn',hnl2,hk2,hl,hu',hd',e1,e2⟩:=hI;rw[h5]at hl;cases hl;exact Zmj hP hN hcl hK (ha.trans hag (by rw[hnv0];exact hnv)) (by show n0<=rf.nv;rw[e1];omega) hu' hσ (by show rf.dep=_;rw[e2];exact hdep) (hd'.knew hkn') hk2
          ·unfold T.den at h;exact h.elim
         ·unfold T.den at h;exact h.elim
         ·unfold T.den at h;exact h.elim
        ·unfold T.den at h;exact h.elim
       ·unfold T.den at h;exact h.elim
      ·unfold T.den at h;exact h.elim
     ·unfold T.den at h;exact h.elim
     ·unfold T.den at h;exact h.elim
    ·unfold T.den at h;exact h.elim
   ·unfold T.den at h;exact h.elim
end
end Go.Rf
end
section
namespace Go.Rf
open Go.Ab
section
variable {ρ:Env} {m:Nm} {rs:RSt} {s:St} {P:Program} {up:Nat->Ref} {R:Out->List (Ref×List A)->Prop} {σ:Sig}
theorem Zet(u:St){d t:Nat}(x:A)(ht:t≠d):(u.put d x).gen t=u.gen t:=by
 simp only[St.put];split
 ·exact Zac _ _ ht
 ·rfl
theorem Zsj{c:Cfg}{dat:List Nat}{ops:Array Oper}{C:Ctx}(hP:C.P=c.P)(hN:C.N=c.N){i:Nat}{o:Oper}(ho:ops[i]? =some o)(hd:Den ρ m rs s){l:List E}{rs':RSt}(h:Zt9 c dat ops rs o=some (l,rs'))(hn:Nds ρ l):
 ∃s',Den ρ m rs' s'/\rs'.nv=rs.nv/\rs'.dep=rs.dep/\ ∀(g:Gh)(a:Act)(w:World),Rel C s g a w-> ∀(K:Act->World->Prop)(Q:Exit->Act->World->Prop),(∀g' a' w',Rel C s' g' a' w'->K a' w')->wpOp C.P ops Q i K a w:=by
 unfold Zt9 at h;split at h
 ·rename_i d l' e2 es mm a b hdst hr;split at h
  ·rename_i hc;cases h;obtain⟨_,hlt,hg,ha,hb⟩:=hc;have hw:Zan ops s o=some true:=by unfold Zan;rw[hg]
   obtain⟨v,hv,he,_⟩:=Znh hd hdst hlt hr hn;have hok:OpOk C o s (s.put d (v.den ρ m s.gen)):=Zbz (by rw[hP,hN];exact he);rcases hv with⟨hb1,rfl⟩|⟨hb1,rfl⟩
   ·have he2:(e2.den ρ).lst=[]:=by
     simp only[E.den,sem2,sem1,Dat.bool_b,Dat.int_i,beq_iff_eq]at hb1;exact List.length_eq_zero_iff.1 (by omega)
    refine⟨(s.put d (.zs (es.den ρ).lst)).put d (.d (.slc (es.den ρ).lst)),?_,Zai ..,Zae ..,fun g a w hR K Q hK=>Zjp ho hw hok hR fun g' a' w' hR'=>hK g' a' w' (hR'.zsData (by rw[hN];exact hlt) (Zad ..))⟩;refine hd.wr (by intro e;cases e) (fun t ht=>?_) (fun t ht=>?_) rfl (.inr ?_)
    ·show upd (upd s.tm d _) d _ t=_;rw[Zac _ _ ht,Zac _ _ ht]
    ·rw[Zet _ _ ht,Zet _ _ ht]
    ·show upd (upd s.tm d _) d _ d=_;rw[Zad];simp[RA.den,E.den,sem1,sem2,he2,Dat.lst_l,Dat.dd_d]
   ·have hab:((a.den ρ).lst++(b.den ρ).lst)=(es.den ρ).lst++(e2.den ρ).lst:=by rw[E.beq_eq ha,E.beq_eq hb]
    have hvd:(RA.own mm (.o2 .lcat a b) .lnil).den ρ m s.gen=.own mm ((es.den ρ).lst++(e2.den ρ).lst) []:=by simp[RA.den,E.den,sem2,hab,Dat.lst_l]
    rw[hvd]at hok;refine⟨((s.put d (.own mm ((es.den ρ).lst++(e2.den ρ).lst) [])).reset d .any).put d (.d (.slc (((es.den ρ).lst++(e2.den ρ).lst)++[]))),?_,Zai ..,Zae ..,fun g a w hR K Q hK=>Zjp ho hw hok hR fun g' a' w' hR'=>?_⟩
    ·refine hd.wr (by intro e;cases e) (fun t ht=>?_) (fun t ht=>?_) rfl (.inr ?_)
     ·show upd (upd (upd s.tm d _) d _) d _ t=_;rw[Zac _ _ ht,Zac _ _ ht,Zac _ _ ht]
     ·rw[Zet _ _ ht];show upd _ d _ t=_;rw[Zac _ _ ht,Zet _ _ ht]
     ·show upd (upd (upd s.tm d _) d _) d _ d=_;rw[Zad];simp[RA.den,E.den,sem1,sem2,Dat.lst_l,Dat.dd_d]
    ·obtain⟨g2,hR2⟩:=hR'.toData (by rw[hN];exact hlt) (Zad ..);exact hK g2 a' w' hR2
  ·cases h
 ·cases h
def PcOk(P:Program)(up:Nat->Ref)(ρ:Env)(p:Pc):Prop:=
 p.res.okRes=true/\p.vals.all RA.plain=true/\ ∀ν:Nat->Nat,Holds P p.F (p.vals.map fun a=>(a.den ρ ⟨up,ν⟩ gen0).lift) [] (Zpq [] (p.res.den ρ ⟨up,ν⟩ gen0))
theorem Zqt{c:Cfg}{dat:List Nat}{ops:Array Oper}{C:Ctx}(hP:C.P=c.P)(hN:C.N=c.N){ps:List Pc}(hps:∀p∈ps,PcOk c.P m.up ρ p){i:Nat}{o:Oper}(ho:ops[i]? =some o)(hd:Den ρ m rs s){l:List E}{rs':RSt}(h:Zh3 c dat ops ps i o rs=some (l,rs'))(hn:Nds ρ l):
 ∃m' s',m'.up=m.up/\Den ρ m' rs' s'/\rs'.nv=rs.nv/\rs'.dep=rs.dep/\ ∀(g:Gh)(a:Act)(w:World),Rel C s g a w-> ∀(K:Act->World->Prop)(Q:Ex->St->Prop),(∀g' a' w',Rel C s' g' a' w'->K a' w')->wpOp C.P ops (Qc C Q) i K a w:=by
 unfold Zh3 at h;split at h
 ·split at h
  ·rename_i x hx;cases h;obtain⟨s',h1,h2,h3,h4⟩:=Zsj hP hN ho hd hx hn;exact⟨m,s',rfl,h1,h2,h3,fun g a w hR K Q hK=>h4 g a w hR K _ hK⟩
  ·obtain⟨m',s',h0,h1,h2,h3,h4⟩:=Zer hP hN ho hd h hn;exact⟨m',s',h0,h1,h2,h3,fun g a w hR K Q hK=>h4 g a w hR K _ hK⟩
 ·rename_i p hp;obtain⟨hokr,hpl,hh⟩:=hps p (Zk9 hp);split at h
  ·rename_i d q hdst hop;split at h
   ·rename_i fx hcal;split at h
    ·rename_i F vals hinf;split at h
     ·rename_i hc;cases h;obtain⟨e1,e2,hlt,hg⟩:=hc;have e2:=Zfx e2;subst e1;subst e2;unfold Zk8 at hinf;split at hinf
      ·rename_i F0 caps0 vals0 hfx hvals;split at hinf
       ·rename_i bx0 hbx;cases hinf;have hw:Zan ops s o=some true:=by unfold Zan;rw[hg]
        have hcall:o.op=.call {callee:=.value fx,args:=q.args,argTypes:=q.argTypes}:=by rw[hop,<-hcal]
        have hfx':s.ev fx=.fn p.F ([].map (RRef.den m)):=by
         have:=Zbc hd (x:=fx) (by rw[hfx];intro e;cases e);rw[hfx]at this;exact this
        obtain⟨hb,hali,hgen⟩:=Zcv (ρ:=ρ) (m:=m) (gen:=s.gen) hokr
        have e1:(p.vals.map fun x=>x.den ρ m s.gen).map A.lift=p.vals.map fun a=>(a.den ρ m gen0).lift:=by
         rw[List.map_map];refine List.map_congr_left fun x hx=>?_
         have:=Zdq (List.all_eq_true.1 hpl x hx);show A.lift (x.den ρ m s.gen)=_;rw[RA.den_gen (gen:=gen0) (gen':=s.gen) fun t ht=>by rw[this]at ht;cases ht]
        refine⟨m,s.put d (p.res.den ρ m gen0),rfl,hd.put (by rw[hali];intro e;cases e) (.inr hgen.symm),Zai ..,Zae ..,fun g a w hR K Q hK=>?_⟩;refine Zlv (H:=[]) (R:=Zpq [] (p.res.den ρ m gen0)) ho hw hcall hdst (by rw[hN];exact hlt) hfx' (Zeq hd hvals) (fun x hx=>by cases hx) List.nodup_nil ?_ ?_ ?_ g a w hR
        ·rw[hP,e1];simpa[Zao]using hh m.ν
        ·rintro v H' ⟨h1,h2⟩;cases h1;exact⟨p.res.den ρ m gen0,[],by rw[<-hgen];exact hb,by rw[h2];rfl,rfl,(fun x hx=>by cases hx),fun g' a' w' hR'=>hK g' a' w' (by rw[Zrr]at hR';exact hR')⟩
        ·rintro v H' ⟨h1,_⟩;cases h1
       ·cases hinf
      ·cases hinf
     ·cases h
    ·cases h
   ·cases h
  ·cases h
theorem Zue{c:Cfg}{op:Opt}{ops:Array Oper}{C:Ctx}(hP:C.P=c.P)(hN:C.N=c.N)(hmx:C.P.follows .mixedOrders=true){id mm:Nat}{tl:Bool}(hcl:Zme ops (clOf ops) mm tl=true){Q:Ex->St->Prop}{K:Re->RSt->T}{n0:Nat}{ρ0:Env}{σ0:Sig}
 (hK:Zge c.P up R n0 ρ0 σ0 Q K) {ps:List Pc} (hps:∀p∈ps,PcOk c.P up ρ p) (ha:Agr n0 ρ0 ρ) (hnv:n0<=rs.nv) (hu:m.up=up) (hσ:σ0<+:σ) (hdep:rs.dep=σ.length) (hd:Den ρ m rs s) (h:(latQ c op ops mm tl K ps rs).den c.P up R ρ σ):
 AW C (.region id ops true) Q s:=by
 have tt:((E.bool true).den ρ).bool=true:=rfl;obtain⟨hmm,hdir,hplt,hsuf,_,_⟩:=Zh6 hcl;have hd0:Den ρ m {rs with known:=[]} s:=hd.knew (by intro e he;cases he)
 have hready:∀{L i:Nat},L.testBit i=false->(∀j∈Za7 ops i,L.testBit j=true)->Zdc ops L i=true:=fun{L i} h1 h2=>by
  simp only[Zdc,h1,Bool.not_false,Bool.true_and,List.all_eq_true];exact h2
 unfold latQ at h;simp only at h;generalize Zsf c op.dat ops ps mm 4000 [(0,{rs with known:=[]})] []=nodes at h;split at h
 ·rename_i r1 l rf h1 h2 h3;split at h
  ·rename_i hb;have hr1:=RSt.beq_eq hb;obtain⟨kn,hkn,hn,hrest⟩:=Za0 hd.known h;have hn:=hn tt
   refine Zqn hmx mm (preP ops) (fun L s=>∃rsL m',Zcj nodes L=some rsL/\m'.up=up/\Den ρ m' rsL s/\rsL.nv=rs.nv/\rsL.dep=rs.dep) Zeh hplt hsuf hdir hmm ⟨r1,m,h1,hu,by rw[<-hr1];exact hd0,by rw[<-hr1],by rw[<-hr1]⟩
    (fun L s i hI hi hLi hdl g a w hR=>?_) (fun s hI=>?_)
   ·obtain⟨rsL,m',hl,hu',hd',e1,e2⟩:=hI;obtain⟨o,l',rs',ho,hq,hnl,hlk⟩:=Zqp h2 hn L rsL (Zc5 hl) i hi (hready hLi hdl);obtain⟨m'',s',hu'',hd'',e3,e4,hstep⟩:=Zqt hP hN (by rw[hu'];exact hps) ho hd' hq hnl;exact hstep g a w hR _ _ fun g' a' w' hR'=>⟨s',g',hR',rs',m'',hlk,hu''.trans hu',hd'',e3.trans e1,e4.trans e2⟩
   ·obtain⟨rsL,m',hl,hu',hd',e1,e2⟩:=hI;rw[h3]at hl;cases hl;exact Zmj hP hN hcl hK ha (by show n0<=rf.nv;rw[e1];exact hnv) hu' hσ (by show rf.dep=_;rw[e2];exact hdep) (hd'.knew hkn) hrest
  ·unfold T.den at h;exact h.elim
 ·unfold T.den at h;exact h.elim
 ·unfold T.den at h;exact h.elim
theorem PcOk.agr{n k:Nat}{ρ':Env}{p:Pc}(h:PcOk P up ρ p)(ha:Agr n ρ ρ')(hb:Agr k ρ ρ')(hv:p.vals.all (RA.lt n)=true)(hr:p.res.lt k=true):PcOk P up ρ' p:=by
 refine⟨h.1,h.2.1,fun ν=>?_⟩;have:=h.2.2 ν;rw[RA.den_agr hb hr];have e:(p.vals.map fun a=>(a.den ρ' ⟨up,ν⟩ gen0).lift)=p.vals.map fun a=>(a.den ρ ⟨up,ν⟩ gen0).lift:=List.map_congr_left fun x hx=>by rw[RA.den_agr ha (List.all_eq_true.1 hv x hx)]
 rw[e];exact this
theorem Zjr{c:Cfg}{op:Opt}{ops:Array Oper}{C:Ctx}(hP:C.P=c.P)(hN:C.N=c.N)(hmx:C.P.follows .mixedOrders=true){id mm:Nat}{tl:Bool}(hcl:Zme ops (clOf ops) mm tl=true){Q:Ex->St->Prop}{K:Re->RSt->T}{n0:Nat}{ρ0:Env}{σ0:Sig}
 (hK:Zge c.P up R n0 ρ0 σ0 Q K) (hu:m.up=up) (hσ:σ0<+:σ):∀(l:List Nat){rr:RSt}{ps:List Pc}{rs:RSt}{ρ:Env},
 (∀p∈ps,PcOk c.P up ρ p/\ ∃n k,n<=rs.nv/\k<=rs.nv/\p.vals.all (RA.lt n)=true/\p.res.lt k=true)->Agr n0 ρ0 ρ->n0<=rs.nv->rs.dep=σ.length->Den ρ m rs s->
 (latP c op ops mm tl K l rr ps rs).den c.P up R ρ σ->AW C (.region id ops true) Q s
 |[],rr,ps,rs,ρ,hps,ha,hnv,hdep,hd,h=>Zue hP hN hmx hcl hK (fun p hp=>(hps p hp).1) ha hnv hu hσ hdep hd h
 |i::l,rr,ps,rs,ρ,hps,ha,hnv,hdep,hd,h=>by
  unfold latP at h;split at h
  ·split at h
   ·split at h
    ·split at h
     ·rename_i F vals hinf;split at h
      ·rename_i res k1 hres;split at h
       ·rename_i hc;simp only[Bool.and_eq_true]at hc;obtain⟨⟨⟨⟨hlt,hokr⟩,hpl⟩,hvl⟩,hrl⟩:=hc;unfold T.den at h;obtain⟨ρ',hag,hh,hk⟩:=Zce h;have hd':=hd.agr hag hlt;refine Zjr hP hN hmx hcl hK hu hσ l (ps:=⟨i,F,vals,res⟩::ps) (rs:={rs with nv:=rs.nv+k1.length}) (fun p hp=>?_) (ha.trans hag hnv) (by show n0<=rs.nv+k1.length;omega) hdep ⟨hd'.tm,hd'.al,hd'.K,hd'.nd,hd'.known⟩ hk;rcases List.mem_cons.1 hp with rfl|hp
        ·refine⟨⟨hokr,hpl,fun ν=>?_⟩,rs.nv,rs.nv+k1.length,Nat.le_add_right _ _,Nat.le_refl _,hvl,hrl⟩
         ·have:=hh ν;have e:(vals.map fun a=>(a.den ρ' ⟨up,ν⟩ gen0).lift)=vals.map fun a=>(a.den ρ ⟨up,ν⟩ gen0).lift:=List.map_congr_left fun x hx=>by rw[RA.den_agr hag (List.all_eq_true.1 hvl x hx)]
          show Holds c.P F (vals.map fun a=>(a.den ρ' ⟨up,ν⟩ gen0).lift) [] _;rw[e];simpa[Zao,Zab]using this
        ·obtain⟨h1,n,k,h2,h2',h3,h4⟩:=hps p hp;exact⟨h1.agr ((Agr.refl n ρ).trans hag h2) ((Agr.refl k ρ).trans hag h2') h3 h4,n,k,Nat.le_trans h2 (Nat.le_add_right _ _),Nat.le_trans h2' (Nat.le_add_right _ _),h3,h4⟩
       ·unfold T.den at h;exact h.elim
      ·unfold T.den at h;exact h.elim
     ·unfold T.den at h;exact h.elim
    ·exact Zjr hP hN hmx hcl hK hu hσ l hps ha hnv hdep hd h
   ·exact Zjr hP hN hmx hcl hK hu hσ l hps ha hnv hdep hd h
  ·unfold T.den at h;exact h.elim
end
end Go.Rf
end
