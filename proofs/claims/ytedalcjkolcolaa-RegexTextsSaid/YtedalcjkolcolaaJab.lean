/- Part 2 of the proof: AbWalk, AbCode, AbFn, AbAuto, AbPure, AbDraw, AbCong, AbDrawA, AbMore. -/
import Derived.Orders
import Derived.Laws.MakeOwn
import Derived.Test.YtedalcjkolcolaaJaa
set_option linter.unusedVariables false
set_option linter.unusedSimpArgs false
section
namespace Go.Ab
open Classical
inductive Ex where
 | normal
 | exit (id : Nat)
 | ret
 | pan (v : Value)
def Qc (C : Ctx) (Q : Ex -> St -> Prop) : Exit -> Act -> World -> Prop
 | .normal, a, w => ∃ s g, Rel C s g a w /\ Q .normal s
 | .exit id, a, w => ∃ s g, Rel C s g a w /\ Q (.exit id) s
 | .ret, a, w => ∃ s g, Rel C s g a w /\ Q .ret s
 | .panic chain, a, w => ∃ v, chain = [{ v, recovered := false }] /\ ∃ s g, Rel C s g a w /\ Q (.pan v) s
 | _, _, _ => False
def AW (C : Ctx) (c : Code) (Q : Ex -> St -> Prop) (s : St) : Prop := ∀ g a w, Rel C s g a w -> c.wp C.P (Qc C Q) a w
def AO (C : Ctx) (ops : Array Oper) (is : List Nat) (Q : Ex -> St -> Prop) (s : St) : Prop := ∀ g a w, Rel C s g a w -> wpOps C.P ops (Qc C Q) is a w
theorem Qc.mono {C : Ctx} {Q Q' : Ex -> St -> Prop} (h : ∀ e s, Q e s -> Q' e s) : ∀ e a w, Qc C Q e a w -> Qc C Q' e a w
 | .normal, _, _, ⟨s, g, r, q⟩ => ⟨s, g, r, h _ _ q⟩
 | .exit _, _, _, ⟨s, g, r, q⟩ => ⟨s, g, r, h _ _ q⟩
 | .ret, _, _, ⟨s, g, r, q⟩ => ⟨s, g, r, h _ _ q⟩
 | .panic _, _, _, ⟨v, e, s, g, r, q⟩ => ⟨v, e, s, g, r, h _ _ q⟩
 | .goto _, _, _, q => q.elim
 | .outgrown, _, _, q => q.elim
theorem AW.mono {C : Ctx} {c : Code} {Q Q' : Ex -> St -> Prop} {s : St} (h : AW C c Q s) (hq : ∀ e s, Q e s -> Q' e s) : AW C c Q' s := fun g a w hR => wp_mono (h g a w hR) (Qc.mono hq)
noncomputable def Za8 (ops : Array Oper) (s : St) (o : Oper) : Option Bool :=
 match o.guard with
 | none => some true
 | some (j, want) => (match ops[j]? with
   | some q => (match q.dst with
     | some t => (match s.tm t with
       | .d (.lit (.bool b)) => some (b == want)
       | .tup _ => some false
       | _ => none)
     | none => none)
   | none => none)
theorem Zdz {C : Ctx} {s : St} {g : Gh} {a : Act} {w : World} (hR : Rel C s g a w) {ops : Array Oper} {o : Oper} {b : Bool} (h : Za8 ops s o = some b) : Region.wanted o (yielded ops a.tmps) = b := by
 unfold Za8 at h
 unfold Region.wanted
 split at h
 ·rename_i hg; rw [hg]; cases h; rfl
 ·rename_i j want hg
  rw [hg]
  split at h
  ·rename_i q hq
   split at h
   ·rename_i t ht
    split at h
    ·rename_i v hv
     cases h
     have h1 := hR.slot t
     rw [hv] at h1
     have h2 : a.tmps.getD t undef = .bool v := by
      generalize a.tmps.getD t undef = z at h1
      cases h1
      rfl
     have h3 : a.tmps[t]? = some (.bool v) := by
      rw [Array.getD_eq_getD_getElem?] at h2
      cases hx : a.tmps[t]? with
      | none => rw [hx] at h2; cases h2
      | some z => rw [hx] at h2; simp at h2; rw [h2]
     simp [yielded, hq, ht, h3]
    ·rename_i l hv
     cases h
     have h1 := hR.slot t
     rw [hv] at h1
     obtain ⟨vs, h2, _⟩ := h1
     have h3 : yielded ops a.tmps j = none := by
      rw [Array.getD_eq_getD_getElem?] at h2
      cases hx : a.tmps[t]? with
      | none => simp [yielded, hq, ht, hx]
      | some z => rw [hx] at h2; simp at h2; subst h2; simp [yielded, hq, ht, hx]
     simp [h3]
    ·cases h
   ·cases h
  ·cases h
theorem Zph {C : Ctx} {ops : Array Oper} {Q : Ex -> St -> Prop} {s : St} (h : Q .normal s) : AO C ops [] Q s := fun g _ _ hR => ⟨s, g, hR, h⟩
theorem Zmc {C : Ctx} {ops : Array Oper} {Q : Ex -> St -> Prop} {s s' : St} {i : Nat} {rest : List Nat} {o : Oper} (ho : ops[i]? = some o) (hw : Za8 ops s o = some true) (he : OpOk C o s s')
 (h : AO C ops rest Q s') : AO C ops (i :: rest) Q s := by
 intro g a w hR
 simp only [wpOps, ho, Zdz hR hw, if_true]
 exact .inl (he g a w hR _ _ fun g' a' w' hR' => h g' a' w' hR')
noncomputable def St.undef (s : St) (d : Option Nat) : St :=
 match d with
 | some d => s.put d (.tup [])
 | none => s
theorem Znk {C : Ctx} {ops : Array Oper} {Q : Ex -> St -> Prop} {s : St} {i : Nat} {rest : List Nat} {o : Oper} (ho : ops[i]? = some o) (hw : Za8 ops s o = some false) (hN : ∀ d, o.dst = some d -> d < C.N)
 (h : AO C ops rest Q (s.undef o.dst)) : AO C ops (i :: rest) Q s := by
 intro g a w hR
 simp only [wpOps, ho, Zdz hR hw, Bool.false_eq_true, if_false]
 refine h g _ w ?_
 cases hd : o.dst with
 | none => exact hR
 | some d => exact hR.put (hN d hd) rfl ⟨[], rfl, trivial⟩ (fun t n e => by cases e) (fun t n sz i j e => by cases e)
noncomputable def Zw0 (P : Program) (N : Nat) (ops : Array Oper) : List Nat -> St -> List Nat × St
 | [], s => ([], s)
 | i :: rest, s => match ops[i]? with
   | none => (i :: rest, s)
   | some o => (match Za8 ops s o with
     | some true => (match Zcd P N ops s o with
       | some s' => Zw0 P N ops rest s'
       | none => (i :: rest, s))
     | some false => (match o.dst with
       | some d => if d < N then Zw0 P N ops rest (s.put d (.tup [])) else (i :: rest, s)
       | none => Zw0 P N ops rest s)
     | none => (i :: rest, s))
theorem Zz6 {C : Ctx} {ops : Array Oper} {Q : Ex -> St -> Prop} {s : St} {i : Nat} {rest : List Nat} {o : Oper} {x : Operand} {t : TypeId} {u : Value} (ho : ops[i]? = some o) (hw : Za8 ops s o = some true) (hop : o.op = .panic x)
 (hx : s.lit x = some (.iface t u)) (h : Q (.pan (.iface t u)) s) : AO C ops (i :: rest) Q s := by
 intro g a w hR
 simp only [wpOps, ho, Zdz hR hw, if_true]
 refine .inl ?_
 have hrun : (execOp a.eval o).run C.P w = .halt (.panic (.iface t u)) w := by
  simp [execOp, hop, hR.lit hx, Instr.panic]
 unfold Oper.wp
 rw [hrun]
 exact ⟨_, rfl, s, g, hR, h⟩
noncomputable def Ze0 (s : St) : List Operand -> Option (List A)
 | [] => some []
 | x :: l => match s.val x, Ze0 s l with
   | some v, some r => some (v :: r)
   | _, _ => none
theorem Zmk {C : Ctx} {s : St} {g : Gh} {a : Act} {w : World} (hR : Rel C s g a w) : ∀ {l : List Operand} {vs : List A}, Ze0 s l = some vs -> All2 (fun x v => (∀ p, RepA w g s.gen p x v) /\ x.isOwn = false) vs (l.map a.eval)
 | [], vs, h => by simp [Ze0] at h; subst h; trivial
 | x :: l, vs, h => by
   simp only [Ze0] at h
   split at h
   ·rename_i v r h1 h2
    cases h
    exact ⟨⟨fun p => (hR.val h1 p).1, (hR.val h1 .res).2.1⟩, Zmk hR h2⟩
   ·cases h
theorem Zkn {α β : Type} {R : α -> β -> Prop} : ∀ {l l' : List α} {m m' : List β}, All2 R l m -> All2 R l' m' -> All2 R (l ++ l') (m ++ m')
 | [], _, [], _, _, h => h
 | _ :: _, _, _ :: _, _, ⟨h1, h2⟩, h => ⟨h1, Zkn h2 h⟩
 | [], _, _ :: _, _, h, _ => h.elim
 | _ :: _, _, [], _, h, _ => h.elim
theorem Zti {α β γ δ : Type} {R : γ -> δ -> Prop} {f : α -> γ} {k : β -> δ} : ∀ {l : List α} {m : List β}, All2 (fun x y => R (f x) (k y)) l m -> All2 R (l.map f) (m.map k)
 | [], [], _ => trivial
 | _ :: _, _ :: _, ⟨h1, h2⟩ => ⟨h1, Zti h2⟩
 | [], _ :: _, h => h.elim
 | _ :: _, [], h => h.elim
def Znl : Ref -> Option Ref
 | .up q => some q
 | .own _ _ => none
def A.back : A -> Option A
 | .ptr (.up r) o => some (.ptr r o)
 | .ptr (.own _ _) _ => none
 | .fn f rs => (rs.mapM Znl).map (.fn f)
 | .als _ _ => none
 | .opt _ _ _ _ _ => none
 | x => some x
theorem Zw1 : ∀ {rs rs' : List Ref}, rs.mapM Znl = some rs' -> rs'.map Ref.up = rs
 | [], rs', h => by simp at h; subst h; rfl
 | r :: rs, rs', h => by
   simp only [List.mapM_cons, bind, Option.bind_eq_some_iff, pure, Option.some.injEq] at h
   obtain ⟨q, h1, rs'', h2, rfl⟩ := h
   cases r with
   | own t n => cases h1
   | up q' => cases h1; rw [List.map_cons, Zw1 h2]
theorem Zw2 {x y : A} (h : x.back = some y) : y.lift = x /\ y.plain = true /\ y.isOwn = x.isOwn := by
 unfold A.back at h
 split at h
 ·cases h; exact ⟨rfl, rfl, rfl⟩
 ·cases h
 ·rename_i f rs
  cases he : (rs.mapM Znl) with
  | none => rw [he] at h; cases h
  | some rs' => rw [he] at h; cases h; exact ⟨by simp [A.lift, Zw1 he], rfl, rfl⟩
 ·cases h
 ·cases h
 ·cases h
  rename_i h1 h2 h3 h4 h5
  cases x with
  | ptr r o => cases r with
    | own t n => exact absurd rfl (h2 t n o)
    | up q => exact absurd rfl (h1 q o)
  | fn f rs => exact absurd rfl (h3 f rs)
  | als t n => exact absurd rfl (h4 t n)
  | opt t n sz i j => exact absurd rfl (h5 t n sz i j)
  | _ => exact ⟨rfl, rfl, rfl⟩
theorem Zw3 {C : Ctx} {ops : Array Oper} {Q : Ex -> St -> Prop} {s : St} {i : Nat} {Kx : Act -> World -> Prop} {o : Oper} {fx : Operand} {args : Array Operand} {tys : Array TypeId} {F : FuncId} {caps : List Ref} {vals : List A} {d : Nat}
 {H : List (Ref × List A)} {R : Out -> List (Ref × List A) -> Prop}
 (ho : ops[i]? = some o) (hw : Za8 ops s o = some true) (hop : o.op = .call { callee := .value fx, args, argTypes := tys }) (hd : o.dst = some d) (hN : d < C.N) (hf : s.ev fx = .fn F caps) (hv : Ze0 s args.toList = some vals)
 (hK : ∀ x ∈ H, s.K x.1 = some x.2) (hnd : (H.map (·.1)).Nodup)
 (hh : Holds C.P F (vals.map A.lift ++ caps.map fun r => .ptr (.up r) 0) (Zbe H) R)
 (hret : ∀ v H', R (.ret v) H' -> ∃ v' H2, v.back = some v' /\ H' = Zbe H2 /\ H2.map (·.1) = H.map (·.1) /\ (∀ x ∈ H2, ∀ y ∈ x.2, y.plain = true) /\ ∀ g a w, Rel C ((s.setH H2).put d v') g a w -> Kx a w)
 (hpan : ∀ v H', R (.pan v) H' -> ∃ H2, H' = Zbe H2 /\ H2.map (·.1) = H.map (·.1) /\ (∀ x ∈ H2, ∀ y ∈ x.2, y.plain = true) /\ ∃ s', (∀ g a w, Rel C (s.setH H2) g a w -> Rel C s' g a w) /\ Q (.pan v) s') : ∀ g a w, Rel C s g a w -> wpOp C.P ops (Qc C Q) i Kx a w := by
 intro g a w hR
 simp only [wpOp, ho, Zdz hR hw, if_true]
 refine .inl ?_
 have hfv := hR.ev fx (by rw [hf]; rfl) .res
 rw [hf] at hfv
 have hvals := Zmk hR hv
 have hargs : All2 (fun x v => ∀ p, RepA w (g.down s.gen) (fun _ => 0) p x v) (vals.map A.lift ++ caps.map fun r => .ptr (.up r) 0)
  ((args.map a.eval) ++ (caps.map fun r => Value.pointer (some ⟨g.bx r, 0, none⟩)).toArray).toList := by
  rw [Array.toList_append]
  refine Zkn ?_ ?_
  ·have h1 : All2 (fun x v => ∀ p, RepA w (g.down s.gen) (fun _ => 0) p (A.lift x) v) vals (args.toList.map a.eval) := All2.mono (fun x v h p => (h.1 p).lift fun e => by rw [h.2] at e; cases e) hvals
   have h2 := Zti (R := fun x v => ∀ p, RepA w (g.down s.gen) (fun _ => 0) p x v) (f := A.lift) (k := id) (All2.mono (fun _ _ h => h) h1)
   simpa using h2
  ·have : ∀ (rs : List Ref), (∀ r ∈ rs, RefOk g s.gen r) -> All2 (fun x v => ∀ p, RepA w (g.down s.gen) (fun _ => 0) p x v) (rs.map fun r => A.ptr (.up r) 0) (rs.map fun r => Value.pointer (some ⟨g.bx r, 0, none⟩)) := by
    intro rs
    induction rs with
    | nil => intro _; trivial
    | cons r rs ih => exact fun h => ⟨fun p => ⟨rfl, h r (List.mem_cons_self ..)⟩, ih fun q hq => h q (List.mem_cons_of_mem _ hq)⟩
   simpa using this caps hfv.2
 have hcall := hh w _ (g.down s.gen) hargs (hR.down hK)
 have hrun : (execOp a.eval o).run C.P w = (callFunc F ((args.map a.eval) ++ (caps.map fun r => Value.pointer (some ⟨g.bx r, 0, none⟩)).toArray)).run C.P w := by
  simp only [execOp, hop, resolve, hfv.1, Deferred.ofValue, Sem.run_bind, Sem.run_pure, Result.andThen_ok, invoke, Array.empty_append]
 unfold Oper.wp
 rw [hrun]
 have hback : ∀ e w', (∃ out H' g', R out H' /\ H'.map (·.1) = (Zbe H).map (·.1) /\ HeapRel (Zah C.P w (g.down s.gen) (Zbe H) 0) (Zay H') g' w' /\ Ztg (Zah C.P w (g.down s.gen) (Zbe H) 0) (Zay H') g' w' out e) ->
  match e with
  | .returned v => Kx (a.put o.dst v) w'
  | .panicked chain => Qc C Q (.panic chain) a w'
  | .outgrown => False := by
  rintro e w' ⟨out, H', g', hR', _, hH, hE⟩
  cases out with
  | ret v =>
    obtain ⟨v', H2, hb, rfl, hfst, hpl, hgo⟩ := hret v H' hR'
    obtain ⟨cv, rfl, hcv, hown⟩ := hE
    have hB := hR.back hK hnd hfst hpl hH
    obtain ⟨e1, e2, e3⟩ := Zw2 hb
    subst e1
    show Kx (a.put o.dst cv) w'
    rw [hd]
    by_cases hvo : v'.isOwn = true
    ·cases v' <;> simp [A.isOwn] at hvo
     rename_i sz es nw
     obtain ⟨cap, cs, how⟩ := hcv
     obtain ⟨hf1, hf2⟩ := hown rfl
     have hf2' : w.heap.size <= g'.ow .res \/ ∃ o, Owns (Zay (Zbe H)) (g.down s.gen) o (g'.ow .res) := hf2
     exact hgo _ _ _ (hB.rel.putOwn hN (hB.free _ hf1 hf2') (hB.wr _ hf2') how)
    ·have hvo' : v'.isOwn = false := by simpa using hvo
     refine hgo (g.back g' H) _ _ (hB.rel.put hN hvo' ?_ (fun t n e => by subst e; cases e2) (fun t n sz i j e => by subst e; cases e2))
     exact hcv.unlift (g := g) rfl hB.bx hB.uok rfl fun e => by rw [hvo'] at e; cases e
  | pan v =>
    obtain ⟨H2, rfl, hfst, hpl, s2, hs2, hgo⟩ := hpan v H' hR'
    cases hE
    have hB := hR.back hK hnd hfst hpl hH
    exact ⟨v, rfl, _, _, hs2 _ _ _ hB.rel, hgo⟩
 unfold CallsX at hcall
 split at hcall
 ·rename_i f' args' w1 hc
  rw [hc]
  refine hcall.mono fun e w' he => ?_
  have := hback e w' he
  cases e with
  | returned v => exact this
  | panicked c => exact this
  | outgrown => exact this.elim
 ·rename_i v w1 hc
  rw [hc]
  exact hback _ _ hcall
 ·rename_i row args' w1 hc
  rw [hc]
  exact hcall.mono fun v w' he => hback _ _ he
 ·exact hcall.elim
theorem Zw4 {C : Ctx} {ops : Array Oper} {Q : Ex -> St -> Prop} {s : St} {i : Nat} {rest : List Nat} {o : Oper} {fx : Operand} {args : Array Operand} {tys : Array TypeId} {F : FuncId} {caps : List Ref} {vals : List A} {d : Nat}
 {H : List (Ref × List A)} {R : Out -> List (Ref × List A) -> Prop}
 (ho : ops[i]? = some o) (hw : Za8 ops s o = some true) (hop : o.op = .call { callee := .value fx, args, argTypes := tys }) (hd : o.dst = some d) (hN : d < C.N) (hf : s.ev fx = .fn F caps) (hv : Ze0 s args.toList = some vals)
 (hK : ∀ x ∈ H, s.K x.1 = some x.2) (hnd : (H.map (·.1)).Nodup)
 (hh : Holds C.P F (vals.map A.lift ++ caps.map fun r => .ptr (.up r) 0) (Zbe H) R)
 (hret : ∀ v H', R (.ret v) H' -> ∃ v' H2, v.back = some v' /\ H' = Zbe H2 /\ H2.map (·.1) = H.map (·.1) /\ (∀ x ∈ H2, ∀ y ∈ x.2, y.plain = true) /\ AO C ops rest Q ((s.setH H2).put d v'))
 (hpan : ∀ v H', R (.pan v) H' -> ∃ H2, H' = Zbe H2 /\ H2.map (·.1) = H.map (·.1) /\ (∀ x ∈ H2, ∀ y ∈ x.2, y.plain = true) /\ Q (.pan v) (s.setH H2)) : AO C ops (i :: rest) Q s := by
 intro g a w hR
 rw [wpOps_cons]
 exact Zw3 ho hw hop hd hN hf hv hK hnd hh hret (fun v H' hr => let ⟨H2, e1, e2, e3, e4⟩ := hpan v H' hr; ⟨H2, e1, e2, e3, _, (fun _ _ _ h => h), e4⟩) g a w hR
end Go.Ab
end
section
namespace Go.Ab
open Classical
theorem Zw5 {C : Ctx} {id : Nat} {ops : Array Oper} {Q : Ex -> St -> Prop} {s : St} (h : AO C ops (List.range ops.size) Q s) : AW C (.region id ops false) Q s :=
 fun g a w hR => wp_region (h g a w hR)
theorem Z3d {C : Ctx} {Q : Ex -> St -> Prop} {s : St} (h : Q .normal s) : AW C .skip Q s := fun g _ _ hR => wp_skip ⟨s, g, hR, h⟩
theorem Zz7 {C : Ctx} {Q : Ex -> St -> Prop} {s : St} {l : Nat} (h : Q .normal s) : AW C (.label l) Q s := fun g _ _ hR => wp_label ⟨s, g, hR, h⟩
theorem Z3e {C : Ctx} {Q : Ex -> St -> Prop} {s : St} {id : Nat} (h : Q (.exit id) s) : AW C (.exit id) Q s := fun g _ _ hR => wp_exit ⟨s, g, hR, h⟩
theorem Z5s {C : Ctx} {Q : Ex -> St -> Prop} {s : St} (h : Q .ret s) : AW C .ret Q s := fun g _ _ hR => wp_ret ⟨s, g, hR, h⟩
def Ex.then (next : St -> Prop) (Q : Ex -> St -> Prop) : Ex -> St -> Prop
 | .normal, s => next s
 | e, s => Q e s
theorem Z2j {C : Ctx} {x y : Code} {Q : Ex -> St -> Prop} {s : St} (h : AW C x (Ex.then (AW C y Q) Q) s) : AW C (.seq x y) Q s := by
 intro g a w hR
 refine wp_seq (wp_mono (h g a w hR) fun e a w hq => ?_)
 cases e with
 | normal => obtain ⟨s', g', hR', h'⟩ := hq; exact h' g' a w hR'
 | exit id => exact hq
 | goto l => exact hq
 | ret => exact hq
 | panic c => exact hq
 | outgrown => exact hq
theorem Z3f {C : Ctx} {c : Operand} {x y : Code} {Q : Ex -> St -> Prop} {s : St} {t : Bool} (hc : s.ev c = .d (.lit (.bool t))) (h1 : t = true -> AW C x Q s) (h2 : t = false -> AW C y Q s) : AW C (.cond c x y) Q s := by
 intro g a w hR
 have : a.eval c = .bool t := hR.lit (by unfold St.lit; rw [hc])
 exact wp_cond_split this (fun e => h1 e g a w hR) (fun e => h2 e g a w hR)
def Ex.inBlock (id : Nat) (Q : Ex -> St -> Prop) : Ex -> St -> Prop
 | .exit id', s => if id' = id then Q .normal s else Q (.exit id') s
 | e, s => Q e s
theorem Zz8 {C : Ctx} {id : Nat} {c : Code} {Q : Ex -> St -> Prop} {s : St} (h : AW C c (Ex.inBlock id Q) s) : AW C (.block id c) Q s := by
 intro g a w hR
 refine wp_block (wp_mono (h g a w hR) fun e a w hq => ?_)
 cases e with
 | normal => exact hq
 | exit id' =>
   obtain ⟨s', g', hR', h'⟩ := hq
   simp only [Ex.inBlock] at h'
   simp only [Exit.inBlock]
   split
   ·rename_i e; rw [if_pos e] at h'; exact ⟨s', g', hR', h'⟩
   ·rename_i e; rw [if_neg e] at h'; exact ⟨s', g', hR', h'⟩
 | goto l => exact hq
 | ret => exact hq
 | panic c => exact hq
 | outgrown => exact hq
theorem Znm {P : Program} {Q : Exit -> Act -> World -> Prop} {X : Type} {c : Code} (I : X -> Act -> World -> Prop) (μ : X -> Nat)
 (round : ∀ x a w, I x a w -> c.wp P (Exit.then (fun a' w' => ∃ x', I x' a' w' /\ μ x' < μ x) Q) a w) {x : X} {a : Act} {w : World} (h₀ : I x a w) : (Code.loop c).wp P Q a w := by
 intro b k cs
 have key : ∀ n x a w, μ x = n -> I x a w -> ∃ e a' w', Q e a' w' /\ Arrives P (lone (b.at a (.code c :: .inLoop c :: k)) cs w) b k cs e a' w' := by
  intro n
  induction n using Nat.strongRecOn with
  | _ n ih =>
    intro x a w hn hI
    obtain ⟨e, a₁, w₁, hq, harr⟩ := round x a w hI b (.inLoop c :: k) cs
    cases e with
    | normal =>
      obtain ⟨x', hI₁, hlt⟩ := hq
      obtain ⟨e₂, a₂, w₂, hq₂, harr₂⟩ := ih (μ x') (hn ▸ hlt) x' a₁ w₁ rfl hI₁
      exact ⟨e₂, a₂, w₂, hq₂, .of_steps (Steps.trans harr (.one step_inLoop)) harr₂⟩
    | exit id => exact ⟨_, a₁, w₁, hq, .pass (x := .inLoop c) rfl (fun _ _ => .inl (by simp)) harr⟩
    | goto l => exact ⟨_, a₁, w₁, hq, .pass (x := .inLoop c) rfl (fun _ _ => .inl (by simp)) harr⟩
    | ret => exact ⟨_, a₁, w₁, hq, .pass (x := .inLoop c) rfl (fun _ _ => .inl (by simp)) harr⟩
    | panic ch => exact ⟨_, a₁, w₁, hq, .pass (x := .inLoop c) rfl (fun _ _ => .inl (by simp)) harr⟩
    | outgrown => exact ⟨_, a₁, w₁, hq, .pass (x := .inLoop c) rfl (fun _ _ => .inl (by simp)) harr⟩
 obtain ⟨e, a', w', hq, harr⟩ := key _ x a w rfl h₀
 exact ⟨e, a', w', hq, .of_steps (.one step_loop) harr⟩
structure Weaker (s s' : St) : Prop where
 gen : s.gen = s'.gen
 tm : ∀ t, s.tm t = .any \/ s.tm t = s'.tm t
 K : ∀ r c, s.K r = some c -> s'.K r = some c
 als : ∀ u t n, s.tm u = .als t n -> s.tm t = s'.tm t
 opt : ∀ u t n m i j, s.tm u = .opt t n m i j -> s.tm t = s'.tm t
theorem Weaker.refl (s : St) : Weaker s s := ⟨rfl, fun _ => .inr rfl, fun _ _ h => h, fun _ _ _ _ => rfl, fun _ _ _ _ _ _ _ => rfl⟩
theorem Rel.weaken {C : Ctx} {s s' : St} {g : Gh} {a : Act} {w : World} (h : Rel C s' g a w) (hw : Weaker s s') : Rel C s g a w := by
 have hown : ∀ {t}, (s.tm t).isOwn = true -> (s'.tm t).isOwn = true := fun {t} ht => by
  rcases hw.tm t with e | e
  ·rw [e] at ht; cases ht
  ·rw [<- e]; exact ht
 have old : ∀ {o b}, Owns s g o b -> Owns s' g o b := fun {o b} ho => by
  cases ho with
  | box h1 => exact .box (hw.K _ _ h1)
  | slot h1 => exact .slot (hown h1)
  | cell h1 h2 h3 => exact .cell (hw.K _ _ h1) h2 h3
 refine ⟨h.defers, h.size, fun t => ?_, fun u t n hu => ?_, fun u t n m i j hu => ?_, ?_⟩
 ·rcases hw.tm t with e | e
  ·rw [e]; trivial
  ·rw [e, hw.gen]; exact h.slot t
 ·rcases hw.tm u with e | e
  ·rw [e] at hu; cases hu
  ·have := h.als u t n (by rw [<- e]; exact hu)
   rw [hw.gen, hw.als u t n hu]; exact this
 ·rcases hw.tm u with e | e
  ·rw [e] at hu; cases hu
  ·have := h.opt u t n m i j (by rw [<- e]; exact hu)
   rw [hw.gen, hw.opt u t n m i j hu]; exact this
 ·refine ⟨fun r c hc => ?_, fun o o' b h1 h2 => h.heap.inj o o' b (old h1) (old h2), fun o b h1 => h.heap.wr o b (old h1), h.heap.prs, h.heap.pr0, h.heap.prn, h.heap.up, h.heap.uu, h.heap.fr⟩
  have := h.heap.box r c (hw.K r c hc)
  rw [hw.gen]; exact this
theorem Zw6 {C : Ctx} {c : Code} {Q : Ex -> St -> Prop} {s s' : St} (hw : Weaker s s') (h : AW C c Q s) : AW C c Q s' := fun g a w hR => h g a w (hR.weaken hw)
theorem Z3g {C : Ctx} {c : Code} {Q : Ex -> St -> Prop} {X : Type} (S : X -> St) (μ : X -> Nat) (I : X -> Prop) {s : St} (x : X) (hI : I x) (h0 : Weaker (S x) s)
 (round : ∀ x, I x -> AW C c (Ex.then (fun s' => ∃ x', I x' /\ Weaker (S x') s' /\ μ x' < μ x) Q) (S x)) : AW C (.loop c) Q s := by
 intro g a w hR
 refine Znm (fun x a w => I x /\ ∃ g, Rel C (S x) g a w) μ (fun x a w hI' => ?_) (x := x) ⟨hI, g, hR.weaken h0⟩
 obtain ⟨hI', g', hR'⟩ := hI'
 refine wp_mono (round x hI' g' a w hR') fun e a w hq => ?_
 cases e with
 | normal =>
   obtain ⟨s', g'', hR'', x', h1, h2, h3⟩ := hq
   exact ⟨x', ⟨h1, g'', hR''.weaken h2⟩, h3⟩
 | exit id => exact hq
 | goto l => exact hq
 | ret => exact hq
 | panic c => exact hq
 | outgrown => exact hq
theorem Z5t {C : Ctx} {x y : Code} {Q : Ex -> St -> Prop} {s : St} (X : Type) (S : X -> St) (I : X -> Prop) (h1 : AW C x (Ex.then (fun s' => ∃ x, I x /\ Weaker (S x) s') Q) s) (h2 : ∀ x, I x -> AW C y Q (S x)) :
 AW C (.seq x y) Q s :=
 Z2j (h1.mono fun e s' hq => by
  cases e with
  | normal => obtain ⟨x, hx, hw⟩ := hq; exact Zw6 hw (h2 x hx)
  | exit id => exact hq
  | ret => exact hq
  | pan v => exact hq)
theorem Rel.commit {C : Ctx} {s : St} {g : Gh} {a : Act} {w : World} (h : Rel C s g a w) {t m : Nat} {es nw : List (List D)} (hN : t < C.N) (ht : s.tm t = .own m es nw) :
 ∃ g', Rel C ((s.reset t .any).put t (.own m (es ++ nw) [])) g' a w := by
 obtain ⟨cap, cs, ho⟩ := h.own ht
 have hown : Owns s g (.slot t) (g.ow (.slot t)) := .slot (by rw [ht]; rfl)
 have hfree := h.reset_free (t := t) (by rw [ht]; rfl)
 have hsz : (es ++ nw).length = es.length + nw.length := List.length_append
 obtain ⟨g', hg'⟩ := OpOk.append_core (a := a) (es := es ++ nw) (nw := []) (m := m) hN hfree (h.heap.wr _ _ hown) (h.reset t) (v := a.tmps.getD t undef) (by rw [ho.val, hsz]; rfl) ho.row ho.pos ho.size
  (by rw [hsz]; exact ho.room) (fun z hz => ho.len z (by simpa using hz)) (by rw [List.append_nil]; exact ho.elems) (fun k hk => Nat.lt_of_lt_of_le ((ho.prot k).1 hk) (Nat.mul_le_mul_right _ (by rw [hsz]; omega)))
 rw [Ztc (by rw [h.size]; exact hN)] at hg'
 exact ⟨g', hg'⟩
theorem Zw7 {C : Ctx} {c : Code} {Q : Ex -> St -> Prop} {s : St} (t : Nat) {m : Nat} {es nw : List (List D)} (hN : t < C.N) (ht : s.tm t = .own m es nw) (h : AW C c Q ((s.reset t .any).put t (.own m (es ++ nw) []))) : AW C c Q s :=
 fun _ a w hR => let ⟨g', hR'⟩ := hR.commit hN ht; h g' a w hR'
def Za2 : A -> Bool
 | .ptr (.own _ _) _ => false
 | .fn _ rs => rs.all fun r => match r with | .up _ => true | .own _ _ => false
 | .als _ _ => false
 | .opt _ _ _ _ _ => false
 | _ => true
noncomputable def Zdr (P : Program) (s : St) : ResultVar -> Option A
 | .tmp t => (match s.tm t with
   | .own sz es nw => some (.own sz es nw)
   | _ => s.val (.tmp t))
 | .cell t ty => Zfy P s ty (s.tm t)
def Zhw : A -> Option (Bool × List D)
 | .d x => some (false, [x])
 | .agg l => some (true, l)
 | .zs es => some (false, [.slc es])
 | .own _ es [] => some (false, [.slc es])
 | _ => none
noncomputable def resA (P : Program) (s : St) (rs : List ResultVar) : Option A :=
 match rs with
 | [r] => Zdr P s r
 | rs => ((rs.mapM (Zdr P s)).bind fun vs => vs.mapM Zhw).map .tup
theorem Zvq {w : World} {g : Gh} {gen : Nat -> Nat} {p : Place} {x : A} {c : Bool × List D} {v : Value} (h : Zhw x = some c) (hr : RepA w g gen p x v) : RepT w g.Pr c v := by
 unfold Zhw at h
 split at h <;> cases h
 ·exact ⟨_, rfl, hr⟩
 ·exact hr
 ·exact ⟨_, rfl, hr.1⟩
 ·obtain ⟨cap, cs, ho⟩ := hr; exact ⟨_, rfl, ho.repD⟩
def Ztj (tmps : Array Value) : ResultVar -> Sem Value
 | .tmp t => pure (tmps.getD t undef)
 | .cell a t => do loadVar t (<- asAddr (tmps.getD a undef))
theorem Zvr (fn : Func) (tmps : Array Value) : results fn tmps = (do
 let vs <- fn.results.mapM (Ztj tmps)
 pure (if h : vs.size = 1 then vs[0] else .tuple vs)) := by
 unfold results
 congr 1
theorem Zpi {C : Ctx} {s : St} {g : Gh} {a : Act} {w : World} (hR : Rel C s g a w) {r : ResultVar} {v : A} (h : Zdr C.P s r = some v) :
 ∃ cv, (Ztj a.tmps r).run C.P w = .ok cv w /\
   ∃ p, RepA w g s.gen p v cv /\ (v.isOwn = true -> ∃ t, p = .slot t /\ Owns s g (.slot t) (g.ow p)) := by
 cases r with
 | tmp t =>
   simp only [Zdr] at h
   refine ⟨a.tmps.getD t undef, rfl, ?_⟩
   split at h
   ·rename_i sz es nw ht
    cases h
    have := hR.slot t
    rw [ht] at this
    exact ⟨.slot t, this, fun _ => ⟨t, rfl, .slot (by rw [ht]; rfl)⟩⟩
   ·obtain ⟨h1, h2, _⟩ := hR.val h .res
    exact ⟨.res, h1, fun e => by rw [h2] at e; cases e⟩
 | cell t ty =>
   simp only [Zdr] at h
   obtain ⟨v', h1, h2, h3, _⟩ := Zo5 (p := .tmp t) hR h .res
   refine ⟨v', ?_, .res, h2, fun e => by rw [h3] at e; cases e⟩
   have e : a.eval (.tmp t) = a.tmps.getD t undef := rfl
   rw [e] at h1
   generalize hz : a.tmps.getD t undef = z at h1
   simp only [Ztj, hz]
   cases z with
   | pointer q =>
     cases q with
     | some b => simpa [Instr.loadAt, Instr.sureAddr, asAddr] using h1
     | none => simp [Instr.loadAt, Instr.sureAddr] at h1
   | _ => simp [Instr.loadAt, Instr.sureAddr] at h1
theorem Zfg {C : Ctx} {s : St} {g : Gh} {a : Act} {w : World} (hR : Rel C s g a w) {fn : Func} {v : A} (h : resA C.P s fn.results.toList = some v) :
 ∃ cv, (results fn a.tmps).run C.P w = .ok cv w /\ ∃ p, RepA w g s.gen p v cv /\ (v.isOwn = true -> ∃ t, p = .slot t /\ Owns s g (.slot t) (g.ow p)) := by
 have hm : ∀ (rs : List ResultVar) (vs : List A), rs.mapM (Zdr C.P s) = some vs -> ∃ cvs : List Value,
  (rs.mapM (Ztj a.tmps)).run C.P w = .ok cvs w /\
  All2 (fun v cv => ∃ p, RepA w g s.gen p v cv) vs cvs := by
  intro rs
  induction rs with
  | nil => intro vs h; simp at h; subst h; exact ⟨[], by simp, trivial⟩
  | cons r rs ih =>
    intro vs h
    simp only [List.mapM_cons, bind, Option.bind_eq_some_iff, pure, Option.some.injEq] at h
    obtain ⟨v, h1, vs', h2, rfl⟩ := h
    obtain ⟨cv, k1, p, k2, _⟩ := Zpi hR h1
    obtain ⟨cvs, k3, k4⟩ := ih vs' h2
    refine ⟨cv :: cvs, ?_, ⟨⟨p, k2⟩, k4⟩⟩
    rw [List.mapM_cons]
    simp only [Sem.run_bind, k1, k3, Result.andThen_ok, Sem.run_pure]
 rw [Zvr, Array.mapM_eq_mapM_toList]
 unfold resA at h
 split at h
 ·rename_i r hr
  obtain ⟨cv, k1, p, k2, k3⟩ := Zpi hR h
  refine ⟨cv, ?_, p, k2, k3⟩
  rw [hr]
  simp only [List.mapM_cons, List.mapM_nil, map_bind, Sem.run_bind, Sem.run_map, Sem.run_pure, Result.andThen_ok]
  simp [k1]
 ·rename_i rs hne
  cases hv : fn.results.toList.mapM (Zdr C.P s) with
  | none => rw [hv] at h; cases h
  | some vs =>
    rw [hv] at h
    simp only [Option.bind_some] at h
    cases hc : vs.mapM Zhw with
    | none => rw [hc] at h; cases h
    | some cs =>
      rw [hc] at h
      cases h
      obtain ⟨cvs, k1, k2⟩ := hm _ _ hv
      have hlen : vs.length = fn.results.toList.length := by
       have : ∀ (rs : List ResultVar) (vs : List A), rs.mapM (Zdr C.P s) = some vs -> vs.length = rs.length := by
        intro rs
        induction rs with
        | nil => intro vs h; simp at h; subst h; rfl
        | cons r rs ih =>
          intro vs h
          simp only [List.mapM_cons, bind, Option.bind_eq_some_iff, pure, Option.some.injEq] at h
          obtain ⟨v, h1, vs', h2, rfl⟩ := h
          simp [ih vs' h2]
       exact this _ _ hv
      have hlen2 := Zbi k2
      refine ⟨.tuple cvs.toArray, ?_, .res, ⟨cvs, rfl, ?_⟩, fun e => by cases e⟩
      ·simp only [Sem.run_bind, Sem.run_map, k1, Result.andThen_ok, Sem.run_pure]
       have : ¬ (cvs.toArray.size = 1) := by
        simp only [List.size_toArray, <- hlen2, hlen]
        intro e1
        obtain ⟨r, hr⟩ := List.length_eq_one_iff.1 e1
        exact hne r hr
       rw [dif_neg this]
      ·clear hv hlen hlen2 k1
       induction vs generalizing cs cvs with
       | nil =>
         simp at hc
         subst hc
         cases cvs with
         | nil => trivial
         | cons _ _ => exact k2.elim
       | cons x vs ih =>
         cases cvs with
         | nil => exact k2.elim
         | cons y cvs =>
           simp only [List.mapM_cons, bind, Option.bind_eq_some_iff, pure, Option.some.injEq] at hc
           obtain ⟨c1, hc1, cs', hc2, rfl⟩ := hc
           obtain ⟨⟨p, k3⟩, k4⟩ := k2
           exact ⟨Zvq hc1 k3, ih cs' hc2 cvs k4⟩
end Go.Ab
end
section
namespace Go.Ab
open Classical
noncomputable def Zf3 (args : List A) (H : List (Ref × List A)) : St := ⟨fun t => (args[t]?).getD .any, kOf H, fun _ => 0⟩
def Left (s : St) (H H' : List (Ref × List A)) : Prop := H'.map (·.1) = H.map (·.1) /\ ∀ x ∈ H', s.K x.1 = some x.2 /\ x.2.all Za2 = true
def Z5u (P : Program) (fn : Func) (H : List (Ref × List A)) (R : Out -> List (Ref × List A) -> Prop) : Ex -> St -> Prop
 | .normal, s => ∃ v H', resA P s fn.results.toList = some v /\ Za2 v = true /\ Left s H H' /\ R (.ret v) H'
 | .ret, s => ∃ v H', resA P s fn.results.toList = some v /\ Za2 v = true /\ Left s H H' /\ R (.ret v) H'
 | .pan u, s => ∃ H', Left s H H' /\ R (.pan u) H'
 | .exit _, _ => False
theorem RepA.gen0 {w : World} {g : Gh} {gen : Nat -> Nat} {p p' : Place} {x : A} {v : Value} (h : RepA w g gen p x v) (hx : Za2 x = true) (hp : x.isOwn = true -> g.ow p' = g.ow p) : RepA w g (fun _ => 0) p' x v := by
 cases x with
 | any => trivial
 | d x => exact h
 | agg l => exact h
 | tup l => exact h
 | ptr r off =>
   refine ⟨h.1, ?_⟩
   cases r with
   | own t n => cases hx
   | up r => exact h.2
 | elp l => exact h
 | own sz es nw => obtain ⟨cap, cs, h1⟩ := h; exact ⟨cap, cs, by rw [hp rfl]; exact h1⟩
 | zs es => exact h
 | als t n => trivial
 | opt t n sz i j => trivial
 | fn f rs =>
   refine ⟨h.1, fun r hr => ?_⟩
   have h1 := h.2 r hr
   simp only [Za2, List.all_eq_true] at hx
   have := hx r hr
   cases r with
   | own t n => cases this
   | up r => exact h1
theorem Zeh {P : Program} {f : FuncId} {fn : Func} {c : Code} (hf : P.funcs[f]? = some fn) (hb : fn.body = some c) (hn : (fn.name == "runtime.NumGoroutine") = false) (args : Array Value) (w : World) :
 (callFunc f args).run P w = .ok (.enter f args) w := by
 have hn' : ¬ fn.name = "runtime.NumGoroutine" := by simpa using hn
 simp [callFunc, hf, hb, hn']
theorem HeapRel.out {C : Ctx} {P : Program} {w : World} {g : Gh} {H H' : List (Ref × List A)} {N : Nat} {s : St} {g' : Gh} {w' : World} (hC : C = Zah P w g H N) (h : HeapRel C s g' w') (hnd : (H.map (·.1)).Nodup)
 (hup : ∀ r ∈ H.map (·.1), ∃ q, r = .up q) (hL : Left s H H') :
 HeapRel (Zah P w g H 0) (Zay H') g' w' /\ ∀ {o b}, Owns (Zay H') g' o b -> Owns s g' o b /\ ∀ t, o ≠ .slot t := by
 have hnd' : (H'.map (·.1)).Nodup := by rw [hL.1]; exact hnd
 have hin : ∀ {r c}, kOf H' r = some c -> s.K r = some c /\ c.all Za2 = true := fun {r c} hc => hL.2 (r, c) (Zff hc)
 have old : ∀ {o b}, Owns (Zay H') g' o b -> Owns s g' o b /\ ∀ t, o ≠ .slot t := fun {o b} ho => by
  cases ho with
  | box h1 => exact ⟨.box (hin h1).1, fun t e => by cases e⟩
  | slot h1 => cases h1
  | cell h1 h2 h3 => exact ⟨.cell (hin h1).1 h2 h3, fun t e => by cases e⟩
 subst hC
 refine ⟨⟨fun r c hc => ?_, fun o o' b h1 h2 => h.inj o o' b (old h1).1 (old h2).1, fun o b h1 => h.wr o b (old h1).1, h.prs, h.pr0, h.prn, h.up, h.uu, h.fr⟩, old⟩
 obtain ⟨hK, hno⟩ := hin hc
 obtain ⟨cs, k1, k2, k3, k4, k5⟩ := h.box r c hK
 refine ⟨cs, k1, k2, fun j y hy => ?_, k4, ?_⟩
 ·obtain ⟨k6, v, k7, k8⟩ := k3 j y hy
  exact ⟨k6, v, k7, k8.gen0 (List.all_eq_true.1 hno y (List.mem_of_getElem? hy)) fun _ => rfl⟩
 ·have hm : r ∈ H'.map (·.1) := Zdx.1 ⟨c, hc⟩
  rw [hL.1] at hm
  obtain ⟨q, rfl⟩ := hup r hm
  exact k5
theorem Znn {P : Program} {args : List A} {H : List (Ref × List A)} {N : Nat} {w : World} {cargs : Array Value} {g : Gh} (hlen : args.length <= N) (hplain : ∀ x ∈ args, x.isOwn = false /\ x.plain = true)
 (hargs : All2 (fun x v => ∀ p, RepA w g (fun _ => 0) p x v) args cargs.toList) (hheap : HeapRel (Zah P w g H 0) (Zay H) g w) :
 Rel (Zah P w g H N) (Zf3 args H) g { tmps := cargs ++ Array.replicate (N - cargs.size) undef, defers := [] } w := by
 have hal := Zbi hargs
 simp only [Array.length_toList] at hal
 have hup : ∀ r ∈ H.map (·.1), ∃ q, r = .up q := fun r hr => by
  obtain ⟨c', hc'⟩ := Zdx.2 hr
  obtain ⟨_, _, _, _, _, h5⟩ := hheap.box r c' hc'
  cases r with
  | own t n => exact absurd h5 (Nat.not_lt_zero _)
  | up q => exact ⟨q, rfl⟩
 have hplain' : ∀ t : Nat, ((args[t]?).getD A.any).isOwn = false /\ ((args[t]?).getD A.any).plain = true := fun t => by
  cases hx : args[t]? with
  | none => exact ⟨rfl, rfl⟩
  | some x => exact hplain x (List.mem_of_getElem? hx)
 have old : ∀ {o b}, Owns (Zf3 args H) g o b -> Owns (Zay H) g o b := fun {o b} ho => by
  cases ho with
  | box h1 => exact .box h1
  | @slot t h1 =>
    have := (hplain' t).1
    simp only [Zf3] at h1
    rw [this] at h1; cases h1
  | cell h1 h2 h3 => exact .cell h1 h2 h3
 refine ⟨rfl, ?_, fun t => ?_, fun u t n hu => ?_, fun u t n m i j hu => ?_, ?_⟩
 ·show (cargs ++ Array.replicate (N - cargs.size) undef).size = N
  simp only [Array.size_append, Array.size_replicate]; omega
 ·show RepA w g (fun _ => 0) (.slot t) ((args[t]?).getD .any) _
  cases hx : args[t]? with
  | none => trivial
  | some x =>
    obtain ⟨v, h1, h2⟩ := Zbu hargs t x hx
    have ht : t < cargs.size := by
     have := (List.getElem?_eq_some_iff.1 h1).1
     simpa using this
    have e : (cargs ++ Array.replicate (N - cargs.size) undef).getD t undef = v := by
     rw [Array.getD_eq_getD_getElem?, Array.getElem?_append_left ht]
     rw [Array.getElem?_toList] at h1
     rw [h1]; rfl
    show RepA w g (fun _ => 0) (.slot t) x ((cargs ++ Array.replicate (N - cargs.size) undef).getD t undef)
    rw [e]; exact h2 _
 ·have := (hplain' u).2
  simp only [Zf3] at hu
  rw [hu] at this; cases this
 ·have := (hplain' u).2
  simp only [Zf3] at hu
  rw [hu] at this; cases this
 ·refine ⟨fun r c' hc' => hheap.box r c' hc', fun o o' b h1 h2 => hheap.inj o o' b (old h1) (old h2), fun o b h1 => .inr ⟨o, old h1⟩, hheap.prs, fun _ _ h => h, fun _ _ h => .inl h, fun _ => rfl, fun _ h => h, Fr.refl _ _ _⟩
theorem Zz9 {P : Program} {f : FuncId} {fn : Func} {c : Code} {args : List A} {H : List (Ref × List A)} {R : Out -> List (Ref × List A) -> Prop} (hf : P.funcs[f]? = some fn) (hb : fn.body = some c)
 (hn : (fn.name == "runtime.NumGoroutine") = false) (hlen : args.length <= fn.ntmps) (hnd : (H.map (·.1)).Nodup) (hplain : ∀ x ∈ args, x.isOwn = false /\ x.plain = true)
 (hw : ∀ C : Ctx, C.P = P -> C.N = fn.ntmps -> AW C c (Z5u P fn H R) (Zf3 args H)) : Holds P f args H R := by
 intro w cargs g hargs hheap
 unfold CallsX
 rw [Zeh hf hb hn]
 refine calls_of_wp hf hb ?_
 have hup : ∀ r ∈ H.map (·.1), ∃ q, r = .up q := fun r hr => by
  obtain ⟨c', hc'⟩ := Zdx.2 hr
  obtain ⟨_, _, _, _, _, h5⟩ := hheap.box r c' hc'
  cases r with
  | own t n => exact absurd h5 (Nat.not_lt_zero _)
  | up q => exact ⟨q, rfl⟩
 have hR := Znn (N := fn.ntmps) hlen hplain hargs hheap
 have hwalk := hw (Zah P w g H fn.ntmps) rfl rfl g _ w hR
 refine wp_mono hwalk fun e a w' hq => ?_
 have fin : ∀ s g', Rel (Zah P w g H fn.ntmps) s g' a w' -> (∃ v H', resA P s fn.results.toList = some v /\ Za2 v = true /\ Left s H H' /\ R (.ret v) H') ->
  a.defers = [] /\ ∃ v, (results fn a.tmps).run P w' = .ok v w' /\ ∃ out H' g', R out H' /\ H'.map (·.1) = H.map (·.1) /\ HeapRel (Zah P w g H 0) (Zay H') g' w' /\ Ztg (Zah P w g H 0) (Zay H') g' w' out (.returned v) := by
  rintro s g' hR' ⟨v, H', h1, h2, h3, h4⟩
  obtain ⟨cv, k1, p, k2, k3⟩ := Zfg (C := Zah P w g H fn.ntmps) (fn := fn) hR' h1
  obtain ⟨k4, k5⟩ := HeapRel.out rfl hR'.heap hnd hup h3
  have e1 : ∀ {o b}, Owns (Zay H') (g'.give .res (g'.ow p)) o b -> Owns (Zay H') g' o b := fun {o b} ho => by
   cases ho with
   | box h1 => exact .box h1
   | slot h1 => cases h1
   | @cell r c j x h1 h2 h3 =>
     have : (g'.give .res (g'.ow p)).ow (.cell r j) = g'.ow (.cell r j) := Zal _ _ (fun e => by cases e)
     rw [this]; exact .cell h1 h2 h3
  refine ⟨hR'.defers, cv, k1, .ret v, H', g'.give .res (g'.ow p), h4, h3.1, ?_, cv, rfl, ?_, fun ho => ?_⟩
  ·
   refine ⟨fun r c hc => ?_, fun o o' b h1 h2 => k4.inj o o' b (e1 h1) (e1 h2), fun o b h1 => k4.wr o b (e1 h1), k4.prs, k4.pr0, k4.prn, k4.up, k4.uu, k4.fr⟩
   obtain ⟨cs, m1, m2, m3, m4, m5⟩ := k4.box r c hc
   refine ⟨cs, m1, m2, fun j y hy => ?_, m4, m5⟩
   obtain ⟨m6, z, m7, m8⟩ := m3 j y hy
   exact ⟨m6, z, m7, m8.keep (g'.give_keeps .res _ w' _ _ fun _ => Nat.le_refl _) fun _ => ⟨Zal _ _ (fun e => by cases e), rfl, fun _ => Iff.rfl⟩⟩
  ·refine (k2.gen0 (p' := p) h2 fun _ => rfl).keep (g'.give_keeps .res _ w' _ _ fun _ => Nat.le_refl _) fun _ => ⟨Zap _ _ _, rfl, fun _ => Iff.rfl⟩
  ·obtain ⟨t, rfl, ho'⟩ := k3 ho
   have e0 : (g'.give .res (g'.ow (.slot t))).ow .res = g'.ow (.slot t) := Zap _ _ _
   rw [e0]
   refine ⟨fun o h5 => ?_, hR'.heap.wr _ _ ho'⟩
   have h6 : Owns (Zay H') g' o (g'.ow (.slot t)) := e1 h5
   obtain ⟨h7, h8⟩ := k5 h6
   exact h8 t (hR'.heap.inj _ _ _ h7 ho')
 cases e with
 | normal => obtain ⟨s, g', hR', hp⟩ := hq; exact fin s g' hR' hp
 | ret => obtain ⟨s, g', hR', hp⟩ := hq; exact fin s g' hR' hp
 | exit id => obtain ⟨s, g', hR', hp⟩ := hq; exact hp.elim
 | goto l => exact hq.elim
 | outgrown => exact hq.elim
 | panic chain =>
   obtain ⟨v, rfl, s, g', hR', H', h3, h4⟩ := hq
   obtain ⟨k4, _⟩ := HeapRel.out rfl hR'.heap hnd hup h3
   exact ⟨hR'.defers, .pan v, H', g', h4, h3.1, k4, rfl⟩
end Go.Ab
end
section
namespace Go.Ab
open Classical
noncomputable def wpL (C : Ctx) (P : Program) (N : Nat) (ops : Array Oper) : List Oper -> Nat -> (Ex -> St -> Prop) -> St -> Prop
 | [], _, Q, s => Q .normal s
 | o :: l, k, Q, s => match Za8 ops s o with
   | some true => (match Zcd P N ops s o with
     | some s' => wpL C P N ops l (k + 1) Q s'
     | none => AO C ops (List.range' k (l.length + 1)) Q s)
   | some false => (match o.dst with
     | some d => if d < N then wpL C P N ops l (k + 1) Q (s.put d (.tup [])) else False
     | none => wpL C P N ops l (k + 1) Q s)
   | none => AO C ops (List.range' k (l.length + 1)) Q s
def Z0a : A -> A
 | .als _ _ => .any
 | .opt _ _ _ _ _ => .any
 | x => x
def Zhx (live : List Nat) (f : Nat -> A) : Nat -> A := fun t => if live.contains t then Z0a (f t) else .any
def St.keep (s : St) (live : List Nat) : St := ⟨Zhx live s.tm, s.K, s.gen⟩
theorem Zw8 (live : List Nat) (f : Nat -> A) (t : Nat) (v : A) : Zhx live (upd f t v) = if live.contains t then upd (Zhx live f) t (Z0a v) else Zhx live f := by
 funext u
 by_cases hu : u = t
 ·subst hu
  by_cases hl : live.contains u = true
  ·rw [if_pos hl]
   simp [Zhx, upd]
   intro h
   exact absurd (by simpa using hl) h
  ·rw [if_neg hl]
   have : ¬ u ∈ live := by simpa using hl
   simp [Zhx, this]
 ·by_cases hl : live.contains t = true
  ·rw [if_pos hl]; simp [Zhx, upd, hu]
  ·rw [if_neg hl]; simp [Zhx, upd, hu]
theorem Zr3 (live : List Nat) (f : Nat -> A) : Zhx live (Zhx live f) = Zhx live f := by
 funext u
 simp only [Zhx]
 split
 ·cases f u <;> rfl
 ·rfl
theorem Z0b (live : List Nat) (f : Nat -> A) (t : Nat) : Zhx live f t = if live.contains t then Z0a (f t) else .any := rfl
theorem St.keep_mk (tm : Nat -> A) (K : Ref -> Option (List A)) (gen : Nat -> Nat) (live : List Nat) : St.keep ⟨tm, K, gen⟩ live = ⟨Zhx live tm, K, gen⟩ := rfl
def Kr (live : List Nat) (Q : Ex -> St -> Prop) : Ex -> St -> Prop
 | .normal, s => Q .normal (s.keep live)
 | e, s => Q e s
theorem Zw9 (live : List Nat) (Q : Ex -> St -> Prop) (s : St) : Kr live Q .normal s = Q .normal (s.keep live) := rfl
theorem Z5v (live : List Nat) (Q : Ex -> St -> Prop) (s : St) : Kr live Q .ret s = Q .ret s := rfl
theorem Z3h (live : List Nat) (Q : Ex -> St -> Prop) (s : St) (id : Nat) : Kr live Q (.exit id) s = Q (.exit id) s := rfl
theorem Z5w (live : List Nat) (Q : Ex -> St -> Prop) (s : St) (v : Value) : Kr live Q (.pan v) s = Q (.pan v) s := rfl
def Kb (id : Nat) (Q : Ex -> St -> Prop) : Ex -> St -> Prop
 | .exit id', s => if id' = id then Q .normal s else Q (.exit id') s
 | e, s => Q e s
theorem Zxa (id : Nat) (Q : Ex -> St -> Prop) (s : St) : Kb id Q .normal s = Q .normal s := rfl
theorem Z5x (id : Nat) (Q : Ex -> St -> Prop) (s : St) : Kb id Q .ret s = Q .ret s := rfl
theorem Z3i (id id' : Nat) (Q : Ex -> St -> Prop) (s : St) : Kb id Q (.exit id') s = if id' = id then Q .normal s else Q (.exit id') s := rfl
theorem Z5y (id : Nat) (Q : Ex -> St -> Prop) (s : St) (v : Value) : Kb id Q (.pan v) s = Q (.pan v) s := rfl
noncomputable def wpA (C : Ctx) (P : Program) (N : Nat) (live : List Nat) : Code -> (Ex -> St -> Prop) -> St -> Prop
 | .skip, Q, s => Q .normal s
 | .label _, Q, s => Q .normal s
 | .ret, Q, s => Q .ret s
 | .exit id, Q, s => Q (.exit id) s
 | .seq x y, Q, s => wpA C P N live x (fun e s' => match e with
   | .normal => wpA C P N live y Q s'
   | e => Q e s') s
 | .cond c x y, Q, s => (match s.ev c with
   | .d (.lit (.bool t)) => (t = true -> wpA C P N live x Q s) /\ (t = false -> wpA C P N live y Q s)
   | _ => False)
 | .block id c, Q, s => wpA C P N live c (Kb id Q) s
 | .region _ ops false, Q, s => wpL C P N ops ops.toList 0 (Kr live Q) s
 | .region i ops true, Q, s => AW C (.region i ops true) (Kr live Q) s
 | c, Q, s => AW C c Q s
noncomputable def Kt (C : Ctx) (P : Program) (N : Nat) (live : List Nat) (y : Code) (Q : Ex -> St -> Prop) : Ex -> St -> Prop := fun e s' => match e with
 | .normal => wpA C P N live y Q s'
 | e => Q e s'
theorem Zxb (C : Ctx) (P : Program) (N : Nat) (live : List Nat) (y : Code) (Q : Ex -> St -> Prop) (s : St) : Kt C P N live y Q .normal s = wpA C P N live y Q s := rfl
theorem Z5z (C : Ctx) (P : Program) (N : Nat) (live : List Nat) (y : Code) (Q : Ex -> St -> Prop) (s : St) : Kt C P N live y Q .ret s = Q .ret s := rfl
theorem Z3j (C : Ctx) (P : Program) (N : Nat) (live : List Nat) (y : Code) (Q : Ex -> St -> Prop) (s : St) (id : Nat) : Kt C P N live y Q (.exit id) s = Q (.exit id) s := rfl
theorem Z50 (C : Ctx) (P : Program) (N : Nat) (live : List Nat) (y : Code) (Q : Ex -> St -> Prop) (s : St) (v : Value) : Kt C P N live y Q (.pan v) s = Q (.pan v) s := rfl
theorem Z0c (C : Ctx) (P : Program) (N : Nat) (live : List Nat) (Q : Ex -> St -> Prop) (s : St) : wpA C P N live .skip Q s = Q .normal s := rfl
theorem Zxc (C : Ctx) (P : Program) (N : Nat) (live : List Nat) (l : Nat) (Q : Ex -> St -> Prop) (s : St) : wpA C P N live (.label l) Q s = Q .normal s := rfl
theorem Z3k (C : Ctx) (P : Program) (N : Nat) (live : List Nat) (Q : Ex -> St -> Prop) (s : St) : wpA C P N live .ret Q s = Q .ret s := rfl
theorem Z0d (C : Ctx) (P : Program) (N : Nat) (live : List Nat) (id : Nat) (Q : Ex -> St -> Prop) (s : St) : wpA C P N live (.exit id) Q s = Q (.exit id) s := rfl
theorem Z3l (C : Ctx) (P : Program) (N : Nat) (live : List Nat) (x y : Code) (Q : Ex -> St -> Prop) (s : St) : wpA C P N live (.seq x y) Q s = wpA C P N live x (Kt C P N live y Q) s := rfl
theorem Z0e (C : Ctx) (P : Program) (N : Nat) (live : List Nat) (c : Operand) (x y : Code) (Q : Ex -> St -> Prop) (s : St) : wpA C P N live (.cond c x y) Q s = (match s.ev c with
 | .d (.lit (.bool t)) => (t = true -> wpA C P N live x Q s) /\ (t = false -> wpA C P N live y Q s)
 | _ => False) := rfl
theorem Zxd (C : Ctx) (P : Program) (N : Nat) (live : List Nat) (id : Nat) (c : Code) (Q : Ex -> St -> Prop) (s : St) : wpA C P N live (.block id c) Q s = wpA C P N live c (Kb id Q) s := rfl
theorem Zvs (C : Ctx) (P : Program) (N : Nat) (live : List Nat) (i : Nat) (ops : Array Oper) (Q : Ex -> St -> Prop) (s : St) : wpA C P N live (.region i ops false) Q s = wpL C P N ops ops.toList 0 (Kr live Q) s := rfl
theorem Zxe (C : Ctx) (P : Program) (N : Nat) (live : List Nat) (i : Nat) (ops : Array Oper) (Q : Ex -> St -> Prop) (s : St) : wpA C P N live (.region i ops true) Q s = AW C (.region i ops true) (Kr live Q) s := rfl
theorem Z0f (C : Ctx) (P : Program) (N : Nat) (live : List Nat) (b : Code) (Q : Ex -> St -> Prop) (s : St) : wpA C P N live (.loop b) Q s = AW C (.loop b) Q s := rfl
attribute [irreducible] wpA
noncomputable def tmOf : List (Nat × A) -> Nat -> A
 | [] => fun _ => .any
 | (t, v) :: l => upd (tmOf l) t v
theorem Zno : ∀ {L : List (Nat × A)} {t : Nat}, tmOf L t = .any \/ ∃ v, (t, v) ∈ L /\ tmOf L t = v
 | [], _ => .inl rfl
 | (u, v) :: l, t => by
   by_cases ht : t = u
   ·subst ht; exact .inr ⟨v, List.mem_cons_self .., by simp [tmOf]⟩
   ·simp only [tmOf, Zal _ _ ht]
    rcases Zno (L := l) (t := t) with h | ⟨w, h1, h2⟩
    ·exact .inl h
    ·exact .inr ⟨w, List.mem_cons_of_mem _ h1, h2⟩
theorem Zpj {L : List (Nat × A)} {H : List (Ref × List A)} {γ : Nat -> Nat} {s : St} (hg : γ = s.gen) (ht : ∀ x ∈ L, s.tm x.1 = x.2) (hp : ∀ x ∈ L, x.2.plain = true) (hK : ∀ x ∈ H, s.K x.1 = some x.2) :
 Weaker ⟨tmOf L, kOf H, γ⟩ s := by
 have key : ∀ t, tmOf L t = .any \/ (tmOf L t).plain = true := fun t => by
  rcases Zno (L := L) (t := t) with h | ⟨v, h1, h2⟩
  ·exact .inl h
  ·right; rw [h2]; exact hp _ h1
 refine ⟨hg, fun t => ?_, fun r c hc => hK _ (Zff hc), fun u t n hu => ?_, fun u t n m i j hu => ?_⟩
 ·rcases Zno (L := L) (t := t) with h | ⟨v, h1, h2⟩
  ·exact .inl h
  ·exact .inr (by show tmOf L t = s.tm t; rw [h2]; exact (ht _ h1).symm)
 ·have hu' : tmOf L u = .als t n := hu
  rcases key u with h | h <;> rw [hu'] at h <;> cases h
 ·have hu' : tmOf L u = .opt t n m i j := hu
  rcases key u with h | h <;> rw [hu'] at h <;> cases h
attribute [simp] Z0c Zxc Z3k Z0d Z3l Z0e Zxd Zvs Zxe Z0f wpL Za8 Zcd Za7 Zfy Zo6 Zvl Zvg Zey St.boxC St.ev St.lit St.slice St.esc Zf3 St.alloc ownT St.val St.copy Zdq St.put Zvh Zwr Zwp upd A.isOwn Zw8 Zr3 Z0b St.keep_mk Z0a Zw9 Z5v Z3h Z5w Zxb Z5z Z3j Z50 Zxa Z5x Z3i Z5y
end Go.Ab
end
section
namespace Go.Ab
open Classical
def Z51 (v : A) : Out -> List (Ref × List A) -> Prop := fun o H' => o = .ret v /\ H' = []
def Kf (P : Program) (rs : List ResultVar) (H : List (Ref × List A)) (R : Out -> List (Ref × List A) -> Prop) : Ex -> St -> Prop
 | .normal, s => ∃ v H', resA P s rs = some v /\ Za2 v = true /\ Left s H H' /\ R (.ret v) H'
 | .ret, s => ∃ v H', resA P s rs = some v /\ Za2 v = true /\ Left s H H' /\ R (.ret v) H'
 | .pan u, s => ∃ H', Left s H H' /\ R (.pan u) H'
 | .exit _, _ => False
def Done (P : Program) (rs : List ResultVar) (H : List (Ref × List A)) (R : Out -> List (Ref × List A) -> Prop) (s : St) : Prop := ∃ v H', resA P s rs = some v /\ Za2 v = true /\ Left s H H' /\ R (.ret v) H'
theorem Z52 (P : Program) (rs : List ResultVar) (H : List (Ref × List A)) (R : Out -> List (Ref × List A) -> Prop) (s : St) : Kf P rs H R .ret s = Done P rs H R s := rfl
theorem Zxf (P : Program) (rs : List ResultVar) (H : List (Ref × List A)) (R : Out -> List (Ref × List A) -> Prop) (s : St) : Kf P rs H R .normal s = Done P rs H R s := rfl
attribute [simp] Z52 Zxf
theorem Zxg {P : Program} {rs : List ResultVar} {v : A} {s : St} (h1 : resA P s rs = some v) (h2 : Za2 v = true) : Done P rs [] (Z51 v) s :=
 ⟨v, [], h1, h2, ⟨rfl, fun _ h => by cases h⟩, rfl, rfl⟩
theorem Zvt {P : Program} {rs : List ResultVar} {v : A} {s : St} : Done P rs [] (Z51 v) s = (resA P s rs = some v /\ Za2 v = true) :=
 propext ⟨fun ⟨v', H', h1, h2, _, h4, _⟩ => by cases h4; exact ⟨h1, h2⟩, fun h => Zxg h.1 h.2⟩
attribute [simp] Zvt
def Z3m {X : Type} (L : X -> List (Nat × A)) (H : X -> List (Ref × List A)) (μ : X -> Nat) (I : X -> Prop) (x : X) (s : St) : Prop := ∃ x', I x' /\ Weaker ⟨tmOf (L x'), kOf (H x'), s.gen⟩ s /\ μ x' < μ x
def Kl {X : Type} (L : X -> List (Nat × A)) (H : X -> List (Ref × List A)) (μ : X -> Nat) (I : X -> Prop) (x : X) (Q : Ex -> St -> Prop) : Ex -> St -> Prop
 | .normal, s => Z3m L H μ I x s
 | e, s => Q e s
section
variable {X : Type} (L : X -> List (Nat × A)) (H : X -> List (Ref × List A)) (μ : X -> Nat) (I : X -> Prop) (x : X) (Q : Ex -> St -> Prop) (s : St)
theorem Zxh : Kl L H μ I x Q .normal s = Z3m L H μ I x s := rfl
theorem Z53 : Kl L H μ I x Q .ret s = Q .ret s := rfl
theorem Z3n (id : Nat) : Kl L H μ I x Q (.exit id) s = Q (.exit id) s := rfl
theorem Z54 (v : Value) : Kl L H μ I x Q (.pan v) s = Q (.pan v) s := rfl
end
attribute [simp] Zxh Z53 Z3n Z54
theorem again {X : Type} {L : X -> List (Nat × A)} {H : X -> List (Ref × List A)} {μ : X -> Nat} {I : X -> Prop} {x : X} {s : St} (x' : X) (h1 : I x') (h2 : μ x' < μ x)
 (ht : ∀ y ∈ L x', s.tm y.1 = y.2) (hp : ∀ y ∈ L x', y.2.plain = true) (hK : ∀ y ∈ H x', s.K y.1 = some y.2) : Z3m L H μ I x s := ⟨x', h1, Zpj rfl ht hp hK, h2⟩
def Meet {X : Type} (L : X -> List (Nat × A)) (H : X -> List (Ref × List A)) (I : X -> Prop) (s : St) : Prop := ∃ x, I x /\ Weaker ⟨tmOf (L x), kOf (H x), s.gen⟩ s
def Kj {X : Type} (L : X -> List (Nat × A)) (H : X -> List (Ref × List A)) (I : X -> Prop) (Q : Ex -> St -> Prop) : Ex -> St -> Prop
 | .normal, s => Meet L H I s
 | e, s => Q e s
section
variable {X : Type} (L : X -> List (Nat × A)) (H : X -> List (Ref × List A)) (I : X -> Prop) (Q : Ex -> St -> Prop) (s : St)
theorem Zxi : Kj L H I Q .normal s = Meet L H I s := rfl
theorem Z55 : Kj L H I Q .ret s = Q .ret s := rfl
theorem Z3o (id : Nat) : Kj L H I Q (.exit id) s = Q (.exit id) s := rfl
theorem Z56 (v : Value) : Kj L H I Q (.pan v) s = Q (.pan v) s := rfl
end
attribute [simp] Zxi Z55 Z3o Z56
theorem meet {X : Type} {L : X -> List (Nat × A)} {H : X -> List (Ref × List A)} {I : X -> Prop} {s : St} (x : X) (h : I x)
 (ht : ∀ y ∈ L x, s.tm y.1 = y.2) (hp : ∀ y ∈ L x, y.2.plain = true) (hK : ∀ y ∈ H x, s.K y.1 = some y.2) : Meet L H I s := ⟨x, h, Zpj rfl ht hp hK⟩
def Ks (C : Ctx) (y : Code) (Q : Ex -> St -> Prop) : Ex -> St -> Prop
 | .normal, s => AW C y Q s
 | e, s => Q e s
section
variable (C : Ctx) (y : Code) (Q : Ex -> St -> Prop) (s : St)
theorem Zxj : Ks C y Q .normal s = AW C y Q s := rfl
theorem Z57 : Ks C y Q .ret s = Q .ret s := rfl
theorem Z3p (id : Nat) : Ks C y Q (.exit id) s = Q (.exit id) s := rfl
theorem Z58 (v : Value) : Ks C y Q (.pan v) s = Q (.pan v) s := rfl
end
attribute [simp] Zxj Z57 Z3p Z58
theorem Z0g {P : Program} {f : FuncId} {c : Code} {args : List A} {H : List (Ref × List A)} {R : Out -> List (Ref × List A) -> Prop} (fn : Func) (N : Nat) (rs : List ResultVar) (hf : P.funcs[f]? = some fn) (hb : fn.body = some c) (hrs : fn.results.toList = rs) (hN : fn.ntmps = N)
 (hn : (fn.name == "runtime.NumGoroutine") = false) (hlen : args.length <= N) (hnd : (H.map (·.1)).Nodup) (hplain : ∀ x ∈ args, x.isOwn = false /\ x.plain = true)
 (hw : ∀ C : Ctx, C.P = P -> C.N = N -> AW C c (Kf P rs H R) (Zf3 args H)) : Holds P f args H R := by
 subst hN hrs
 refine Zz9 hf hb hn hlen hnd hplain fun C hP hN => (hw C hP hN).mono fun e s h => ?_
 cases e <;> exact h
theorem cellsD_map : ∀ l : List D, Zey (l.map A.d) = some l
 | [] => rfl
 | x :: l => by simp [Zey, Zvg, cellsD_map l]
attribute [simp] cellsD_map
attribute [simp] constD isCell binV Zkc unV Zl8 Zch Zdc ownS Zci Zdw Zpf St.escs St.bound Ze0 A.lift A.back Znl resA Zdr Zhw Za2 tmOf kOf A.plain St.reset St.setK Zvh Zl9 Zs8 Zwq Zeg Zg4 Zbk setL Zng Zi0 Zi1 Zdv Zo3 Zhc Zbv Zbf Za4
end Go.Ab
end
section
namespace Go.Ab
open Classical
def Same (t : Nat) (s u : St) : Prop := s.tm t = u.tm t /\ s.gen t = u.gen t /\ ∀ n, s.K (.own t n) = u.K (.own t n)
def Ztk (s u : St) : Prop := ∀ q, s.K (.up q) = u.K (.up q)
theorem Same.rfl' {t : Nat} {s : St} : Same t s s := ⟨rfl, rfl, fun _ => rfl⟩
theorem Same.symm {t : Nat} {s u : St} (h : Same t s u) : Same t u s := ⟨h.1.symm, h.2.1.symm, fun n => (h.2.2 n).symm⟩
theorem Same.trans {t : Nat} {s u v : St} (h : Same t s u) (k : Same t u v) : Same t s v := ⟨h.1.trans k.1, h.2.1.trans k.2.1, fun n => (h.2.2 n).trans (k.2.2 n)⟩
theorem St.ext' {s u : St} (h : ∀ t, Same t s u) (hu : Ztk s u) : s = u := by
 obtain ⟨tm, K, gen⟩ := s
 obtain ⟨tm', K', gen'⟩ := u
 have h1 : tm = tm' := funext fun t => (h t).1
 have h2 : gen = gen' := funext fun t => (h t).2.1
 have h3 : K = K' := funext fun r => by
  cases r with
  | own t n => exact (h t).2.2 n
  | up q => exact hu q
 subst h1 h2 h3
 rfl
noncomputable def St.at (u s' : St) (d : Nat) : St :=
 { tm := upd u.tm d (s'.tm d), gen := upd u.gen d (s'.gen d), K := fun r => match r with | .own t n => if t = d then s'.K (.own t n) else u.K (.own t n) | .up q => u.K (.up q) }
theorem Zko (u s' : St) (d : Nat) : Same d (u.at s' d) s' := ⟨Zap _ _ _, Zap _ _ _, fun _ => if_pos rfl⟩
theorem Zr4 {u s' : St} {d t : Nat} (h : t ≠ d) : Same t (u.at s' d) u := ⟨Zal _ _ h, Zal _ _ h, fun _ => if_neg h⟩
def Step (C : Ctx) (ops : Array Oper) (i : Nat) (s s' : St) : Prop := AO C ops [i] (fun e t => e = .normal /\ t = s') s
structure Agree (T : List Nat) (s u : St) : Prop where
 up : Ztk s u
 sl : ∀ t ∈ T, Same t s u
structure Loc (C : Ctx) (ops : Array Oper) (i d : Nat) (T : List Nat) (s s' : St) : Prop where
 eq : s' = s.at s' d
 step : ∀ u, Agree (d :: T) s u -> Step C ops i u (u.at s' d)
def Zbw (ops : Array Oper) (i : Nat) : List Nat :=
 match ops[i]? with
 | some o => (o.after.toList.filter (Region.binds .any)).map (·.on)
 | none => []
theorem Zr5 {P : Program} {o : Oper} {a : Act} {w : World} {K K' : Act -> World -> Prop} {Q Q' : Exit -> Act -> World -> Prop} (h : ∀ a w, K a w -> K' a w) (hq : ∀ c a w, Q (.panic c) a w -> Q' (.panic c) a w) (ho : ∀ a w, Q .outgrown a w -> Q' .outgrown a w)
 (hh : o.wp P a w K Q) : o.wp P a w K' Q' := by
 unfold Oper.wp at *
 generalize (execOp a.eval o).run P w = r at *
 cases r with
 | ok n w' =>
   cases n <;> simp only [Oper.upon] at hh ⊢ <;>
    first
     | exact h _ _ hh
     | exact Calls.mono hh (fun e w'' he => by cases e <;> first | exact h _ _ he | exact hq _ _ _ he | (obtain ⟨a', w', he⟩ := he; exact ⟨a', w', ho _ _ he⟩))
     | exact Rows.mono hh (fun _ _ he => h _ _ he)
 | halt x w' => cases x <;> simp only [Oper.upon] at hh ⊢ <;> first | exact hh | exact hq _ _ _ hh
theorem Step.wpOp {C : Ctx} {ops : Array Oper} {i : Nat} {s s' : St} (h : Step C ops i s s') {K : Act -> World -> Prop} {Q : Exit -> Act -> World -> Prop} (hK : ∀ g a w, Rel C s' g a w -> K a w) {g : Gh} {a : Act} {w : World} (hR : Rel C s g a w) :
 wpOp C.P ops Q i K a w := by
 have h1 := h g a w hR
 rw [wpOps_cons] at h1
 unfold Go.wpOp at h1 ⊢
 have hk : ∀ a w, wpOps C.P ops (Qc C fun e t => e = .normal /\ t = s') [] a w -> K a w := fun a w hn => by
  obtain ⟨t, g', hR', _, rfl⟩ := hn
  exact hK g' a w hR'
 cases ho : ops[i]? with
 | none => rw [ho] at h1; exact hk _ _ h1
 | some o =>
   rw [ho] at h1
   simp only at h1 ⊢
   split
   ·rename_i hw
    simp only [hw, if_true] at h1
    rcases h1 with h1 | ⟨_, a', w', h1⟩
    ·refine .inl (Zr5 hk ?_ (fun a w h => h.elim) h1)
     rintro c a w ⟨v, _, t, g', _, h, _⟩
     cases h
    ·exact h1.elim
   ·rename_i hw
    simp only [hw] at h1
    exact hk _ _ h1
theorem Z59 {U : List Nat} (x : Nat) (h : x ∈ U) : ∃ i ∈ U, ∀ j < i, j ∉ U := by
 induction x using Nat.strongRecOn with
 | ind x ih =>
   by_cases hx : ∃ j, j < x /\ j ∈ U
   ·obtain ⟨j, h1, h2⟩ := hx
    exact ih j h1 h2
   ·exact ⟨x, h, fun j hj hm => hx ⟨j, hj, hm⟩⟩
end Go.Ab
end
section
namespace Go.Ab
open Classical
structure EvEq (s u : St) (x : Operand) : Prop where
 ev : s.ev x = u.ev x
 als : ∀ t n, s.ev x = .als t n -> s.tm t = u.tm t /\ s.gen t = u.gen t
 box : ∀ r o, s.ev x = .ptr r o -> s.K r = u.K r
 opt : ∀ t n m i j, s.ev x = .opt t n m i j -> s.tm t = u.tm t /\ s.gen t = u.gen t
 gen : ∀ t, x = .tmp t -> s.gen t = u.gen t /\ s.tm t = u.tm t
theorem Zbx {s u : St} {x : Operand} (h : EvEq s u x) : s.lit x = u.lit x := by unfold St.lit; rw [h.ev]
theorem Zhy {s u : St} {x : Operand} (h : EvEq s u x) : s.esc x = u.esc x := by
 unfold St.esc
 rw [<- h.ev]
 split <;> first | rfl | skip
 rename_i t n e
 rw [(h.als t n e).1, (h.als t n e).2]
theorem Zml {s u : St} {x : Operand} (h : EvEq s u x) : s.escs x = u.escs x := by
 unfold St.escs
 rw [<- h.ev, Zhy h]
theorem Zhz {s u : St} {x : Operand} (h : EvEq s u x) : s.val x = u.val x := by
 unfold St.val
 rw [<- h.ev, Zhy h]
theorem Zfh {s u : St} {x : Operand} (h : EvEq s u x) : s.slice x = u.slice x := by
 unfold St.slice
 rw [Zhy h]
theorem Zr6 {s u : St} {x : Operand} (h : EvEq s u x) : s.nwLen x = u.nwLen x := by
 unfold St.nwLen
 rw [<- h.ev]
 split <;> first | rfl | skip
 rename_i t n e
 rw [(h.als t n e).1, (h.als t n e).2]
theorem Zvu {s u : St} {x : Operand} (h : EvEq s u x) : s.boxC x = u.boxC x := by
 unfold St.boxC
 rw [<- h.ev, Zhy h]
theorem Zmm {s u : St} {x : Operand} (h : EvEq s u x) : ownT s x = ownT u x := by
 unfold ownT
 cases x with
 | tmp t => simp only [(h.gen t rfl).2]
 | _ => rfl
theorem Zvv {s u : St} {x : Operand} (d : Nat) (h : EvEq s u x) : s.copy d x = u.copy d x := by
 unfold St.copy
 rw [<- h.ev]
 split <;> first | rfl | skip
 cases x with
 | tmp t => simp only [(h.gen t rfl).1]
 | _ => rfl
theorem Zmn {s u : St} {x : Operand} (h : EvEq s u x) : ownS s x = ownS u x := by
 unfold ownS
 rw [<- h.ev]
 split
 ·rename_i t n e
  rw [(h.als t n e).2]
  simp only [ownT, (h.als t n e).1]
 ·exact Zmm h
theorem Zpk {P : Program} {s u : St} {d : Nat} {T : TypeId} {x ix : Operand} (h : EvEq s u x) (hi : EvEq s u ix) : Zch P d s T x ix = Zch P d u T x ix := by
 unfold Zch
 rw [Zmn h, Zbx hi]
 cases ho : ownS u x with
 | none => rfl
 | some q =>
   obtain ⟨t, sz, es, nw⟩ := q
   have hg : s.gen t = u.gen t := by
    rw [<- Zmn h] at ho
    unfold ownS at ho
    split at ho
    ·rename_i t' n e
     split at ho
     ·obtain ⟨e1, _⟩ := Zbl ho
      cases e1
      exact (h.als t n e).2
     ·cases ho
    ·obtain ⟨e1, _⟩ := Zbl ho
     exact (h.gen t e1).1
   cases u.lit ix with
   | none => rfl
   | some v => cases v with
     | int k i => cases slOf P T with
       | none => rfl
       | some z =>
         obtain ⟨m, b, c, e⟩ := z
         simp only [hg]
     | _ => rfl
theorem Zhe {s u : St} {x : Option Operand} {n : Nat} (h : ∀ y, x = some y -> EvEq s u y) : s.bound x n = u.bound x n := by
 unfold St.bound
 cases x with
 | none => rfl
 | some y => simp only [Zbx (h y rfl)]
theorem Zpl {P : Program} {s u : St} {t : TypeId} {x : Operand} (h : EvEq s u x) : Zfy P s t (s.ev x) = Zfy P u t (u.ev x) := by
 rw [<- h.ev]
 unfold Zfy
 cases he : s.ev x with
 | ptr r o => simp only [h.box r o he]
 | opt t n m i j => simp only [Zkf, (h.opt t n m i j he).1, (h.opt t n m i j he).2]
 | _ => rfl
theorem Zkp {s u : St} {m : Nat} : ∀ (k : Nat) (l : List (Nat × Operand)), (∀ p ∈ l, EvEq s u p.2) -> Zbk s m k l = Zbk u m k l
 | _, [], _ => rfl
 | k, (i, x) :: l, h => by
   simp only [Zbk]
   rw [Zml (h (i, x) (List.mem_cons_self ..)), Zkp (k + 1) l fun p hp => h p (List.mem_cons_of_mem _ hp)]
theorem Zkq {P : Program} {t : TypeId} {s u : St} : ∀ (l : List (Nat × Operand)) (c : List D), (∀ p ∈ l, EvEq s u p.2) -> Zi0 P t s c l = Zi0 P t u c l
 | [], _, _ => rfl
 | (i, x) :: l, c, h => by
   simp only [Zi0]
   rw [Zml (h (i, x) (List.mem_cons_self ..))]
   cases Zfd P t i with
   | none => rfl
   | some p =>
     cases u.escs x with
     | none => rfl
     | some vs => simp only [Zkq l _ fun p hp => h p (List.mem_cons_of_mem _ hp)]
theorem Zmo {s u : St} : ∀ (l : List Operand), (∀ x ∈ l, EvEq s u x) -> Ze0 s l = Ze0 u l
 | [], _ => rfl
 | x :: l, h => by
   simp only [Ze0]
   rw [Zhz (h x (List.mem_cons_self ..)), Zmo l fun y hy => h y (List.mem_cons_of_mem _ hy)]
theorem Zr7 {P : Program} {s u : St} {o : Oper} (h : ∀ x ∈ o.op.operands.toList, EvEq s u x) : Za7 P s o = Za7 P u o := by
 obtain ⟨dst, op, type, pos, after, guard⟩ := o
 simp only at h
 unfold Za7
 cases op <;> simp only [Op.operands] at h <;> try rfl
 case pick c x y => simp only [Zbx (h c (by simp)), Zhz (h x (by simp)), Zhz (h y (by simp))]
 case build t ps =>
  simp only [Zi1]
  have hf : ∀ c, Zi0 P t s c ps.toList = Zi0 P t u c ps.toList := fun c => Zkq _ c fun p hp => h p.2 (List.mem_map.2 ⟨p, hp, rfl⟩)
  simp only [hf]
 case load t x => exact Zpl (h x (by simp))
 case nilCheck x => simp only [(h x (by simp)).ev]
 case binOp op t x y p => simp only [(h x (by simp)).ev, (h y (by simp)).ev]
 case unOp op t x => simp only [Zbx (h x (by simp))]
 case convert a b x => simp only [Zbx (h x (by simp)), Zfh (h x (by simp))]
 case makeInterface t x => simp only [(h x (by simp)).ev]
 case makeFunc f first caps =>
  have : caps.toList.map s.ev = caps.toList.map u.ev := List.map_congr_left fun x hx => (h x (by simp; exact .inr (by simpa using hx))).ev
  cases f <;> simp only [this]
 case fieldAddr t x i => simp only [(h x (by simp)).ev]
 case indexAddr t x ix => simp only [Zbx (h ix (by simp)), (h x (by simp)).ev, Zfh (h x (by simp))]
 case index t x ix => simp only [Zbx (h x (by simp)), Zbx (h ix (by simp)), (h x (by simp)).ev]
 case slice t x lo hi mx =>
  have hlo : ∀ n, s.bound lo n = u.bound lo n := fun n => Zhe fun y hy => h y (by subst hy; simp)
  have hhi : ∀ n, s.bound hi n = u.bound hi n := fun n => Zhe fun y hy => h y (by subst hy; simp)
  have hmx : ∀ q n, mx = some q -> s.bound (some q) n = u.bound (some q) n := fun q n hq => Zhe fun y hy => h y (by subst hq; cases hy; simp)
  simp only [Zbx (h x (by simp)), Zfh (h x (by simp)), hlo, hhi]
  cases mx with
  | none => rfl
  | some q =>
    have hq : ∀ n, s.bound (some q) n = u.bound (some q) n := fun n => hmx q n rfl
    cases hi with
    | none => rfl
    | some z => simp only [hq]
 case typeAssert x a b ok => cases ok <;> simp only [Zbx (h x (by simp))]
 case extract x i => simp only [(h x (by simp)).ev]
 case call c =>
  obtain ⟨cal, args, tys⟩ := c
  cases cal with
  | builtin b =>
    have ha : ∀ x ∈ args.toList, EvEq s u x := fun x hx => h x (by simpa [Call.operands] using hx)
    cases b <;> try rfl
    case len =>
     dsimp only
     generalize args.toList = l at ha
     generalize tys.toList = l2
     match l, l2, ha with
     | [], _, _ => rfl
     | [x], [], _ => rfl
     | [x], [t], ha => simp only [Zbx (ha x (List.mem_cons_self ..)), Zfh (ha x (List.mem_cons_self ..)), Zr6 (ha x (List.mem_cons_self ..))]
     | [x], _ :: _ :: _, _ => rfl
     | _ :: _ :: _, _, _ => rfl
    case max =>
     dsimp only
     generalize args.toList = l at ha
     generalize tys.toList = l2
     match l, ha with
     | [], _ => rfl
     | [x], _ => rfl
     | [x, y], ha => simp only [Zbx (ha x (List.mem_cons_self ..)), Zbx (ha y (List.mem_cons_of_mem _ (List.mem_cons_self ..)))]
     | _ :: _ :: _ :: _, _ => rfl
  | _ => rfl
end Go.Ab
end
section
namespace Go.Ab
open Classical
def A.deps : A -> List Nat
 | .als u _ => [u]
 | .opt u _ _ _ _ => [u]
 | .ptr (.own t _) _ => [t]
 | _ => []
noncomputable def Zck (ops : Array Oper) (s : St) (o : Oper) : List Nat := o.looksAt ops ++ (o.looksAt ops).flatMap fun t => (s.tm t).deps
theorem Zr8 {ops : Array Oper} {s u : St} {o : Oper} {T : List Nat} (hT : ∀ t ∈ Zck ops s o, t ∈ T) (h : Agree T s u) : ∀ x ∈ o.op.operands.toList, EvEq s u x := by
 intro x hx
 cases x with
 | tmp t =>
   have ht : t ∈ o.looksAt ops := List.mem_append_left _ (List.mem_filterMap.2 ⟨.tmp t, hx, rfl⟩)
   have h1 := h.sl t (hT t (List.mem_append_left _ ht))
   have h2 : ∀ t' ∈ (s.tm t).deps, Same t' s u := fun t' ht' => h.sl t' (hT t' (List.mem_append_right _ (List.mem_flatMap.2 ⟨t, ht, ht'⟩)))
   refine ⟨h1.1, fun t' n e => ?_, fun r o' e => ?_, fun t' n m i j e => ?_, fun t' e => by cases e; exact ⟨h1.2.1, h1.1⟩⟩
   ·have e' : s.tm t = .als t' n := e
    have := h2 t' (by rw [e']; simp [A.deps])
    exact ⟨this.1, this.2.1⟩
   ·have e' : s.tm t = .ptr r o' := e
    cases r with
    | own t' n => exact (h2 t' (by rw [e']; simp [A.deps])).2.2 n
    | up q => exact h.up q
   ·have e' : s.tm t = .opt t' n m i j := e
    have := h2 t' (by rw [e']; simp [A.deps])
    exact ⟨this.1, this.2.1⟩
 | const v =>
   refine ⟨rfl, fun t n e => ?_, fun r o' e => ?_, fun t n m i j e => ?_, fun t e => by cases e⟩
   ·have := Zd3 v; simp only [St.ev] at e; rw [e] at this; cases this
   ·simp only [St.ev] at e
    unfold Zdq at e
    split at e
    ·split at e <;> cases e
    ·cases e
    ·cases e
    ·cases e
   ·have := Zd3 v; simp only [St.ev] at e; rw [e] at this; cases this
 | global n => exact ⟨rfl, (fun t n e => by cases e), (fun r o' e => by cases e), (fun t n m i j e => by cases e), (fun t e => by cases e)⟩
 | func f => exact ⟨rfl, (fun t n e => by cases e), (fun r o' e => by cases e), (fun t n m i j e => by cases e), (fun t e => by cases e)⟩
theorem Zei {ops : Array Oper} {s u : St} {o : Oper} {T : List Nat} (hT : ∀ t ∈ Zck ops s o, t ∈ T) (h : Agree T s u) : Za8 ops u o = Za8 ops s o := by
 unfold Za8
 cases hg : o.guard with
 | none => rfl
 | some jw =>
   obtain ⟨j, want⟩ := jw
   cases hq : ops[j]? with
   | none => simp [hq]
   | some q =>
     cases ht : q.dst with
     | none => simp [hq, ht]
     | some t =>
       have h1 : t ∈ o.looksAt ops := List.mem_append_right _ (by rw [hg]; simp [hq, ht])
       simp [hq, ht, (h.sl t (hT t (List.mem_append_left _ h1))).1]
noncomputable def Zvw (P : Program) (d : Nat) (s : St) (t : TypeId) (x ix : Operand) : Option A :=
 match Zjt P t, s.lit ix with
 | some (n, m, _), some (.int _ i) => if 0 <= i /\ i < (n : Int) then Zdc d s (s.ev x) (i.toNat * m) else none
 | _, _ => none
theorem Zr9 {P : Program} {s u : St} {d : Nat} {t : TypeId} {x ix : Operand} (h : EvEq s u x) (hi : EvEq s u ix) : Zvw P d s t x ix = Zvw P d u t x ix := by
 unfold Zvw Zdc
 rw [<- h.ev, Zbx hi]
 cases he : s.ev x with
 | opt t n m i j => simp only [(h.opt t n m i j he).2]
 | _ => rfl
noncomputable def Zds (P : Program) (s : St) (o : Oper) (d : Nat) : Option A :=
 match o.op with
 | .move x => s.copy d x
 | .assign x => (match ownT s x with
   | some _ => none
   | none => s.val x)
 | .buildSlice t n parts => (match slOf P t with
   | some (m, _, _, _) => (match Zbk s m 0 parts.toList with
     | some es => if es.length = n /\ n * m <= 16777216 then some (.own m es []) else none
     | none => none)
   | none => none)
 | .indexAddr t x ix => (match Zch P d s t x ix with
   | some y => some y
   | none => (match Za7 P s o with
     | some v => some v
     | none => Zvw P d s t x ix))
 | _ => Za7 P s o
theorem Zpm {P : Program} {s u : St} {o : Oper} (d : Nat) (h : ∀ x ∈ o.op.operands.toList, EvEq s u x) : Zds P s o d = Zds P u o d := by
 have hv := Zr7 (P := P) h
 obtain ⟨dst, op, type, pos, after, guard⟩ := o
 unfold Zds
 cases op <;> first | exact hv | skip
 case move x => exact Zvv d (h x (by simp [Op.operands]))
 case assign x =>
  have := h x (by simp [Op.operands])
  simp only [Zmm this, Zhz this]
 case buildSlice t n ps =>
  have hf : ∀ m, Zbk s m 0 ps.toList = Zbk u m 0 ps.toList := fun m => Zkp 0 _ fun p hp => h p.2 (List.mem_map.2 ⟨p, hp, rfl⟩)
  simp only [hf]
 case indexAddr t x ix =>
  simp only [Zpk (P := P) (d := d) (T := t) (h x (by simp [Op.operands])) (h ix (by simp [Op.operands])), Zr9 (P := P) (d := d) (t := t) (h x (by simp [Op.operands])) (h ix (by simp [Op.operands])), hv]
theorem Ze1 {C : Ctx} {s : St} {o : Oper} {d : Nat} {v : A} (hd : o.dst = some d) (hN : d < C.N) (h : Zds C.P s o d = some v) : OpOk C o s (s.put d v) := by
 unfold Zds at h
 split at h
 ·rename_i x hop
  exact OpOk.of_copy hd hN h fun g a w hR => by simp only [execOp, hop]; rfl
 ·rename_i x hop
  split at h
  ·cases h
  ·intro g a w hR K Q hK
   obtain ⟨h1, h2, h3⟩ := hR.val h (.slot d)
   refine Zd2 (v := a.eval x) (w' := w) (by simp only [execOp, hop]; rfl) (hK g _ w ?_)
   rw [hd]
   exact hR.put hN h2 h1 (fun t n e => by subst e; cases h3) (fun t n sz i j e => by subst e; cases h3)
 ·rename_i t n parts hop
  split at h
  ·rename_i m by_ c e hs
   split at h
   ·rename_i es hes
    split at h
    ·rename_i hc
     cases h
     exact OpOk.buildSlice hop hd hN hs hes hc.1 hc.2
    ·cases h
   ·cases h
  ·cases h
 ·rename_i t x ix hop
  split at h
  ·rename_i y hy
   cases h
   exact Zkl hd hN hop hy
  ·split at h
   ·rename_i v' hv
    cases h
    exact Zcr hd hN (by rw [hv]; rfl)
   ·unfold Zvw at h
    split at h
    ·rename_i n m c k i ha hi
     split at h
     ·rename_i hc
      exact Zhd (x := x) (k := i.toNat * m) hd hN h fun g a w b off hR hv => by
       simp only [execOp, hop, hv, hR.lit hi, Sem.run_bind, Zd5 ha w b off k i hc.1 hc.2, Result.andThen_ok, Sem.run_pure]
     ·cases h
    ·cases h
 ·exact Zcr hd hN (by rw [h]; rfl)
theorem Zmp {s : St} {d : Nat} {v : A} (t : Nat) (h : t ≠ d) : Same t (s.put d v) s := by
 refine ⟨Zal _ _ h, ?_, fun n => rfl⟩
 simp only [St.put]
 split
 ·exact Zal _ _ h
 ·rfl
theorem Zkr (s : St) (d : Nat) (v : A) : s.put d v = s.at (s.put d v) d :=
 St.ext' (fun t => by
  by_cases h : t = d
  ·subst h; exact (Zko _ _ _).symm
  ·exact (Zmp t h).trans (Zr4 h).symm) fun q => rfl
theorem Zxk {s u : St} {d : Nat} {v : A} (h : Same d s u) : u.at (s.put d v) d = u.put d v :=
 St.ext' (fun t => by
  by_cases e : t = d
  ·subst e
   refine (Zko _ _ _).trans ⟨by simp [St.put], ?_, h.2.2⟩
   simp only [St.put, h.1]
   split
   ·simp [h.2.1]
   ·exact h.2.1
  ·exact (Zr4 e).trans (Zmp t e).symm) fun q => rfl
section
variable {C : Ctx} {ops : Array Oper} {i d : Nat} {o : Oper} {s : St}
theorem Zpn {v : A} (ho : ops[i]? = some o) (hd : o.dst = some d) (hN : d < C.N) (hw : Za8 ops s o = some true) (hv : Zds C.P s o d = some v) : Loc C ops i d (Zck ops s o) s (s.put d v) := by
 refine ⟨Zkr s d v, fun u h => ?_⟩
 have hT : ∀ t ∈ Zck ops s o, t ∈ d :: Zck ops s o := fun t ht => List.mem_cons_of_mem _ ht
 rw [Zxk (h.sl d (List.mem_cons_self ..))]
 refine Zmc ho ((Zei hT h).trans hw) (Ze1 hd hN ?_) (Zph ⟨rfl, rfl⟩)
 rw [<- Zpm d (Zr8 hT h)]
 exact hv
theorem Ztl (ho : ops[i]? = some o) (hd : o.dst = some d) (hN : d < C.N) (hw : Za8 ops s o = some false) : Loc C ops i d (Zck ops s o) s (s.put d (.tup [])) := by
 refine ⟨Zkr s d (.tup []), fun u h => ?_⟩
 have hT : ∀ t ∈ Zck ops s o, t ∈ d :: Zck ops s o := fun t ht => List.mem_cons_of_mem _ ht
 rw [Zxk (h.sl d (List.mem_cons_self ..))]
 refine Znk ho ((Zei hT h).trans hw) (fun d' hd' => by rw [hd] at hd'; cases hd'; exact hN) ?_
 rw [hd]
 exact Zph ⟨rfl, rfl⟩
theorem Zxl {H : List (Ref × List A)} (h : ∀ x ∈ H, s.K x.1 = some x.2) : s.setH H = s := by
 obtain ⟨tm, K, gen⟩ := s
 simp only [St.setH]
 congr 1
 funext r
 split
 ·rename_i c hc
  exact (h _ (Zff hc)).symm
 ·rfl
def Zce (H : List (Ref × List A)) (v : A) : Out -> List (Ref × List A) -> Prop := fun o H' => o = .ret v /\ H' = H
theorem Z0h {fx : Operand} {args : Array Operand} {tys : Array TypeId} {F : FuncId} {caps : List Ref} {vals : List A} {H : List (Ref × List A)} {v v' : A} (ho : ops[i]? = some o) (hd : o.dst = some d) (hN : d < C.N) (hw : Za8 ops s o = some true)
 (hop : o.op = .call { callee := .value fx, args, argTypes := tys }) (hf : s.ev fx = .fn F caps) (hv : Ze0 s args.toList = some vals)
 (hK : ∀ x ∈ H, s.K x.1 = some x.2) (hnd : (H.map (·.1)).Nodup) (hp : ∀ x ∈ H, ∀ y ∈ x.2, y.plain = true)
 (hH : ∀ x ∈ H, ∀ t n, x.1 = .own t n -> t ∈ Zck ops s o)
 (hh : Holds C.P F (vals.map A.lift ++ caps.map fun r => .ptr (.up r) 0) (Zbe H) (Zce (Zbe H) v)) (hb : v.back = some v') : Loc C ops i d (Zck ops s o) s (s.put d v') := by
 refine ⟨Zkr s d v', fun u h => ?_⟩
 have hT : ∀ t ∈ Zck ops s o, t ∈ d :: Zck ops s o := fun t ht => List.mem_cons_of_mem _ ht
 rw [Zxk (h.sl d (List.mem_cons_self ..))]
 have hev := Zr8 hT h
 have hKu : ∀ x ∈ H, u.K x.1 = some x.2 := fun x hx => by
  rw [<- hK x hx]
  cases hr : x.1 with
  | own t n => exact ((h.sl t (List.mem_cons_of_mem _ (hH x hx t n hr))).2.2 n).symm
  | up q => exact (h.up q).symm
 refine Zw4 (H := H) (R := Zce (Zbe H) v) ho ((Zei hT h).trans hw) hop hd hN ?_ ?_ hKu hnd hh ?_ ?_
 ·rw [<- (hev fx (by rw [hop]; simp [Op.operands, Call.operands])).ev]; exact hf
 ·rw [<- Zmo args.toList fun x hx => hev x (by rw [hop]; simp [Op.operands, Call.operands]; exact .inr (by simpa using hx))]; exact hv
 ·rintro w H' ⟨h1, h2⟩
  cases h1
  exact ⟨v', H, hb, h2, rfl, hp, by rw [Zxl hKu]; exact Zph ⟨rfl, rfl⟩⟩
 ·rintro w H' ⟨h1, h2⟩
  cases h1
theorem Zsa (s : St) (d : Nat) (c : List A) : s.alloc d c = s.at (s.alloc d c) d :=
 St.ext' (fun t => by
  by_cases h : t = d
  ·subst h; exact (Zko _ _ _).symm
  ·refine Same.trans ⟨Zal _ _ h, Zal _ _ h, fun n => Zal _ _ fun e => ?_⟩ (Zr4 h).symm
   cases e; exact h rfl) fun q => Zal _ _ fun e => by cases e
theorem Z0i {s u : St} {d : Nat} {c : List A} (h : Same d s u) : u.at (s.alloc d c) d = u.alloc d c :=
 St.ext' (fun t => by
  by_cases e : t = d
  ·subst e
   refine (Zko _ _ _).trans ⟨by simp [St.alloc, h.2.1], by simp [St.alloc, h.2.1], fun n => ?_⟩
   simp only [St.alloc, h.2.1]
   unfold upd
   split
   ·rfl
   ·exact h.2.2 n
  ·refine (Zr4 e).trans ⟨(Zal _ _ e).symm, (Zal _ _ e).symm, fun n => (Zal _ _ fun e' => ?_).symm⟩
   cases e'; exact e rfl) fun q => (Zal _ _ fun e => by cases e).symm
noncomputable def newA (P : Program) (s : St) (o : Oper) : Option (List A) :=
 match o.op with
 | .alloc t => (match Zft P t with
   | some z => if z.all isCell then some (z.map Zdv) else none
   | none => none)
 | .box _ x => s.boxC x
 | _ => none
theorem Zhf {P : Program} {N : Nat} {s : St} {c : List A} (hd : o.dst = some d) (hN : d < N) (h : newA P s o = some c) : Zcd P N ops s o = some (s.alloc d c) := by
 unfold newA at h
 unfold Zcd
 rw [hd]
 simp only [hN, if_true]
 split at h
 ·rename_i t hop
  rw [hop]
  simp only
  split at h
  ·rename_i z hz
   rw [hz]
   simp only
   split at h
   ·rename_i hc
    cases h
    simp only [hc, if_true]
   ·cases h
  ·cases h
 ·rename_i t x hop
  rw [hop]
  simp only [h, Option.map_some]
 ·cases h
theorem Z3q {c : List A} (ho : ops[i]? = some o) (hd : o.dst = some d) (hN : d < C.N) (hw : Za8 ops s o = some true) (hv : newA C.P s o = some c) : Loc C ops i d (Zck ops s o) s (s.alloc d c) := by
 refine ⟨Zsa s d c, fun u h => ?_⟩
 have hT : ∀ t ∈ Zck ops s o, t ∈ d :: Zck ops s o := fun t ht => List.mem_cons_of_mem _ ht
 rw [Z0i (h.sl d (List.mem_cons_self ..))]
 have hev := Zr8 hT h
 refine Zmc ho ((Zei hT h).trans hw) (Zde (Zhf (ops := ops) hd hN ?_)) (Zph ⟨rfl, rfl⟩)
 rw [<- hv]
 unfold newA
 split
 ·rfl
 ·rename_i t x hop
  exact (Zvu (hev x (by rw [hop]; simp [Op.operands]))).symm
 ·rfl
end
def Zsb (ops : Array Oper) (i : Nat) : Nat := ((ops[i]?).bind (·.dst)).getD 0
def Z6a (ops : Array Oper) (i : Nat) : List Nat := Zbw ops i ++ (Zbw ops i).flatMap (Zbw ops)
def Zks (ops : Array Oper) (m k : Nat) (T : List Nat) : Bool := T.all fun t => (List.range m).all fun j => Zsb ops j != t || (Z6a ops k).contains j
def Z0j (C : Ctx) (ops : Array Oper) (m k d : Nat) (s : St) (next : St -> Prop) : Prop := ∃ T s', Loc C ops k d T s s' /\ Zks ops m k T = true /\ next s'
noncomputable def wpD (C : Ctx) (P : Program) (N : Nat) (ops : Array Oper) (m : Nat) : List Oper -> Nat -> (Ex -> St -> Prop) -> St -> Prop
 | [], _, Q, s => wpL C P N ops (ops.toList.drop m) m Q s
 | o :: l, k, Q, s => match o.dst with
   | none => False
   | some d => d < N /\ (match Za8 ops s o with
     | some true => (match Zds P s o d with
       | some v => Zks ops m k (Zck ops s o) = true /\ wpD C P N ops m l (k + 1) Q (s.put d v)
       | none => (match newA P s o with
         | some c => Zks ops m k (Zck ops s o) = true /\ wpD C P N ops m l (k + 1) Q (s.alloc d c)
         | none => Z0j C ops m k d s (fun s' => wpD C P N ops m l (k + 1) Q s')))
     | some false => Zks ops m k (Zck ops s o) = true /\ wpD C P N ops m l (k + 1) Q (s.put d (.tup []))
     | none => False)
attribute [simp] wpD Zds newA Zck A.deps Zks Zsb Z6a Zbw Oper.looksAt Op.operands Call.operands Region.binds
end Go.Ab
end
section
namespace Go.Ab
open Classical
theorem OpOk.makeSlice {C : Ctx} {o : Oper} {s : St} {d : Nat} {T : TypeId} {x y : Operand} {m by_ : Nat} {c : Bool} {e : TypeId} {k k' : IntKind} {l n : Int} {z : List Value} (hop : o.op = .makeSlice T x y) (hd : o.dst = some d) (hN : d < C.N)
 (hT : slOf C.P T = some (m, by_, c, e)) (hz : Zft C.P e = some z) (hzc : z.all isCell = true) (hx : s.lit x = some (.int k l)) (hy : s.lit y = some (.int k' n)) (h0 : 0 <= l) (hln : l <= n) (hby : (by_ : Int) * n <= 281474976710656)
 (h63 : n <= 9223372036854775807) : OpOk C o s (s.put d (.own m [] (List.replicate l.toNat (z.map constD)))) := by
 intro g a w hR K Q hK
 obtain ⟨hu, hs, hm0, i, zv, hi, hbyt, hsize, hzv, hzs⟩ := Zbj hT
 obtain ⟨i', z', hi', hz', hzs', hzl⟩ := Zhb hz
 rw [hi] at hi'
 cases hi'
 rw [hzv] at hz'
 cases hz'
 have hm : 0 < m := Nat.pos_of_ne_zero hm0
 have hrun : (execOp a.eval o).run C.P w = .ok (.value (.slice (some ⟨w.heap.size, 0, none⟩) l.toNat n.toNat)) { w with heap := w.heap.push (.cells (madeCells zv.cells (n.toNat * m)) e) } := by
  have := run_make (P := C.P) w T e i zv hu hi hzv k k' l n h0 hln (by rw [hbyt]; exact hby) h63
  rw [hsize] at this
  simp only [execOp, hop, hR.lit hx, hR.lit hy]
  simp [this]
 refine Zd2 hrun ?_
 obtain ⟨r1, r2, r3, r4, r5⟩ := hR.push (madeCells zv.cells (n.toNat * m)) e
 have hzlen : z.length = m := by rw [<- hzl, Array.length_toList, hzs', hsize]
 have hel : Elems { w with heap := w.heap.push (.cells (madeCells zv.cells (n.toNat * m)) e) } g.Pr (madeCells zv.cells (n.toNat * m)) m ([] ++ List.replicate l.toNat (z.map constD)) := by
  intro q j hq hj
  simp only [List.nil_append, List.length_replicate] at hq
  simp only [List.nil_append, List.getElem_replicate, List.length_map, hzlen] at hj ⊢
  have hlt : q * m + j < n.toNat * m := Zhv (by omega) hj
  have hzcs : zv.cells.size = m := by rw [hzs', hsize]
  have hmod : (q * m + j) % zv.cells.size = j := by rw [hzcs, Nat.mul_comm, Nat.mul_add_mod, Nat.mod_eq_of_lt hj]
  refine ⟨z[j]'(by omega), ?_, ?_⟩
  ·simp only [madeCells, Array.getElem?_map, Array.getElem?_range, hlt, if_true, Option.map_some, hmod]
   congr 1
   have : j < zv.cells.size := by omega
   simp only [getElem!_pos zv.cells j this, <- hzl, Array.getElem_toList]
  ·rw [List.getElem_map]
   exact RepD.constD _ (List.all_eq_true.1 hzc _ (List.getElem_mem _))
 obtain ⟨g', hg'⟩ := OpOk.append_core (es := []) (nw := List.replicate l.toNat (z.map constD)) (m := m) (cap := n.toNat) hN r3 (.inl r4) r1 (v := .slice (some ⟨w.heap.size, 0, none⟩) l.toNat n.toNat) (by simp only [List.length_nil, List.length_replicate, Nat.zero_add]) r2 hm (by rw [size_madeCells]) (by simp only [List.length_nil, List.length_replicate, Nat.zero_add]; omega)
  (fun y hy => by simp only [List.nil_append, List.mem_replicate] at hy; rw [hy.2, List.length_map, hzlen]) hel (fun k hk => absurd hk (r5 k))
 rw [hd]
 exact hK g' _ _ hg'
end Go.Ab
end
