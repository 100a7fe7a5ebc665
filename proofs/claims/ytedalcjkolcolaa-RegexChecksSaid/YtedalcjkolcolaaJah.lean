/- Part 8 of the proof: RfFn. -/
import Derived.KernelRfl
import Derived.Test.YtedalcjkolcolaaJag
section
namespace Go.Rf
open Go.Ab
def RA.noOwn : RA → Bool
  | .ptr (.own _) _ => false
  | .fn _ l => l.all fun r => match r with | .up _ => true | .own _ => false
  | .als _ | .opt _ _ _ _ | .gv _ _ => false
  | _ => true
theorem noOwn_den {x : RA} (h : x.noOwn = true) {ρ : Env} {m : Nm} {gen : Nat → Nat} : x.den ρ m gen = x.den ρ ⟨m.up, gen0⟩ gen0 ∧ noOwnRef (x.den ρ m gen) = true := by
  cases x with
  | ptr r o => cases r with
    | own t => cases h
    | up n => exact ⟨rfl, rfl⟩
  | fn f l =>
    have key : ∀ r ∈ l, r.den m = r.den ⟨m.up, gen0⟩ ∧ ∃ q, r.den m = .up q := fun r hr => by
      have := List.all_eq_true.1 h r hr
      cases r with
      | own t => cases this
      | up n => exact ⟨rfl, _, rfl⟩
    refine ⟨by simp only [RA.den]; congr 1; exact List.map_congr_left fun r hr => (key r hr).1, ?_⟩
    simp only [RA.den, noOwnRef, List.all_eq_true, List.mem_map]
    rintro r ⟨q, hq, rfl⟩
    obtain ⟨u, hu⟩ := (key q hq).2
    rw [hu]
  | als t => cases h
  | opt t sz i j => cases h
  | gv g v => cases h
  | _ => exact ⟨rfl, rfl⟩
def res1 (c : Cfg) (rs : RSt) : ResultVar → Option (List E × RA)
  | .tmp t => (match rs.tm.get t with
    | .own sz es nw => some ([], .own sz es nw)
    | r => (match rval rs r with | some v => some ([], v) | none => none))
  | .cell t ty => rload c.P ty rs (rs.tm.get t)
def tup1 : RA → Option (Bool × E)
  | .c x => some (false, x)
  | .agg e => some (true, e)
  | .zs es => some (false, .o1 .cl es)
  | .own _ es .lnil => some (false, .o1 .cl es)
  | _ => none
def resN (c : Cfg) (rs : RSt) : List ResultVar → Option (List E × List (Bool × E))
  | [] => some ([], [])
  | r :: l => match res1 c rs r, resN c rs l with
    | some (n, v), some (n', vs) => (match tup1 v with | some x => some (n ++ n', x :: vs) | none => none)
    | _, _ => none
def resT (c : Cfg) (rs : RSt) (l : List ResultVar) : Option (List E × RA) :=
  match l with
  | [r] => res1 c rs r
  | l => (match resN c rs l with | some (n, vs) => some (n, .tup vs) | none => none)
def finT (c : Cfg) (rl : List ResultVar) (names : List RRef) : Re → RSt → T := fun e rs =>
  match gatherK rs.K names with
  | some K => if K.all (fun x => x.2.all RA.noOwn) then (match e with
    | .nrm | .ret => (match resT c rs rl with
      | some (n, v) => asks (.bool true) n rs (fun _ => if v.noOwn then .ret v K else .bad 80)
      | none => .bad 81)
    | .pan v => .pan v K
    | .exit _ => .bad 82) else .bad 83
  | none => .bad 84
def setArgs : Tr → Nat → List RA → Tr
  | t, _, [] => t
  | t, k, x :: l => setArgs (t.set k x) (k + 1) l
def entry (depth : Nat) (args : List RA) (K : List (RRef × List RA)) (nv : Nat) : RSt := { tm := setArgs (Tr.full depth) 0 args, K := K, nv := nv, dep := 0, known := [], al := false }
theorem full_get : ∀ (n k : Nat), (Tr.full n).get k = .any
  | 0, _ => rfl
  | n + 1, k => by
    unfold Tr.full Tr.get
    split
    · rfl
    · split <;> exact full_get n _
theorem setArgs_get : ∀ (l : List RA) (t : Tr) (k j : Nat), (setArgs t k l).get j = .any ∨ (j < k ∧ (setArgs t k l).get j = t.get j) ∨ (k ≤ j ∧ l[j - k]? = some ((setArgs t k l).get j)) ∨ (k + l.length ≤ j ∧ (setArgs t k l).get j = t.get j)
  | [], t, k, j => by
    by_cases h : j < k
    · exact .inr (.inl ⟨h, rfl⟩)
    · exact .inr (.inr (.inr ⟨by simpa using h, rfl⟩))
  | x :: l, t, k, j => by
    rcases setArgs_get l (t.set k x) (k + 1) j with h | ⟨h1, h2⟩ | ⟨h1, h2⟩ | ⟨h1, h2⟩
    · exact .inl h
    · by_cases e : j = k
      · subst e
        rcases Tr.get_set x t j with h3 | h3
        · right; right; left
          refine ⟨Nat.le_refl _, ?_⟩
          show (x :: l)[j - j]? = some ((setArgs (t.set j x) (j + 1) l).get j)
          rw [h2, h3]; simp
        · left
          show (setArgs (t.set j x) (j + 1) l).get j = .any
          rw [h2, h3]
      · right; left
        refine ⟨by omega, ?_⟩
        show (setArgs (t.set k x) (k + 1) l).get j = t.get j
        rw [h2, Tr.get_set_ne x t e]
    · right; right; left
      refine ⟨by omega, ?_⟩
      have : j - k = (j - (k + 1)) + 1 := by omega
      rw [this, List.getElem?_cons_succ]
      exact h2
    · right; right; right
      refine ⟨by simp; omega, ?_⟩
      show (setArgs (t.set k x) (k + 1) l).get j = t.get j
      rw [h2, Tr.get_set_ne x t (by omega)]
section
variable {ρ : Env} {m : Nm} {rs : RSt} {s : St} {R : Out → List (Ref × List A) → Prop}
theorem res1_ok {c : Cfg} (hd : Den ρ m rs s) {r : ResultVar} {n : List E} {v : RA} (h : res1 c rs r = some (n, v)) (hn : Nds ρ n) : resOne c.P s r = some (v.den ρ m s.gen) := by
  cases r with
  | tmp t =>
    simp only [res1] at h
    split at h
    · rename_i sz es nw ht
      cases h
      have := (hd.tm t).resolve_left (by rw [ht]; intro e; cases e)
      rw [ht] at this
      simp only [resOne, this, RA.den]
    · rename_i hne
      split at h
      · rename_i v' hv
        cases h
        have hany : rs.tm.get t ≠ .any := by intro e; rw [e] at hv; simp [rval] at hv
        have he := (hd.tm t).resolve_left hany
        have he' : s.ev (.tmp t) = (rs.tm.get t).den ρ m s.gen := he
        have h1 := (val_of hd he' hv).1
        show (match s.tm t with
          | .own sz es nw => some (A.own sz es nw)
          | _ => s.val (.tmp t)) = _
        split
        · rename_i sz es nw ht
          exfalso
          rw [ht] at he
          generalize rs.tm.get t = q at *
          cases q with
          | own a b e => exact hne _ _ _ rfl
          | gv g v => simp [rval] at hv
          | _ => cases he
        · exact h1
      · cases h
  | cell t ty =>
    simp only [res1] at h
    have hany : rs.tm.get t ≠ .any := by intro e; rw [e] at h; unfold rload at h; split at h <;> simp at h
    have he := (hd.tm t).resolve_left hany
    have := load_of (x := .tmp t) hd (r := rs.tm.get t) he h hn
    exact this.1
theorem tup1_ok {v : RA} {x : Bool × E} {gen : Nat → Nat} (h : tup1 v = some x) : tupOne (v.den ρ m gen) = some (tupDen ρ x) := by
  unfold tup1 at h
  split at h <;> cases h <;> rfl
theorem resN_ok {c : Cfg} (hd : Den ρ m rs s) : ∀ {l : List ResultVar} {n : List E} {vs : List (Bool × E)}, resN c rs l = some (n, vs) → Nds ρ n → ((l.mapM (resOne c.P s)).bind fun vs => vs.mapM tupOne) = some (vs.map (tupDen ρ))
  | [], _, _, h, _ => by cases h; rfl
  | r :: l, n, vs, h, hn => by
    unfold resN at h
    split at h
    · rename_i a v b vs' h1 h2
      split at h
      · rename_i x hx
        cases h
        have h3 := nds_app.1 hn
        have h4 := res1_ok hd h1 h3.1
        have h5 := resN_ok hd h2 h3.2
        rw [Option.bind_eq_some_iff] at h5
        obtain ⟨as, h6, h7⟩ := h5
        simp only [List.mapM_cons, h4, h6, bind, Option.bind_some, pure, tup1_ok hx, h7, List.map_cons]
      · cases h
    · cases h
theorem resT_ok {c : Cfg} (hd : Den ρ m rs s) {l : List ResultVar} {n : List E} {v : RA} (h : resT c rs l = some (n, v)) (hn : Nds ρ n) : resA c.P s l = some (v.den ρ m s.gen) := by
  unfold resT at h
  unfold resA
  split at h
  · exact res1_ok hd h hn
  · rename_i hne
    split at h
    · rename_i a vs h1
      cases h
      have h2 := resN_ok hd h1 hn
      split
      · rename_i r; exact absurd rfl (hne r)
      · rw [h2]; rfl
    · cases h
theorem gather_names {K : List (RRef × List RA)} : ∀ {l : List RRef} {b : List (RRef × List RA)}, gatherK K l = some b → b.map (·.1) = l
  | [], _, h => by cases h; rfl
  | r :: l, b, h => by
    unfold gatherK at h
    split at h
    · rename_i c b' h1 h2
      cases h
      rw [List.map_cons, gather_names h2]
    · cases h
theorem fin_ok {c : Cfg} {rl : List ResultVar} {up : Nat → Ref} {H : List (Ref × List A)} {K0 : List (RRef × List RA)} {ρ0 : Env} (hH : H.map (·.1) = (bxDen ρ0 ⟨up, gen0⟩ K0).map (·.1)) (hnames : ∀ x ∈ K0, ∃ n, x.1 = .up n) {n0 : Nat} :
    GoodE c.P up R n0 ρ0 [] (Kf c.P rl H R) (finT c rl (K0.map (·.1))) := by
  intro e ρ m rs s σ _ _ hu _ _ hd h
  unfold finT at h
  split at h
  · rename_i K hK
    split at h
    · rename_i hno
      have hup : (⟨m.up, gen0⟩ : Nm) = ⟨up, gen0⟩ := by rw [hu]
      have hcell : ∀ x ∈ K, kDen ρ m x.2 = kDen ρ ⟨up, gen0⟩ x.2 ∧ (kDen ρ m x.2).all noOwnRef = true := fun x hx => by
        have h1 := List.all_eq_true.1 hno x hx
        refine ⟨List.map_congr_left fun y hy => ?_, ?_⟩
        · have := (noOwn_den (List.all_eq_true.1 h1 y hy) (ρ := ρ) (m := m) (gen := fun _ => 0)).1
          rw [this, hup]; rfl
        · rw [List.all_eq_true]
          intro a ha
          obtain ⟨y, hy, rfl⟩ := List.mem_map.1 ha
          exact (noOwn_den (List.all_eq_true.1 h1 y hy)).2
      have hnm : K.map (·.1) = K0.map (·.1) := gather_names hK
      have hname : ∀ x ∈ K, x.1.den m = x.1.den ⟨up, gen0⟩ := fun x hx => by
        have : x.1 ∈ K0.map (·.1) := hnm ▸ List.mem_map.2 ⟨x, hx, rfl⟩
        obtain ⟨y, hy, e⟩ := List.mem_map.1 this
        obtain ⟨n, hn⟩ := hnames y hy
        rw [← e, hn]
        show Ref.up (m.up n) = Ref.up (up n)
        rw [hu]
      have hleft : Ab.Left s H (bxDen ρ ⟨up, gen0⟩ K) := by
        refine ⟨?_, fun x hx => ?_⟩
        · rw [hH]
          have := congrArg (List.map (RRef.den ⟨up, gen0⟩)) hnm
          simpa [bxDen, Function.comp_def] using this
        · obtain ⟨y, hy, rfl⟩ := List.mem_map.1 hx
          obtain ⟨h1, h2⟩ := hcell y hy
          rw [← h1]
          exact ⟨by rw [← hname y hy]; exact hd.look (gather_mem hK y hy), h2⟩
      have ret : (match resT c rs rl with
          | some (n, v) => asks (.bool true) n rs (fun _ => if v.noOwn then .ret v K else .bad 80)
          | none => .bad 81 : T).den c.P up R ρ σ → Done c.P rl H R s := fun hk => by
        split at hk
        · rename_i n v hv
          obtain ⟨kn, h1, h2, h3⟩ := asks_ok hd.known hk
          split at h3
          · rename_i hvo
            unfold T.den at h3
            obtain ⟨h4, h5⟩ := noOwn_den hvo (ρ := ρ) (m := m) (gen := s.gen)
            exact ⟨v.den ρ m s.gen, bxDen ρ ⟨up, gen0⟩ K, resT_ok hd hv (h2 rfl), h5, hleft, by rw [h4, hup]; exact h3⟩
          · unfold T.den at h3; exact h3.elim
        · unfold T.den at hk; exact hk.elim
      cases e with
      | nrm => exact ret h
      | ret => exact ret h
      | pan v =>
        unfold T.den at h
        exact ⟨bxDen ρ ⟨up, gen0⟩ K, hleft, h⟩
      | exit id => unfold T.den at h; exact h.elim
    · unfold T.den at h; exact h.elim
  · unfold T.den at h; exact h.elim
def argOk (args : List RA) : Bool := args.all fun x => match x with | .c _ | .agg _ | .zs _ => true | .ptr (.up _) _ => true | .fn _ l => (l.all fun r => match r with | .up _ => true | .own _ => false) | _ => false
def boxOk (K : List (RRef × List RA)) : Bool := K.all fun x => (match x.1 with | .up _ => true | .own _ => false)
@[irreducible] def T.vc (P : Program) (up : Nat → Ref) (R : Out → List (Ref × List A) → Prop) (t : T) (ρ : Env) : Prop := t.den P up R ρ []
theorem walk {c : Cfg} {op : Opt} {f : FuncId} {fn : Func} {code : Code} {rl : List ResultVar} {args : List RA} {K : List (RRef × List RA)} {nv depth : Nat} {up : Nat → Ref} {ρ : Env} {t : T} (hmx : c.P.follows .mixedOrders = true) (hf : c.P.funcs[f]? = some fn) (hb : fn.body = some code) (hrs : fn.results.toList = rl) (hN : fn.ntmps = c.N)
    (hn : (fn.name == "runtime.NumGoroutine") = false) (hlen : args.length ≤ c.N) (ha : argOk args = true) (hK : boxOk K = true)
    (ht : execT c op code (entry depth args K nv) (finT c rl (K.map (·.1))) = t) (hnd : ((bxDen ρ ⟨up, gen0⟩ K).map (·.1)).Nodup) (h : t.vc c.P up R ρ) :
    Holds c.P f (args.map (RA.den ρ ⟨up, gen0⟩ gen0)) (bxDen ρ ⟨up, gen0⟩ K) R := by
  unfold T.vc at h
  have hargs : ∀ x ∈ args, (x.den ρ ⟨up, gen0⟩ gen0).isOwn = false ∧ (x.den ρ ⟨up, gen0⟩ gen0).plain = true ∧ x.ali = none := fun x hx => by
    have := List.all_eq_true.1 ha x hx
    cases x with
    | c x => exact ⟨rfl, rfl, rfl⟩
    | agg x => exact ⟨rfl, rfl, rfl⟩
    | zs x => exact ⟨rfl, rfl, rfl⟩
    | ptr r o => exact ⟨rfl, rfl, rfl⟩
    | fn f l => exact ⟨rfl, rfl, rfl⟩
    | _ => cases this
  refine holds_aw fn c.N rl hf hb hrs hN hn (by simpa using hlen) hnd (fun x hx => ?_) fun C hP hCN => ?_
  · obtain ⟨y, hy, rfl⟩ := List.mem_map.1 hx
    exact ⟨(hargs y hy).1, (hargs y hy).2.1⟩
  · have hnames : ∀ x ∈ K, ∃ n, x.1 = .up n := fun x hx => by
      have := List.all_eq_true.1 hK x hx
      cases hx1 : x.1 with
      | own t => rw [hx1] at this; cases this
      | up n => exact ⟨n, rfl⟩
    have hget : ∀ j, (entry depth args K nv).tm.get j = .any ∨ args[j]? = some ((entry depth args K nv).tm.get j) := fun j => by
      rcases setArgs_get args (Tr.full depth) 0 j with h | ⟨h1, _⟩ | ⟨_, h2⟩ | ⟨_, h2⟩
      · exact .inl h
      · omega
      · right; rw [Nat.sub_zero] at h2; exact h2
      · left
        show (setArgs (Tr.full depth) 0 args).get j = .any
        rw [h2, full_get]
    have hd : Den ρ ⟨up, gen0⟩ (entry depth args K nv) (initSt (args.map (RA.den ρ ⟨up, gen0⟩ gen0)) (bxDen ρ ⟨up, gen0⟩ K)) := by
      refine ⟨fun j => ?_, fun _ j => ?_, fun r x hx => ?_, ?_, fun e he => by cases he⟩
      · rcases hget j with h1 | h1
        · exact .inl h1
        · right
          show ((args.map (RA.den ρ ⟨up, gen0⟩ gen0))[j]?).getD .any = _
          rw [List.getElem?_map, h1]
          rfl
      · rcases hget j with h1 | h1
        · rw [h1]; rfl
        · exact (hargs _ (List.mem_of_getElem? h1)).2.2
      · exact kOf_of_mem hnd (List.mem_map.2 ⟨(r, x), hx, rfl⟩)
      · have e : (K.map fun x => x.1.den ⟨up, gen0⟩) = (bxDen ρ ⟨up, gen0⟩ K).map (·.1) := by simp [bxDen, Function.comp_def]
        show (K.map fun x => x.1.den ⟨up, gen0⟩).Nodup
        rw [e]; exact hnd
    subst ht
    have := exec_ok (c := c) (op := op) (C := C) hP hCN hmx code (n0 := nv) (ρ0 := ρ) (σ0 := []) (fin_ok (K0 := K) (ρ0 := ρ) rfl hnames) (Agr.refl _ _) (Nat.le_refl _) rfl (List.prefix_rfl) rfl hd h
    exact this
end
def upOf (l : List Ref) : Nat → Ref := fun n => l.getD n (.own 0 0)
def envOf (l : List Dat) : Env := fun n => l.getD n (.i 0)
theorem T_of {a b : Prop} (h : a = b) (hb : b) : a := h ▸ hb
def tB (b : Bool) : Bool := (Dat.b b).bool
@[simp] theorem tB_eq (b : Bool) : tB b = b := by cases b <;> rfl
def gNot (k : IntKind) (a : Int) : Int := k.wrap (BitVec.ofInt k.bits (if k.signed then -1 else k.max) ^^^ BitVec.ofInt k.bits a).toNat
def gAnd (k : IntKind) (a b : Int) : Int := k.wrap (BitVec.ofInt k.bits a &&& BitVec.ofInt k.bits b).toNat
def gOr (k : IntKind) (a b : Int) : Int := k.wrap (BitVec.ofInt k.bits a ||| BitVec.ofInt k.bits b).toNat
def gXor (k : IntKind) (a b : Int) : Int := k.wrap (BitVec.ofInt k.bits a ^^^ BitVec.ofInt k.bits b).toNat
def gAndN (k : IntKind) (a b : Int) : Int := k.wrap (BitVec.ofInt k.bits a &&& ~~~ BitVec.ofInt k.bits b).toNat
def gShl (k : IntKind) (a b : Int) : Int := k.wrap (a * 2 ^ (min b.toNat k.bits))
def gShr (k : IntKind) (a b : Int) : Int := a.fdiv (2 ^ (min b.toNat k.bits))
def gByte (s : List UInt8) (i : Int) : Int := ((s.getD i.toNat 0).toNat : Nat)
def gMax (a b : Int) : Int := if a < b then b else a
def gMin (a b : Int) : Int := if b < a then b else a
def gRune (a : Int) : List UInt8 := (Utf8.encode a).data.toList
def gSub {α : Type} (l : List α) (a b : Int) : List α := (l.take b.toNat).drop a.toNat
def gAt (l : List (List D)) (i : Int) : List D := l.getD i.toNat []
def gSet (l : List (List D)) (i : Int) (r : List D) : List (List D) := l.set i.toNat r
def gRpt (n : Int) (r : List D) : List (List D) := List.replicate n.toNat r
def gBytes (l : List (List D)) : List UInt8 := l.map fun r => UInt8.ofNat (Rf.dint (r.getD 0 D0)).toNat
def bytesB (l : List (List D)) : Bool := l.all fun r => r.length == 1 && Rf.isK (.int .u8) (r.getD 0 D0)
def flatB (m : Nat) (l : List (List D)) : Bool := l.all fun z => z.length == m
end Go.Rf
end
