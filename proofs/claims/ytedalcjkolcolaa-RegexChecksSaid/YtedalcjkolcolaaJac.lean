/- Part 3 of the proof: RfExpr, RfState. -/
import Derived.Test.YtedalcjkolcolaaJab
section
namespace Go.Rf
open Go.Ab
inductive Kd where
  | int (k : IntKind) | bool | str | slc | val
  deriving DecidableEq
inductive Dat where
  | i (n : Int) | b (t : Bool) | s (l : List UInt8) | l (es : List (List D)) | r (es : List D) | d (x : D)
def D0 : D := .lit .nilIface
def Dat.int : Dat → Int | .i n => n | _ => 0
def Dat.bool : Dat → Bool | .b n => n | _ => false
def Dat.str : Dat → List UInt8 | .s n => n | _ => []
def Dat.lst : Dat → List (List D) | .l n => n | _ => []
def Dat.row : Dat → List D | .r n => n | _ => []
def Dat.dd : Dat → D | .d n => n | _ => D0
theorem Dat.int_i (n : Int) : (Dat.i n).int = n := rfl
theorem Dat.bool_b (n : Bool) : (Dat.b n).bool = n := rfl
theorem Dat.str_s (n : List UInt8) : (Dat.s n).str = n := rfl
theorem Dat.lst_l (n : List (List D)) : (Dat.l n).lst = n := rfl
theorem Dat.row_r (n : List D) : (Dat.r n).row = n := rfl
theorem Dat.dd_d (n : D) : (Dat.d n).dd = n := rfl
def dint : D → Int | .lit (.int _ n) => n | _ => 0
def dbool : D → Bool | .lit (.bool n) => n | _ => false
def dstr : D → List UInt8 | .lit (.string b) => b.data.toList | _ => []
def dlst : D → List (List D) | .slc l => l | _ => []
def dval : D → Value | .lit v => v | _ => .nilIface
def isK : Kd → D → Bool
  | .int k, .lit (.int k' _) => decide (k' = k)
  | .bool, .lit (.bool _) => true
  | .str, .lit (.string _) => true
  | .slc, .slc _ => true
  | .val, _ => true
  | _, _ => false
def isLits (l : List D) : Bool := l.all fun | .lit _ => true | _ => false
def bytesV (l : List UInt8) : Value := .string ⟨l.toArray⟩
inductive O1 where
  | wrap (k : IntKind) | bnot (k : IntKind) | not | slen | llen | rlen | ci (k : IntKind) | cb | cs | cl | dint | dbool | dstr | dlst
  | isK (k : Kd) | cell (j : Nat) | rsub (o n : Nat) | utf8 | mkI (t : Nat) | mkA (t : Nat) | rone | flat (m : Nat) | lits | tb | bytes | isBytes
  deriving DecidableEq
inductive O2 where
  | add | sub | mul | quo | rem | band (k : IntKind) | bor (k : IntKind) | bxor (k : IntKind) | bandn (k : IntKind) | shl (k : IntKind) | shr (k : IntKind)
  | eqI | ltI | leI | eqB | and | or | eqS | ltS | catS | byte | at | lcons | rcons | lcat | rset (o : Nat) | max | min | rpt
  deriving DecidableEq
inductive O3 where
  | iteI | iteB | iteS | iteL | iteR | subS | subL | lset
  deriving DecidableEq
inductive E where
  | var (n : Nat) | int (n : Int) | bool (t : Bool) | str (l : List UInt8) | val (v : Value) | lnil | rnil
  | o1 (o : O1) (a : E) | o2 (o : O2) (a b : E) | o3 (o : O3) (a b c : E)
abbrev Env := Nat → Dat
def Env.set (ρ : Env) (n : Nat) (x : Dat) : Env := fun m => if m = n then x else ρ m
def sem1 : O1 → Dat → Dat
  | .wrap k, a => .i (k.wrap a.int)
  | .bnot k, a => .i (k.wrap (BitVec.ofInt k.bits (if k.signed then -1 else k.max) ^^^ BitVec.ofInt k.bits a.int).toNat)
  | .not, a => .b (!a.bool)
  | .slen, a => .i a.str.length
  | .llen, a => .i a.lst.length
  | .rlen, a => .i a.row.length
  | .ci k, a => .d (.lit (.int k a.int))
  | .cb, a => .d (.lit (.bool a.bool))
  | .cs, a => .d (.lit (bytesV a.str))
  | .cl, a => .d (.slc a.lst)
  | .dint, a => .i (Rf.dint a.dd)
  | .dbool, a => .b (Rf.dbool a.dd)
  | .dstr, a => .s (Rf.dstr a.dd)
  | .dlst, a => .l (Rf.dlst a.dd)
  | .isK k, a => .b (Rf.isK k a.dd)
  | .cell j, a => .d (a.row.getD j D0)
  | .rsub o n, a => .r ((a.row.drop o).take n)
  | .utf8, a => .s (Utf8.encode a.int).data.toList
  | .mkI t, a => .d (.lit (.iface t (dval a.dd)))
  | .mkA t, a => .d (.lit (.iface t (.agg (a.row.map dval).toArray)))
  | .rone, a => .r [a.dd]
  | .flat m, a => .b (a.lst.all fun z => z.length == m)
  | .lits, a => .b (isLits a.row)
  | .tb, a => .b a.bool
  | .bytes, a => .s (a.lst.map fun r => UInt8.ofNat (Rf.dint (r.getD 0 D0)).toNat)
  | .isBytes, a => .b (a.lst.all fun r => r.length == 1 && Rf.isK (.int .u8) (r.getD 0 D0))
def sem2 : O2 → Dat → Dat → Dat
  | .add, a, b => .i (a.int + b.int)
  | .sub, a, b => .i (a.int - b.int)
  | .mul, a, b => .i (a.int * b.int)
  | .quo, a, b => .i (a.int.tdiv b.int)
  | .rem, a, b => .i (a.int.tmod b.int)
  | .band k, a, b => .i (k.wrap (BitVec.ofInt k.bits a.int &&& BitVec.ofInt k.bits b.int).toNat)
  | .bor k, a, b => .i (k.wrap (BitVec.ofInt k.bits a.int ||| BitVec.ofInt k.bits b.int).toNat)
  | .bxor k, a, b => .i (k.wrap (BitVec.ofInt k.bits a.int ^^^ BitVec.ofInt k.bits b.int).toNat)
  | .bandn k, a, b => .i (k.wrap (BitVec.ofInt k.bits a.int &&& ~~~ BitVec.ofInt k.bits b.int).toNat)
  | .shl k, a, b => .i (k.wrap (a.int * 2 ^ (min b.int.toNat k.bits)))
  | .shr k, a, b => .i (a.int.fdiv (2 ^ (min b.int.toNat k.bits)))
  | .eqI, a, b => .b (a.int == b.int)
  | .ltI, a, b => .b (decide (a.int < b.int))
  | .leI, a, b => .b (decide (a.int ≤ b.int))
  | .eqB, a, b => .b (a.bool == b.bool)
  | .and, a, b => .b (a.bool && b.bool)
  | .or, a, b => .b (a.bool || b.bool)
  | .eqS, a, b => .b (a.str == b.str)
  | .ltS, a, b => .b (Op.bytesLess a.str b.str)
  | .catS, a, b => .s (a.str ++ b.str)
  | .byte, a, b => .i ((a.str.getD b.int.toNat 0).toNat : Nat)
  | .at, a, b => .r (a.lst.getD b.int.toNat [])
  | .lcons, a, b => .l (a.row :: b.lst)
  | .rcons, a, b => .r (a.dd :: b.row)
  | .lcat, a, b => .l (a.lst ++ b.lst)
  | .rset o, a, b => .r (setL a.row o b.row)
  | .max, a, b => .i (if a.int < b.int then b.int else a.int)
  | .min, a, b => .i (if b.int < a.int then b.int else a.int)
  | .rpt, a, b => .l (List.replicate a.int.toNat b.row)
def sem3 : O3 → Dat → Dat → Dat → Dat
  | .iteI, a, b, c => .i (if a.bool then b.int else c.int)
  | .iteB, a, b, c => .b (if a.bool then b.bool else c.bool)
  | .iteS, a, b, c => .s (if a.bool then b.str else c.str)
  | .iteL, a, b, c => .l (if a.bool then b.lst else c.lst)
  | .iteR, a, b, c => .r (if a.bool then b.row else c.row)
  | .subS, a, b, c => .s ((a.str.take c.int.toNat).drop b.int.toNat)
  | .subL, a, b, c => .l ((a.lst.take c.int.toNat).drop b.int.toNat)
  | .lset, a, b, c => .l (a.lst.set b.int.toNat c.row)
def E.den : E → Env → Dat
  | .var n, ρ => ρ n
  | .int n, _ => .i n
  | .bool t, _ => .b t
  | .str l, _ => .s l
  | .val v, _ => .d (.lit v)
  | .lnil, _ => .l []
  | .rnil, _ => .r []
  | .o1 o a, ρ => sem1 o (a.den ρ)
  | .o2 o a b, ρ => sem2 o (a.den ρ) (b.den ρ)
  | .o3 o a b c, ρ => sem3 o (a.den ρ) (b.den ρ) (c.den ρ)
def E.beq : E → E → Bool
  | .var n, .var m => n == m
  | .int n, .int m => n == m
  | .bool n, .bool m => n == m
  | .str n, .str m => n == m
  | .lnil, .lnil => true
  | .rnil, .rnil => true
  | .o1 o a, .o1 p b => decide (o = p) && a.beq b
  | .o2 o a b, .o2 p c d => decide (o = p) && (a.beq c && b.beq d)
  | .o3 o a b e, .o3 p c d f => decide (o = p) && (a.beq c && (b.beq d && e.beq f))
  | _, _ => false
theorem E.beq_eq : ∀ {a b : E}, a.beq b = true → a = b := by
  intro a
  induction a with
  | var n => intro b h; cases b <;> simp [E.beq] at h; rw [h]
  | int n => intro b h; cases b <;> simp [E.beq] at h; rw [h]
  | bool n => intro b h; cases b <;> simp [E.beq] at h; rw [h]
  | str n => intro b h; cases b <;> simp [E.beq] at h; rw [h]
  | val v => intro b h; cases b <;> simp [E.beq] at h
  | lnil => intro b h; cases b <;> simp [E.beq] at h; rfl
  | rnil => intro b h; cases b <;> simp [E.beq] at h; rfl
  | o1 o a iha => intro b h; cases b <;> simp [E.beq] at h; rw [h.1, iha h.2]
  | o2 o a b iha ihb => intro b h; cases b <;> simp [E.beq] at h; rw [h.1, iha h.2.1, ihb h.2.2]
  | o3 o a b c iha ihb ihc => intro b h; cases b <;> simp [E.beq] at h; rw [h.1, iha h.2.1, ihb h.2.2.1, ihc h.2.2.2]
def E.lt (n : Nat) : E → Bool
  | .var m => Nat.blt m n
  | .o1 _ a => a.lt n
  | .o2 _ a b => a.lt n && b.lt n
  | .o3 _ a b c => a.lt n && (b.lt n && c.lt n)
  | _ => true
def Agr (n : Nat) (ρ ρ' : Env) : Prop := ∀ i, i < n → ρ' i = ρ i
theorem Agr.refl (n : Nat) (ρ : Env) : Agr n ρ ρ := fun _ _ => rfl
theorem Agr.trans {n m : Nat} {ρ ρ' ρ'' : Env} (h : Agr n ρ ρ') (k : Agr m ρ' ρ'') (hn : n ≤ m) : Agr n ρ ρ'' := fun i hi => (k i (Nat.lt_of_lt_of_le hi hn)).trans (h i hi)
theorem Agr.set {n m : Nat} {ρ ρ' : Env} (h : Agr n ρ ρ') (x : Dat) (hm : n ≤ m) : Agr n ρ (ρ'.set m x) := fun i hi => by
  have : i ≠ m := by omega
  simp [Env.set, this, h i hi]
theorem E.den_agr {n : Nat} {ρ ρ' : Env} (h : Agr n ρ ρ') : ∀ {e : E}, e.lt n = true → e.den ρ' = e.den ρ
  | .var m, hl => h m (by simpa [E.lt, Nat.blt_eq] using hl)
  | .int _, _ | .bool _, _ | .str _, _ | .val _, _ | .lnil, _ | .rnil, _ => rfl
  | .o1 o a, hl => by simp only [E.den]; rw [E.den_agr h (e := a) hl]
  | .o2 o a b, hl => by
    simp only [E.lt, Bool.and_eq_true] at hl
    simp only [E.den]; rw [E.den_agr h (e := a) hl.1, E.den_agr h (e := b) hl.2]
  | .o3 o a b c, hl => by
    simp only [E.lt, Bool.and_eq_true] at hl
    simp only [E.den]; rw [E.den_agr h (e := a) hl.1, E.den_agr h (e := b) hl.2.1, E.den_agr h (e := c) hl.2.2]
def E.cells : E → Option (List E)
  | .rnil => some []
  | .o2 .rcons a b => (match b.cells with | some l => some (a :: l) | none => none)
  | .o1 .rone a => some [a]
  | _ => none
def E.ofCells : List E → E
  | [] => .rnil
  | a :: l => .o2 .rcons a (ofCells l)
theorem E.den_ofCells (ρ : Env) : ∀ l : List E, (E.ofCells l).den ρ = .r (l.map fun e => (e.den ρ).dd)
  | [] => rfl
  | a :: l => by simp [E.ofCells, E.den, sem2, E.den_ofCells ρ l, Dat.row]
theorem E.cells_den (ρ : Env) : ∀ {e : E} {l : List E}, e.cells = some l → e.den ρ = .r (l.map fun e => (e.den ρ).dd) := by
  intro e
  induction e with
  | rnil => intro l h; cases h; rfl
  | o2 o a b iha ihb =>
    intro l h
    cases o <;> simp only [E.cells] at h <;> try cases h
    split at h
    · rename_i l' hl
      cases h
      simp [E.den, sem2, ihb hl, Dat.row]
    · cases h
  | o1 o a iha =>
    intro l h
    cases o <;> simp only [E.cells] at h <;> cases h
    simp [E.den, sem1]
  | _ => intro l h; cases h
def E.rowsB : E → Bool
  | .lnil => true
  | .o2 .lcons (.o2 .rcons (.o1 (.ci .u8) _) .rnil) l => l.rowsB
  | _ => false
theorem E.rowsB_den (ρ : Env) : ∀ {e : E}, e.rowsB = true → ((e.den ρ).lst.all fun r => r.length == 1 && Rf.isK (.int .u8) (r.getD 0 D0)) = true := by
  intro e
  induction e with
  | lnil => intro _; rfl
  | o2 o a b iha ihb =>
    intro h
    unfold E.rowsB at h
    split at h
    · rename_i e; cases e
    · rename_i e1
      cases e1
      have := ihb h
      simp only [E.den, sem2, Dat.lst_l, List.all_cons, this, Dat.row_r, Dat.dd_d, sem1]
      rfl
    · cases h
  | _ => intro h; simp [E.rowsB] at h
def m1 : O1 → E → E
  | .wrap k, .int n => .int (k.wrap n)
  | .not, .bool t => .bool !t
  | .not, .o1 .not a => (match a with
    | .o2 .eqI _ _ | .o2 .ltI _ _ | .o2 .leI _ _ | .o2 .and _ _ | .o2 .or _ _ | .o2 .eqS _ _ | .o2 .eqB _ _ | .o1 .dbool _ | .o1 .not _ | .o1 .tb _ => a
    | _ => .o1 .not (.o1 .not a))
  | .slen, .str l => .int l.length
  | .llen, .lnil => .int 0
  | .rlen, a => (match a.cells with | some l => .int l.length | none => .o1 .rlen a)
  | .dint, .o1 (.ci k) (.int n) => .int n
  | .cell j, a => (match a.cells with
    | some l => (match l[j]? with
      | some (.o1 (.ci k) x) => .o1 (.ci k) x
      | some (.o1 .cb x) => .o1 .cb x
      | some (.o1 .cs x) => .o1 .cs x
      | some (.o1 .cl x) => .o1 .cl x
      | _ => .o1 (.cell j) a)
    | none => .o1 (.cell j) a)
  | .isK (.int k), .o1 (.ci k') x => if k' = k then .bool true else .o1 (.isK (.int k)) (.o1 (.ci k') x)
  | .isK .bool, .o1 .cb _ => .bool true
  | .isK .str, .o1 .cs _ => .bool true
  | .isK .slc, .o1 .cl _ => .bool true
  | .isK .val, _ => .bool true
  | .rsub o n, a => (match a.cells with | some l => E.ofCells ((l.drop o).take n) | none => .o1 (.rsub o n) a)
  | .flat _, .lnil => .bool true
  | .flat n, .o2 .lcons a .lnil => (match a.cells with | some l => if l.length = n then .bool true else .o1 (.flat n) (.o2 .lcons a .lnil) | none => .o1 (.flat n) (.o2 .lcons a .lnil))
  | .isBytes, a => if a.rowsB then .bool true else .o1 .isBytes a
  | o, a => .o1 o a
theorem m1_den (o : O1) (a : E) (ρ : Env) : (m1 o a).den ρ = sem1 o (a.den ρ) := by
  unfold m1
  split <;> try rfl
  · rename_i a
    split <;> simp [E.den, sem1, sem2, Dat.bool]
  · rename_i a
    split
    · rename_i l hl; rw [E.cells_den ρ hl]; simp [E.den, sem1, Dat.row]
    · rfl
  · rename_i j a
    split
    · rename_i l hl
      rw [E.cells_den ρ hl]
      split <;> first
        | rfl
        | (rename_i h; simp [sem1, Dat.row, h, E.den, Dat.dd, List.getD]; done)
        | (simp only [E.den, E.cells_den ρ hl]; done)
    · rfl
  · split
    · rename_i h; subst h; simp [E.den, sem1, Dat.dd, isK]
    · rfl
  · rename_i o n a
    split
    · rename_i l hl; rw [E.cells_den ρ hl, E.den_ofCells]; simp [sem1, Dat.row, List.map_take, List.map_drop]
    · rfl
  · split
    · rename_i l hl
      split
      · rename_i hn
        simp only [E.den, sem1, sem2, E.cells_den ρ hl, Dat.row_r, Dat.lst_l]
        simp [hn]
      · rfl
    · rfl
  · split
    · rename_i h; simp only [E.den, sem1, E.rowsB_den ρ h]
    · rfl
def m2 : O2 → E → E → E
  | .add, .int a, .int b => .int (a + b)
  | .add, a, .int b => if b = 0 then (match a with | .o1 .slen _ | .o1 .llen _ | .o2 .add _ _ | .o2 .byte _ _ | .o1 .dint _ => a | _ => .o2 .add a (.int b)) else .o2 .add a (.int b)
  | .sub, .int a, .int b => .int (a - b)
  | .mul, .int a, .int b => .int (a * b)
  | .quo, .int a, .int b => .int (a.tdiv b)
  | .rem, .int a, .int b => .int (a.tmod b)
  | .shl k, .int a, .int b => .int (k.wrap (a * 2 ^ (min b.toNat k.bits)))
  | .eqI, .int a, .int b => .bool (a == b)
  | .ltI, .int a, .int b => .bool (decide (a < b))
  | .leI, .int a, .int b => .bool (decide (a ≤ b))
  | .eqS, .str a, .str b => .bool (a == b)
  | .and, .bool true, .o2 o a b => (match o with | .eqI | .ltI | .leI | .and | .or | .eqS | .eqB | .ltS => .o2 o a b | _ => .o2 .and (.bool true) (.o2 o a b))
  | .and, .bool true, .o1 o a => (match o with | .not | .dbool | .isK _ | .flat _ | .tb => .o1 o a | _ => .o2 .and (.bool true) (.o1 o a))
  | .and, .bool true, .bool t => .bool t
  | .and, .bool false, _ => .bool false
  | .and, _, .bool false => .bool false
  | .and, .o2 o a b, .bool true => (match o with | .eqI | .ltI | .leI | .and | .or | .eqS | .eqB | .ltS => .o2 o a b | _ => .o2 .and (.o2 o a b) (.bool true))
  | .and, .o1 o a, .bool true => (match o with | .not | .dbool | .isK _ | .flat _ | .tb => .o1 o a | _ => .o2 .and (.o1 o a) (.bool true))
  | .or, .bool false, .o2 o a b => (match o with | .eqI | .ltI | .leI | .and | .or | .eqS | .eqB | .ltS => .o2 o a b | _ => .o2 .or (.bool false) (.o2 o a b))
  | .or, .bool false, .o1 o a => (match o with | .not | .dbool | .isK _ | .flat _ | .tb => .o1 o a | _ => .o2 .or (.bool false) (.o1 o a))
  | .or, .bool false, .bool t => .bool t
  | .or, .bool true, _ => .bool true
  | .or, _, .bool true => .bool true
  | .or, .o2 o a b, .bool false => (match o with | .eqI | .ltI | .leI | .and | .or | .eqS | .eqB | .ltS => .o2 o a b | _ => .o2 .or (.o2 o a b) (.bool false))
  | .or, .o1 o a, .bool false => (match o with | .not | .dbool | .isK _ | .flat _ | .tb => .o1 o a | _ => .o2 .or (.o1 o a) (.bool false))
  | .eqB, .bool a, .bool b => .bool (a == b)
  | .byte, .str l, .int n => .int ((l.getD n.toNat 0).toNat : Nat)
  | .lcat, .lnil, .o2 .lcons a b => .o2 .lcons a b
  | .rset o, a, b => (match a.cells, b.cells with | some l, some m => E.ofCells (l.take o ++ m ++ l.drop (o + m.length)) | _, _ => .o2 (.rset o) a b)
  | o, a, b => .o2 o a b
theorem m2_den (o : O2) (a b : E) (ρ : Env) : (m2 o a b).den ρ = sem2 o (a.den ρ) (b.den ρ) := by
  unfold m2
  split <;> try rfl
  all_goals try (split <;> simp [E.den, sem1, sem2, Dat.bool, Dat.int, Dat.lst]; done)
  all_goals try (simp [E.den, sem1, sem2, Dat.bool, Dat.int, Dat.lst]; done)
  · split
    · rename_i h; subst h; split <;> simp [E.den, sem1, sem2, Dat.int]
    · rfl
  · rename_i o a b
    split
    · rename_i l m hl hm
      rw [E.cells_den ρ hl, E.cells_den ρ hm, E.den_ofCells]
      simp [sem2, Dat.row, setL, List.map_take, List.map_drop]
    · rfl
def m3 : O3 → E → E → E → E
  | .subS, .str l, .int a, .int b => .str ((l.take b.toNat).drop a.toNat)
  | o, a, b, c => .o3 o a b c
theorem m3_den (o : O3) (a b c : E) (ρ : Env) : (m3 o a b c).den ρ = sem3 o (a.den ρ) (b.den ρ) (c.den ρ) := by
  unfold m3
  split <;> rfl
def E.repl (e : E) (t : Bool) : E → E
  | .o1 o a => if (E.o1 o a).beq e then .bool t else m1 o (E.repl e t a)
  | .o2 o a b => if (E.o2 o a b).beq e then .bool t else m2 o (E.repl e t a) (E.repl e t b)
  | .o3 o a b c => if (E.o3 o a b c).beq e then .bool t else m3 o (E.repl e t a) (E.repl e t b) (E.repl e t c)
  | x => x
theorem E.repl_den {e : E} {t : Bool} {ρ : Env} (h : e.den ρ = .b t) : ∀ x : E, (E.repl e t x).den ρ = x.den ρ
  | .var _ | .int _ | .bool _ | .str _ | .val _ | .lnil | .rnil => rfl
  | .o1 o a => by
    unfold E.repl
    split
    · rename_i hb; rw [E.beq_eq hb, h]; rfl
    · rw [m1_den, E.repl_den h a]; rfl
  | .o2 o a b => by
    unfold E.repl
    split
    · rename_i hb; rw [E.beq_eq hb, h]; rfl
    · rw [m2_den, E.repl_den h a, E.repl_den h b]; rfl
  | .o3 o a b c => by
    unfold E.repl
    split
    · rename_i hb; rw [E.beq_eq hb, h]; rfl
    · rw [m3_den, E.repl_den h a, E.repl_den h b, E.repl_den h c]; rfl
def E.isB : E → Bool
  | .bool _ => true
  | .o1 .not _ | .o1 .tb _ | .o1 .dbool _ | .o1 (.isK _) _ | .o1 (.flat _) _ | .o1 .lits _ | .o1 .isBytes _ => true
  | .o2 .eqI _ _ | .o2 .ltI _ _ | .o2 .leI _ _ | .o2 .eqB _ _ | .o2 .and _ _ | .o2 .or _ _ | .o2 .eqS _ _ | .o2 .ltS _ _ => true
  | _ => false
theorem E.isB_den {e : E} (h : e.isB = true) (ρ : Env) : e.den ρ = .b (e.den ρ).bool := by
  unfold E.isB at h
  split at h <;> first | rfl | cases h
def E.impl (g e : E) : Bool :=
  g.beq e || match g with
    | .o2 .and a b => a.impl e || b.impl e
    | _ => false
theorem E.impl_den {e : E} {ρ : Env} : ∀ {g : E}, g.impl e = true → (g.den ρ).bool = true → (e.den ρ).bool = true := by
  intro g
  induction g with
  | o2 o a b iha ihb =>
    intro h hg
    unfold E.impl at h
    rw [Bool.or_eq_true] at h
    rcases h with h | h
    · rw [← E.beq_eq h]; exact hg
    · cases o <;> simp at h
      simp [E.den, sem2, Dat.bool] at hg
      rcases h with h | h
      · exact iha h hg.1
      · exact ihb h hg.2
  | _ =>
    intro h hg
    unfold E.impl at h
    simp at h
    rw [← E.beq_eq h]; exact hg
end Go.Rf
end
section
namespace Go.Rf
open Go.Ab
inductive RRef where
  | own (t : Nat) | up (n : Nat)
  deriving DecidableEq
inductive RA where
  | any | c (x : E) | agg (row : E) | tup (l : List (Bool × E)) | ptr (r : RRef) (off : Nat) | elp (row : E) (off : Nat)
  | own (sz : Nat) (es nw : E) | zs (es : E) | als (t : Nat) | opt (t sz : Nat) (i : E) (j : Nat) | fn (f : Nat) (caps : List RRef) | gv (g : E) (v : RA)
structure Nm where
  up : Nat → Ref
  ν : Nat → Nat
def RRef.den (m : Nm) : RRef → Ref
  | .own t => .own t (m.ν t)
  | .up n => .up (m.up n)
def tupDen (ρ : Env) : Bool × E → Bool × List D
  | (true, e) => (true, (e.den ρ).row)
  | (false, e) => (false, [(e.den ρ).dd])
def RA.den (ρ : Env) (m : Nm) (gen : Nat → Nat) : RA → A
  | .any => .any
  | .c x => .d (x.den ρ).dd
  | .agg e => .agg (e.den ρ).row
  | .tup l => .tup (l.map (tupDen ρ))
  | .ptr r o => .ptr (r.den m) o
  | .elp e o => .elp ((e.den ρ).row.drop o)
  | .own sz es nw => .own sz (es.den ρ).lst (nw.den ρ).lst
  | .zs es => .zs (es.den ρ).lst
  | .als t => .als t (gen t)
  | .opt t sz i j => .opt t (gen t) sz (i.den ρ).int.toNat j
  | .fn f l => .fn f (l.map (RRef.den m))
  | .gv g v => if (g.den ρ).bool then v.den ρ m gen else .tup []
def RA.ali : RA → Option Nat
  | .als t => some t
  | .opt t _ _ _ => some t
  | .gv _ v => v.ali
  | _ => none
def RA.names (t : Nat) : RA → Bool
  | .ptr r _ => decide (r = .own t)
  | .fn _ l => l.any fun r => decide (r = .own t)
  | .gv _ v => v.names t
  | _ => false
def RA.plain : RA → Bool
  | .als _ | .opt _ _ _ _ => false
  | .gv _ v => v.plain
  | _ => true
theorem RA.den_gen {ρ : Env} {m : Nm} {gen gen' : Nat → Nat} {x : RA} (h : ∀ t, x.ali = some t → gen' t = gen t) : x.den ρ m gen' = x.den ρ m gen := by
  induction x with
  | als t => simp only [RA.den]; rw [h t rfl]
  | opt t sz i j => simp only [RA.den]; rw [h t rfl]
  | gv g v ih => simp only [RA.den]; rw [ih h]
  | _ => rfl
theorem RA.den_nm {ρ : Env} {m m' : Nm} {gen : Nat → Nat} {d : Nat} (hu : m'.up = m.up) (hn : ∀ t, t ≠ d → m'.ν t = m.ν t) {x : RA} (h : x.names d = false) : x.den ρ m' gen = x.den ρ m gen := by
  have key : ∀ r : RRef, r ≠ .own d → r.den m' = r.den m := fun r hr => by
    cases r with
    | own t => simp only [RRef.den]; rw [hn t fun e => hr (by rw [e])]
    | up n => simp only [RRef.den]; rw [hu]
  induction x with
  | ptr r o => simp only [RA.names, decide_eq_false_iff_not] at h; simp only [RA.den]; rw [key r h]
  | fn f l =>
    simp only [RA.names, List.any_eq_false, decide_eq_true_eq] at h
    simp only [RA.den]
    congr 1
    exact List.map_congr_left fun r hr => key r (h r hr)
  | gv g v ih => simp only [RA.den]; rw [ih h]
  | _ => rfl
inductive Tr where
  | nil | node (v : RA) (l r : Tr)
def Tr.full : Nat → Tr
  | 0 => .nil
  | n + 1 => .node .any (Tr.full n) (Tr.full n)
def Tr.get : Tr → Nat → RA
  | .nil, _ => .any
  | .node v l r, k => if k = 0 then v else if k % 2 = 1 then l.get (k / 2) else r.get (k / 2 - 1)
def Tr.set : Tr → Nat → RA → Tr
  | .nil, _, _ => .nil
  | .node v l r, k, x => if k = 0 then .node x l r else if k % 2 = 1 then .node v (l.set (k / 2) x) r else .node v l (r.set (k / 2 - 1) x)
def Tr.map (f : RA → RA) : Tr → Tr
  | .nil => .nil
  | .node v l r => .node (f v) (l.map f) (r.map f)
theorem Tr.get_set_ne (x : RA) : ∀ (t : Tr) {k j : Nat}, j ≠ k → (t.set k x).get j = t.get j
  | .nil, _, _, _ => rfl
  | .node v l r, k, j, h => by
    unfold Tr.set
    by_cases k0 : k = 0
    · subst k0; simp [Tr.get, h]
    · by_cases k1 : k % 2 = 1
      · simp only [k0, k1, if_true, if_false, Tr.get]
        by_cases j0 : j = 0
        · simp [j0]
        · by_cases j1 : j % 2 = 1
          · simp only [j0, j1, if_true, if_false]; exact Tr.get_set_ne x l (by omega)
          · simp [j0, j1]
      · simp only [k0, k1, if_false, Tr.get]
        by_cases j0 : j = 0
        · simp [j0]
        · by_cases j1 : j % 2 = 1
          · simp [j0, j1]
          · simp only [j0, j1, if_false]; exact Tr.get_set_ne x r (by omega)
theorem Tr.get_set (x : RA) : ∀ (t : Tr) (k : Nat), (t.set k x).get k = x ∨ (t.set k x).get k = .any
  | .nil, _ => .inr rfl
  | .node v l r, k => by
    unfold Tr.set
    by_cases k0 : k = 0
    · subst k0; left; simp [Tr.get]
    · by_cases k1 : k % 2 = 1
      · simp only [k0, k1, if_true, if_false, Tr.get]; exact Tr.get_set x l _
      · simp only [k0, k1, if_false, Tr.get]; exact Tr.get_set x r _
theorem Tr.get_map {f : RA → RA} (hf : f .any = .any) : ∀ (t : Tr) (k : Nat), (t.map f).get k = f (t.get k)
  | .nil, _ => hf.symm
  | .node v l r, k => by
    simp only [Tr.map, Tr.get]
    split
    · rfl
    · split
      · exact Tr.get_map hf l _
      · exact Tr.get_map hf r _
structure RSt where
  tm : Tr
  K : List (RRef × List RA)
  nv : Nat
  dep : Nat
  known : List E
  al : Bool
def kDen (ρ : Env) (m : Nm) (c : List RA) : List A := c.map (RA.den ρ m fun _ => 0)
structure Den (ρ : Env) (m : Nm) (rs : RSt) (s : St) : Prop where
  tm : ∀ t, rs.tm.get t = .any ∨ s.tm t = (rs.tm.get t).den ρ m s.gen
  al : rs.al = false → ∀ t, (rs.tm.get t).ali = none
  K : ∀ r c, (r, c) ∈ rs.K → s.K (r.den m) = some (kDen ρ m c)
  nd : (rs.K.map fun x => x.1.den m).Nodup
  known : ∀ e ∈ rs.known, (e.den ρ).bool = true
def killA (d : Nat) (x : RA) : RA := if x.ali = some d then .any else x
def RSt.kill (rs : RSt) (d : Nat) : RSt := if rs.al then { rs with tm := rs.tm.map (killA d) } else rs
def RSt.put (rs : RSt) (d : Nat) (x : RA) : RSt := { rs.kill d with tm := (rs.kill d).tm.set d x, al := rs.al || x.ali.isSome }
theorem kill_get {rs : RSt} (hal : rs.al = false → ∀ t, (rs.tm.get t).ali = none) (d t : Nat) : (rs.kill d).tm.get t = .any ∨ ((rs.kill d).tm.get t = rs.tm.get t ∧ (rs.tm.get t).ali ≠ some d) := by
  unfold RSt.kill
  split
  · rw [Tr.get_map (by simp [killA, RA.ali])]
    unfold killA
    split
    · exact .inl rfl
    · rename_i h; exact .inr ⟨rfl, h⟩
  · rename_i h
    right
    refine ⟨rfl, ?_⟩
    rw [hal (by simpa using h) t]
    intro e; cases e
theorem kill_al {rs : RSt} (d : Nat) : (rs.kill d).al = rs.al := by unfold RSt.kill; split <;> rfl
theorem kill_K {rs : RSt} (d : Nat) : (rs.kill d).K = rs.K := by unfold RSt.kill; split <;> rfl
theorem kill_known {rs : RSt} (d : Nat) : (rs.kill d).known = rs.known := by unfold RSt.kill; split <;> rfl
theorem Den.wr {ρ : Env} {m : Nm} {rs : RSt} {s s' : St} (h : Den ρ m rs s) {d : Nat} {x : RA} (hx : x.ali ≠ some d) (hne : ∀ t, t ≠ d → s'.tm t = s.tm t) (hgen : ∀ t, t ≠ d → s'.gen t = s.gen t) (hK : s'.K = s.K)
    (hd : x = .any ∨ s'.tm d = x.den ρ m s.gen) : Den ρ m (rs.put d x) s' := by
  have hg : ∀ (y : RA), y.ali ≠ some d → y.den ρ m s'.gen = y.den ρ m s.gen := fun y hy => RA.den_gen fun t ht => hgen t fun e => hy (e ▸ ht)
  refine ⟨fun t => ?_, fun hal t => ?_, fun r c hc => ?_, ?_, ?_⟩
  · show ((rs.kill d).tm.set d x).get t = .any ∨ s'.tm t = (((rs.kill d).tm.set d x).get t).den ρ m s'.gen
    by_cases ht : t = d
    · subst ht
      rcases Tr.get_set x (rs.kill t).tm t with e | e
      · rw [e]
        rcases hd with hd | hd
        · exact .inl hd
        · right; rw [hd, hg x hx]
      · exact .inl e
    · rw [Tr.get_set_ne _ _ ht, hne t ht]
      rcases kill_get h.al d t with e | ⟨e, e2⟩
      · exact .inl e
      · rw [e, hg _ e2]
        exact h.tm t
  · have h1 : rs.al = false ∧ x.ali.isSome = false := by simpa [RSt.put] using hal
    show (((rs.kill d).tm.set d x).get t).ali = none
    by_cases ht : t = d
    · subst ht
      rcases Tr.get_set x (rs.kill t).tm t with e | e
      · rw [e]; simpa using h1.2
      · rw [e]; rfl
    · rw [Tr.get_set_ne _ _ ht]
      rcases kill_get h.al d t with e | ⟨e, e2⟩
      · rw [e]; rfl
      · rw [e]; exact h.al h1.1 t
  · have hc' : (r, c) ∈ rs.K := by simpa [RSt.put, kill_K] using hc
    rw [hK]; exact h.K r c hc'
  · simpa [RSt.put, kill_K] using h.nd
  · simpa [RSt.put, kill_known] using h.known
theorem Den.put {ρ : Env} {m : Nm} {rs : RSt} {s : St} (h : Den ρ m rs s) {d : Nat} {x : RA} {y : A} (hx : x.ali ≠ some d) (hy : x = .any ∨ y = x.den ρ m s.gen) : Den ρ m (rs.put d x) (s.put d y) := by
  refine h.wr hx (fun t ht => upd_ne _ _ ht) (fun t ht => ?_) rfl ?_
  · simp only [St.put]; split
    · exact upd_ne _ _ ht
    · rfl
  · rcases hy with hy | hy
    · exact .inl hy
    · exact .inr (by rw [← hy]; exact upd_same _ _ _)
theorem Den.reset {ρ : Env} {m : Nm} {rs : RSt} {s : St} (h : Den ρ m rs s) (d : Nat) (y : A) : Den ρ m (rs.put d .any) (s.reset d y) :=
  h.wr (by intro e; cases e) (fun t ht => upd_ne _ _ ht) (fun t ht => upd_ne _ _ ht) rfl (.inl rfl)
theorem Den.reput {ρ : Env} {m : Nm} {rs : RSt} {s : St} (h : Den ρ m rs s) {d : Nat} {x : RA} {y y' : A} (hx : x.ali ≠ some d) (hy : x = .any ∨ y = x.den ρ m s.gen) : Den ρ m (rs.put d x) ((s.reset d y').put d y) := by
  refine h.wr hx (fun t ht => by rw [show ((s.reset d y').put d y).tm t = (s.reset d y').tm t from upd_ne _ _ ht]; exact upd_ne _ _ ht) (fun t ht => ?_) rfl ?_
  · simp only [St.put]; split
    · rw [upd_ne _ _ ht]; exact upd_ne _ _ ht
    · exact upd_ne _ _ ht
  · rcases hy with hy | hy
    · exact .inl hy
    · exact .inr (by rw [← hy]; exact upd_same _ _ _)
def lookK : List (RRef × List RA) → RRef → Option (List RA)
  | [], _ => none
  | (r, c) :: l, q => if q = r then some c else lookK l q
theorem lookK_mem : ∀ {l : List (RRef × List RA)} {r : RRef} {c : List RA}, lookK l r = some c → (r, c) ∈ l
  | (r', c') :: l, r, c, h => by
    unfold lookK at h
    split at h
    · rename_i e; cases h; subst e; exact List.mem_cons_self ..
    · exact List.mem_cons_of_mem _ (lookK_mem h)
def putK : List (RRef × List RA) → RRef → List RA → List (RRef × List RA)
  | [], _, _ => []
  | (r, c) :: l, q, x => if q = r then (r, x) :: l else (r, c) :: putK l q x
theorem putK_names : ∀ (l : List (RRef × List RA)) (q : RRef) (x : List RA), (putK l q x).map (·.1) = l.map (·.1)
  | [], _, _ => rfl
  | (r, c) :: l, q, x => by
    unfold putK
    split
    · simp
    · simp [putK_names l q x]
theorem putK_mem : ∀ {l : List (RRef × List RA)} {q r : RRef} {x c : List RA}, (r, c) ∈ putK l q x → (r = q ∧ c = x) ∨ (r, c) ∈ l
  | [], _, _, _, _, h => by cases h
  | (r', c') :: l, q, r, x, c, h => by
    unfold putK at h
    split at h
    · rename_i e
      rcases List.mem_cons.1 h with h | h
      · cases h; exact .inl ⟨e.symm, rfl⟩
      · exact .inr (List.mem_cons_of_mem _ h)
    · rcases List.mem_cons.1 h with h | h
      · cases h; exact .inr (List.mem_cons_self ..)
      · rcases putK_mem h with h | h
        · exact .inl h
        · exact .inr (List.mem_cons_of_mem _ h)
theorem putK_ne : ∀ {l : List (RRef × List RA)} {m : Nm} {q r : RRef} {x c : List RA}, (l.map fun y => y.1.den m).Nodup → q ∈ l.map (·.1) → (r, c) ∈ putK l q x → (r = q ∧ c = x) ∨ ((r, c) ∈ l ∧ r.den m ≠ q.den m)
  | [], _, _, _, _, _, _, _, h => by cases h
  | (r', c') :: l, m, q, r, x, c, hn, hq, h => by
    simp only [List.map_cons, List.nodup_cons] at hn
    unfold putK at h
    split at h
    · rename_i e
      subst e
      rcases List.mem_cons.1 h with h | h
      · cases h; exact .inl ⟨rfl, rfl⟩
      · exact .inr ⟨List.mem_cons_of_mem _ h, fun e => hn.1 (e ▸ List.mem_map.2 ⟨_, h, rfl⟩)⟩
    · rename_i e
      have hq' : q ∈ l.map (·.1) := by
        rcases List.mem_cons.1 hq with h | h
        · exact absurd h e
        · exact h
      rcases List.mem_cons.1 h with h | h
      · cases h
        obtain ⟨y, hy, rfl⟩ := List.mem_map.1 hq'
        exact .inr ⟨List.mem_cons_self .., fun e => hn.1 (e ▸ List.mem_map.2 ⟨y, hy, rfl⟩)⟩
      · rcases putK_ne hn.2 hq' h with h | ⟨h1, h2⟩
        · exact .inl h
        · exact .inr ⟨List.mem_cons_of_mem _ h1, h2⟩
def RSt.setK (rs : RSt) (r : RRef) (c : List RA) : RSt := { rs with K := putK rs.K r c }
theorem Den.look {ρ : Env} {m : Nm} {rs : RSt} {s : St} (h : Den ρ m rs s) {r : RRef} {c : List RA} (hc : lookK rs.K r = some c) : s.K (r.den m) = some (kDen ρ m c) := h.K r c (lookK_mem hc)
theorem Den.setK {ρ : Env} {m : Nm} {rs : RSt} {s : St} (h : Den ρ m rs s) {r : RRef} {c c' : List RA} {k : List A} (hc : lookK rs.K r = some c) (hk : k = kDen ρ m c') : Den ρ m (rs.setK r c') (s.setK (r.den m) k) := by
  refine ⟨h.tm, h.al, fun q x hq => ?_, ?_, h.known⟩
  · rcases putK_ne (l := rs.K) (m := m) h.nd (List.mem_map.2 ⟨_, lookK_mem hc, rfl⟩) hq with ⟨rfl, rfl⟩ | ⟨h1, h2⟩
    · show upd s.K _ _ _ = _
      rw [upd_same, hk]
    · show upd s.K _ _ _ = _
      rw [upd_ne _ _ h2]; exact h.K q x h1
  · have : (rs.setK r c').K.map (fun x => x.1.den m) = rs.K.map fun x => x.1.den m := by
      have := congrArg (List.map (RRef.den m)) (putK_names rs.K r c')
      simpa [RSt.setK, Function.comp_def] using this
    rw [this]; exact h.nd
def forgetA (d : Nat) (x : RA) : RA := if x.names d then .any else x
def RSt.forget (rs : RSt) (d : Nat) : RSt :=
  { rs with tm := rs.tm.map (forgetA d), K := rs.K.filter fun x => !(decide (x.1 = .own d)) && x.2.all fun y => !y.names d }
def RSt.alloc (rs : RSt) (d : Nat) (c : List RA) : RSt :=
  let r := (rs.forget d).put d (.ptr (.own d) 0)
  { r with K := (.own d, c) :: r.K }
def Nm.set (m : Nm) (d n : Nat) : Nm := ⟨m.up, fun t => if t = d then n else m.ν t⟩
theorem forget_mem {rs : RSt} {d : Nat} {r : RRef} {c : List RA} (h : (r, c) ∈ (rs.forget d).K) : (r, c) ∈ rs.K ∧ r ≠ .own d ∧ ∀ y ∈ c, y.names d = false := by
  have := List.mem_filter.1 h
  simp only [Bool.and_eq_true, Bool.not_eq_true', decide_eq_false_iff_not, List.all_eq_true] at this
  exact ⟨this.1, this.2.1, this.2.2⟩
theorem RRef.den_set {m : Nm} {d n : Nat} {r : RRef} (h : r ≠ .own d) : r.den (m.set d n) = r.den m := by
  cases r with
  | own t =>
    have : t ≠ d := fun e => h (by rw [e])
    simp [RRef.den, Nm.set, this]
  | up k => rfl
theorem Den.forget {ρ : Env} {m : Nm} {rs : RSt} {s : St} (h : Den ρ m rs s) (d n : Nat) : Den ρ (m.set d n) (rs.forget d) s := by
  have hx : ∀ (x : RA) (gen : Nat → Nat), x.names d = false → x.den ρ (m.set d n) gen = x.den ρ m gen := fun x gen hx => RA.den_nm (m := m) (m' := m.set d n) rfl (fun t ht => by simp [Nm.set, ht]) hx
  refine ⟨fun t => ?_, fun hal t => ?_, fun r c hc => ?_, ?_, h.known⟩
  · show (rs.tm.map (forgetA d)).get t = .any ∨ _
    rw [show (rs.forget d).tm.get t = (rs.tm.map (forgetA d)).get t from rfl, Tr.get_map (by simp [forgetA, RA.names])]
    unfold forgetA
    split
    · exact .inl rfl
    · rename_i hn
      rw [hx _ _ (by simpa using hn)]
      exact h.tm t
  · show ((rs.tm.map (forgetA d)).get t).ali = none
    rw [Tr.get_map (by simp [forgetA, RA.names])]
    unfold forgetA
    split
    · rfl
    · exact h.al hal t
  · obtain ⟨h1, h2, h3⟩ := forget_mem hc
    rw [RRef.den_set h2, h.K r c h1]
    congr 1
    exact List.map_congr_left fun y hy => by rw [hx y _ (h3 y hy)]
  · have e : (rs.forget d).K.map (fun x => x.1.den (m.set d n)) = (rs.forget d).K.map fun x => x.1.den m := List.map_congr_left fun x hx => RRef.den_set (forget_mem (r := x.1) (c := x.2) hx).2.1
    rw [e]
    exact (List.Sublist.map _ List.filter_sublist).nodup h.nd
theorem Den.alloc {ρ : Env} {m : Nm} {rs : RSt} {s : St} (h : Den ρ m rs s) {d : Nat} {c : List RA} {k : List A} (hk : k = kDen ρ (m.set d (s.gen d)) c) : Den ρ (m.set d (s.gen d)) (rs.alloc d c) (s.alloc d k) := by
  have hp : (RA.ptr (.own d) 0).den ρ (m.set d (s.gen d)) s.gen = .ptr (.own d (s.gen d)) 0 := by simp [RA.den, RRef.den, Nm.set]
  have h1 := (h.forget d (s.gen d)).wr (s' := { s with tm := upd s.tm d (.ptr (.own d (s.gen d)) 0), gen := upd s.gen d (s.gen d + 1) }) (d := d) (x := .ptr (.own d) 0) (by intro e; cases e) (fun t ht => upd_ne _ _ ht) (fun t ht => upd_ne _ _ ht) rfl
    (.inr (by rw [hp]; exact upd_same _ _ _))
  have hKK : ((rs.forget d).put d (.ptr (.own d) 0)).K = (rs.forget d).K := by simp [RSt.put, kill_K]
  have hne : ∀ r : RRef, r ≠ .own d → r.den (m.set d (s.gen d)) ≠ .own d (s.gen d) := fun r hr e => by
    cases r with
    | own t => simp only [RRef.den, Ref.own.injEq] at e; exact hr (by rw [e.1])
    | up k => cases e
  have hd : (RRef.own d).den (m.set d (s.gen d)) = .own d (s.gen d) := by simp [RRef.den, Nm.set]
  refine ⟨h1.tm, h1.al, fun r x hx => ?_, ?_, h1.known⟩
  · rcases List.mem_cons.1 hx with e | hx
    · cases e
      show upd s.K (.own d (s.gen d)) (some k) _ = _
      rw [hd, upd_same, hk]
    · show upd s.K (.own d (s.gen d)) (some k) _ = _
      rw [hKK] at hx
      rw [upd_ne _ _ (hne r (forget_mem hx).2.1)]
      exact h1.K r x (by rw [hKK]; exact hx)
  · show (((.own d, c) :: ((rs.forget d).put d (.ptr (.own d) 0)).K).map fun x => x.1.den (m.set d (s.gen d))).Nodup
    rw [List.map_cons, List.nodup_cons]
    refine ⟨fun hm => ?_, h1.nd⟩
    obtain ⟨x, hx, e⟩ := List.mem_map.1 hm
    rw [hKK] at hx
    rw [hd] at e
    exact hne x.1 (forget_mem (r := x.1) (c := x.2) hx).2.1 e
def RA.repl (e : E) (t : Bool) : RA → RA
  | .c x => .c (E.repl e t x)
  | .agg x => .agg (E.repl e t x)
  | .elp x o => .elp (E.repl e t x) o
  | .gv g v => (match E.repl e t g with
    | .bool true => v.repl e t
    | .bool false => .tup []
    | g' => .gv g' (v.repl e t))
  | x => x
theorem RA.repl_den {e : E} {t : Bool} {ρ : Env} {m : Nm} {gen : Nat → Nat} (h : e.den ρ = .b t) : ∀ x : RA, (x.repl e t).den ρ m gen = x.den ρ m gen
  | .c x => by simp only [RA.repl, RA.den]; rw [E.repl_den h]
  | .agg x => by simp only [RA.repl, RA.den]; rw [E.repl_den h]
  | .elp x o => by simp only [RA.repl, RA.den]; rw [E.repl_den h]
  | .gv g v => by
    have hg := E.repl_den h g
    unfold RA.repl
    split
    · rename_i e1; rw [e1] at hg; simp only [RA.den, ← hg, E.den, Dat.bool, if_true]; exact RA.repl_den h v
    · rename_i e1; rw [e1] at hg; simp [RA.den, ← hg, E.den, Dat.bool]
    · simp only [RA.den]; rw [hg, RA.repl_den h v]
  | .any | .tup _ | .ptr _ _ | .own _ _ _ | .zs _ | .als _ | .opt _ _ _ _ | .fn _ _ => rfl
theorem RA.repl_ali {e : E} {t : Bool} : ∀ {x : RA}, x.ali = none → (x.repl e t).ali = none
  | .gv g v, h => by
    unfold RA.repl
    split
    · exact RA.repl_ali (x := v) h
    · rfl
    · exact RA.repl_ali (x := v) h
  | .c _, _ | .agg _, _ | .elp _ _, _ | .any, _ | .tup _, _ | .ptr _ _, _ | .own _ _ _, _ | .zs _, _ | .fn _ _, _ => rfl
  | .als _, h | .opt _ _ _ _, h => by cases h
def RSt.assume1 (rs : RSt) (e : E) (t : Bool) : RSt := { rs with tm := rs.tm.map (RA.repl e t), known := (if t then e else .o1 .not e) :: rs.known }
theorem Den.assume1 {ρ : Env} {m : Nm} {rs : RSt} {s : St} (h : Den ρ m rs s) {e : E} {t : Bool} (he : e.den ρ = .b t) : Den ρ m (rs.assume1 e t) s := by
  refine ⟨fun k => ?_, fun hal k => ?_, h.K, h.nd, fun x hx => ?_⟩
  · show (rs.tm.map (RA.repl e t)).get k = .any ∨ s.tm k = ((rs.tm.map (RA.repl e t)).get k).den ρ m s.gen
    rw [Tr.get_map rfl, RA.repl_den he]
    rcases h.tm k with h1 | h1
    · left; rw [h1]; rfl
    · exact .inr h1
  · show ((rs.tm.map (RA.repl e t)).get k).ali = none
    rw [Tr.get_map rfl]
    exact RA.repl_ali (h.al hal k)
  · rcases List.mem_cons.1 hx with rfl | hx
    · cases t <;> simp [E.den, sem1, he, Dat.bool]
    · exact h.known x hx
def factsOf (t : Bool) : E → List (E × Bool)
  | .o1 .not a => factsOf (!t) a
  | .o2 .and a b => if t then factsOf t a ++ factsOf t b else [(.o2 .and a b, t)]
  | .o2 .or a b => if t then [(.o2 .or a b, t)] else factsOf t a ++ factsOf t b
  | .bool _ => []
  | e => if e.isB then [(e, t)] else []
theorem factsOf_den {ρ : Env} : ∀ {e : E} {t : Bool}, (e.den ρ).bool = t → ∀ x ∈ factsOf t e, x.1.den ρ = .b x.2 := by
  intro e
  induction e with
  | o1 o a ih =>
    intro t h x hx
    unfold factsOf at hx
    split at hx
    · rename_i b e; cases e
      exact ih (t := !t) (by rw [← h]; simp [E.den, sem1, Dat.bool]) x hx
    · rename_i e; cases e
    · rename_i e; cases e
    · rename_i e; cases e
    · split at hx
      · rename_i hb; simp at hx; subst hx; rw [E.isB_den hb, h]
      · cases hx
  | o2 o a b iha ihb =>
    intro t h x hx
    unfold factsOf at hx
    split at hx
    · rename_i e; cases e
    · rename_i c d e; cases e
      split at hx
      · rename_i ht; subst ht
        have : (a.den ρ).bool = true ∧ (b.den ρ).bool = true := by simpa [E.den, sem2, Dat.bool] using h
        rcases List.mem_append.1 hx with hx | hx
        · exact iha this.1 x hx
        · exact ihb this.2 x hx
      · simp at hx; subst hx; rw [E.isB_den rfl, h]
    · rename_i c d e; cases e
      split at hx
      · simp at hx; subst hx; rw [E.isB_den rfl, h]
      · rename_i ht
        have ht : t = false := by simpa using ht
        subst ht
        have : (a.den ρ).bool = false ∧ (b.den ρ).bool = false := by simpa [E.den, sem2, Dat.bool] using h
        rcases List.mem_append.1 hx with hx | hx
        · exact iha this.1 x hx
        · exact ihb this.2 x hx
    · rename_i e; cases e
    · split at hx
      · rename_i hb; simp at hx; subst hx; rw [E.isB_den hb, h]
      · cases hx
  | _ =>
    intro t h x hx
    unfold factsOf at hx
    simp at hx
    try (obtain ⟨hb, rfl⟩ := hx; rw [E.isB_den hb, h])
def RSt.assume (rs : RSt) (e : E) (t : Bool) : RSt := (factsOf t e).foldl (fun rs x => rs.assume1 x.1 x.2) rs
theorem Den.assumeL {ρ : Env} {m : Nm} {s : St} : ∀ {l : List (E × Bool)} {rs : RSt}, (∀ x ∈ l, x.1.den ρ = .b x.2) → Den ρ m rs s → Den ρ m (l.foldl (fun rs x => rs.assume1 x.1 x.2) rs) s
  | [], _, _, h => h
  | x :: l, rs, hl, h => Den.assumeL (l := l) (fun y hy => hl y (List.mem_cons_of_mem _ hy)) (h.assume1 (hl x (List.mem_cons_self ..)))
theorem Den.assume {ρ : Env} {m : Nm} {rs : RSt} {s : St} (h : Den ρ m rs s) {e : E} {t : Bool} (he : (e.den ρ).bool = t) : Den ρ m (rs.assume e t) s := Den.assumeL (factsOf_den he) h
def keepT (live : List Nat) (n : Nat) : Nat → Tr → Tr
  | 0, t => t
  | k + 1, t => keepT live n k (if live.contains k then t else t.set k .any)
theorem keepT_get (live : List Nat) (n : Nat) : ∀ (k : Nat) (t : Tr) (j : Nat), (keepT live n k t).get j = .any ∨ (keepT live n k t).get j = t.get j
  | 0, t, j => .inr rfl
  | k + 1, t, j => by
    unfold keepT
    rcases keepT_get live n k (if live.contains k then t else t.set k .any) j with h | h
    · exact .inl h
    · rw [h]
      split
      · exact .inr rfl
      · by_cases hj : j = k
        · subst hj; left
          rcases Tr.get_set .any t j with e | e <;> exact e
        · right; exact Tr.get_set_ne _ _ hj
def Tr.anyAli : Tr → Bool
  | .nil => false
  | .node v l r => v.ali.isSome || l.anyAli || r.anyAli
theorem Tr.anyAli_get : ∀ {t : Tr}, t.anyAli = false → ∀ k, (t.get k).ali = none
  | .nil, _, _ => rfl
  | .node v l r, h, k => by
    simp only [Tr.anyAli, Bool.or_eq_false_iff] at h
    unfold Tr.get
    split
    · simpa using h.1.1
    · split
      · exact Tr.anyAli_get h.1.2 _
      · exact Tr.anyAli_get h.2 _
def RSt.keep (rs : RSt) (live : List Nat) (n : Nat) : RSt := { rs with tm := keepT live n n rs.tm, al := rs.al && (keepT live n n rs.tm).anyAli }
theorem Den.keep {ρ : Env} {m : Nm} {rs : RSt} {s : St} (h : Den ρ m rs s) (live : List Nat) (n : Nat) : Den ρ m (rs.keep live n) s := by
  refine ⟨fun t => ?_, fun hal t => ?_, h.K, h.nd, h.known⟩
  · rcases keepT_get live n n rs.tm t with e | e
    · exact .inl e
    · show (keepT live n n rs.tm).get t = .any ∨ s.tm t = ((keepT live n n rs.tm).get t).den ρ m s.gen
      rw [e]; exact h.tm t
  · show ((keepT live n n rs.tm).get t).ali = none
    have hal : (rs.al && (keepT live n n rs.tm).anyAli) = false := hal
    rw [Bool.and_eq_false_iff] at hal
    rcases hal with hal | hal
    · rcases keepT_get live n n rs.tm t with e | e
      · rw [e]; rfl
      · rw [e]; exact h.al hal t
    · exact Tr.anyAli_get hal t
end Go.Rf
end
