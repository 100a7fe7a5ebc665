/- Part 3 of the proof: RfExpr, RfState, RfStep, RfStep2, RfStep3, RfExec, RfSound. -/
import Derived.Test.YtpcnadmaeebhbaaGreatDoorJab
set_option linter.unusedVariables false
set_option linter.unusedSimpArgs false
section
namespace Go.Rf
open Go.Ab
inductive Kd where
 |int (k:IntKind)|bool|str|slc|val
 deriving DecidableEq
inductive Dat where
 |i (n:Int)|b (t:Bool)|s (l:List UInt8)|l (es:List (List D))|r (es:List D)|d (x:D)
def D0:D:=.lit .nilIface
def Dat.int:Dat->Int|.i n=>n|_=>0
def Dat.bool:Dat->Bool|.b n=>n|_=>false
def Dat.str:Dat->List UInt8|.s n=>n|_=>[]
def Dat.lst:Dat->List (List D)|.l n=>n|_=>[]
def Dat.row:Dat->List D|.r n=>n|_=>[]
def Dat.dd:Dat->D|.d n=>n|_=>D0
theorem Dat.int_i(n:Int):(Dat.i n).int=n:=rfl
theorem Dat.bool_b(n:Bool):(Dat.b n).bool=n:=rfl
theorem Dat.str_s(n:List UInt8):(Dat.s n).str=n:=rfl
theorem Dat.lst_l(n:List (List D)):(Dat.l n).lst=n:=rfl
theorem Dat.row_r(n:List D):(Dat.r n).row=n:=rfl
theorem Dat.dd_d(n:D):(Dat.d n).dd=n:=rfl
def dint:D->Int|.lit (.int _ n)=>n|_=>0
def dbool:D->Bool|.lit (.bool n)=>n|_=>false
def dstr:D->List UInt8|.lit (.string b)=>b.data.toList|_=>[]
def dlst:D->List (List D)|.slc l=>l|_=>[]
def dval:D->Value|.lit v=>v|_=>.nilIface
def isK:Kd->D->Bool
 |.int k,.lit (.int k' _)=>decide (k'=k)
 |.bool,.lit (.bool _)=>true
 |.str,.lit (.string _)=>true
 |.slc,.slc _=>true
 |.val,_=>true
 |_,_=>false
def Zpr(l:List D):Bool:=l.all fun|.lit _=>true|_=>false
def Zco(l:List UInt8):Value:=.string ⟨l.toArray⟩
inductive O1 where
 |wrap (k:IntKind)|bnot (k:IntKind)|not|slen|llen|rlen|ci (k:IntKind)|cb|cs|cl|dint|dbool|dstr|dlst
 |isK (k:Kd)|cell (j:Nat)|rsub (o n:Nat)|utf8|mkI (t:Nat)|mkA (t:Nat)|rone|flat (m:Nat)|lits|tb|bytes|isBytes
 deriving DecidableEq
inductive O2 where
 |add|sub|mul|quo|rem|band (k:IntKind)|bor (k:IntKind)|bxor (k:IntKind)|bandn (k:IntKind)|shl (k:IntKind)|shr (k:IntKind)
 |eqI|ltI|leI|eqB|and|or|eqS|ltS|catS|byte|at|lcons|rcons|lcat|rset (o:Nat)|max|min|rpt
 deriving DecidableEq
inductive O3 where
 |iteI|iteB|iteS|iteL|iteR|subS|subL|lset
 deriving DecidableEq
inductive E where
 |var (n:Nat)|int (n:Int)|bool (t:Bool)|str (l:List UInt8)|val (v:Value)|lnil|rnil
 |o1 (o:O1) (a:E)|o2 (o:O2) (a b:E)|o3 (o:O3) (a b c:E)
abbrev Env:=Nat->Dat
def Env.set(ρ:Env)(n:Nat)(x:Dat):Env:=fun m=>if m=n then x else ρ m
def sem1:O1->Dat->Dat
 |.wrap k,a=>.i (k.wrap a.int)
 |.bnot k,a=>.i (k.wrap (BitVec.ofInt k.bits (if k.signed then-1 else k.max)^^^BitVec.ofInt k.bits a.int).toNat)
 |.not,a=>.b (!a.bool)
 |.slen,a=>.i a.str.length
 |.llen,a=>.i a.lst.length
 |.rlen,a=>.i a.row.length
 |.ci k,a=>.d (.lit (.int k a.int))
 |.cb,a=>.d (.lit (.bool a.bool))
 |.cs,a=>.d (.lit (Zco a.str))
 |.cl,a=>.d (.slc a.lst)
 |.dint,a=>.i (Rf.dint a.dd)
 |.dbool,a=>.b (Rf.dbool a.dd)
 |.dstr,a=>.s (Rf.dstr a.dd)
 |.dlst,a=>.l (Rf.dlst a.dd)
 |.isK k,a=>.b (Rf.isK k a.dd)
 |.cell j,a=>.d (a.row.getD j D0)
 |.rsub o n,a=>.r ((a.row.drop o).take n)
 |.utf8,a=>.s (Utf8.encode a.int).data.toList
 |.mkI t,a=>.d (.lit (.iface t (dval a.dd)))
 |.mkA t,a=>.d (.lit (.iface t (.agg (a.row.map dval).toArray)))
 |.rone,a=>.r [a.dd]
 |.flat m,a=>.b (a.lst.all fun z=>z.length==m)
 |.lits,a=>.b (Zpr a.row)
 |.tb,a=>.b a.bool
 |.bytes,a=>.s (a.lst.map fun r=>UInt8.ofNat (Rf.dint (r.getD 0 D0)).toNat)
 |.isBytes,a=>.b (a.lst.all fun r=>r.length==1&&Rf.isK (.int .u8) (r.getD 0 D0))
def sem2:O2->Dat->Dat->Dat
 |.add,a,b=>.i (a.int+b.int)
 |.sub,a,b=>.i (a.int-b.int)
 |.mul,a,b=>.i (a.int*b.int)
 |.quo,a,b=>.i (a.int.tdiv b.int)
 |.rem,a,b=>.i (a.int.tmod b.int)
 |.band k,a,b=>.i (k.wrap (BitVec.ofInt k.bits a.int&&&BitVec.ofInt k.bits b.int).toNat)
 |.bor k,a,b=>.i (k.wrap (BitVec.ofInt k.bits a.int|||BitVec.ofInt k.bits b.int).toNat)
 |.bxor k,a,b=>.i (k.wrap (BitVec.ofInt k.bits a.int^^^BitVec.ofInt k.bits b.int).toNat)
 |.bandn k,a,b=>.i (k.wrap (BitVec.ofInt k.bits a.int&&& ~~~BitVec.ofInt k.bits b.int).toNat)
 |.shl k,a,b=>.i (k.wrap (a.int*2^(min b.int.toNat k.bits)))
 |.shr k,a,b=>.i (a.int.fdiv (2^(min b.int.toNat k.bits)))
 |.eqI,a,b=>.b (a.int==b.int)
 |.ltI,a,b=>.b (decide (a.int<b.int))
 |.leI,a,b=>.b (decide (a.int<=b.int))
 |.eqB,a,b=>.b (a.bool==b.bool)
 |.and,a,b=>.b (a.bool&&b.bool)
 |.or,a,b=>.b (a.bool||b.bool)
 |.eqS,a,b=>.b (a.str==b.str)
 |.ltS,a,b=>.b (Op.bytesLess a.str b.str)
 |.catS,a,b=>.s (a.str++b.str)
 |.byte,a,b=>.i ((a.str.getD b.int.toNat 0).toNat:Nat)
 |.at,a,b=>.r (a.lst.getD b.int.toNat [])
 |.lcons,a,b=>.l (a.row::b.lst)
 |.rcons,a,b=>.r (a.dd::b.row)
 |.lcat,a,b=>.l (a.lst++b.lst)
 |.rset o,a,b=>.r (setL a.row o b.row)
 |.max,a,b=>.i (if a.int<b.int then b.int else a.int)
 |.min,a,b=>.i (if b.int<a.int then b.int else a.int)
 |.rpt,a,b=>.l (List.replicate a.int.toNat b.row)
def sem3:O3->Dat->Dat->Dat->Dat
 |.iteI,a,b,c=>.i (if a.bool then b.int else c.int)
 |.iteB,a,b,c=>.b (if a.bool then b.bool else c.bool)
 |.iteS,a,b,c=>.s (if a.bool then b.str else c.str)
 |.iteL,a,b,c=>.l (if a.bool then b.lst else c.lst)
 |.iteR,a,b,c=>.r (if a.bool then b.row else c.row)
 |.subS,a,b,c=>.s ((a.str.take c.int.toNat).drop b.int.toNat)
 |.subL,a,b,c=>.l ((a.lst.take c.int.toNat).drop b.int.toNat)
 |.lset,a,b,c=>.l (a.lst.set b.int.toNat c.row)
def E.den:E->Env->Dat
 |.var n,ρ=>ρ n
 |.int n,_=>.i n
 |.bool t,_=>.b t
 |.str l,_=>.s l
 |.val v,_=>.d (.lit v)
 |.lnil,_=>.l []
 |.rnil,_=>.r []
 |.o1 o a,ρ=>sem1 o (a.den ρ)
 |.o2 o a b,ρ=>sem2 o (a.den ρ) (b.den ρ)
 |.o3 o a b c,ρ=>sem3 o (a.den ρ) (b.den ρ) (c.den ρ)
def Zm7:Value->Bool
 |.slice none 0 0=>true
 |_=>false
theorem Zkn{v:Value}(h:Zm7 v=true):v=.slice none 0 0:=by
 unfold Zm7 at h;split at h
 ·rfl
 ·cases h
def E.beq:E->E->Bool
 |.val v,.val u=>Zm7 v&&Zm7 u
 |.var n,.var m=>n==m
 |.int n,.int m=>n==m
 |.bool n,.bool m=>n==m
 |.str n,.str m=>n==m
 |.lnil,.lnil=>true
 |.rnil,.rnil=>true
 |.o1 o a,.o1 p b=>decide (o=p)&&a.beq b
 |.o2 o a b,.o2 p c d=>decide (o=p)&&(a.beq c&&b.beq d)
 |.o3 o a b e,.o3 p c d f=>decide (o=p)&&(a.beq c&&(b.beq d&&e.beq f))
 |_,_=>false
theorem E.beq_eq:∀{a b:E},a.beq b=true->a=b:=by
 intro a
 induction a with
 |var n=>intro b h;cases b<;>simp[E.beq]at h;rw[h]
 |int n=>intro b h;cases b<;>simp[E.beq]at h;rw[h]
 |bool n=>intro b h;cases b<;>simp[E.beq]at h;rw[h]
 |str n=>intro b h;cases b<;>simp[E.beq]at h;rw[h]
 |val v=>intro b h;cases b<;>simp[E.beq]at h;rw[Zkn h.1,Zkn h.2]
 |lnil=>intro b h;cases b<;>simp[E.beq]at h;rfl
 |rnil=>intro b h;cases b<;>simp[E.beq]at h;rfl
 |o1 o a iha=>intro b h;cases b<;>simp[E.beq]at h;rw[h.1,iha h.2]
 |o2 o a b iha ihb=>intro b h;cases b<;>simp[E.beq]at h;rw[h.1,iha h.2.1,ihb h.2.2]
 |o3 o a b c iha ihb ihc=>intro b h;cases b<;>simp[E.beq]at h;rw[h.1,iha h.2.1,ihb h.2.2.1,ihc h.2.2.2]
def E.lt(n:Nat):E->Bool
 |.var m=>Nat.blt m n
 |.o1 _ a=>a.lt n
 |.o2 _ a b=>a.lt n&&b.lt n
 |.o3 _ a b c=>a.lt n&&(b.lt n&&c.lt n)
 |_=>true
def Agr(n:Nat)(ρ ρ':Env):Prop:=∀i,i<n->ρ' i=ρ i
theorem Agr.refl(n:Nat)(ρ:Env):Agr n ρ ρ:=fun _ _=>rfl
theorem Agr.trans{n m:Nat}{ρ ρ' ρ'':Env}(h:Agr n ρ ρ')(k:Agr m ρ' ρ'')(hn:n<=m):Agr n ρ ρ'':=fun i hi=>(k i (Nat.lt_of_lt_of_le hi hn)).trans (h i hi)
theorem Agr.set{n m:Nat}{ρ ρ':Env}(h:Agr n ρ ρ')(x:Dat)(hm:n<=m):Agr n ρ (ρ'.set m x):=fun i hi=>by
 have:i≠m:=by omega
 simp[Env.set,this,h i hi]
theorem E.den_agr{n:Nat}{ρ ρ':Env}(h:Agr n ρ ρ'):∀{e:E},e.lt n=true->e.den ρ'=e.den ρ
 |.var m,hl=>h m (by simpa[E.lt,Nat.blt_eq]using hl)
 |.int _,_|.bool _,_|.str _,_|.val _,_|.lnil,_|.rnil,_=>rfl
 |.o1 o a,hl=>by simp only[E.den];rw[E.den_agr h (e:=a) hl]
 |.o2 o a b,hl=>by
  simp only[E.lt,Bool.and_eq_true]at hl;simp only[E.den];rw[E.den_agr h (e:=a) hl.1,E.den_agr h (e:=b) hl.2]
 |.o3 o a b c,hl=>by
  simp only[E.lt,Bool.and_eq_true]at hl;simp only[E.den];rw[E.den_agr h (e:=a) hl.1,E.den_agr h (e:=b) hl.2.1,E.den_agr h (e:=c) hl.2.2]
def E.cells:E->Option (List E)
 |.rnil=>some []
 |.o2 .rcons a b=>(match b.cells with|some l=>some (a::l)|none=>none)
 |.o1 .rone a=>some [a]
 |_=>none
def E.ofCells:List E->E
 |[]=>.rnil
 |a::l=>.o2 .rcons a (ofCells l)
theorem E.den_ofCells(ρ:Env):∀l:List E,(E.ofCells l).den ρ=.r (l.map fun e=>(e.den ρ).dd)
 |[]=>rfl
 |a::l=>by simp[E.ofCells,E.den,sem2,E.den_ofCells ρ l,Dat.row]
theorem E.cells_den(ρ:Env):∀{e:E}{l:List E},e.cells=some l->e.den ρ=.r (l.map fun e=>(e.den ρ).dd):=by
 intro e
 induction e with
 |rnil=>intro l h;cases h;rfl
 |o2 o a b iha ihb=>
  intro l h;cases o<;>simp only[E.cells]at h<;>try cases h
  split at h
  ·rename_i l' hl;cases h;simp[E.den,sem2,ihb hl,Dat.row]
  ·cases h
 |o1 o a iha=>
  intro l h;cases o<;>simp only[E.cells]at h<;>cases h;simp[E.den,sem1]
 |_=>intro l h;cases h
def E.rowsB:E->Bool
 |.lnil=>true
 |.o2 .lcons (.o2 .rcons (.o1 (.ci .u8) _) .rnil) l=>l.rowsB
 |_=>false
theorem E.rowsB_den(ρ:Env):∀{e:E},e.rowsB=true->((e.den ρ).lst.all fun r=>r.length==1&&Rf.isK (.int .u8) (r.getD 0 D0))=true:=by
 intro e
 induction e with
 |lnil=>intro _;rfl
 |o2 o a b iha ihb=>
  intro h;unfold E.rowsB at h;split at h
  ·rename_i e;cases e
  ·rename_i e1;cases e1;have:=ihb h;simp only[E.den,sem2,Dat.lst_l,List.all_cons,this,Dat.row_r,Dat.dd_d,sem1];rfl
  ·cases h
 |_=>intro h;simp[E.rowsB]at h
def m1:O1->E->E
 |.wrap k,.int n=>.int (k.wrap n)
 |.not,.bool t=>.bool !t
 |.not,.o1 .not a=>(match a with
  |.o2 .eqI _ _|.o2 .ltI _ _|.o2 .leI _ _|.o2 .and _ _|.o2 .or _ _|.o2 .eqS _ _|.o2 .eqB _ _|.o1 .dbool _|.o1 .not _|.o1 .tb _=>a
  |_=>.o1 .not (.o1 .not a))
 |.slen,.str l=>.int l.length
 |.llen,.lnil=>.int 0
 |.rlen,a=>(match a.cells with|some l=>.int l.length|none=>.o1 .rlen a)
 |.dint,.o1 (.ci k) (.int n)=>.int n
 |.cell j,a=>(match a.cells with
  |some l=>(match l[j]? with
   |some (.o1 (.ci k) x)=>.o1 (.ci k) x
   |some (.o1 .cb x)=>.o1 .cb x
   |some (.o1 .cs x)=>.o1 .cs x
   |some (.o1 .cl x)=>.o1 .cl x
   |_=>.o1 (.cell j) a)
  |none=>.o1 (.cell j) a)
 |.isK (.int k),.o1 (.ci k') x=>if k'=k then .bool true else .o1 (.isK (.int k)) (.o1 (.ci k') x)
 |.isK .bool,.o1 .cb _=>.bool true
 |.isK .str,.o1 .cs _=>.bool true
 |.isK .slc,.o1 .cl _=>.bool true
 |.isK .val,_=>.bool true
 |.rsub o n,a=>(match a.cells with|some l=>E.ofCells ((l.drop o).take n)|none=>.o1 (.rsub o n) a)
 |.flat _,.lnil=>.bool true
 |.flat n,.o2 .lcons a .lnil=>(match a.cells with|some l=>if l.length=n then .bool true else .o1 (.flat n) (.o2 .lcons a .lnil)|none=>.o1 (.flat n) (.o2 .lcons a .lnil))
 |.isBytes,a=>if a.rowsB then .bool true else .o1 .isBytes a
 |o,a=>.o1 o a
theorem Zaf(o:O1)(a:E)(ρ:Env):(m1 o a).den ρ=sem1 o (a.den ρ):=by
 unfold m1;split<;>try rfl
 ·rename_i a;split<;>simp[E.den,sem1,sem2,Dat.bool]
 ·rename_i a;split
  ·rename_i l hl;rw[E.cells_den ρ hl];simp[E.den,sem1,Dat.row]
  ·rfl
 ·rename_i j a;split
  ·rename_i l hl;rw[E.cells_den ρ hl]
   split<;>first
    |rfl
    |(rename_i h;simp[sem1,Dat.row,h,E.den,Dat.dd,List.getD];done)
    |(simp only[E.den,E.cells_den ρ hl];done)
  ·rfl
 ·split
  ·rename_i h;subst h;simp[E.den,sem1,Dat.dd,isK]
  ·rfl
 ·rename_i o n a;split
  ·rename_i l hl;rw[E.cells_den ρ hl,E.den_ofCells];simp[sem1,Dat.row,List.map_take,List.map_drop]
  ·rfl
 ·split
  ·rename_i l hl;split
   ·rename_i hn;simp only[E.den,sem1,sem2,E.cells_den ρ hl,Dat.row_r,Dat.lst_l];simp[hn]
   ·rfl
  ·rfl
 ·split
  ·rename_i h;simp only[E.den,sem1,E.rowsB_den ρ h]
  ·rfl
def m2:O2->E->E->E
 |.add,.int a,.int b=>.int (a+b)
 |.add,a,.int b=>if b=0 then(match a with|.o1 .slen _|.o1 .llen _|.o2 .add _ _|.o2 .byte _ _|.o1 .dint _=>a|_=>.o2 .add a (.int b))else .o2 .add a (.int b)
 |.sub,.int a,.int b=>.int (a-b)
 |.mul,.int a,.int b=>.int (a*b)
 |.quo,.int a,.int b=>.int (a.tdiv b)
 |.rem,.int a,.int b=>.int (a.tmod b)
 |.shl k,.int a,.int b=>.int (k.wrap (a*2^(min b.toNat k.bits)))
 |.eqI,.int a,.int b=>.bool (a==b)
 |.ltI,.int a,.int b=>.bool (decide (a<b))
 |.leI,.int a,.int b=>.bool (decide (a<=b))
 |.eqS,.str a,.str b=>.bool (a==b)
 |.and,.bool true,.o2 o a b=>(match o with|.eqI|.ltI|.leI|.and|.or|.eqS|.eqB|.ltS=>.o2 o a b|_=>.o2 .and (.bool true) (.o2 o a b))
 |.and,.bool true,.o1 o a=>(match o with|.not|.dbool|.isK _|.flat _|.tb=>.o1 o a|_=>.o2 .and (.bool true) (.o1 o a))
 |.and,.bool true,.bool t=>.bool t
 |.and,.bool false,_=>.bool false
 |.and,_,.bool false=>.bool false
 |.and,.o2 o a b,.bool true=>(match o with|.eqI|.ltI|.leI|.and|.or|.eqS|.eqB|.ltS=>.o2 o a b|_=>.o2 .and (.o2 o a b) (.bool true))
 |.and,.o1 o a,.bool true=>(match o with|.not|.dbool|.isK _|.flat _|.tb=>.o1 o a|_=>.o2 .and (.o1 o a) (.bool true))
 |.or,.bool false,.o2 o a b=>(match o with|.eqI|.ltI|.leI|.and|.or|.eqS|.eqB|.ltS=>.o2 o a b|_=>.o2 .or (.bool false) (.o2 o a b))
 |.or,.bool false,.o1 o a=>(match o with|.not|.dbool|.isK _|.flat _|.tb=>.o1 o a|_=>.o2 .or (.bool false) (.o1 o a))
 |.or,.bool false,.bool t=>.bool t
 |.or,.bool true,_=>.bool true
 |.or,_,.bool true=>.bool true
 |.or,.o2 o a b,.bool false=>(match o with|.eqI|.ltI|.leI|.and|.or|.eqS|.eqB|.ltS=>.o2 o a b|_=>.o2 .or (.o2 o a b) (.bool false))
 |.or,.o1 o a,.bool false=>(match o with|.not|.dbool|.isK _|.flat _|.tb=>.o1 o a|_=>.o2 .or (.o1 o a) (.bool false))
 |.eqB,.bool a,.bool b=>.bool (a==b)
 |.byte,.str l,.int n=>.int ((l.getD n.toNat 0).toNat:Nat)
 |.lcat,.lnil,.o2 .lcons a b=>.o2 .lcons a b
 |.rset o,a,b=>(match a.cells,b.cells with|some l,some m=>E.ofCells (l.take o++m++l.drop (o+m.length))|_,_=>.o2 (.rset o) a b)
 |o,a,b=>.o2 o a b
theorem Zah(o:O2)(a b:E)(ρ:Env):(m2 o a b).den ρ=sem2 o (a.den ρ) (b.den ρ):=by
 unfold m2;split<;>try rfl
 all_goals try (split<;>simp[E.den,sem1,sem2,Dat.bool,Dat.int,Dat.lst];done)
 all_goals try (simp[E.den,sem1,sem2,Dat.bool,Dat.int,Dat.lst];done)
 ·split
  ·rename_i h;subst h;split<;>simp[E.den,sem1,sem2,Dat.int]
  ·rfl
 ·rename_i o a b;split
  ·rename_i l m hl hm;rw[E.cells_den ρ hl,E.cells_den ρ hm,E.den_ofCells];simp[sem2,Dat.row,setL,List.map_take,List.map_drop]
  ·rfl
def m3:O3->E->E->E->E
 |.subS,.str l,.int a,.int b=>.str ((l.take b.toNat).drop a.toNat)
 |o,a,b,c=>.o3 o a b c
theorem Zey(o:O3)(a b c:E)(ρ:Env):(m3 o a b c).den ρ=sem3 o (a.den ρ) (b.den ρ) (c.den ρ):=by
 unfold m3;split<;>rfl
def E.repl(e:E)(t:Bool):E->E
 |.o1 o a=>if(E.o1 o a).beq e then .bool t else m1 o (E.repl e t a)
 |.o2 o a b=>if(E.o2 o a b).beq e then .bool t else m2 o (E.repl e t a) (E.repl e t b)
 |.o3 o a b c=>if(E.o3 o a b c).beq e then .bool t else m3 o (E.repl e t a) (E.repl e t b) (E.repl e t c)
 |x=>x
theorem E.repl_den{e:E}{t:Bool}{ρ:Env}(h:e.den ρ=.b t):∀x:E,(E.repl e t x).den ρ=x.den ρ
 |.var _|.int _|.bool _|.str _|.val _|.lnil|.rnil=>rfl
 |.o1 o a=>by
  unfold E.repl;split
  ·rename_i hb;rw[E.beq_eq hb,h];rfl
  ·rw[Zaf,E.repl_den h a];rfl
 |.o2 o a b=>by
  unfold E.repl;split
  ·rename_i hb;rw[E.beq_eq hb,h];rfl
  ·rw[Zah,E.repl_den h a,E.repl_den h b];rfl
 |.o3 o a b c=>by
  unfold E.repl;split
  ·rename_i hb;rw[E.beq_eq hb,h];rfl
  ·rw[Zey,E.repl_den h a,E.repl_den h b,E.repl_den h c];rfl
def E.isB:E->Bool
 |.bool _=>true
 |.o1 .not _|.o1 .tb _|.o1 .dbool _|.o1 (.isK _) _|.o1 (.flat _) _|.o1 .lits _|.o1 .isBytes _=>true
 |.o2 .eqI _ _|.o2 .ltI _ _|.o2 .leI _ _|.o2 .eqB _ _|.o2 .and _ _|.o2 .or _ _|.o2 .eqS _ _|.o2 .ltS _ _=>true
 |_=>false
theorem E.isB_den{e:E}(h:e.isB=true)(ρ:Env):e.den ρ=.b (e.den ρ).bool:=by
 unfold E.isB at h;split at h<;>first|rfl|cases h
def E.impl(g e:E):Bool:=
 g.beq e||match g with
  |.o2 .and a b=>a.impl e||b.impl e
  |_=>false
theorem E.impl_den{e:E}{ρ:Env}:∀{g:E},g.impl e=true->(g.den ρ).bool=true->(e.den ρ).bool=true:=by
 intro g
 induction g with
 |o2 o a b iha ihb=>
  intro h hg;unfold E.impl at h;rw[Bool.or_eq_true]at h;rcases h with h|h
  ·rw[<-E.beq_eq h];exact hg
  ·cases o<;>simp at h;simp[E.den,sem2,Dat.bool]at hg;rcases h with h|h
   ·exact iha h hg.1
   ·exact ihb h hg.2
 |_=>
  intro h hg;unfold E.impl at h;simp at h;rw[<-E.beq_eq h];exact hg
end Go.Rf
end
section
namespace Go.Rf
open Go.Ab
inductive RRef where
 |own (t:Nat)|up (n:Nat)
 deriving DecidableEq
inductive RA where
 |any|c (x:E)|agg (row:E)|tup (l:List (Bool×E))|ptr (r:RRef) (off:Nat)|elp (row:E) (off:Nat)
 |own (sz:Nat) (es nw:E)|zs (es:E)|als (t:Nat)|opt (t sz:Nat) (i:E) (j:Nat)|fn (f:Nat) (caps:List RRef)|gv (g:E) (v:RA)
 |ags (pre:List E) (sz:Nat) (es nw:E) (post:List E)
structure Nm where
 up:Nat->Ref
 ν:Nat->Nat
def RRef.den(m:Nm):RRef->Ref
 |.own t=>.own t (m.ν t)
 |.up n=>.up (m.up n)
def Zc2(ρ:Env):Bool×E->Bool×List D
 |(true,e)=>(true,(e.den ρ).row)
 |(false,e)=>(false,[(e.den ρ).dd])
def RA.den(ρ:Env)(m:Nm)(gen:Nat->Nat):RA->A
 |.any=>.any
 |.c x=>.d (x.den ρ).dd
 |.agg e=>.agg (e.den ρ).row
 |.tup l=>.tup (l.map (Zc2 ρ))
 |.ptr r o=>.ptr (r.den m) o
 |.elp e o=>.elp ((e.den ρ).row.drop o)
 |.own sz es nw=>.own sz (es.den ρ).lst (nw.den ρ).lst
 |.zs es=>.zs (es.den ρ).lst
 |.als t=>.als t (gen t)
 |.opt t sz i j=>.opt t (gen t) sz (i.den ρ).int.toNat j
 |.fn f l=>.fn f (l.map (RRef.den m))
 |.gv g v=>if(g.den ρ).bool then v.den ρ m gen else .tup []
 |.ags pre sz es nw post=>.ags (pre.map fun e=>(e.den ρ).dd) sz (es.den ρ).lst (nw.den ρ).lst (post.map fun e=>(e.den ρ).dd)
def RA.ali:RA->Option Nat
 |.als t=>some t
 |.opt t _ _ _=>some t
 |.gv _ v=>v.ali
 |_=>none
def RA.names(t:Nat):RA->Bool
 |.ptr r _=>decide (r=.own t)
 |.fn _ l=>l.any fun r=>decide (r=.own t)
 |.gv _ v=>v.names t
 |_=>false
def RA.plain:RA->Bool
 |.als _|.opt _ _ _ _=>false
 |.gv _ v=>v.plain
 |_=>true
theorem RA.den_gen{ρ:Env}{m:Nm}{gen gen':Nat->Nat}{x:RA}(h:∀t,x.ali=some t->gen' t=gen t):x.den ρ m gen'=x.den ρ m gen:=by
 induction x with
 |als t=>simp only[RA.den];rw[h t rfl]
 |opt t sz i j=>simp only[RA.den];rw[h t rfl]
 |gv g v ih=>simp only[RA.den];rw[ih h]
 |_=>rfl
theorem RA.den_nm{ρ:Env}{m m':Nm}{gen:Nat->Nat}{d:Nat}(hu:m'.up=m.up)(hn:∀t,t≠d->m'.ν t=m.ν t){x:RA}(h:x.names d=false):x.den ρ m' gen=x.den ρ m gen:=by
 have key:∀r:RRef,r≠ .own d->r.den m'=r.den m:=fun r hr=>by
  cases r with
  |own t=>simp only[RRef.den];rw[hn t fun e=>hr (by rw[e])]
  |up n=>simp only[RRef.den];rw[hu]
 induction x with
 |ptr r o=>simp only[RA.names,decide_eq_false_iff_not]at h;simp only[RA.den];rw[key r h]
 |fn f l=>
  simp only[RA.names,List.any_eq_false,decide_eq_true_eq]at h;simp only[RA.den]
  congr 1
  exact List.map_congr_left fun r hr=>key r (h r hr)
 |gv g v ih=>simp only[RA.den];rw[ih h]
 |_=>rfl
inductive Tr where
 |nil|node (v:RA) (l r:Tr)
def Tr.full:Nat->Tr
 |0=>.nil
 |n+1=>.node .any (Tr.full n) (Tr.full n)
def Tr.get:Tr->Nat->RA
 |.nil,_=>.any
 |.node v l r,k=>if k=0 then v else if k % 2=1 then l.get (k/2)else r.get (k/2-1)
def Tr.set:Tr->Nat->RA->Tr
 |.nil,_,_=>.nil
 |.node v l r,k,x=>if k=0 then .node x l r else if k % 2=1 then .node v (l.set (k/2) x) r else .node v l (r.set (k/2-1) x)
def Tr.map(f:RA->RA):Tr->Tr
 |.nil=>.nil
 |.node v l r=>.node (f v) (l.map f) (r.map f)
theorem Tr.get_set_ne(x:RA):∀(t:Tr){k j:Nat},j≠k->(t.set k x).get j=t.get j
 |.nil,_,_,_=>rfl
 |.node v l r,k,j,h=>by
  unfold Tr.set;by_cases k0:k=0
  ·subst k0;simp[Tr.get,h]
  ·by_cases k1:k % 2=1
   ·simp only[k0,k1,if_true,if_false,Tr.get];by_cases j0:j=0
    ·simp[j0]
    ·by_cases j1:j % 2=1
     ·simp only[j0,j1,if_true,if_false];exact Tr.get_set_ne x l (by omega)
     ·simp[j0,j1]
   ·simp only[k0,k1,if_false,Tr.get];by_cases j0:j=0
    ·simp[j0]
    ·by_cases j1:j % 2=1
     ·simp[j0,j1]
     ·simp only[j0,j1,if_false];exact Tr.get_set_ne x r (by omega)
theorem Tr.get_set(x:RA):∀(t:Tr)(k:Nat),(t.set k x).get k=x\/(t.set k x).get k=.any
 |.nil,_=>.inr rfl
 |.node v l r,k=>by
  unfold Tr.set;by_cases k0:k=0
  ·subst k0;left;simp[Tr.get]
  ·by_cases k1:k % 2=1
   ·simp only[k0,k1,if_true,if_false,Tr.get];exact Tr.get_set x l _
   ·simp only[k0,k1,if_false,Tr.get];exact Tr.get_set x r _
theorem Tr.get_map{f:RA->RA}(hf:f .any=.any):∀(t:Tr)(k:Nat),(t.map f).get k=f (t.get k)
 |.nil,_=>hf.symm
 |.node v l r,k=>by
  simp only[Tr.map,Tr.get];split
  ·rfl
  ·split
   ·exact Tr.get_map hf l _
   ·exact Tr.get_map hf r _
structure RSt where
 tm:Tr
 K:List (RRef×List RA)
 nv:Nat
 dep:Nat
 known:List E
 al:Bool
def kDen(ρ:Env)(m:Nm)(c:List RA):List A:=c.map (RA.den ρ m fun _=>0)
structure Den (ρ:Env) (m:Nm) (rs:RSt) (s:St):Prop where
 tm:∀t,rs.tm.get t=.any\/s.tm t=(rs.tm.get t).den ρ m s.gen
 al:rs.al=false-> ∀t,(rs.tm.get t).ali=none
 K:∀r c,(r,c)∈rs.K->s.K (r.den m)=some (kDen ρ m c)
 nd:(rs.K.map fun x=>x.1.den m).Nodup
 known:∀e∈rs.known,(e.den ρ).bool=true
def Ztj(d:Nat)(x:RA):RA:=if x.ali=some d then .any else x
def RSt.kill(rs:RSt)(d:Nat):RSt:=if rs.al then{rs with tm:=rs.tm.map (Ztj d)}else rs
def RSt.put(rs:RSt)(d:Nat)(x:RA):RSt:={rs.kill d with tm:=(rs.kill d).tm.set d x,al:=rs.al||x.ali.isSome}
theorem Zm8{rs:RSt}(hal:rs.al=false-> ∀t,(rs.tm.get t).ali=none)(d t:Nat):(rs.kill d).tm.get t=.any\/((rs.kill d).tm.get t=rs.tm.get t/\(rs.tm.get t).ali≠some d):=by
 unfold RSt.kill;split
 ·rw[Tr.get_map (by simp[Ztj,RA.ali])];unfold Ztj;split
  ·exact .inl rfl
  ·rename_i h;exact .inr ⟨rfl,h⟩
 ·rename_i h;right;refine⟨rfl,?_⟩;rw[hal (by simpa using h) t];intro e;cases e
theorem Zm9{rs:RSt}(d:Nat):(rs.kill d).K=rs.K:=by unfold RSt.kill;split<;>rfl
theorem Zov{rs:RSt}(d:Nat):(rs.kill d).known=rs.known:=by unfold RSt.kill;split<;>rfl
theorem Den.wr{ρ:Env}{m:Nm}{rs:RSt}{s s':St}(h:Den ρ m rs s){d:Nat}{x:RA}(hx:x.ali≠some d)(hne:∀t,t≠d->s'.tm t=s.tm t)(hgen:∀t,t≠d->s'.gen t=s.gen t)(hK:s'.K=s.K)
 (hd:x=.any\/s'.tm d=x.den ρ m s.gen):Den ρ m (rs.put d x) s':=by
 have hg:∀(y:RA),y.ali≠some d->y.den ρ m s'.gen=y.den ρ m s.gen:=fun y hy=>RA.den_gen fun t ht=>hgen t fun e=>hy (e▸ht)
 refine⟨fun t=>?_,fun hal t=>?_,fun r c hc=>?_,?_,?_⟩
 ·show((rs.kill d).tm.set d x).get t=.any\/s'.tm t=(((rs.kill d).tm.set d x).get t).den ρ m s'.gen;by_cases ht:t=d
  ·subst ht;rcases Tr.get_set x (rs.kill t).tm t with e|e
   ·rw[e];rcases hd with hd|hd
    ·exact .inl hd
    ·right;rw[hd,hg x hx]
   ·exact .inl e
  ·rw[Tr.get_set_ne _ _ ht,hne t ht];rcases Zm8 h.al d t with e|⟨e,e2⟩
   ·exact .inl e
   ·rw[e,hg _ e2];exact h.tm t
 ·have h1:rs.al=false/\x.ali.isSome=false:=by simpa[RSt.put]using hal
  show(((rs.kill d).tm.set d x).get t).ali=none;by_cases ht:t=d
  ·subst ht;rcases Tr.get_set x (rs.kill t).tm t with e|e
   ·rw[e];simpa using h1.2
   ·rw[e];rfl
  ·rw[Tr.get_set_ne _ _ ht];rcases Zm8 h.al d t with e|⟨e,e2⟩
   ·rw[e];rfl
   ·rw[e];exact h.al h1.1 t
 ·have hc':(r,c)∈rs.K:=by simpa[RSt.put,Zm9]using hc
  rw[hK];exact h.K r c hc'
 ·simpa[RSt.put,Zm9]using h.nd
 ·simpa[RSt.put,Zov]using h.known
theorem Den.put{ρ:Env}{m:Nm}{rs:RSt}{s:St}(h:Den ρ m rs s){d:Nat}{x:RA}{y:A}(hx:x.ali≠some d)(hy:x=.any\/y=x.den ρ m s.gen):Den ρ m (rs.put d x) (s.put d y):=by
 refine h.wr hx (fun t ht=>Zac _ _ ht) (fun t ht=>?_) rfl ?_
 ·simp only[St.put];split
  ·exact Zac _ _ ht
  ·rfl
 ·rcases hy with hy|hy
  ·exact .inl hy
  ·exact .inr (by rw[<-hy];exact Zad _ _ _)
theorem Den.reset{ρ:Env}{m:Nm}{rs:RSt}{s:St}(h:Den ρ m rs s)(d:Nat)(y:A):Den ρ m (rs.put d .any) (s.reset d y):=
 h.wr (by intro e;cases e) (fun t ht=>Zac _ _ ht) (fun t ht=>Zac _ _ ht) rfl (.inl rfl)
theorem Den.reput{ρ:Env}{m:Nm}{rs:RSt}{s:St}(h:Den ρ m rs s){d:Nat}{x:RA}{y y':A}(hx:x.ali≠some d)(hy:x=.any\/y=x.den ρ m s.gen):Den ρ m (rs.put d x) ((s.reset d y').put d y):=by
 refine h.wr hx (fun t ht=>by rw[show((s.reset d y').put d y).tm t=(s.reset d y').tm t from Zac _ _ ht];exact Zac _ _ ht) (fun t ht=>?_) rfl ?_
 ·simp only[St.put];split
  ·rw[Zac _ _ ht];exact Zac _ _ ht
  ·exact Zac _ _ ht
 ·rcases hy with hy|hy
  ·exact .inl hy
  ·exact .inr (by rw[<-hy];exact Zad _ _ _)
def Zb3:List (RRef×List RA)->RRef->Option (List RA)
 |[],_=>none
 |(r,c)::l,q=>if q=r then some c else Zb3 l q
theorem Zbh:∀{l:List (RRef×List RA)}{r:RRef}{c:List RA},Zb3 l r=some c->(r,c)∈l
 |(r',c')::l,r,c,h=>by
  unfold Zb3 at h;split at h
  ·rename_i e;cases h;subst e;exact List.mem_cons_self ..
  ·exact List.mem_cons_of_mem _ (Zbh h)
def putK:List (RRef×List RA)->RRef->List RA->List (RRef×List RA)
 |[],_,_=>[]
 |(r,c)::l,q,x=>if q=r then(r,x)::l else(r,c)::putK l q x
theorem Zeo:∀(l:List (RRef×List RA))(q:RRef)(x:List RA),(putK l q x).map (·.1)=l.map (·.1)
 |[],_,_=>rfl
 |(r,c)::l,q,x=>by
  unfold putK;split
  ·simp
  ·simp[Zeo l q x]
theorem Zna:∀{l:List (RRef×List RA)}{q r:RRef}{x c:List RA},(r,c)∈putK l q x->(r=q/\c=x)\/(r,c)∈l
 |[],_,_,_,_,h=>by cases h
 |(r',c')::l,q,r,x,c,h=>by
  unfold putK at h;split at h
  ·rename_i e;rcases List.mem_cons.1 h with h|h
   ·cases h;exact .inl ⟨e.symm,rfl⟩
   ·exact .inr (List.mem_cons_of_mem _ h)
  ·rcases List.mem_cons.1 h with h|h
   ·cases h;exact .inr (List.mem_cons_self ..)
   ·rcases Zna h with h|h
    ·exact .inl h
    ·exact .inr (List.mem_cons_of_mem _ h)
theorem Zps:∀{l:List (RRef×List RA)}{m:Nm}{q r:RRef}{x c:List RA},(l.map fun y=>y.1.den m).Nodup->q∈l.map (·.1)->(r,c)∈putK l q x->(r=q/\c=x)\/((r,c)∈l/\r.den m≠q.den m)
 |[],_,_,_,_,_,_,_,h=>by cases h
 |(r',c')::l,m,q,r,x,c,hn,hq,h=>by
  simp only[List.map_cons,List.nodup_cons]at hn;unfold putK at h;split at h
  ·rename_i e;subst e;rcases List.mem_cons.1 h with h|h
   ·cases h;exact .inl ⟨rfl,rfl⟩
   ·exact .inr ⟨List.mem_cons_of_mem _ h,fun e=>hn.1 (e▸List.mem_map.2 ⟨_,h,rfl⟩)⟩
  ·rename_i e
   have hq':q∈l.map (·.1):=by
    rcases List.mem_cons.1 hq with h|h
    ·exact absurd h e
    ·exact h
   rcases List.mem_cons.1 h with h|h
   ·cases h;obtain⟨y,hy,rfl⟩:=List.mem_map.1 hq';exact .inr ⟨List.mem_cons_self ..,fun e=>hn.1 (e▸List.mem_map.2 ⟨y,hy,rfl⟩)⟩
   ·rcases Zps hn.2 hq' h with h|⟨h1,h2⟩
    ·exact .inl h
    ·exact .inr ⟨List.mem_cons_of_mem _ h1,h2⟩
def RSt.setK(rs:RSt)(r:RRef)(c:List RA):RSt:={rs with K:=putK rs.K r c}
theorem Den.look{ρ:Env}{m:Nm}{rs:RSt}{s:St}(h:Den ρ m rs s){r:RRef}{c:List RA}(hc:Zb3 rs.K r=some c):s.K (r.den m)=some (kDen ρ m c):=h.K r c (Zbh hc)
theorem Den.setK{ρ:Env}{m:Nm}{rs:RSt}{s:St}(h:Den ρ m rs s){r:RRef}{c c':List RA}{k:List A}(hc:Zb3 rs.K r=some c)(hk:k=kDen ρ m c'):Den ρ m (rs.setK r c') (s.setK (r.den m) k):=by
 refine⟨h.tm,h.al,fun q x hq=>?_,?_,h.known⟩
 ·rcases Zps (l:=rs.K) (m:=m) h.nd (List.mem_map.2 ⟨_,Zbh hc,rfl⟩) hq with⟨rfl,rfl⟩|⟨h1,h2⟩
  ·show upd s.K _ _ _=_;rw[Zad,hk]
  ·show upd s.K _ _ _=_;rw[Zac _ _ h2];exact h.K q x h1
 ·have:(rs.setK r c').K.map (fun x=>x.1.den m)=rs.K.map fun x=>x.1.den m:=by
   have:=congrArg (List.map (RRef.den m)) (Zeo rs.K r c');simpa[RSt.setK,Function.comp_def]using this
  rw[this];exact h.nd
def Zeb(d:Nat)(x:RA):RA:=if x.names d then .any else x
def RSt.forget(rs:RSt)(d:Nat):RSt:=
 {rs with tm:=rs.tm.map (Zeb d),K:=rs.K.filter fun x=>!(decide (x.1=.own d))&&x.2.all fun y=>!y.names d}
def RSt.alloc(rs:RSt)(d:Nat)(c:List RA):RSt:=
 let r:=(rs.forget d).put d (.ptr (.own d) 0)
 {r with K:=(.own d,c)::r.K}
def Nm.set(m:Nm)(d n:Nat):Nm:=⟨m.up,fun t=>if t=d then n else m.ν t⟩
theorem Zep{rs:RSt}{d:Nat}{r:RRef}{c:List RA}(h:(r,c)∈(rs.forget d).K):(r,c)∈rs.K/\r≠ .own d/\ ∀y∈c,y.names d=false:=by
 have:=List.mem_filter.1 h;simp only[Bool.and_eq_true,Bool.not_eq_true',decide_eq_false_iff_not,List.all_eq_true]at this;exact⟨this.1,this.2.1,this.2.2⟩
theorem RRef.den_set{m:Nm}{d n:Nat}{r:RRef}(h:r≠ .own d):r.den (m.set d n)=r.den m:=by
 cases r with
 |own t=>
  have:t≠d:=fun e=>h (by rw[e])
  simp[RRef.den,Nm.set,this]
 |up k=>rfl
theorem Den.forget{ρ:Env}{m:Nm}{rs:RSt}{s:St}(h:Den ρ m rs s)(d n:Nat):Den ρ (m.set d n) (rs.forget d) s:=by
 have hx:∀(x:RA)(gen:Nat->Nat),x.names d=false->x.den ρ (m.set d n) gen=x.den ρ m gen:=fun x gen hx=>RA.den_nm (m:=m) (m':=m.set d n) rfl (fun t ht=>by simp[Nm.set,ht]) hx
 refine⟨fun t=>?_,fun hal t=>?_,fun r c hc=>?_,?_,h.known⟩
 ·show(rs.tm.map (Zeb d)).get t=.any\/_;rw[show(rs.forget d).tm.get t=(rs.tm.map (Zeb d)).get t from rfl,Tr.get_map (by simp[Zeb,RA.names])]
  unfold Zeb;split
  ·exact .inl rfl
  ·rename_i hn;rw[hx _ _ (by simpa using hn)];exact h.tm t
 ·show((rs.tm.map (Zeb d)).get t).ali=none;rw[Tr.get_map (by simp[Zeb,RA.names])];unfold Zeb;split
  ·rfl
  ·exact h.al hal t
 ·obtain⟨h1,h2,h3⟩:=Zep hc;rw[RRef.den_set h2,h.K r c h1]
  congr 1
  exact List.map_congr_left fun y hy=>by rw[hx y _ (h3 y hy)]
 ·have e:(rs.forget d).K.map (fun x=>x.1.den (m.set d n))=(rs.forget d).K.map fun x=>x.1.den m:=List.map_congr_left fun x hx=>RRef.den_set (Zep (r:=x.1) (c:=x.2) hx).2.1
  rw[e];exact(List.Sublist.map _ List.filter_sublist).nodup h.nd
theorem Den.alloc{ρ:Env}{m:Nm}{rs:RSt}{s:St}(h:Den ρ m rs s){d:Nat}{c:List RA}{k:List A}(hk:k=kDen ρ (m.set d (s.gen d)) c):Den ρ (m.set d (s.gen d)) (rs.alloc d c) (s.alloc d k):=by
 have hp:(RA.ptr (.own d) 0).den ρ (m.set d (s.gen d)) s.gen=.ptr (.own d (s.gen d)) 0:=by simp[RA.den,RRef.den,Nm.set]
 have h1:=(h.forget d (s.gen d)).wr (s':={s with tm:=upd s.tm d (.ptr (.own d (s.gen d)) 0),gen:=upd s.gen d (s.gen d+1)}) (d:=d) (x:=.ptr (.own d) 0) (by intro e;cases e) (fun t ht=>Zac _ _ ht) (fun t ht=>Zac _ _ ht) rfl
  (.inr (by rw[hp];exact Zad _ _ _))
 have hKK:((rs.forget d).put d (.ptr (.own d) 0)).K=(rs.forget d).K:=by simp[RSt.put,Zm9]
 have hne:∀r:RRef,r≠ .own d->r.den (m.set d (s.gen d))≠ .own d (s.gen d):=fun r hr e=>by
  cases r with
  |own t=>simp only[RRef.den,Ref.own.injEq]at e;exact hr (by rw[e.1])
  |up k=>cases e
 have hd:(RRef.own d).den (m.set d (s.gen d))=.own d (s.gen d):=by simp[RRef.den,Nm.set]
 refine⟨h1.tm,h1.al,fun r x hx=>?_,?_,h1.known⟩
 ·rcases List.mem_cons.1 hx with e|hx
  ·cases e;show upd s.K (.own d (s.gen d)) (some k) _=_;rw[hd,Zad,hk]
  ·show upd s.K (.own d (s.gen d)) (some k) _=_;rw[hKK]at hx;rw[Zac _ _ (hne r (Zep hx).2.1)];exact h1.K r x (by rw[hKK];exact hx)
 ·show(((.own d,c)::((rs.forget d).put d (.ptr (.own d) 0)).K).map fun x=>x.1.den (m.set d (s.gen d))).Nodup;rw[List.map_cons,List.nodup_cons];refine⟨fun hm=>?_,h1.nd⟩;obtain⟨x,hx,e⟩:=List.mem_map.1 hm;rw[hKK]at hx;rw[hd]at e;exact hne x.1 (Zep (r:=x.1) (c:=x.2) hx).2.1 e
def RRef.key:RRef->Nat
 |.own t=>t+1
 |.up _=>0
def insK(x:RRef×List RA):List (RRef×List RA)->List (RRef×List RA)
 |[]=>[x]
 |y::l=>if Nat.blt x.1.key y.1.key then x::y::l else y::insK x l
theorem Zko(x:RRef×List RA):∀l,(insK x l).Perm (x::l)
 |[]=>.refl _
 |y::l=>by
  unfold insK;split
  ·exact .refl _
  ·exact(List.Perm.cons y (Zko x l)).trans (List.Perm.swap ..)
def Zu5:List (RRef×List RA)->List (RRef×List RA)
 |[]=>[]
 |x::l=>insK x l
theorem Zis:∀l,(Zu5 l).Perm l
 |[]=>.refl _
 |x::l=>Zko x l
def RSt.sorted(rs:RSt):RSt:={rs with K:=Zu5 rs.K}
theorem Den.sorted{ρ:Env}{m:Nm}{rs:RSt}{s:St}(h:Den ρ m rs s):Den ρ m rs.sorted s:=
 ⟨h.tm,h.al,fun r c hc=>h.K r c ((Zis rs.K).mem_iff.1 hc),(((Zis rs.K).map _).nodup_iff).2 h.nd,h.known⟩
def RA.repl(e:E)(t:Bool):RA->RA
 |.c x=>.c (E.repl e t x)
 |.agg x=>.agg (E.repl e t x)
 |.elp x o=>.elp (E.repl e t x) o
 |.gv g v=>(match E.repl e t g with
  |.bool true=>v.repl e t
  |.bool false=>.tup []
  |g'=>.gv g' (v.repl e t))
 |x=>x
theorem RA.repl_den{e:E}{t:Bool}{ρ:Env}{m:Nm}{gen:Nat->Nat}(h:e.den ρ=.b t):∀x:RA,(x.repl e t).den ρ m gen=x.den ρ m gen
 |.c x=>by simp only[RA.repl,RA.den];rw[E.repl_den h]
 |.agg x=>by simp only[RA.repl,RA.den];rw[E.repl_den h]
 |.elp x o=>by simp only[RA.repl,RA.den];rw[E.repl_den h]
 |.gv g v=>by
  have hg:=E.repl_den h g;unfold RA.repl;split
  ·rename_i e1;rw[e1]at hg;simp only[RA.den,<-hg,E.den,Dat.bool,if_true];exact RA.repl_den h v
  ·rename_i e1;rw[e1]at hg;simp[RA.den,<-hg,E.den,Dat.bool]
  ·simp only[RA.den];rw[hg,RA.repl_den h v]
 |.any|.tup _|.ptr _ _|.own _ _ _|.zs _|.als _|.opt _ _ _ _|.fn _ _|.ags _ _ _ _ _=>rfl
theorem RA.repl_ali{e:E}{t:Bool}:∀{x:RA},x.ali=none->(x.repl e t).ali=none
 |.gv g v,h=>by
  unfold RA.repl;split
  ·exact RA.repl_ali (x:=v) h
  ·rfl
  ·exact RA.repl_ali (x:=v) h
 |.c _,_|.agg _,_|.elp _ _,_|.any,_|.tup _,_|.ptr _ _,_|.own _ _ _,_|.zs _,_|.fn _ _,_|.ags _ _ _ _ _,_=>rfl
 |.als _,h|.opt _ _ _ _,h=>by cases h
def RSt.assume1(rs:RSt)(e:E)(t:Bool):RSt:={rs with tm:=rs.tm.map (RA.repl e t),known:=(if t then e else .o1 .not e)::rs.known}
theorem Den.assume1{ρ:Env}{m:Nm}{rs:RSt}{s:St}(h:Den ρ m rs s){e:E}{t:Bool}(he:e.den ρ=.b t):Den ρ m (rs.assume1 e t) s:=by
 refine⟨fun k=>?_,fun hal k=>?_,h.K,h.nd,fun x hx=>?_⟩
 ·show(rs.tm.map (RA.repl e t)).get k=.any\/s.tm k=((rs.tm.map (RA.repl e t)).get k).den ρ m s.gen;rw[Tr.get_map rfl,RA.repl_den he];rcases h.tm k with h1|h1
  ·left;rw[h1];rfl
  ·exact .inr h1
 ·show((rs.tm.map (RA.repl e t)).get k).ali=none;rw[Tr.get_map rfl];exact RA.repl_ali (h.al hal k)
 ·rcases List.mem_cons.1 hx with rfl|hx
  ·cases t<;>simp[E.den,sem1,he,Dat.bool]
  ·exact h.known x hx
def Zc3(t:Bool):E->List (E×Bool)
 |.o1 .not a=>Zc3 (!t) a
 |.o2 .and a b=>if t then Zc3 t a++Zc3 t b else[(.o2 .and a b,t)]
 |.o2 .or a b=>if t then[(.o2 .or a b,t)]else Zc3 t a++Zc3 t b
 |.bool _=>[]
 |e=>if e.isB then[(e,t)]else[]
theorem Zl4{ρ:Env}:∀{e:E}{t:Bool},(e.den ρ).bool=t-> ∀x∈Zc3 t e,x.1.den ρ=.b x.2:=by
 intro e
 induction e with
 |o1 o a ih=>
  intro t h x hx;unfold Zc3 at hx;split at hx
  ·rename_i b e;cases e;exact ih (t:=!t) (by rw[<-h];simp[E.den,sem1,Dat.bool]) x hx
  ·rename_i e;cases e
  ·rename_i e;cases e
  ·rename_i e;cases e
  ·split at hx
   ·rename_i hb;simp at hx;subst hx;rw[E.isB_den hb,h]
   ·cases hx
 |o2 o a b iha ihb=>
  intro t h x hx;unfold Zc3 at hx;split at hx
  ·rename_i e;cases e
  ·rename_i c d e;cases e;split at hx
   ·rename_i ht;subst ht;have:(a.den ρ).bool=true/\(b.den ρ).bool=true:=by simpa[E.den,sem2,Dat.bool]using h
    rcases List.mem_append.1 hx with hx|hx
    ·exact iha this.1 x hx
    ·exact ihb this.2 x hx
   ·simp at hx;subst hx;rw[E.isB_den rfl,h]
  ·rename_i c d e;cases e;split at hx
   ·simp at hx;subst hx;rw[E.isB_den rfl,h]
   ·rename_i ht;have ht:t=false:=by simpa using ht
    subst ht;have:(a.den ρ).bool=false/\(b.den ρ).bool=false:=by simpa[E.den,sem2,Dat.bool]using h
    rcases List.mem_append.1 hx with hx|hx
    ·exact iha this.1 x hx
    ·exact ihb this.2 x hx
  ·rename_i e;cases e
  ·split at hx
   ·rename_i hb;simp at hx;subst hx;rw[E.isB_den hb,h]
   ·cases hx
 |_=>
  intro t h x hx;unfold Zc3 at hx;simp at hx
  try (obtain⟨hb,rfl⟩:=hx;rw[E.isB_den hb,h])
def RSt.assume(rs:RSt)(e:E)(t:Bool):RSt:=(Zc3 t e).foldl (fun rs x=>rs.assume1 x.1 x.2) rs
theorem Den.assumeL{ρ:Env}{m:Nm}{s:St}:∀{l:List (E×Bool)}{rs:RSt},(∀x∈l,x.1.den ρ=.b x.2)->Den ρ m rs s->Den ρ m (l.foldl (fun rs x=>rs.assume1 x.1 x.2) rs) s
 |[],_,_,h=>h
 |x::l,rs,hl,h=>Den.assumeL (l:=l) (fun y hy=>hl y (List.mem_cons_of_mem _ hy)) (h.assume1 (hl x (List.mem_cons_self ..)))
theorem Den.assume{ρ:Env}{m:Nm}{rs:RSt}{s:St}(h:Den ρ m rs s){e:E}{t:Bool}(he:(e.den ρ).bool=t):Den ρ m (rs.assume e t) s:=Den.assumeL (Zl4 he) h
def Zii(live:List Nat)(n:Nat):Nat->Tr->Tr
 |0,t=>t
 |k+1,t=>Zii live n k (if live.contains k then t else t.set k .any)
theorem Zho(live:List Nat)(n:Nat):∀(k:Nat)(t:Tr)(j:Nat),(Zii live n k t).get j=.any\/(Zii live n k t).get j=t.get j
 |0,t,j=>.inr rfl
 |k+1,t,j=>by
  unfold Zii;rcases Zho live n k (if live.contains k then t else t.set k .any) j with h|h
  ·exact .inl h
  ·rw[h];split
   ·exact .inr rfl
   ·by_cases hj:j=k
    ·subst hj;left;rcases Tr.get_set .any t j with e|e<;>exact e
    ·right;exact Tr.get_set_ne _ _ hj
def Tr.anyAli:Tr->Bool
 |.nil=>false
 |.node v l r=>v.ali.isSome||l.anyAli||r.anyAli
theorem Tr.anyAli_get:∀{t:Tr},t.anyAli=false-> ∀k,(t.get k).ali=none
 |.nil,_,_=>rfl
 |.node v l r,h,k=>by
  simp only[Tr.anyAli,Bool.or_eq_false_iff]at h;unfold Tr.get;split
  ·simpa using h.1.1
  ·split
   ·exact Tr.anyAli_get h.1.2 _
   ·exact Tr.anyAli_get h.2 _
def RSt.keep(rs:RSt)(live:List Nat)(n:Nat):RSt:={rs with tm:=Zii live n n rs.tm,al:=rs.al&&(Zii live n n rs.tm).anyAli}
theorem Den.keep{ρ:Env}{m:Nm}{rs:RSt}{s:St}(h:Den ρ m rs s)(live:List Nat)(n:Nat):Den ρ m (rs.keep live n) s:=by
 refine⟨fun t=>?_,fun hal t=>?_,h.K,h.nd,h.known⟩
 ·rcases Zho live n n rs.tm t with e|e
  ·exact .inl e
  ·show(Zii live n n rs.tm).get t=.any\/s.tm t=((Zii live n n rs.tm).get t).den ρ m s.gen;rw[e];exact h.tm t
 ·show((Zii live n n rs.tm).get t).ali=none;have hal:(rs.al&&(Zii live n n rs.tm).anyAli)=false:=hal;rw[Bool.and_eq_false_iff]at hal;rcases hal with hal|hal
  ·rcases Zho live n n rs.tm t with e|e
   ·rw[e];rfl
   ·rw[e];exact h.al hal t
  ·exact Tr.anyAli_get hal t
end Go.Rf
end
section
namespace Go.Rf
open Go.Ab
structure Cfg where
 P:Program
 N:Nat
 nowrap:Bool
 live:List Nat
theorem Zpt{n:Int}(h1: -9223372036854775808<=n)(h2:n<=9223372036854775807):IntKind.wrap .i64 n=n:=by
 have e1:IntKind.signed .i64=true:=rfl;have e2:IntKind.bits .i64=64:=rfl;simp[IntKind.wrap,e1,e2];omega
def Zec:Value->E
 |.slice none 0 0=>.o1 .cl .lnil
 |.int k n=>.o1 (.ci k) (.int n)
 |.bool t=>.o1 .cb (.bool t)
 |.string b=>.o1 .cs (.str b.data.toList)
 |v=>.val v
def Zhp:Value->RA
 |.agg vs=>if vs.toList.all isCell then .agg (E.ofCells (vs.toList.map Zec))else .any
 |.tuple _=>.any
 |.slice none 0 0=>.zs .lnil
 |v=>.c (Zec v)
theorem Zl5(b:ByteArray):Zco b.data.toList=.string b:=rfl
theorem Zbr(ρ:Env)(v:Value):((Zec v).den ρ).dd=constD v:=by
 unfold Zec;split<;>try rfl
 rename_i h1 h2 h3 h4;unfold constD;split
 ·exact absurd rfl h1
 ·rfl
def nilE:Value->E
 |.slice none 0 0=>.val (.slice none 0 0)
 |v=>Zec v
theorem Zru(ρ:Env)(v:Value):((nilE v).den ρ).dd=D.lit v:=by
 unfold nilE;split
 ·rfl
 ·rename_i h;rw[Zbr];unfold constD;split
  ·exact absurd rfl h
  ·rfl
def Zrv(z:List Value):List E:=if z.length=4 then z.map nilE else z.map Zec
theorem Zpu(ρ:Env)(z:List Value):(Zrv z).map (fun e=>(e.den ρ).dd)=Ze3 z:=by
 unfold Zrv Ze3;split
 ·rw[List.map_map];exact List.map_congr_left fun v _=>Zru ρ v
 ·rw[List.map_map];exact List.map_congr_left fun v _=>Zbr ρ v
theorem Zhq(ρ:Env)(m:Nm)(gen:Nat->Nat)(v:Value):Zhp v=.any\/Zcl v=(Zhp v).den ρ m gen:=by
 unfold Zhp;split
 ·rename_i vs;split
  ·rename_i hv;right;simp only[Zcl,hv,if_true,RA.den,E.den_ofCells,Dat.row_r,List.map_map]
   congr 1
   exact List.map_congr_left fun v _=>(Zbr ρ v).symm
  ·exact .inl rfl
 ·exact .inl rfl
 ·right;rfl
 ·rename_i h1 h2 h3;right;simp only[RA.den,Zbr];unfold Zcl constD;split
  ·rename_i vs;exact absurd rfl (h1 vs)
  ·rename_i vs;exact absurd rfl (h2 vs)
  ·exact absurd rfl h3
  ·split
   ·exact absurd rfl h3
   ·rfl
def rev(rs:RSt):Operand->RA
 |.tmp t=>rs.tm.get t
 |.const v=>Zhp v
 |.func f=>.fn f []
 |.global _=>.any
def Ztk(G:E):RA->RA
 |.gv g v=>if G.impl g then v else .any
 |x=>x
def revG(G:E)(rs:RSt)(x:Operand):RA:=Ztk G (rev rs x)
section
variable {ρ:Env} {m:Nm} {rs:RSt} {s:St} {G:E}
theorem Za9(h:Den ρ m rs s)(hG:(G.den ρ).bool=true){x:Operand}{r:RA}(hr:revG G rs x=r)(hne:r≠ .any):s.ev x=r.den ρ m s.gen:=by
 have h1:rev rs x=.any\/s.ev x=(rev rs x).den ρ m s.gen:=by
  cases x with
  |tmp t=>exact h.tm t
  |const v=>exact Zhq ρ m s.gen v
  |func f=>exact .inr rfl
  |global n=>exact .inl rfl
 unfold revG Ztk at hr;split at hr
 ·rename_i g v he;split at hr
  ·rename_i hi;rcases h1 with h1|h1
   ·rw[he]at h1;cases h1
   ·rw[h1,he,<-hr];simp[RA.den,E.impl_den hi hG]
  ·exact absurd hr.symm hne
 ·rcases h1 with h1|h1
  ·rw[h1]at hr;exact absurd hr.symm hne
  ·rw[h1,hr]
def Nds(ρ:Env)(l:List E):Prop:=∀e∈l,(e.den ρ).bool=true
theorem Nds.nil:Nds ρ []:=fun _ h=>by cases h
theorem Zaw{a b:List E}:Nds ρ (a++b)↔Nds ρ a/\Nds ρ b:=by simp[Nds,or_imp,forall_and]
theorem Zaa{a:E}{b:List E}:Nds ρ (a::b)↔(a.den ρ).bool=true/\Nds ρ b:=by simp[Nds]
def Zb4:Kd->E->List E×E
 |.int k,.o1 (.ci k') e=>if k'=k then([],.o1 (.ci k') e)else([.bool false],.o1 (.ci k) (.o1 .dint (.o1 (.ci k') e)))
 |.int k,x=>([m1 (.isK (.int k)) x],.o1 (.ci k) (m1 .dint x))
 |.bool,.o1 .cb e=>([],.o1 .cb e)
 |.bool,x=>([m1 (.isK .bool) x],.o1 .cb (m1 .dbool x))
 |.str,.o1 .cs e=>([],.o1 .cs e)
 |.str,x=>([m1 (.isK .str) x],.o1 .cs (m1 .dstr x))
 |.slc,.o1 .cl e=>([],.o1 .cl e)
 |.slc,x=>([m1 (.isK .slc) x],.o1 .cl (m1 .dlst x))
 |.val,x=>([],x)
theorem isK_int{k:IntKind}{x:D}(h:isK (.int k) x=true):x=.lit (.int k (Rf.dint x)):=by
 cases x with
 |lit v=>cases v<;>simp[isK]at h;subst h;rfl
 |slc es=>simp[isK]at h
theorem isK_bool{x:D}(h:isK .bool x=true):x=.lit (.bool (Rf.dbool x)):=by
 cases x with
 |lit v=>cases v<;>simp[isK]at h;rfl
 |slc es=>simp[isK]at h
theorem isK_str{x:D}(h:isK .str x=true):x=.lit (Zco (Rf.dstr x)):=by
 cases x with
 |lit v=>cases v<;>simp[isK]at h;rfl
 |slc es=>simp[isK]at h
theorem isK_slc{x:D}(h:isK .slc x=true):x=.slc (Rf.dlst x):=by
 cases x with
 |lit v=>cases v<;>simp[isK]at h
 |slc es=>rfl
theorem Zcg{k:Kd}{x:E}(h:Nds ρ (Zb4 k x).1):(((Zb4 k x).2).den ρ).dd=(x.den ρ).dd:=by
 unfold Zb4 at h⊢;split at h
 ·split at h
  ·rename_i e;simp only[e,if_true]
  ·have:=(Zaa.1 h).1;cases this
 ·have:=(Zaa.1 h).1;rw[Zaf]at this;simp only[sem1,Dat.bool_b]at this;simp only[E.den,sem1,Zaf,Dat.int_i,Dat.dd_d];exact(isK_int this).symm
 ·rfl
 ·have:=(Zaa.1 h).1;rw[Zaf]at this;simp only[sem1,Dat.bool_b]at this;simp only[E.den,sem1,Zaf,Dat.bool_b,Dat.dd_d];exact(isK_bool this).symm
 ·rfl
 ·have:=(Zaa.1 h).1;rw[Zaf]at this;simp only[sem1,Dat.bool_b]at this;simp only[E.den,sem1,Zaf,Dat.str_s,Dat.dd_d];exact(isK_str this).symm
 ·rfl
 ·have:=(Zaa.1 h).1;rw[Zaf]at this;simp only[sem1,Dat.bool_b]at this;simp only[E.den,sem1,Zaf,Dat.lst_l,Dat.dd_d];exact(isK_slc this).symm
 ·rfl
def asI:RA->Option (IntKind×E)|.c (.o1 (.ci k) e)=>some (k,e)|_=>none
def asB:RA->Option E|.c (.o1 .cb e)=>some e|_=>none
def asS:RA->Option E|.c (.o1 .cs e)=>some e|_=>none
def mkI(k:IntKind)(e:E):RA:=.c (.o1 (.ci k) e)
def mkB(e:E):RA:=.c (.o1 .cb e)
def mkS(e:E):RA:=.c (.o1 .cs e)
theorem Zu6{r:RA}{k:IntKind}{e:E}(h:asI r=some (k,e)):r=mkI k e:=by unfold asI at h;split at h<;>cases h;rfl
theorem Zu7{r:RA}{e:E}(h:asB r=some e):r=mkB e:=by unfold asB at h;split at h<;>cases h;rfl
theorem Zpv{r:RA}{e:E}(h:asS r=some e):r=mkS e:=by unfold asS at h;split at h<;>cases h;rfl
theorem ev_I(h:Den ρ m rs s)(hG:(G.den ρ).bool=true){x:Operand}{k:IntKind}{e:E}(hr:asI (revG G rs x)=some (k,e)):s.ev x=.d (.lit (.int k (e.den ρ).int)):=Za9 h hG (Zu6 hr) (by intro e;cases e)
theorem ev_B(h:Den ρ m rs s)(hG:(G.den ρ).bool=true){x:Operand}{e:E}(hr:asB (revG G rs x)=some e):s.ev x=.d (.lit (.bool (e.den ρ).bool)):=Za9 h hG (Zu7 hr) (by intro e;cases e)
theorem ev_S(h:Den ρ m rs s)(hG:(G.den ρ).bool=true){x:Operand}{e:E}(hr:asS (revG G rs x)=some e):s.ev x=.d (.lit (Zco (e.den ρ).str)):=Za9 h hG (Zpv hr) (by intro e;cases e)
theorem Za8{x:Operand}{v:Value}(h:s.ev x=.d (.lit v)):s.lit x=some v:=by unfold St.lit;rw[h]
def Ze9(c:Cfg)(k:IntKind)(e:E):List E×E:=
 if c.nowrap&&decide (k=.i64)then
  (match e with
  |.int n=>if-9223372036854775808<=n/\n<=9223372036854775807 then([],.int n)else([],m1 (.wrap k) (.int n))
  |e=>([m2 .leI (.int (-9223372036854775808)) e,m2 .leI e (.int 9223372036854775807)],e))
 else([],m1 (.wrap k) e)
theorem Zfo{c:Cfg}{k:IntKind}{e:E}(h:Nds ρ (Ze9 c k e).1):((Ze9 c k e).2.den ρ).int=k.wrap (e.den ρ).int:=by
 unfold Ze9 at h⊢;split at h
 ·rename_i hc;simp only[hc,if_true];simp only[Bool.and_eq_true,decide_eq_true_eq]at hc;obtain⟨_,rfl⟩:=hc;split at h
  ·split at h
   ·rename_i hn;simp only[hn,if_true];exact(Zpt hn.1 hn.2).symm
   ·rename_i hn;simp only[hn,if_false,Zaf];rfl
  ·have h1:=(Zaa.1 h).1;have h2:=(Zaa.1 (Zaa.1 h).2).1;rw[Zah]at h1 h2;exact(Zpt (of_decide_eq_true h1) (of_decide_eq_true h2)).symm
 ·rename_i hc;simp only[hc];rw[if_neg (by simp)];simp only[Zaf];rfl
def rint(c:Cfg)(op:BinOp)(k:IntKind)(a b:E):Option (List E×RA):=
 let nz:=m1 .not (m2 .eqI b (.int 0))
 match op with
 |.add=>some ((Ze9 c k (m2 .add a b)).1,mkI k (Ze9 c k (m2 .add a b)).2)
 |.sub=>some ((Ze9 c k (m2 .sub a b)).1,mkI k (Ze9 c k (m2 .sub a b)).2)
 |.mul=>some ((Ze9 c k (m2 .mul a b)).1,mkI k (Ze9 c k (m2 .mul a b)).2)
 |.quo=>some (nz::(Ze9 c k (m2 .quo a b)).1,mkI k (Ze9 c k (m2 .quo a b)).2)
 |.rem=>some ([nz],mkI k (m2 .rem a b))
 |.and=>some ([],mkI k (m2 (.band k) a b))
 |.or=>some ([],mkI k (m2 (.bor k) a b))
 |.xor=>some ([],mkI k (m2 (.bxor k) a b))
 |.andNot=>some ([],mkI k (m2 (.bandn k) a b))
 |.eql=>some ([],mkB (m2 .eqI a b))
 |.neq=>some ([],mkB (m1 .not (m2 .eqI a b)))
 |.lss=>some ([],mkB (m2 .ltI a b))
 |.leq=>some ([],mkB (m2 .leI a b))
 |.gtr=>some ([],mkB (m2 .ltI b a))
 |.geq=>some ([],mkB (m2 .leI b a))
 |_=>none
theorem Zrw{c:Cfg}{op:BinOp}{k:IntKind}{a b:E}{l:List E}{r:RA}(h:rint c op k a b=some (l,r))(hn:Nds ρ l):
 ∃v,Zg4 op k (a.den ρ).int (b.den ρ).int=some v/\r.den ρ m s.gen=.d (.lit v):=by
 have hz:((m1 .not (m2 .eqI b (.int 0))).den ρ).bool=true->(b.den ρ).int≠0:=fun h1=>by
  rw[Zaf,Zah]at h1;simpa[sem1,sem2,Dat.bool_b,E.den,Dat.int_i]using h1
 unfold rint at h;cases op<;>simp only[Option.some.injEq,Prod.mk.injEq]at h<;>first|(cases h;done)|skip
 all_goals obtain⟨rfl,rfl⟩:=h
 case quo=>
  have h1:=Zaa.1 hn;have h0:=hz h1.1;refine⟨_,by simp only[Zg4,h0,if_false];rfl,?_⟩;simp only[mkI,RA.den,E.den,sem1,Dat.dd_d,Zfo h1.2,Zah,sem2,Dat.int_i]
 case rem=>
  have h0:=hz (Zaa.1 hn).1;refine⟨_,by simp only[Zg4,h0,if_false];rfl,?_⟩;simp only[mkI,RA.den,E.den,sem1,Dat.dd_d,Zah,sem2,Dat.int_i]
 all_goals refine⟨_,rfl,?_⟩
 all_goals first
  |(simp only[mkI,RA.den,E.den,sem1,Dat.dd_d,Zfo hn,Zah,sem2,Dat.int_i];done)
  |(simp only[mkI,RA.den,E.den,sem1,Dat.dd_d,Zah,sem2,Dat.int_i];done)
  |(simp only[mkB,RA.den,E.den,sem1,Dat.dd_d,Zaf,Zah,sem2,Dat.bool_b];try rfl)
def rstr(op:BinOp)(a b:E):Option (List E×RA):=
 match op with
 |.add=>some ([m2 .leI (m2 .add (m1 .slen a) (m1 .slen b)) (.int IntKind.i64.max)],mkS (m2 .catS a b))
 |.eql=>some ([],mkB (m2 .eqS a b))
 |.neq=>some ([],mkB (m1 .not (m2 .eqS a b)))
 |.lss=>some ([],mkB (m2 .ltS a b))
 |.leq=>some ([],mkB (m2 .or (m2 .ltS a b) (m2 .eqS a b)))
 |.gtr=>some ([],mkB (m1 .not (m2 .or (m2 .ltS a b) (m2 .eqS a b))))
 |.geq=>some ([],mkB (m1 .not (m2 .ltS a b)))
 |_=>none
theorem Zgn(l:List UInt8):(⟨l.toArray⟩:ByteArray).toList=l:=by rw[ByteArray.toList_eq]
theorem Zkp(a b:List UInt8):(⟨a.toArray⟩++⟨b.toArray⟩:ByteArray)=⟨(a++b).toArray⟩:=by
 apply ByteArray.ext;simp[ByteArray.data_append]
theorem Zdo(a:List UInt8):(⟨a.toArray⟩:ByteArray).size=a.length:=by simp[ByteArray.size]
theorem Zrx{op:BinOp}{a b:E}{l:List E}{r:RA}(h:rstr op a b=some (l,r))(hn:Nds ρ l):
 ∃v,Zjy op ⟨(a.den ρ).str.toArray⟩ ⟨(b.den ρ).str.toArray⟩=some v/\r.den ρ m s.gen=.d (.lit v):=by
 unfold rstr at h;cases op<;>simp only[Option.some.injEq,Prod.mk.injEq]at h<;>first|(cases h;done)|skip
 all_goals obtain⟨rfl,rfl⟩:=h
 case add=>
  have h1:=(Zaa.1 hn).1;rw[Zah,Zah,Zaf,Zaf]at h1;have h1:((a.den ρ).str.length:Int)+(b.den ρ).str.length<=IntKind.i64.max:=of_decide_eq_true h1;refine⟨_,by simp only[Zjy,Zdo];rw[if_neg (by show¬IntKind.i64.max<_;omega)],?_⟩;simp only[mkS,RA.den,E.den,sem1,Dat.dd_d,Zah,sem2,Dat.str_s,Zco,Zkp]
 all_goals refine⟨_,rfl,?_⟩
 all_goals simp only[mkB,RA.den,E.den,sem1,Dat.dd_d,Zaf,Zah,sem2,Dat.bool_b,Zgn]
def cellsOf(n:Nat)(row:E):Option (List E×List E):=
 match row.cells with
 |some l=>if l.length=n then some ([],l)else none
 |none=>some ([m2 .eqI (m1 .rlen row) (.int n)],(List.range n).map fun j=>m1 (.cell j) row)
theorem Zdv{n:Nat}{row:E}{l cs:List E}(h:cellsOf n row=some (l,cs))(hn:Nds ρ l):(row.den ρ).row=cs.map (fun e=>(e.den ρ).dd)/\cs.length=n:=by
 unfold cellsOf at h;split at h
 ·rename_i l' hl;split at h
  ·rename_i e;cases h;rw[E.cells_den ρ hl];exact⟨rfl,e⟩
  ·cases h
 ·cases h;have h1:=(Zaa.1 hn).1;rw[Zah,Zaf]at h1;simp only[sem2,sem1,Dat.bool_b,Dat.int_i,E.den,beq_iff_eq]at h1;have h2:(row.den ρ).row.length=n:=by omega
  refine⟨?_,by simp⟩;refine List.ext_getElem (by simp[h2]) fun i hi hi'=>?_
  simp[Zaf,sem1,Dat.dd_d,List.getD,hi]
def Zfp:Pk->Kd
 |.bool=>.bool
 |.int k=>.int k
 |.string=>.str
def eqOf:Kd->E->E->E
 |.int _,.o1 (.ci _) a,.o1 (.ci _) b=>m2 .eqI a b
 |.bool,.o1 .cb a,.o1 .cb b=>m2 .eqB a b
 |.str,.o1 .cs a,.o1 .cs b=>m2 .eqS a b
 |_,_,_=>.bool false
def reqs:List Pk->List E->List E->Option (List E×E)
 |[],[],[]=>some ([],.bool true)
 |k::ks,x::l,y::m=>match reqs ks l m with
  |some (n,e)=>some ((Zb4 (Zfp k) x).1++((Zb4 (Zfp k) y).1++n),m2 .and (eqOf (Zfp k) (Zb4 (Zfp k) x).2 (Zb4 (Zfp k) y).2) e)
  |none=>none
 |_,_,_=>none
theorem Zhr(k:IntKind)(x:E):∃a,(Zb4 (.int k) x).2=.o1 (.ci k) a:=by
 cases x with
 |o1 o a=>
  cases o with
  |ci k'=>
   simp only[Zb4];by_cases hk:k'=k
   ·subst hk;exact⟨_,by rw[if_pos rfl]⟩
   ·exact⟨_,by rw[if_neg hk]⟩
  |_=>exact⟨_,rfl⟩
 |_=>exact⟨_,rfl⟩
theorem Zgc(x:E):∃a,(Zb4 .bool x).2=.o1 .cb a:=by
 cases x with
 |o1 o a=>cases o<;>exact⟨_,rfl⟩
 |_=>exact⟨_,rfl⟩
theorem Zhs(x:E):∃a,(Zb4 .str x).2=.o1 .cs a:=by
 cases x with
 |o1 o a=>cases o<;>exact⟨_,rfl⟩
 |_=>exact⟨_,rfl⟩
theorem Zpw(x:E):∃a,(Zb4 .slc x).2=.o1 .cl a:=by
 cases x with
 |o1 o a=>cases o<;>exact⟨_,rfl⟩
 |_=>exact⟨_,rfl⟩
theorem Znb:∀{ks:List Pk}{l m' n:List E}{e:E},reqs ks l m'=some (n,e)->Nds ρ n->Za6 ks (l.map fun e=>(e.den ρ).dd) (m'.map fun e=>(e.den ρ).dd)=some (e.den ρ).bool
 |[],[],[],n,e,h,_=>by cases h;rfl
 |k::ks,x::l,y::m',n,e,h,hn=>by
  unfold reqs at h;split at h
  ·rename_i n' e' h';cases h;have h1:=Zaw.1 hn;have h2:=Zaw.1 h1.2;have ih:=Znb h' h2.2;simp only[List.map_cons,Za6,ih];have hx:=Zcg h1.1;have hy:=Zcg h2.1;rw[<-hx,<-hy,Zah];cases k with
   |int k=>obtain⟨a,ea⟩:=Zhr k x;obtain⟨b,eb⟩:=Zhr k y;simp only[Zfp];rw[ea,eb];simp[E.den,sem1,Dat.dd_d,Ze4,eqOf,Zah,sem2,Dat.bool_b]
   |bool=>obtain⟨a,ea⟩:=Zgc x;obtain⟨b,eb⟩:=Zgc y;simp only[Zfp];rw[ea,eb];simp[E.den,sem1,Dat.dd_d,Ze4,eqOf,Zah,sem2,Dat.bool_b]
   |string=>obtain⟨a,ea⟩:=Zhs x;obtain⟨b,eb⟩:=Zhs y;simp only[Zfp];rw[ea,eb];simp[E.den,sem1,Dat.dd_d,Ze4,eqOf,Zah,sem2,Dat.bool_b,Zco,Zgn]
  ·cases h
 |[],[],_::_,_,_,h,_=>by cases h
 |[],_::_,_,_,_,h,_=>by cases h
 |_::_,[],_,_,_,h,_=>by cases h
 |_::_,_::_,[],_,_,h,_=>by cases h
def ragg(c:Cfg)(op:BinOp)(t:TypeId)(x y:E):Option (List E×RA):=
 match Zdl c.P t with
 |some ks=>(match cellsOf ks.length x,cellsOf ks.length y with
  |some (n1,l),some (n2,l')=>(match reqs ks l l' with
   |some (n,e)=>(match op with
    |.eql=>some (n1++(n2++n),mkB e)
    |.neq=>some (n1++(n2++n),mkB (m1 .not e))
    |_=>none)
   |none=>none)
  |_,_=>none)
 |none=>none
def rnil(c:Cfg)(op:BinOp)(t:TypeId)(b:Bool):Option (List E×RA):=match nilV c.P op t b with
 |some (.bool r)=>some ([],mkB (.bool r))
 |_=>none
def rbin(c:Cfg)(op:BinOp)(t:TypeId)(x y:RA):Option (List E×RA):=
 match asI x,asI y with
 |some (k,a),some (k',b)=>(match op with
  |.shl=>some ([m2 .leI (.int 0) b],mkI k (m2 (.shl k) a b))
  |.shr=>some ([m2 .leI (.int 0) b],mkI k (m2 (.shr k) a b))
  |_=>if k=k' then rint c op k a b else none)
 |_,_=>(match asS x,asS y with
  |some a,some b=>rstr op a b
  |_,_=>(match asB x,asB y with
   |some a,some b=>(match op,pkOf c.P t with
    |.eql,some .bool=>some ([],mkB (m2 .eqB a b))
    |.neq,some .bool=>some ([],mkB (m1 .not (m2 .eqB a b)))
    |_,_=>none)
   |_,_=>(match x,y with
    |.agg a,.agg b=>ragg c op t a b
    |.c (.val .nilIface),.c (.val .nilIface)=>rnil c op t true
    |.c (.o1 (.mkA _) _),.c (.val .nilIface)=>rnil c op t false
    |.c (.o1 (.mkI _) _),.c (.val .nilIface)=>rnil c op t false
    |_,_=>none)))
theorem Zl6{c:Cfg}{op:BinOp}{t:TypeId}{b:Bool}{l:List E}{r:RA}{u v:Value}{m:Nm}{ρ:Env}{gen:Nat->Nat}(hr:rnil c op t b=some (l,r))(hb:binV c.P op t u v=nilV c.P op t b):
 (binV c.P op t u v).map (fun v=>A.d (D.lit v))=some (r.den ρ m gen):=by
 unfold rnil at hr;split at hr
 ·rename_i q hq;cases hr;rw[hb,hq];rfl
 ·cases hr
theorem Ztl{c:Cfg}(h:Den ρ m rs s)(hG:(G.den ρ).bool=true){o:Oper}{op:BinOp}{t t2:TypeId}{x y:Operand}(ho:o.op=.binOp op t x y t2){l:List E}{r:RA}(hr:rbin c op t (revG G rs x) (revG G rs y)=some (l,r))(hn:Nds ρ l):
 Zas c.P s o=some (r.den ρ m s.gen):=by
 unfold Zas;rw[ho];simp only;unfold rbin at hr;split at hr
 ·rename_i k a k' b hx hy;rw[ev_I h hG hx,ev_I h hG hy];simp only;split at hr
  ·cases hr;have h1:=(Zaa.1 hn).1;rw[Zah]at h1;have h1:(0:Int)<=(b.den ρ).int:=of_decide_eq_true h1;have h2:¬(b.den ρ).int<0:=by omega
   simp[binV,h2,mkI,RA.den,E.den,sem1,Dat.dd_d,Zah,sem2,Dat.int_i]
  ·cases hr;have h1:=(Zaa.1 hn).1;rw[Zah]at h1;have h1:(0:Int)<=(b.den ρ).int:=of_decide_eq_true h1;have h2:¬(b.den ρ).int<0:=by omega
   simp[binV,h2,mkI,RA.den,E.den,sem1,Dat.dd_d,Zah,sem2,Dat.int_i]
  ·rename_i n1 n2;split at hr
   ·rename_i e;subst e;obtain⟨v,h1,h2⟩:=Zrw (m:=m) (s:=s) hr hn
    have:binV c.P op t (.int k (a.den ρ).int) (.int k (b.den ρ).int)=some v:=by
     cases op<;>first|exact absurd rfl n1|exact absurd rfl n2|(simp only[binV,if_true];exact h1)
    rw[this,h2];rfl
   ·cases hr
 ·split at hr
  ·rename_i a b hx hy;rw[ev_S h hG hx,ev_S h hG hy];obtain⟨v,h1,h2⟩:=Zrx (m:=m) (s:=s) hr hn;simp only[Zco,binV,h1,h2];rfl
  ·split at hr
   ·rename_i a b hx hy;rw[ev_B h hG hx,ev_B h hG hy];split at hr
    ·rename_i hp;cases hr;simp only[binV,hp];simp[mkB,RA.den,E.den,sem1,Dat.dd_d,Zah,sem2,Dat.bool_b]
    ·rename_i hp;cases hr;simp only[binV,hp];simp[mkB,RA.den,E.den,sem1,Dat.dd_d,Zaf,Zah,sem2,Dat.bool_b]
    ·cases hr
   ·split at hr
    ·rename_i a b hx hy;rw[Za9 h hG hx (by intro e;cases e),Za9 h hG hy (by intro e;cases e)];simp only[RA.den];unfold ragg at hr;split at hr
     ·rename_i ks hks;split at hr
      ·rename_i n1 l1 n2 l2 h1 h2;split at hr
       ·rename_i n e he
        have key:Nds ρ (n1++(n2++n))->Za6 ks (a.den ρ).row (b.den ρ).row=some (e.den ρ).bool:=fun hh=>by
         have k1:=Zaw.1 hh;have k2:=Zaw.1 k1.2;rw[(Zdv h1 k1.1).1,(Zdv h2 k2.1).1];exact Znb he k2.2
        split at hr
        ·cases hr;simp only[hks,key hn,mkB,RA.den,E.den,sem1,Dat.dd_d]
        ·cases hr;simp only[hks,key hn,mkB,RA.den,E.den,sem1,Dat.dd_d,Zaf,Dat.bool_b]
        ·cases hr
       ·cases hr
      ·cases hr
     ·cases hr
    ·rename_i hx hy;rw[Za9 h hG hx (by intro e;cases e),Za9 h hG hy (by intro e;cases e)];exact Zl6 hr rfl
    ·rename_i k a hx hy;rw[Za9 h hG hx (by intro e;cases e),Za9 h hG hy (by intro e;cases e)];exact Zl6 hr rfl
    ·rename_i k a hx hy;rw[Za9 h hG hx (by intro e;cases e),Za9 h hG hy (by intro e;cases e)];exact Zl6 hr rfl
    ·cases hr
end
end Go.Rf
end
section
namespace Go.Rf
open Go.Ab
section
variable {ρ:Env} {m:Nm} {rs:RSt} {s:St} {G:E}
def Zry(d:Nat)(x:Operand)(r:RA):Option RA:=
 match r with
 |.c _|.agg _|.tup _|.ptr _ _|.elp _ _|.zs _|.fn _ _=>some r
 |.als t=>if t=d then none else some (.als t)
 |.opt t sz i j=>if t=d then none else some (.opt t sz i j)
 |.own _ _ _=>(match x with|.tmp t=>if t=d then none else some (.als t)|_=>none)
 |_=>none
theorem Ztm{d:Nat}{x:Operand}{r r':RA}(he:s.ev x=r.den ρ m s.gen)(h:Zry d x r=some r'):s.copy d x=some (r'.den ρ m s.gen)/\r'.ali≠some d:=by
 unfold Zry at h;unfold St.copy;rw[he]
 split at h<;>first
  |(cases h;exact⟨rfl,by intro e;cases e⟩)
  |(split at h
    ·cases h
    ·rename_i e;cases h;simp only[RA.den,e,if_false];exact⟨trivial,by simpa[RA.ali]using e⟩)
  |(split at h
    ·split at h
     ·cases h
     ·rename_i e;cases h;simp only[RA.den,e,if_false];exact⟨trivial,by simpa[RA.ali]using e⟩
    ·cases h)
  |cases h
def resc(rs:RSt)(r:RA):Option E:=
 match r with
 |.c x=>some x
 |.zs es=>some (.o1 .cl es)
 |.own _ es .lnil=>some (.o1 .cl es)
 |.als t=>(match rs.tm.get t with
  |.own _ es .lnil=>some (.o1 .cl es)
  |_=>none)
 |_=>none
theorem Zkq(hd:Den ρ m rs s){x:Operand}{r:RA}{e:E}(he:s.ev x=r.den ρ m s.gen)(h:resc rs r=some e):s.esc x=some (e.den ρ).dd:=by
 unfold St.esc;rw[he];cases r<;>simp only[resc]at h<;>try (cases h;done)
 case c x=>cases h;rfl
 case zs es=>cases h;rfl
 case own sz es nw=>
  cases nw<;>simp at h;subst h;rfl
 case als t=>
  simp only[RA.den,if_true];rcases hd.tm t with e1|e1
  ·rw[e1]at h;cases h
  ·rw[e1];cases ht:rs.tm.get t with
   |own sz es nw=>
    rw[ht]at h;cases nw<;>simp at h;subst h;rfl
   |_=>rw[ht]at h;cases h
def rval(rs:RSt)(r:RA):Option RA:=
 match r with
 |.c _|.agg _|.tup _|.ptr _ _|.elp _ _|.zs _|.fn _ _=>some r
 |.own _ _ _|.als _=>(resc rs r).map .c
 |_=>none
theorem Zit(hd:Den ρ m rs s){x:Operand}{r r':RA}(he:s.ev x=r.den ρ m s.gen)(h:rval rs r=some r'):s.val x=some (r'.den ρ m s.gen)/\r'.ali=none:=by
 unfold rval at h;unfold St.val
 split at h<;>first
  |(cases h;rw[he];exact⟨rfl,rfl⟩)
  |(rw[Option.map_eq_some_iff]at h
    obtain⟨e,h1,rfl⟩:=h;rw[Zkq hd he h1,he];exact⟨rfl,rfl⟩)
  |cases h
def Zch(rs:RSt)(r:RA):Option (List E×E):=
 match resc rs r with
 |some x=>(match Zb4 .slc x with
  |(n,.o1 .cl e)=>some (n,e)
  |_=>none)
 |none=>none
theorem Zct(hd:Den ρ m rs s){x:Operand}{r:RA}{n:List E}{e:E}(he:s.ev x=r.den ρ m s.gen)(h:Zch rs r=some (n,e))(hn:Nds ρ n):s.slice x=some (e.den ρ).lst/\s.lit x=none:=by
 unfold Zch at h;split at h
 ·rename_i y hy;split at h
  ·rename_i n' e' ht;cases h;have h1:Nds ρ (Zb4 .slc y).1:=by rw[ht];exact hn
   have h2:=Zcg h1;rw[ht]at h2;have h3:=Zkq hd he hy;rw[<-h2]at h3;refine⟨by unfold St.slice;rw[h3];rfl,?_⟩;unfold St.lit;split
   ·rename_i v hv;unfold St.esc at h3;rw[hv]at h3;simp[E.den,sem1,Dat.dd_d]at h3
   ·rfl
  ·cases h
 ·cases h
def Zpx(rs:RSt)(n:Nat)(r:RA):Option (List E×List E):=
 match r with
 |.agg row=>cellsOf n row
 |r=>(resc rs r).map fun x=>([],[x])
theorem Ztn(hd:Den ρ m rs s){x:Operand}{r:RA}{n:Nat}{l cs:List E}(he:s.ev x=r.den ρ m s.gen)(h:Zpx rs n r=some (l,cs))(hn:Nds ρ l):s.escs x=some (cs.map fun e=>(e.den ρ).dd):=by
 unfold Zpx at h;unfold St.escs;split at h
 ·rw[he];simp only[RA.den];rw[(Zdv h hn).1]
 ·rename_i hne;rw[Option.map_eq_some_iff]at h;obtain⟨e,h1,h2⟩:=h;cases h2;rw[Zkq hd he h1,he];split
  ·rename_i l' e1;exfalso;cases r with
   |agg row=>exact hne row rfl
   |gv g v=>simp[resc]at h1
   |_=>cases e1
  ·rfl
def rrow(rs:RSt)(n:Nat)(r:RA):Option (List E×E):=
 match r with
 |.agg row=>(match row.cells with
  |some l=>if l.length=n then some ([],row)else none
  |none=>some ([m2 .eqI (m1 .rlen row) (.int n)],row))
 |r=>if n=1 then(resc rs r).map fun x=>([],.o2 .rcons x .rnil)else none
theorem Znc(hd:Den ρ m rs s){x:Operand}{r:RA}{n:Nat}{l:List E}{e:E}(he:s.ev x=r.den ρ m s.gen)(h:rrow rs n r=some (l,e))(hn:Nds ρ l):s.escs x=some (e.den ρ).row/\(e.den ρ).row.length=n:=by
 unfold rrow at h;split at h
 ·rename_i row;have h1:s.escs x=some (row.den ρ).row:=by unfold St.escs;rw[he];rfl
  split at h
  ·rename_i l' hl;split at h
   ·rename_i e1;cases h;rw[h1,E.cells_den ρ hl];exact⟨rfl,by simpa[Dat.row_r]using e1⟩
   ·cases h
  ·cases h;refine⟨h1,?_⟩;have h2:=(Zaa.1 hn).1;rw[Zah,Zaf]at h2;simp only[sem2,sem1,Dat.bool_b,Dat.int_i,E.den,beq_iff_eq]at h2;omega
 ·rename_i hne;split at h
  ·rename_i e1;rw[Option.map_eq_some_iff]at h;obtain⟨e,h1,h2⟩:=h;cases h2;subst e1;refine⟨?_,rfl⟩;unfold St.escs;rw[Zkq hd he h1,he];split
   ·rename_i l' e1;exfalso;cases r with
    |agg row=>exact hne row rfl
    |gv g v=>simp[resc]at h1
    |_=>cases e1
   ·rfl
  ·cases h
def Zgo(G:E)(rs:RSt)(n:Nat):Nat->List (Nat×Operand)->Option (List E×E)
 |_,[]=>some ([],.lnil)
 |k,(i,x)::rest=>if i=k then(match rrow rs n (revG G rs x),Zgo G rs n (k+1) rest with
  |some (a,row),some (b,l)=>some (a++b,.o2 .lcons row l)
  |_,_=>none)else none
theorem Znd{rs:RSt}{n:Nat}{r:RA}{e:List E×E}(h:rrow rs n r=some e):r≠ .any:=by
 intro e1;subst e1;unfold rrow at h;simp[resc]at h
theorem Zfq(hd:Den ρ m rs s)(hG:(G.den ρ).bool=true){n:Nat}:∀{ps:List (Nat×Operand)}{k:Nat}{l:List E}{e:E},Zgo G rs n k ps=some (l,e)->Nds ρ l->Zap s n k ps=some (e.den ρ).lst
 |[],_,_,_,h,_=>by cases h;rfl
 |(i,x)::rest,k,l,e,h,hn=>by
  unfold Zgo at h;split at h
  ·rename_i hik;split at h
   ·rename_i a row b l' h1 h2;cases h;have h3:=Zaw.1 hn;have h4:=Znc hd (Za9 hd hG rfl (Znd h1)) h1 h3.1;have h5:=Zfq hd hG h2 h3.2;simp only[Zap,hik,if_true,h4.1,h5,h4.2];rfl
   ·cases h
  ·cases h
theorem Zed{n:Nat}:∀{ps:List (Nat×Operand)}{k:Nat}{l:List E}{e:E},Zgo G rs n k ps=some (l,e)->(e.den ρ).lst.length=ps.length
 |[],_,_,_,h=>by cases h;rfl
 |(i,x)::rest,k,l,e,h=>by
  unfold Zgo at h;split at h
  ·split at h
   ·rename_i a row b l' h1 h2;cases h;have:=Zed h2;simp[E.den,sem2,Dat.lst_l,this]
   ·cases h
  ·cases h
def Zrz(P:Program)(t:TypeId)(G:E)(rs:RSt):List E->List (Nat×Operand)->Option (List E×List E)
 |l,[]=>some ([],l)
 |l,(i,x)::rest=>match Zck P t i with
  |some (off,size)=>(match Zpx rs size (revG G rs x)with
   |some (a,vs)=>if vs.length=size/\off+size<=l.length then(match Zrz P t G rs (l.take off++vs++l.drop (off+vs.length)) rest with
    |some (b,r)=>some (a++b,r)
    |none=>none)else none
   |none=>none)
  |none=>none
theorem Zto{rs:RSt}{n:Nat}{r:RA}{e:List E×List E}(h:Zpx rs n r=some e):r≠ .any:=by
 intro e1;subst e1;unfold Zpx at h;simp[resc]at h
theorem Zpy{P:Program}{t:TypeId}(hd:Den ρ m rs s)(hG:(G.den ρ).bool=true):∀{ps:List (Nat×Operand)}{l r n:List E},Zrz P t G rs l ps=some (n,r)->Nds ρ n->
 Zf9 P t s (l.map fun e=>(e.den ρ).dd) ps=some (r.map fun e=>(e.den ρ).dd)
 |[],_,_,_,h,_=>by cases h;rfl
 |(i,x)::rest,l,r,n,h,hn=>by
  unfold Zrz at h;split at h
  ·rename_i off size hp;split at h
   ·rename_i a vs h1;split at h
    ·rename_i hc;split at h
     ·rename_i b r' h2;cases h;have h3:=Zaw.1 hn;have h4:=Ztn hd (Za9 hd hG rfl (Zto h1)) h1 h3.1;have h5:=Zpy hd hG h2 h3.2;simp only[Zf9,hp,h4,List.length_map,hc.1,hc.2];simp only[true_and,if_true];rw[<-h5]
      congr 1
      simp[setL,List.map_take,List.map_drop]
     ·cases h
    ·cases h
   ·cases h
  ·cases h
def Zee:List RA->Option (List E)
 |[]=>some []
 |.c x::l=>(Zee l).map (x:: ·)
 |.zs es::l=>(Zee l).map (.o1 .cl es:: ·)
 |.own _ es .lnil::l=>(Zee l).map (.o1 .cl es:: ·)
 |_=>none
theorem Zfr:∀{l:List RA}{e:List E},Zee l=some e->Zbl (kDen ρ m l)=some (e.map fun e=>(e.den ρ).dd)
 |[],_,h=>by cases h;rfl
 |a::l,e,h=>by
  unfold Zee at h
  split at h<;>first
   |(rename_i e1;cases e1;done)
   |(rename_i e1
     cases e1;rw[Option.map_eq_some_iff]at h;obtain⟨e',h1,rfl⟩:=h;have:=Zfr h1;simp only[kDen,List.map_cons,Zbl,RA.den]at this⊢;rw[this];rfl)
   |cases h
def Zje(l:List E):Option E:=
 match l with
 |.o1 (.cell 0) row::_=>if(l.zipIdx.all fun x=>x.1.beq (.o1 (.cell x.2) row))then some row else none
 |_=>none
theorem Zht{l:List E}{row:E}(h:Zje l=some row)(hl:(row.den ρ).row.length=l.length):(l.map fun e=>(e.den ρ).dd)=(row.den ρ).row:=by
 unfold Zje at h;split at h
 ·rename_i row' rest;split at h
  ·rename_i hall;cases h;simp only[List.all_eq_true]at hall;refine List.ext_getElem (by simpa using hl.symm) fun i hi hi'=>?_
   have hi2:i<(E.o1 (.cell 0) row::rest).length:=by simpa using hi
   have:=hall ((E.o1 (.cell 0) row::rest)[i],i) (by rw[List.mem_zipIdx_iff_getElem?];simp[List.getElem?_eq_getElem hi2]);have e1:(E.o1 (.cell 0) row::rest)[i]=.o1 (.cell i) row:=E.beq_eq this;rw[List.getElem_map,e1];simp[E.den,sem1,Dat.dd_d,List.getD,hi']
  ·cases h
 ·cases h
def kdOf(P:Program)(t:TypeId):Kd:=
 match pkOf P t with
 |some k=>Zfp k
 |none=>(match P.underlying t with
  |some (.slice _)=>.slc
  |_=>.val)
def Zpz(k:Kd):RA->Option (List E×RA)
 |.c x=>some ((Zb4 k x).1,.c (Zb4 k x).2)
 |.ptr r o=>some ([],.ptr r o)
 |.fn f l=>some ([],.fn f l)
 |.zs es=>some ([],.zs es)
 |.own _ es .lnil=>some ([],.c (.o1 .cl es))
 |_=>none
theorem Zr0{k:Kd}{x r:RA}{n:List E}(h:Zpz k x=some (n,r))(hn:Nds ρ n):Zoi (x.den ρ m fun _=>0)=some (r.den ρ m s.gen)/\r.ali=none:=by
 unfold Zpz at h
 split at h<;>cases h<;>first
  |exact⟨rfl,rfl⟩
  |(simp only[RA.den,Zoi,Zcg hn];exact⟨trivial,rfl⟩)
def Zu8(n:Nat)(row:E):List RA->Bool
 |.c (.o1 (.cell j) r)::_=>(j==n)&&r.beq row
 |_=>false
def Zow(P:Program)(t0:TypeId)(rs:RSt)(r:RA):Option (List E×RA):=
 match szOf P t0 with
 |some (n,true)=>(match r with
  |.ptr q off=>(match Zb3 rs.K q with
   |some c=>(match Zee ((c.drop off).take n)with
    |some l=>if l.length=n then(match Zje l with
      |some row=>if Zu8 n row (c.drop (off+n))then some ([],.agg (E.ofCells l))else some ([m2 .eqI (m1 .rlen row) (.int n)],.agg row)
      |none=>some ([],.agg (E.ofCells l)))else none
    |none=>none)
   |none=>none)
  |.elp row off=>(match row.cells with
   |some l=>if off+n<=l.length then some ([],.agg (E.ofCells ((l.drop off).take n)))else none
   |none=>if off=0 then some ([m2 .eqI (m1 .rlen row) (.int n)],.agg row)else some ([m2 .leI (.int (off+n:Nat)) (m1 .rlen row)],.agg (m1 (.rsub off n) row)))
  |.opt t m i j=>(match rs.tm.get t with
   |.own sz .lnil nw=>if sz=m/\j=0 then some ([m2 .leI (.int 0) i,m2 .ltI i (m1 .llen nw),m2 .eqI (m1 .rlen (m2 .at nw i)) (.int n)],.agg (m2 .at nw i))else none
   |_=>none)
  |_=>none)
 |some (_,false)=>(match r with
  |.ptr q off=>(match Zb3 rs.K q with
   |some c=>(match c[off]? with
    |some x=>Zpz (kdOf P t0) x
    |none=>none)
   |none=>none)
  |.elp row off=>(match kdOf P t0 with
   |.val=>some ([m2 .ltI (.int off) (m1 .rlen row)],.c (m1 (.cell off) row))
   |k=>some ((Zb4 k (m1 (.cell off) row)).1,.c (Zb4 k (m1 (.cell off) row)).2))
  |.opt t m i j=>(match rs.tm.get t,kdOf P t0 with
   |.own sz .lnil nw,.val=>none
   |.own sz .lnil nw,k=>if sz=m then some (m2 .leI (.int 0) i::m2 .ltI i (m1 .llen nw)::(Zb4 k (m1 (.cell j) (m2 .at nw i))).1,.c (Zb4 k (m1 (.cell j) (m2 .at nw i))).2)else none
   |_,_=>none)
  |_=>none)
 |none=>none
theorem Zjf{row:E}{n:Nat}(h:((m2 .eqI (m1 .rlen row) (.int n)).den ρ).bool=true):(row.den ρ).row.length=n:=by
 rw[Zah,Zaf]at h;simp only[sem2,sem1,Dat.bool_b,Dat.int_i,E.den,beq_iff_eq]at h;omega
theorem Zp0{row:E}{n:Nat}(h:((m2 .leI (.int n) (m1 .rlen row)).den ρ).bool=true):n<=(row.den ρ).row.length:=by
 rw[Zah,Zaf]at h;have h:(n:Int)<=(row.den ρ).row.length:=of_decide_eq_true h;omega
theorem Ztp{row:E}{n:Nat}(h:((m2 .ltI (.int n) (m1 .rlen row)).den ρ).bool=true):n<(row.den ρ).row.length:=by
 rw[Zah,Zaf]at h;have h:(n:Int)<(row.den ρ).row.length:=of_decide_eq_true h;omega
theorem Zfa{l:List D}{o:Nat}(h:o<l.length):Zj2 (l.drop o)=some (.d (l.getD o D0)):=by
 rw[List.drop_eq_getElem_cons h];simp[Zj2,List.getD,h]
theorem Zp1{row:E}{o:Nat}{k:Kd}(hk:k≠ .val)(hn:Nds ρ (Zb4 k (m1 (.cell o) row)).1):o<(row.den ρ).row.length:=by
 refine Nat.lt_of_not_le fun hle=>?_
 have h1:=Zcg hn;rw[Zaf]at h1;simp only[sem1,Dat.dd_d,List.getD,List.getElem?_eq_none hle,Option.getD_none]at h1;cases k with
 |int k=>obtain⟨a,ea⟩:=Zhr k (m1 (.cell o) row);rw[ea]at h1;simp[E.den,sem1,Dat.dd_d,D0]at h1
 |bool=>obtain⟨a,ea⟩:=Zgc (m1 (.cell o) row);rw[ea]at h1;simp[E.den,sem1,Dat.dd_d,D0]at h1
 |str=>obtain⟨a,ea⟩:=Zhs (m1 (.cell o) row);rw[ea]at h1;simp[E.den,sem1,Dat.dd_d,D0,Zco]at h1
 |slc=>obtain⟨a,ea⟩:=Zpw (m1 (.cell o) row);rw[ea]at h1;simp[E.den,sem1,Dat.dd_d,D0]at h1
 |val=>exact hk rfl
theorem Zkr{a:E}{l:List E}(h:Nds ρ (a::l)):(a.den ρ).bool=true:=(Zaa.1 h).1
theorem Zp2(hd:Den ρ m rs s){t sz:Nat}{i nw:E}{j:Nat}(ht:rs.tm.get t=.own sz .lnil nw)(h0:((m2 .leI (.int 0) i).den ρ).bool=true)(h1:((m2 .ltI i (m1 .llen nw)).den ρ).bool=true):
 Zg8 s t (s.gen t) sz (i.den ρ).int.toNat j=some (((m2 .at nw i).den ρ).row.drop j):=by
 rw[Zah]at h0;rw[Zah,Zaf]at h1;have h0:(0:Int)<=(i.den ρ).int:=of_decide_eq_true h0;have h1:(i.den ρ).int<((nw.den ρ).lst.length:Int):=of_decide_eq_true h1;have hlt:(i.den ρ).int.toNat<(nw.den ρ).lst.length:=by omega
 have h2:=(hd.tm t).resolve_left (by rw[ht];intro e;cases e);rw[ht]at h2;have h2:s.tm t=.own sz [] (nw.den ρ).lst:=h2;simp[Zg8,h2,hlt,Zah,sem2,Dat.row_r,List.getD]
theorem Zp3{P:Program}{t:TypeId}(hd:Den ρ m rs s){x:Operand}{r r':RA}{n:List E}(he:s.ev x=r.den ρ m s.gen)(h:Zow P t rs r=some (n,r'))(hn:Nds ρ n):Zcm P s t (s.ev x)=some (r'.den ρ m s.gen)/\r'.ali=none:=by
 rw[he];unfold Zow at h;unfold Zcm;split at h
 ·rename_i k hsz;rw[hsz];simp only;split at h
  ·rename_i q off;split at h
   ·rename_i c hc;simp only[RA.den];rw[hd.look hc];simp only;split at h
    ·rename_i l hl;have h1:=Zfr (ρ:=ρ) (m:=m) hl;have e1:kDen ρ m ((c.drop off).take k)=((kDen ρ m c).drop off).take k:=by simp[kDen,List.map_take,List.map_drop]
     rw[e1]at h1;rw[h1];simp only[List.length_map];split at h
     ·rename_i hlen;simp only[hlen,if_true];split at h
      ·rename_i row hrow;split at h
       ·cases h;exact⟨by simp only[RA.den];rw[E.den_ofCells];rfl,rfl⟩
       ·cases h;have h2:=Zjf (Zaa.1 hn).1;exact⟨by simp only[RA.den];rw[Zht hrow (by omega)],rfl⟩
      ·cases h;exact⟨by simp only[RA.den];rw[E.den_ofCells];rfl,rfl⟩
     ·cases h
    ·cases h
   ·cases h
  ·rename_i row off;simp only[RA.den];split at h
   ·rename_i l hl;split at h
    ·rename_i hle;cases h;rw[E.cells_den ρ hl];simp only[RA.den,Dat.row_r,List.length_drop,List.length_map];rw[if_pos (by omega),E.den_ofCells];exact⟨by simp[Dat.row_r,List.map_take,List.map_drop],rfl⟩
    ·cases h
   ·split at h
    ·rename_i e0;cases h;subst e0;have h2:=Zjf (Zaa.1 hn).1;simp only[List.drop_zero];rw[if_pos (by omega)];exact⟨by rw[List.take_of_length_le (by omega)];rfl,rfl⟩
    ·cases h;have h2:=Zp0 (Zaa.1 hn).1;rw[if_pos (by simp only[List.length_drop];omega)];exact⟨by simp only[RA.den];rw[Zaf];rfl,rfl⟩
  ·rename_i t' m' i' j';split at h
   ·rename_i sz nw ht;split at h
    ·rename_i hc;cases h;obtain⟨rfl,rfl⟩:=hc;have h3:=Zjf (Zkr (Zaa.1 (Zaa.1 hn).2).2);simp only[RA.den];rw[Zp2 hd ht (Zkr hn) (Zkr (Zaa.1 hn).2)];simp only[List.drop_zero];rw[if_pos (by omega),List.take_of_length_le (by omega)];exact⟨rfl,rfl⟩
    ·cases h
   ·cases h
  ·cases h
 ·rename_i k hsz;rw[hsz];simp only;split at h
  ·rename_i q off;split at h
   ·rename_i c hc;simp only[RA.den];rw[hd.look hc];simp only;split at h
    ·rename_i y hy;have:(kDen ρ m c)[off]? =some (y.den ρ m fun _=>0):=by simp[kDen,hy]
     rw[this];exact Zr0 h hn
    ·cases h
   ·cases h
  ·rename_i row off;simp only[RA.den];split at h
   ·cases h;have h2:=Ztp (Zaa.1 hn).1;rw[Zfa h2];exact⟨by simp only[RA.den];rw[Zaf];rfl,rfl⟩
   ·rename_i hk;cases h;have h2:=Zp1 (fun e=>hk e) hn;rw[Zfa h2];exact⟨by simp only[RA.den,Zcg hn];rw[Zaf];rfl,rfl⟩
  ·rename_i t' m' i' j';split at h
   ·cases h
   ·rename_i sz nw ht hk;split at h
    ·rename_i hc;cases h;subst hc;have hn':=(Zaa.1 (Zaa.1 hn).2).2;have h2:=Zp1 (fun e=>hk e) hn';simp only[RA.den];rw[Zp2 hd ht (Zkr hn) (Zkr (Zaa.1 hn).2)];simp only;rw[Zfa h2];exact⟨by simp only[RA.den,Zcg hn'];rw[Zaf];rfl,rfl⟩
    ·cases h
   ·cases h
  ·cases h
 ·cases h
end
end Go.Rf
end
section
namespace Go.Rf
open Go.Ab
inductive Qv where
 |val (v:RA)
 |sel (i:E) (vs:List RA)
def Ztq(e:E)(a b:RA):Option RA:=
 match a,b with
 |.c (.o1 (.ci k) x),.c (.o1 (.ci k') y)=>if k=k' then some (mkI k (m3 .iteI e x y))else none
 |.c (.o1 .cb x),.c (.o1 .cb y)=>some (mkB (match x,y with
  |.bool true,y=>m2 .or e y
  |.bool false,y=>m2 .and (m1 .not e) y
  |x,.bool false=>m2 .and e x
  |x,.bool true=>m2 .or (m1 .not e) x
  |x,y=>m3 .iteB e x y))
 |.c (.o1 .cs x),.c (.o1 .cs y)=>some (mkS (m3 .iteS e x y))
 |.c (.o1 .cl x),.c (.o1 .cl y)=>some (.c (.o1 .cl (m3 .iteL e x y)))
 |.agg x,.agg y=>some (.agg (m3 .iteR e x y))
 |_,_=>none
theorem Zr1{ρ:Env}{m:Nm}{gen:Nat->Nat}{e:E}{a b r:RA}(h:Ztq e a b=some r):r.den ρ m gen=(if(e.den ρ).bool then a.den ρ m gen else b.den ρ m gen)/\rval ⟨.nil,[],0,0,[],false⟩ a=some a/\rval ⟨.nil,[],0,0,[],false⟩ b=some b/\r.ali=none:=by
 unfold Ztq at h;split at h
 ·split at h
  ·rename_i hk;cases h;subst hk;refine⟨?_,rfl,rfl,rfl⟩;simp only[mkI,RA.den,E.den,sem1,Zey,sem3,Dat.dd_d];split<;>rfl
  ·cases h
 ·rename_i x y;cases h;refine⟨?_,rfl,rfl,rfl⟩;simp only[mkB,RA.den,E.den,sem1,Dat.dd_d];split<;>simp only[Zah,Zaf,Zey,sem1,sem2,sem3,E.den,Dat.bool_b]<;>cases (e.den ρ).bool<;>simp
 ·cases h;refine⟨?_,rfl,rfl,rfl⟩;simp only[mkS,RA.den,E.den,sem1,Zey,sem3,Dat.dd_d];split<;>rfl
 ·cases h;refine⟨?_,rfl,rfl,rfl⟩;simp only[RA.den,E.den,sem1,Zey,sem3,Dat.dd_d];split<;>rfl
 ·cases h;refine⟨?_,rfl,rfl,rfl⟩;simp only[RA.den,Zey,sem3];split<;>rfl
 ·cases h
def Zks:List RA->Option (List RRef)
 |[]=>some []
 |.ptr r 0::l=>(Zks l).map (r:: ·)
 |_=>none
def Zfs(G:E)(rs:RSt)(x:Option Operand)(dflt:E):Option E:=
 match x with
 |none=>some dflt
 |some o=>(match asI (revG G rs o)with
  |some (_,e)=>some e
  |none=>none)
def subS(s:E)(lo hi:E):E:=m3 .subS s lo hi
def Zjg(P:Program)(t:TypeId):Bool:=match pkOf P t with|some .string=>true|_=>false
theorem Zne{P:Program}{t:TypeId}(h:Zjg P t=true):pkOf P t=some .string:=by
 unfold Zjg at h;split at h<;>first|assumption|cases h
def Zp4(nw e:E):E:=match nw with|.lnil=>e|_=>m2 .lcat nw e
theorem Zef(es nw:E)(ρ:Env):((Zp4 es nw).den ρ).lst=(es.den ρ).lst++(nw.den ρ).lst:=by
 unfold Zp4;split
 ·simp[E.den,Dat.lst]
 ·rw[Zah];rfl
def nwE(rs:RSt)(r:RA):Option E:=
 match r with
 |.own _ es nw=>some (Zp4 es nw)
 |.als t=>(match rs.tm.get t with
  |.own _ es nw=>some (Zp4 es nw)
  |_=>none)
 |_=>none
def rlen(c:Cfg)(t:TypeId)(rs:RSt)(r:RA):Option (List E×RA):=
 match asS r with
 |some e=>if Zjg c.P t=true then some ([],mkI .i64 (m1 .slen e))else none
 |none=>(match Zch rs r,slOf c.P t with
  |some (n,e),some _=>some (n,mkI .i64 (m1 .llen e))
  |none,some _=>(match nwE rs r with
   |some e=>some ([],mkI .i64 (m1 .llen e))
   |none=>none)
  |_,_=>none)
def offs(r:RA)(k:Nat):Option (List E×RA):=
 match r with
 |.ptr q o=>some ([],.ptr q (o+k))
 |.elp row o=>some ([m2 .leI (.int (o+k:Nat)) (m1 .rlen row)],.elp row (o+k))
 |_=>none
def rown(rs:RSt)(x:Operand)(r:RA):Option (Nat×Nat×E×E):=
 match r with
 |.own sz es nw=>(match x with|.tmp u=>some (u,sz,es,nw)|_=>none)
 |.als u=>(match rs.tm.get u with|.own sz es nw=>some (u,sz,es,nw)|_=>none)
 |_=>none
def Zr2(c:Cfg)(t:TypeId)(d:Nat)(rs:RSt)(x:Operand)(r ix:RA):Option (List E×RA):=
 match rown rs x r,asI ix,slOf c.P t with
 |some (u,sz,.lnil,.var n),some (_,i),some (m,_,_,_)=>if sz=m/\u≠d then some ([m2 .leI (.int 0) i,m2 .ltI i (m1 .llen (.var n))],.opt u m i 0)else none
 |some (u,sz,.lnil,.o2 o a b),some (_,i),some (m,_,_,_)=>if sz=m/\u≠d then some ([m2 .leI (.int 0) i,m2 .ltI i (m1 .llen (.o2 o a b))],.opt u m i 0)else none
 |some (u,sz,.lnil,.o3 o a b e),some (_,i),some (m,_,_,_)=>if sz=m/\u≠d then some ([m2 .leI (.int 0) i,m2 .ltI i (m1 .llen (.o3 o a b e))],.opt u m i 0)else none
 |some (u,sz,es,.o2 .lcons z r),some (_,i),some (m,_,_,_)=>if(sz=m/\u≠d)/\i.beq (m1 .llen es)=true then some ([],.opt u m i 0)else none
 |_,_,_=>none
def Ziu(c:Cfg)(t:TypeId)(rs:RSt)(x ix:RA):Option (List E×Qv):=
 match asI ix with
 |some (_,i)=>(match Zez c.P t,slOf c.P t with
  |some (n,m,_),_=>(match i with
   |.int j=>if 0<=j/\j<(n:Int)then(match offs x (j.toNat*m)with
    |some (a,v)=>some (a,.val v)
    |none=>none)else none
   |i=>(match(List.range n).mapM (fun j=>offs x (j*m))with
    |some l=>some (m2 .leI (.int 0) i::m2 .ltI i (.int n)::(l.map (·.1)).flatten,.sel i (l.map (·.2)))
    |none=>none))
  |none,some (m,_,_,_)=>(match Zch rs x with
   |some (a,e)=>some (a++[m2 .leI (.int 0) i,m2 .ltI i (m1 .llen e),m2 .eqI (m1 .rlen (m2 .at e i)) (.int m)],.val (.elp (m2 .at e i) 0))
   |none=>none)
  |none,none=>none)
 |none=>none
def Zst(c:Cfg)(t:TypeId)(d:Nat)(x ix:RA):Option (List E×Qv):=
 match x,asI ix,Zez c.P t with
 |.opt u sz i j,some (_,.int q),some (n,m,_)=>if 0<=q/\q<(n:Int)/\u≠d then some ([],.val (.opt u sz i (j+q.toNat*m)))else none
 |_,_,_=>none
def rslc(c:Cfg)(t:TypeId)(G:E)(rs:RSt)(x:RA)(lo hi mx:Option Operand):Option (List E×RA):=
 match asS x with
 |some e=>if mx.isNone/\Zjg c.P t=true then(match Zfs G rs lo (.int 0),Zfs G rs hi (m1 .slen e)with
   |some l,some h=>some ([m2 .leI (.int 0) l,m2 .leI l h,m2 .leI h (m1 .slen e)],mkS (subS e l h))
   |_,_=>none)else none
 |none=>(match Zch rs x,slOf c.P t with
  |some (n,e),some (m,_,_,_)=>(match mx,hi with
   |none,_=>(match Zfs G rs lo (.int 0),Zfs G rs hi (m1 .llen e)with
    |some l,some h=>some (n++[m1 (.flat m) e,m2 .leI (.int 0) l,m2 .leI l h,m2 .leI h (m1 .llen e)],.c (.o1 .cl (m3 .subL e l h)))
    |_,_=>none)
   |some q,some hh=>(match Zfs G rs lo (.int 0),Zfs G rs (some hh) (m1 .llen e),Zfs G rs (some q) (m1 .llen e)with
    |some l,some h,some u=>some (n++[m1 (.flat m) e,m2 .leI (.int 0) l,m2 .leI l h,m2 .leI h (m1 .llen e),m2 .eqI u h],.zs (m3 .subL e l h))
    |_,_,_=>none)
   |_,_=>none)
  |_,_=>none)
def Zr3(P:Program)(t:TypeId):Option IntKind:=match P.underlying t with|some (.int k)=>some k|_=>none
def Zu9(c:Cfg)(rs:RSt)(src dst:TypeId)(x:RA):Option (List E×RA):=
 match asI x with
 |some (_,a)=>(match Zr3 c.P src,Zr3 c.P dst with
  |some _,some k=>some ((Ze9 c k a).1,mkI k (Ze9 c k a).2)
  |some _,none=>if Zjg c.P dst=true then some ([],mkS (m1 .utf8 a))else none
  |_,_=>none)
 |none=>(match asS x with
  |some a=>if Zjg c.P src=true/\Zjg c.P dst=true then some ([],mkS a)else none
  |none=>if Zi7 c.P src dst then(match Zch rs x with
   |some (n,e)=>some (n++[m1 .isBytes e],mkS (m1 .bytes e))
   |none=>none)else none)
def Zva(P:Program)(t:TypeId):Option TypeId:=match P.underlying t with|some (.array _ e)=>some e|_=>none
def Zjh(e:E):Bool:=match e.cells with
 |some l=>l.all fun x=>match x with|.o1 (.ci _) _|.o1 .cb _|.o1 .cs _=>true|_=>false
 |none=>false
theorem Zkt(ρ:Env){e:E}(h:Zjh e=true):(((e.den ρ).row.map dval).toArray.toList.map D.lit)=(e.den ρ).row/\((e.den ρ).row.map dval).toArray.toList.all isCell=true:=by
 unfold Zjh at h;split at h
 ·rename_i l hl;rw[E.cells_den ρ hl];simp only[Dat.row_r]
  have key:∀x∈l,∃v,(x.den ρ).dd=.lit v/\isCell v=true:=fun x hx=>by
   have:=List.all_eq_true.1 h x hx;split at this
   ·exact⟨_,rfl,rfl⟩
   ·exact⟨_,rfl,rfl⟩
   ·exact⟨_,rfl,rfl⟩
   ·cases this
  constructor
  ·simp only[List.map_map];refine List.map_congr_left fun x hx=>?_
   obtain⟨v,h1,_⟩:=key x hx;simp only[Function.comp,h1];rfl
  ·rw[List.all_eq_true];intro v hv;simp only[List.map_map,List.mem_map,Function.comp]at hv;obtain⟨x,hx,rfl⟩:=hv;obtain⟨v,h1,h2⟩:=key x hx;rw[h1];exact h2
 ·cases h
def Zhu(c:Cfg)(G:E)(rs:RSt)(o:Oper)(d:Nat):Option (List E×Qv):=
 match o.op with
 |.move x=>(match Zry d x (revG G rs x)with|some r=>some ([],.val r)|none=>none)
 |.assign x=>(match revG G rs x with
  |.own _ _ _=>none
  |r=>(match rval rs r with|some r=>some ([],.val r)|none=>none))
 |.buildSlice t n parts=>(match slOf c.P t with
  |some (m,_,_,_)=>(match Zgo G rs m 0 parts.toList with
   |some (l,e)=>if parts.toList.length=n/\n*m<=16777216 then some (l,.val (.own m e .lnil))else none
   |none=>none)
  |none=>none)
 |.pick q x y=>(match asB (revG G rs q)with
  |some (.bool b)=>(match rval rs (revG G rs (if b then x else y))with|some r=>some ([],.val r)|none=>none)
  |some e=>(match Ztq e (revG (m2 .and G e) rs x) (revG (m2 .and G (m1 .not e)) rs y)with|some r=>some ([],.val r)|none=>none)
  |none=>none)
 |.build t parts=>if Zom c.P t then(match Zc8 c.P t with
   |some z=>if z.all isCell then(match Zrz c.P t G rs (Zrv z) parts.toList with
     |some (l,e)=>(match Zje e with
      |some row=>some (l++[m2 .eqI (m1 .rlen row) (.int e.length)],.val (.agg row))
      |none=>some (l,.val (.agg (E.ofCells e))))
     |none=>none)else none
   |none=>none)else none
 |.load t p=>(match Zow c.P t rs (revG G rs p)with|some (l,r)=>some (l,.val r)|none=>none)
 |.nilCheck x=>(match revG G rs x with
  |.ptr r k=>some ([],.val (.ptr r k))
  |.elp l k=>some ([],.val (.elp l k))
  |_=>none)
 |.binOp op t x y _=>(match rbin c op t (revG G rs x) (revG G rs y)with|some (l,r)=>some (l,.val r)|none=>none)
 |.unOp op _ x=>(match op,asI (revG G rs x),asB (revG G rs x)with
  |.neg,some (k,a),_=>some ((Ze9 c k (m2 .sub (.int 0) a)).1,.val (mkI k (Ze9 c k (m2 .sub (.int 0) a)).2))
  |.xor,some (k,a),_=>some ([],.val (mkI k (m1 (.bnot k) a)))
  |.not,_,some a=>some ([],.val (mkB (m1 .not a)))
  |_,_,_=>none)
 |.convert src dst x=>(match Zu9 c rs src dst (revG G rs x)with|some (l,r)=>some (l,.val r)|none=>none)
 |.makeInterface t x=>if c.P.concrete t then(match revG G rs x with
   |.c (.o1 (.ci k) e)=>some ([],.val (.c (.o1 (.mkI t) (.o1 (.ci k) e))))
   |.c (.o1 .cb e)=>some ([],.val (.c (.o1 (.mkI t) (.o1 .cb e))))
   |.c (.o1 .cs e)=>some ([],.val (.c (.o1 (.mkI t) (.o1 .cs e))))
   |.agg row=>some ([m1 .lits row],.val (.c (.o1 (.mkA t) row)))
   |_=>none)else none
 |.makeFunc (.func f) first caps=>if first.toList=[]then(match Zks (caps.toList.map (revG G rs))with|some l=>some ([],.val (.fn f l))|none=>none)else none
 |.fieldAddr t x i=>(match Zc7 c.P t i with
  |some (k,_,_)=>(match offs (revG G rs x) k with|some (l,r)=>some (l,.val r)|none=>none)
  |none=>none)
 |.indexAddr t x ix=>(match Zr2 c t d rs x (revG G rs x) (revG G rs ix)with
  |some (l,r)=>some (l,.val r)
  |none=>(match Ziu c t rs (revG G rs x) (revG G rs ix)with
   |some r=>some r
   |none=>Zst c t d (revG G rs x) (revG G rs ix)))
 |.index t x ix=>(match asS (revG G rs x),asI (revG G rs ix)with
  |some b,some (_,i)=>if Zjg c.P t=true then some ([m2 .leI (.int 0) i,m2 .ltI i (m1 .slen b)],.val (mkI .u8 (m2 .byte b i)))else none
  |none,some (_,i)=>(match revG G rs x,Zez c.P t,Zva c.P t with
   |.agg row,some (n,1,false),some e=>(match kdOf c.P e with
    |.val=>none
    |k=>(match i with
     |.int j=>if 0<=j/\j<(n:Int)then some ((Zb4 k (m1 (.cell j.toNat) row)).1,.val (.c (Zb4 k (m1 (.cell j.toNat) row)).2))else none
     |i=>some (m2 .leI (.int 0) i::m2 .ltI i (.int n)::((List.range n).map fun j=>(Zb4 k (m1 (.cell j) row)).1).flatten,.sel i ((List.range n).map fun j=>.c (Zb4 k (m1 (.cell j) row)).2))))
   |_,_,_=>none)
  |_,_=>none)
 |.slice t x lo hi mx=>(match rslc c t G rs (revG G rs x) lo hi mx with|some (l,r)=>some (l,.val r)|none=>none)
 |.typeAssert x _ T true=>(match revG G rs x with
  |.c (.o1 (.mkA t) row)=>if t=T/\Zgy c.P T=true/\Zjh row=true then some ([],.val (.tup [(true,row),(false,.o1 .cb (.bool true))]))else none
  |_=>none)
 |.extract x i=>(match revG G rs x with
  |.tup l=>(match l[i]? with
   |some (true,e)=>some ([],.val (.agg e))
   |some (false,e)=>some ([],.val (.c e))
   |none=>none)
  |_=>none)
 |.call q=>(match q.callee,q.args.toList,q.argTypes.toList with
  |.builtin .len,[x],[t]=>(match rlen c t rs (revG G rs x)with|some (l,r)=>some (l,.val r)|none=>none)
  |.builtin .max,[x,y],_=>(match asI (revG G rs x),asI (revG G rs y)with
   |some (k,a),some (_,b)=>some ([],.val (mkI k (m2 .max a b)))
   |_,_=>none)
  |.builtin .min,[x,y],_=>(match asI (revG G rs x),asI (revG G rs y)with
   |some (k,a),some (_,b)=>some ([],.val (mkI k (m2 .sub (m2 .add a b) (m2 .max a b))))
   |_,_=>none)
  |_,_,_=>none)
 |_=>none
section
variable {ρ:Env} {m:Nm} {rs:RSt} {s:St} {G:E}
theorem Zp5{l:List RA}:∀{q:List RRef},Zks l=some q->Zc9 (l.map fun x=>x.den ρ m s.gen)=some (q.map (RRef.den m))/\ ∀x∈l,x≠ .any:=by
 induction l with
 |nil=>intro q h;cases h;exact⟨rfl,fun x h=>by cases h⟩
 |cons a l ih=>
  intro q h;unfold Zks at h;split at h
  ·rename_i e;cases e
  ·rename_i r l' e;cases e;rw[Option.map_eq_some_iff]at h;obtain⟨q',h1,rfl⟩:=h;obtain⟨h2,h3⟩:=ih h1;refine⟨by simp[RA.den,Zc9,h2],fun x hx=>?_⟩;rcases List.mem_cons.1 hx with rfl|hx
   ·intro e;cases e
   ·exact h3 x hx
  ·cases h
theorem Zl7{x r:RA}{k:Nat}{l:List E}(h:offs x k=some (l,r))(hn:Nds ρ l):Zj5 (x.den ρ m s.gen) k=some (r.den ρ m s.gen)/\r.ali=none/\x≠ .any:=by
 unfold offs at h;split at h
 ·cases h;exact⟨rfl,rfl,by intro e;cases e⟩
 ·rename_i row o;cases h;have h1:=Zp0 (Zaa.1 hn).1;refine⟨?_,rfl,by intro e;cases e⟩;simp only[RA.den,Zj5,List.length_drop];rw[if_pos (by omega),List.drop_drop]
 ·cases h
theorem Zeg{P:Program}{t:TypeId}(h:Zjg P t=true):P.underlying t=some .string:=Zi6 (Zne h)
theorem Zdw(hd:Den ρ m rs s)(hG:(G.den ρ).bool=true){x:Option Operand}{d e:E}{n:Nat}(h:Zfs G rs x d=some e)(hn:(d.den ρ).int=n)(h0:0<=(e.den ρ).int):s.bound x n=some (e.den ρ).int.toNat:=by
 unfold Zfs at h;unfold St.bound;split at h
 ·cases h;rw[hn];simp
 ·split at h
  ·rename_i k e' he;cases h;simp only[Za8 (ev_I hd hG he),h0,if_true]
  ·cases h
theorem Zba{a:E}{l:List E}(h:Nds ρ (a::l)):(a.den ρ).bool=true:=(Zaa.1 h).1
theorem Zbi{a b:E}(h:((m2 .leI a b).den ρ).bool=true):(a.den ρ).int<=(b.den ρ).int:=by rw[Zah]at h;exact of_decide_eq_true h
theorem Zp6{a b:E}(h:((m2 .ltI a b).den ρ).bool=true):(a.den ρ).int<(b.den ρ).int:=by rw[Zah]at h;exact of_decide_eq_true h
theorem Zhv{a b:E}(h:((m2 .eqI a b).den ρ).bool=true):(a.den ρ).int=(b.den ρ).int:=by rw[Zah]at h;simpa[sem2,Dat.bool_b]using h
theorem Zvx(hd:Den ρ m rs s){x:Operand}{r:RA}{e:E}(he:s.ev x=r.den ρ m s.gen)(h:nwE rs r=some e):
 s.nwLen x=some (e.den ρ).lst.length/\(∀es',s.slice x=some es'->es'.length=(e.den ρ).lst.length)/\s.lit x=none:=by
 cases r<;>simp only[nwE]at h<;>try (cases h;done)
 case own sz es nw=>
  cases h;simp only[RA.den]at he;refine⟨by unfold St.nwLen;rw[he];simp[Zef],fun es' h'=>?_,by unfold St.lit;rw[he]⟩;unfold St.slice St.esc at h';rw[he]at h';cases hn:(nw.den ρ).lst with
  |nil=>
   rw[hn]at h';cases h';simp[Zef,hn]
  |cons a l=>rw[hn]at h';cases h'
 case als t=>
  split at h
  ·rename_i sz es nw ht;cases h;have h1:=hd.tm t;rw[ht]at h1;have h2:s.tm t=.own sz (es.den ρ).lst (nw.den ρ).lst:=h1.elim (fun e=>by cases e) id;simp only[RA.den]at he;refine⟨by unfold St.nwLen;rw[he];simp[h2,Zef],fun es' h'=>?_,by unfold St.lit;rw[he]⟩;unfold St.slice St.esc at h';rw[he]at h';simp only[if_true,h2]at h';cases hn:(nw.den ρ).lst with
   |nil=>
    rw[hn]at h';cases h';simp[Zef,hn]
   |cons a l=>rw[hn]at h';cases h'
  ·cases h
open Classical in
theorem Zvb{c:Cfg}(hd:Den ρ m rs s){x:Operand}{t:TypeId}{r r':RA}{n:List E}(he:s.ev x=r.den ρ m s.gen)(h:rlen c t rs r=some (n,r'))(hn:Nds ρ n):
 (match s.lit x with
  |some (.string b)=>if c.P.underlying t=some .string then some (A.d (.lit (.int .i64 b.size)))else none
  |_=>(match s.slice x,slOf c.P t with
   |some es,some _=>some (A.d (.lit (.int .i64 es.length)))
   |none,some _=>(s.nwLen x).map fun n:Nat=>A.d (.lit (.int .i64 (n:Int)))
   |_,_=>none))=some (r'.den ρ m s.gen)/\r'.ali=none:=by
 unfold rlen at h;split at h
 ·rename_i e hs;split at h
  ·rename_i hp;cases h;have h1:s.ev x=.d (.lit (Zco (e.den ρ).str)):=by rw[he,Zpv hs];rfl
   rw[Za8 h1];simp only[Zco,Zeg hp,if_true];refine⟨?_,rfl⟩;simp[mkI,RA.den,E.den,sem1,Dat.dd_d,Zaf,Dat.int_i,Zdo]
  ·cases h
 ·split at h
  ·rename_i a e q h1 h2;cases h;obtain⟨h3,h4⟩:=Zct hd he h1 hn;rw[h4,h3,h2];refine⟨?_,rfl⟩;simp[mkI,RA.den,E.den,sem1,Dat.dd_d,Zaf,Dat.int_i]
  ·rename_i q h1 h2;split at h
   ·rename_i e hw;cases h;obtain⟨h3,h4,h5⟩:=Zvx hd he hw;rw[h5,h2];refine⟨?_,rfl⟩;cases h6:s.slice x with
    |none=>simp[h3,mkI,RA.den,E.den,sem1,Dat.dd_d,Zaf,Dat.int_i]
    |some es'=>simp[h4 es' h6,mkI,RA.den,E.den,sem1,Dat.dd_d,Zaf,Dat.int_i]
   ·cases h
  ·cases h
theorem Zl8{es:List (List D)}{n:Nat}{e:E}(h:((m1 (.flat n) e).den ρ).bool=true)(he:(e.den ρ).lst=es):∀z∈es,z.length=n:=by
 rw[Zaf]at h;simp only[sem1,Dat.bool_b,List.all_eq_true,beq_iff_eq,he]at h;exact h
theorem Zji(l:List UInt8)(a b:Nat):(⟨l.toArray⟩:ByteArray).extract a b=⟨((l.take b).drop a).toArray⟩:=by
 apply ByteArray.ext;rw[ByteArray.data_extract];apply Array.toList_inj.1;simp[List.extract_eq_take_drop,List.drop_take]
open Classical in
theorem Ztr{c:Cfg}(hd:Den ρ m rs s)(hG:(G.den ρ).bool=true){x:Operand}{t:TypeId}{lo hi mx:Option Operand}{r r':RA}{n:List E}(he:s.ev x=r.den ρ m s.gen)(h:rslc c t G rs r lo hi mx=some (n,r'))(hn:Nds ρ n):
 (match s.lit x with
 |some (.string b)=>if mx.isNone/\c.P.underlying t=some .string then(match s.bound lo 0,s.bound hi b.size with
   |some l,some u=>if l<=u/\u<=b.size then some (A.d (.lit (.string (b.extract l u))))else none
   |_,_=>none)else none
 |_=>(match s.slice x,slOf c.P t with
  |some es,some (m,_,_,_)=>if∀z∈es,z.length=m then(match s.bound lo 0,s.bound hi es.length with
    |some l,some u=>if l<=u/\u<=es.length then(match(generalizing:=false) hi,mx with
      |_,none=>some (A.d (.slc ((es.take u).drop l)))
      |some _,some q=>if s.bound (some q) es.length=some u then some (.zs ((es.take u).drop l))else none
      |_,_=>none)else none
    |_,_=>none)else none
  |_,_=>none))=some (r'.den ρ m s.gen)/\r'.ali=none:=by
 unfold rslc at h;split at h
 ·rename_i e hs;split at h
  ·rename_i hp;split at h
   ·rename_i l hh hl hhh;cases h;have h1:s.ev x=.d (.lit (Zco (e.den ρ).str)):=by rw[he,Zpv hs];rfl
    have k0:=Zbi (Zba hn);have k1:=Zbi (Zba (Zaa.1 hn).2);have k2:=Zbi (Zba (Zaa.1 (Zaa.1 hn).2).2);simp only[E.den,Dat.int_i,Zaf,sem1]at k0 k2;rw[Za8 h1];simp only[Zco,hp.1,Zeg hp.2,and_self,if_true];rw[Zdw hd hG (n:=0) hl rfl k0,Zdw hd hG (n:=(⟨(e.den ρ).str.toArray⟩:ByteArray).size) hhh (by simp[Zaf,sem1,Dat.int_i,Zdo]) (by omega)];simp only[Zdo];rw[if_pos (by omega),Zji];refine⟨?_,rfl⟩;simp[mkS,subS,RA.den,E.den,sem1,Dat.dd_d,Zey,sem3,Dat.str_s,Zco]
   ·cases h
  ·cases h
 ·split at h
  ·rename_i a e mm q1 q2 q3 h1 h2;split at h
   ·split at h
    ·rename_i l hh hl hhh;cases h;have hn':=Zaw.1 hn;obtain⟨h3,h4⟩:=Zct hd he h1 hn'.1;have hf:=Zl8 (Zba hn'.2) rfl;have k0:=Zbi (Zba (Zaa.1 hn'.2).2);have k1:=Zbi (Zba (Zaa.1 (Zaa.1 hn'.2).2).2);have k2:=Zbi (Zba (Zaa.1 (Zaa.1 (Zaa.1 hn'.2).2).2).2);simp only[E.den,Dat.int_i,Zaf,sem1]at k0 k2;rw[h4,h3,h2];simp only[hf];rw[Zdw hd hG (n:=0) hl rfl k0,Zdw hd hG (n:=(e.den ρ).lst.length) hhh (by simp[Zaf,sem1,Dat.int_i]) (by omega)];simp only;rw[if_pos (by intro z hz;exact hf z hz),if_pos (by omega)];refine⟨?_,rfl⟩;simp[RA.den,E.den,sem1,Dat.dd_d,Zey,sem3,Dat.lst_l]
    ·cases h
   ·split at h
    ·rename_i q hi' l hh u hl hhh hu;cases h;have hn':=Zaw.1 hn;obtain⟨h3,h4⟩:=Zct hd he h1 hn'.1;have hf:=Zl8 (Zba hn'.2) rfl;have k0:=Zbi (Zba (Zaa.1 hn'.2).2);have k1:=Zbi (Zba (Zaa.1 (Zaa.1 hn'.2).2).2);have k2:=Zbi (Zba (Zaa.1 (Zaa.1 (Zaa.1 hn'.2).2).2).2);have k3:=Zhv (Zba (Zaa.1 (Zaa.1 (Zaa.1 (Zaa.1 hn'.2).2).2).2).2);simp only[E.den,Dat.int_i,Zaf,sem1]at k0 k2;rw[h4,h3,h2];simp only;rw[Zdw hd hG (n:=0) hl rfl k0,Zdw hd hG (n:=(e.den ρ).lst.length) hhh (by simp[Zaf,sem1,Dat.int_i]) (by omega)];simp only;rw[if_pos (by intro z hz;exact hf z hz),if_pos (by omega),Zdw hd hG (n:=(e.den ρ).lst.length) hu (by simp[Zaf,sem1,Dat.int_i]) (by omega),if_pos (by rw[k3])];refine⟨?_,rfl⟩;simp[RA.den,Zey,sem3,Dat.lst_l]
    ·cases h
   ·cases h
  ·cases h
theorem Ziv{a b:Prop}(h:a/\(a->b)):a/\b:=⟨h.1,h.2 h.1⟩
theorem Zjj{P:Program}{t:TypeId}{k:IntKind}(h:Zr3 P t=some k):P.underlying t=some (.int k):=by
 unfold Zr3 at h;split at h<;>first|(rename_i hu;cases h;exact hu)|cases h
theorem Zts{l:List D}(h:Zpr l=true):Zex l=some (l.map dval):=by
 induction l with
 |nil=>rfl
 |cons a l ih=>
  simp only[Zpr,List.all_cons,Bool.and_eq_true]at h;cases a with
  |lit v=>simp only[Zex,ih h.2];rfl
  |slc es=>cases h.1
theorem Zox{es:List (List D)}(h:(es.all fun r=>r.length==1&&Rf.isK (.int .u8) (r.getD 0 D0))=true):bytesOf es=some (es.map fun r=>UInt8.ofNat (Rf.dint (r.getD 0 D0)).toNat):=by
 induction es with
 |nil=>rfl
 |cons r es ih=>
  simp only[List.all_cons,Bool.and_eq_true,beq_iff_eq]at h;obtain⟨⟨h1,h2⟩,h3⟩:=h
  match r,h1 with
  |[x],_=>
   have h4:x=.lit (.int .u8 (Rf.dint x)):=isK_int h2;rw[h4];simp only[bytesOf,ih h3,Option.map_some,List.map_cons];rfl
theorem Zjk{P:Program}{d:Nat}{t:TypeId}{x ix:Operand}{q:Nat×Nat×Bool}(h:Zez P t=some q):Zbj P d s t x ix=none:=by
 have h1:slOf P t=none:=by
  unfold Zez at h;split at h
  ·rename_i n e hu;unfold slOf;rw[hu]
  ·cases h
 unfold Zbj;rw[h1];split
 ·rename_i e;cases e
 ·rfl
theorem Zp7{x:Operand}{u sz:Nat}{es nw es':List (List D)}(h:ownS s x=some (u,sz,es,nw))(hs:s.slice x=some es'):nw=[]/\es'=es:=by
 have key:∀{t:Nat},s.tm t=.own sz es nw-> ∀{y:D},(match s.tm t with|.own _ es []=>some (D.slc es)|_=>none)=some y->nw=[]/\y=.slc es:=fun{t} ht {y} hy=>by
  rw[ht]at hy;cases nw with
  |nil=>simp at hy;exact⟨rfl,hy.symm⟩
  |cons a b=>simp at hy
 unfold St.slice at hs;split at hs
 ·rename_i es2 he;cases hs;unfold ownS at h;unfold St.esc at he;split at h
  ·rename_i t n e;rw[e]at he;split at h
   ·rename_i hn;obtain⟨_,h2⟩:=Za2 h;simp only[hn,if_true]at he;obtain⟨_,e1⟩:=Za2 h;have e2:=(Za2 h).1;cases e2;obtain⟨k1,k2⟩:=key h2 he;exact⟨k1,by cases k2;rfl⟩
   ·cases h
  ·obtain⟨e1,h2⟩:=Za2 h;subst e1;have e3:s.ev (.tmp u)=.own sz es nw:=h2;rw[e3]at he;cases nw with
   |nil=>simp at he;exact⟨rfl,he.symm⟩
   |cons a b=>simp at he
 ·cases hs
theorem Ztt{P:Program}{d:Nat}{t:TypeId}{x ix:Operand}{es:List (List D)}{k:IntKind}{i:Int}(hs:s.slice x=some es)(hi:s.lit ix=some (.int k i))(hlt:i<es.length):Zbj P d s t x ix=none:=by
 unfold Zbj;split
 ·rename_i u sz es0 nw0 k' i' m b c e ho hl hsl;rw[hi]at hl;cases hl;obtain⟨h1,h2⟩:=Zp7 ho hs;subst h1 h2;rw[if_neg];rintro⟨_,h3,_⟩;omega
 ·rfl
theorem Zp8(hd:Den ρ m rs s){x:Operand}{r:RA}{u sz:Nat}{es nw:E}(he:s.ev x=r.den ρ m s.gen)(h:rown rs x r=some (u,sz,es,nw)):ownS s x=some (u,sz,(es.den ρ).lst,(nw.den ρ).lst):=by
 unfold rown at h;unfold ownS;split at h
 ·rename_i a b e;split at h
  ·rename_i t;cases h;rw[he];have he:s.tm u=.own sz (es.den ρ).lst (nw.den ρ).lst:=he;simp[RA.den,ownT,he]
  ·cases h
 ·rename_i t;split at h
  ·rename_i a b e ht;cases h;rw[he];have h1:=(hd.tm u).resolve_left (by rw[ht];intro e;cases e);rw[ht]at h1;have h1:s.tm u=.own sz (es.den ρ).lst (nw.den ρ).lst:=h1;simp[RA.den,ownT,h1]
  ·cases h
 ·cases h
theorem Zp9{c:Cfg}(hd:Den ρ m rs s)(hG:(G.den ρ).bool=true){t:TypeId}{d:Nat}{x ix:Operand}{l:List E}{r:RA}(h:Zr2 c t d rs x (revG G rs x) (revG G rs ix)=some (l,r))(hn:Nds ρ l):
 Zbj c.P d s t x ix=some (r.den ρ m s.gen)/\r.ali≠some d:=by
 have key:∀{u sz:Nat}{nw i:E}{k:IntKind}{mm by_:Nat}{b:Bool}{e:TypeId},rown rs x (revG G rs x)=some (u,sz,.lnil,nw)->asI (revG G rs ix)=some (k,i)->slOf c.P t=some (mm,by_,b,e)->sz=mm/\u≠d->
  Nds ρ [m2 .leI (.int 0) i,m2 .ltI i (m1 .llen nw)]->Zbj c.P d s t x ix=some ((RA.opt u mm i 0).den ρ m s.gen)/\(RA.opt u mm i 0).ali≠some d:=fun{u sz nw i k mm by_ b e} h1 h2 h3 hc hn=>by
  have he:=Za9 hd hG (x:=x) rfl (by intro e;rw[e]at h1;cases h1);have ho:=Zp8 hd he h1;have hi:=Za8 (ev_I hd hG h2);have k0:=Zba hn;have k1:=Zba (Zaa.1 hn).2;rw[Zah]at k0;rw[Zah,Zaf]at k1;have k0:(0:Int)<=(i.den ρ).int:=of_decide_eq_true k0;have k1:(i.den ρ).int<((nw.den ρ).lst.length:Int):=of_decide_eq_true k1;refine⟨?_,fun e=>hc.2 (by cases e;rfl)⟩;unfold Zbj;rw[ho,hi,h3];simp only;rw[if_pos ⟨hc.1,by simp[E.den,Dat.lst_l];omega,by simp[E.den,Dat.lst_l];omega,hc.2⟩];rfl
 have key2:∀{u sz:Nat}{es z q i:E}{k:IntKind}{mm by_:Nat}{b:Bool}{e:TypeId},rown rs x (revG G rs x)=some (u,sz,es,.o2 .lcons z q)->asI (revG G rs ix)=some (k,i)->slOf c.P t=some (mm,by_,b,e)->(sz=mm/\u≠d)/\i.beq (m1 .llen es)=true->
  Zbj c.P d s t x ix=some ((RA.opt u mm i 0).den ρ m s.gen)/\(RA.opt u mm i 0).ali≠some d:=fun{u sz es z q i k mm by_ b e} h1 h2 h3 hc=>by
  have he:=Za9 hd hG (x:=x) rfl (by intro e;rw[e]at h1;cases h1);have ho:=Zp8 hd he h1;have hi:=Za8 (ev_I hd hG h2);have hie:=E.beq_eq hc.2;have hiv:(i.den ρ).int=((es.den ρ).lst.length:Int):=by rw[hie,Zaf];rfl
  refine⟨?_,fun e=>hc.1.2 (by cases e;rfl)⟩;unfold Zbj;rw[ho,hi,h3];simp only;rw[if_pos ⟨hc.1.1,by omega,by simp[E.den,sem2,Dat.lst_l];omega,hc.1.2⟩];rfl
 unfold Zr2 at h
 split at h<;>first
  |(cases h;done)
  |(rename_i h1 h2 h3
    split at h
    ·rename_i hc;cases h;exact key h1 h2 h3 hc hn
    ·cases h)
  |(rename_i h1 h2 h3
    split at h
    ·rename_i hc;cases h;exact key2 h1 h2 h3 hc
    ·cases h)
def Qv.hit(ρ:Env):Qv->RA->Prop
 |.val v,r=>r=v
 |.sel i vs,r=>∃j:Nat,(i.den ρ).int=j/\vs[j]? =some r
theorem Zdx{c:Cfg}(hd:Den ρ m rs s)(hG:(G.den ρ).bool=true){o:Oper}{d:Nat}{l:List E}{q:Qv}{r:RA}(h:Zhu c G rs o d=some (l,q))(hn:Nds ρ l)(hr:q.hit ρ r):
 Zc1 c.P s o d=some (r.den ρ m s.gen)/\r.ali≠some d:=by
 have ofne:∀{x:RA},x.ali=none->x.ali≠some d:=fun h e=>by rw[h]at e;cases e
 have evq:∀{v:A},(∀x,o.op≠ .move x)->(∀x,o.op≠ .assign x)->(∀t n p,o.op≠ .buildSlice t n p)->Zas c.P s o=some v->(∀t x i,o.op=.indexAddr t x i->Zbj c.P d s t x i=none)->Zc1 c.P s o d=some v:=fun h1 h2 h3 h4 h5=>by
  unfold Zc1;split
  ·rename_i x e;exact absurd e (h1 x)
  ·rename_i x e;exact absurd e (h2 x)
  ·rename_i t n p e;exact absurd e (h3 t n p)
  ·rename_i t x i e;rw[h5 t x i e,h4]
  ·exact h4
 unfold Zhu at h;split at h
 ·
  rename_i x hop;split at h
  ·rename_i r' hc;cases h;cases hr;have:=Ztm (Za9 hd hG rfl (by intro e;rw[e]at hc;simp[Zry]at hc)) hc;unfold Zc1;rw[hop];exact this
  ·cases h
 ·
  rename_i x hop;split at h
  ·cases h
  ·rename_i hno;split at h
   ·rename_i r' hc;cases h;cases hr;have he:=Za9 hd hG rfl (show revG G rs x≠ .any by intro e;rw[e]at hc;simp[rval]at hc);have hv:=Zit hd he hc;unfold Zc1;rw[hop]
    have ho:ownT s x=none:=by
     unfold ownT;split
     ·rename_i t;split
      ·rename_i sz es nw ht;exfalso;have:s.ev (.tmp t)=.own sz es nw:=ht;rw[he]at this;generalize hz:revG G rs (.tmp t)=z at*;cases z with
       |own a b e=>exact hno _ _ _ rfl
       |gv g v=>
        unfold revG Ztk at hz;split at hz
        ·split at hz
         ·rename_i g' v' _ _;subst hz;simp[rval]at hc
         ·cases hz
        ·rename_i h1;exact h1 _ _ hz
       |_=>cases this
      ·rfl
     ·rfl
    simp only[ho];exact⟨hv.1,ofne hv.2⟩
   ·cases h
 ·
  rename_i t n parts hop;split at h
  ·rename_i mm q1 q2 q3 hs;split at h
   ·rename_i a e hp;split at h
    ·rename_i hc;cases h;cases hr;unfold Zc1;rw[hop];simp only[hs,Zfq hd hG hp hn];have:=Zed (ρ:=ρ) hp;rw[if_pos ⟨by omega,hc.2⟩];exact⟨rfl,by intro e;cases e⟩
    ·cases h
   ·cases h
  ·cases h
 ·
  rename_i q x y hop;refine Ziv ?_;split at h
  ·rename_i b hb;split at h
   ·rename_i r' hc;cases h;cases hr;have he:=Za9 hd hG rfl (show revG G rs (if b then x else y)≠ .any by intro e;rw[e]at hc;simp[rval]at hc)
    have hv:=Zit hd he hc;refine⟨evq (by rw[hop];simp) (by rw[hop];simp) (by rw[hop];simp) ?_ (fun t' x' i' e=>by rw[hop]at e;cases e),fun _=>ofne hv.2⟩;unfold Zas;rw[hop];simp only[Za8 (ev_B hd hG hb)];cases b
    ·simp only[E.den,Dat.bool_b,Bool.false_eq_true,if_false]at hv⊢;exact hv.1
    ·simp only[E.den,Dat.bool_b,if_true]at hv⊢;exact hv.1
   ·cases h
  ·rename_i e hne hb;split at h
   ·rename_i r' hc;cases h;cases hr;obtain⟨h1,h2,h3,h4⟩:=Zr1 (ρ:=ρ) (m:=m) (gen:=s.gen) hc;refine⟨evq (by rw[hop];simp) (by rw[hop];simp) (by rw[hop];simp) ?_ (fun t' x' i' e=>by rw[hop]at e;cases e),fun _=>ofne h4⟩;unfold Zas;rw[hop];simp only[Za8 (ev_B hd hG hb)]
    have vv:∀{z:RA},rval ⟨.nil,[],0,0,[],false⟩ z=some z->rval rs z=some z:=fun{z} hz=>by
     cases z<;>simp[rval,resc,Tr.get]at hz⊢
    rw[h1];cases hbe:(e.den ρ).bool
    ·have hG':((m2 .and G (m1 .not e)).den ρ).bool=true:=by rw[Zah,Zaf];simp[sem2,sem1,Dat.bool_b,hG,hbe]
     have he:=Za9 hd hG' (x:=y) rfl (by intro e;rw[e]at h3;simp[rval]at h3);simp only[Bool.false_eq_true,if_false];exact(Zit hd he (vv h3)).1
    ·have hG':((m2 .and G e).den ρ).bool=true:=by rw[Zah];simp[sem2,Dat.bool_b,hG,hbe]
     have he:=Za9 hd hG' (x:=x) rfl (by intro e;rw[e]at h2;simp[rval]at h2);simp only[if_true];exact(Zit hd he (vv h2)).1
   ·cases h
  ·cases h
 ·
  rename_i t parts hop;split at h
  ·rename_i hb;split at h
   ·rename_i z hz;split at h
    ·rename_i hzc;split at h
     ·rename_i a e hf
      have key:Nds ρ a->Zas c.P s o=some (.agg (e.map fun e=>(e.den ρ).dd)):=fun ha=>by
       have h1:=Zpy hd hG hf ha;have e0:(Zrv z).map (fun e=>(e.den ρ).dd)=Ze3 z:=Zpu ρ z;rw[e0]at h1;unfold Zas;rw[hop];simp only[hb,if_true,Zga,hz,hzc,h1];rfl
      split at h
      ·rename_i row hrow;cases h;cases hr;have hn':=Zaw.1 hn;have h2:=Zjf (Zba hn'.2);exact⟨evq (by rw[hop];simp) (by rw[hop];simp) (by rw[hop];simp) (by rw[key hn'.1,Zht hrow h2];rfl) (fun t' x' i' e=>by rw[hop]at e;cases e),by intro e;cases e⟩
      ·cases h;cases hr;exact⟨evq (by rw[hop];simp) (by rw[hop];simp) (by rw[hop];simp) (by rw[key hn];simp only[RA.den];rw[E.den_ofCells];rfl) (fun t' x' i' e=>by rw[hop]at e;cases e),by intro e;cases e⟩
     ·cases h
    ·cases h
   ·cases h
  ·cases h
 ·
  rename_i t p hop;split at h
  ·rename_i a r' hl;cases h;cases hr;have he:=Za9 hd hG (x:=p) rfl (by intro e;rw[e]at hl;unfold Zow at hl;split at hl<;>simp at hl);obtain⟨h1,h2⟩:=Zp3 hd he hl hn;exact⟨evq (by rw[hop];simp) (by rw[hop];simp) (by rw[hop];simp) (by unfold Zas;rw[hop];exact h1) (fun t' x' i' e=>by rw[hop]at e;cases e),ofne h2⟩
  ·cases h
 ·
  rename_i x hop;split at h
  ·rename_i r' k hx;cases h;cases hr;refine⟨evq (by rw[hop];simp) (by rw[hop];simp) (by rw[hop];simp) ?_ (fun t' x' i' e=>by rw[hop]at e;cases e),by intro e;cases e⟩;unfold Zas;rw[hop];simp only[Za9 hd hG hx (by intro e;cases e)];rfl
  ·rename_i r' k hx;cases h;cases hr;refine⟨evq (by rw[hop];simp) (by rw[hop];simp) (by rw[hop];simp) ?_ (fun t' x' i' e=>by rw[hop]at e;cases e),by intro e;cases e⟩;unfold Zas;rw[hop];simp only[Za9 hd hG hx (by intro e;cases e)];rfl
  ·cases h
 ·
  rename_i op t x y t2 hop;split at h
  ·rename_i a r' hb;cases h;cases hr;have h1:=Ztl hd hG hop hb hn;refine⟨evq (by rw[hop];simp) (by rw[hop];simp) (by rw[hop];simp) h1 (fun t' x' i' e=>by rw[hop]at e;cases e),ofne ?_⟩;unfold rbin at hb;cases op<;>simp only[rint,rstr,ragg,rnil,mkI,mkB,mkS]at hb
   all_goals repeat' (first|(cases hb;done)|(cases hb;rfl)|split at hb)
  ·cases h
 ·
  rename_i op t x hop;split at h
  ·rename_i k a hx;cases h;cases hr;refine⟨evq (by rw[hop];simp) (by rw[hop];simp) (by rw[hop];simp) ?_ (fun t' x' i' e=>by rw[hop]at e;cases e),by intro e;cases e⟩;unfold Zas;rw[hop];simp only[Za8 (ev_I hd hG hx),unV,Option.map_some];simp only[mkI,RA.den,E.den,sem1,Dat.dd_d,Zfo hn,Zah,sem2,Dat.int_i]
  ·rename_i k a hx;cases h;cases hr;refine⟨evq (by rw[hop];simp) (by rw[hop];simp) (by rw[hop];simp) ?_ (fun t' x' i' e=>by rw[hop]at e;cases e),by intro e;cases e⟩;unfold Zas;rw[hop];simp only[Za8 (ev_I hd hG hx),unV,Option.map_some];simp only[mkI,RA.den,E.den,sem1,Dat.dd_d,Zaf,Dat.int_i]
  ·rename_i a hx;cases h;cases hr;refine⟨evq (by rw[hop];simp) (by rw[hop];simp) (by rw[hop];simp) ?_ (fun t' x' i' e=>by rw[hop]at e;cases e),by intro e;cases e⟩;unfold Zas;rw[hop];simp only[Za8 (ev_B hd hG hx),unV,Option.map_some];simp only[mkB,RA.den,E.den,sem1,Dat.dd_d,Zaf,Dat.bool_b]
  ·cases h
 ·
  rename_i src dst x hop;split at h
  ·rename_i a r' hc;cases h;cases hr;unfold Zu9 at hc;split at hc
   ·rename_i k b hx;split at hc
    ·rename_i k1 k2 h1 h2;cases hc;refine⟨evq (by rw[hop];simp) (by rw[hop];simp) (by rw[hop];simp) ?_ (fun t' x' i' e=>by rw[hop]at e;cases e),by intro e;cases e⟩;unfold Zas;rw[hop];simp only[Za8 (ev_I hd hG hx),Zif,Zjj h1,Zjj h2,Option.map_some];simp only[mkI,RA.den,E.den,sem1,Dat.dd_d,Zfo hn]
    ·rename_i k1 h1 h2;split at hc
     ·rename_i hp;cases hc;refine⟨evq (by rw[hop];simp) (by rw[hop];simp) (by rw[hop];simp) ?_ (fun t' x' i' e=>by rw[hop]at e;cases e),by intro e;cases e⟩;unfold Zas;rw[hop];simp only[Za8 (ev_I hd hG hx),Zif,Zjj h1,Zeg hp,Option.map_some];simp only[mkS,RA.den,E.den,sem1,Dat.dd_d,Zaf,Dat.str_s,Zl5]
     ·cases hc
    ·cases hc
   ·split at hc
    ·rename_i b hx;split at hc
     ·rename_i hp;cases hc;refine⟨evq (by rw[hop];simp) (by rw[hop];simp) (by rw[hop];simp) ?_ (fun t' x' i' e=>by rw[hop]at e;cases e),by intro e;cases e⟩;unfold Zas;rw[hop];simp only[Za8 (ev_S hd hG hx),Zco,Zif,Zeg hp.1,Zeg hp.2,Option.map_some];rfl
     ·cases hc
    ·rename_i hx1 hx2;split at hc
     ·rename_i hb;split at hc
      ·rename_i n' e hs;cases hc;have hn':=Zaw.1 hn;have he:=Za9 hd hG (x:=x) rfl (by intro e;rw[e]at hs;simp[Zch,resc]at hs);obtain⟨h1,h2⟩:=Zct hd he hs hn'.1;refine⟨evq (by rw[hop];simp) (by rw[hop];simp) (by rw[hop];simp) ?_ (fun t' x' i' e=>by rw[hop]at e;cases e),by intro e;cases e⟩;have h3:=Zba hn'.2;rw[Zaf]at h3;simp only[sem1,Dat.bool_b]at h3;unfold Zas;rw[hop];simp only[h2,h1,hb,if_true,Zox h3,Option.map_some];simp only[mkS,RA.den,E.den,sem1,Dat.dd_d,Zaf,Dat.str_s];rfl
      ·cases hc
     ·cases hc
  ·cases h
 ·
  rename_i t x hop;split at h
  ·rename_i hc;refine Ziv ?_;split at h
   ·rename_i k e hx;cases h;cases hr;refine⟨evq (by rw[hop];simp) (by rw[hop];simp) (by rw[hop];simp) ?_ (fun t' x' i' e=>by rw[hop]at e;cases e),fun _=>by intro e;cases e⟩;unfold Zas;rw[hop];simp only[hc,if_true,Za9 hd hG hx (by intro e;cases e)];rfl
   ·rename_i e hx;cases h;cases hr;refine⟨evq (by rw[hop];simp) (by rw[hop];simp) (by rw[hop];simp) ?_ (fun t' x' i' e=>by rw[hop]at e;cases e),fun _=>by intro e;cases e⟩;unfold Zas;rw[hop];simp only[hc,if_true,Za9 hd hG hx (by intro e;cases e)];rfl
   ·rename_i e hx;cases h;cases hr;refine⟨evq (by rw[hop];simp) (by rw[hop];simp) (by rw[hop];simp) ?_ (fun t' x' i' e=>by rw[hop]at e;cases e),fun _=>by intro e;cases e⟩;unfold Zas;rw[hop];simp only[hc,if_true,Za9 hd hG hx (by intro e;cases e)];rfl
   ·rename_i row hx;cases h;cases hr;refine⟨evq (by rw[hop];simp) (by rw[hop];simp) (by rw[hop];simp) ?_ (fun t' x' i' e=>by rw[hop]at e;cases e),fun _=>by intro e;cases e⟩;have h1:=Zba hn;rw[Zaf]at h1;simp only[sem1,Dat.bool_b]at h1;unfold Zas;rw[hop];simp only[hc,if_true,Za9 hd hG hx (by intro e;cases e),RA.den,Zts h1,Option.map_some];rfl
   ·cases h
  ·cases h
 ·
  rename_i f first caps hop
  split at h
  ·rename_i hf;split at h
   ·rename_i q hq;cases h;cases hr;refine⟨evq (by rw[hop];simp) (by rw[hop];simp) (by rw[hop];simp) ?_ (fun t' x' i' e=>by rw[hop]at e;cases e),by intro e;cases e⟩;obtain⟨h1,h2⟩:=Zp5 (ρ:=ρ) (m:=m) (s:=s) hq
    have e1:caps.toList.map s.ev=(caps.toList.map (revG G rs)).map fun x=>x.den ρ m s.gen:=by
     rw[List.map_map];refine List.map_congr_left fun x hx=>?_
     exact Za9 hd hG rfl (h2 _ (List.mem_map_of_mem hx))
    unfold Zas;rw[hop];simp only[hf,if_true,e1,h1,Option.map_some];rfl
   ·cases h
  ·cases h
 ·
  rename_i t x i hop;split at h
  ·rename_i k q1 q2 hf;split at h
   ·rename_i a r' ho;cases h;cases hr;obtain⟨h1,h2,h3⟩:=Zl7 (m:=m) (s:=s) ho hn;refine⟨evq (by rw[hop];simp) (by rw[hop];simp) (by rw[hop];simp) ?_ (fun t' x' i' e=>by rw[hop]at e;cases e),ofne h2⟩;unfold Zas;rw[hop];simp only[hf,Za9 hd hG rfl h3,h1]
   ·cases h
  ·cases h
 ·
  rename_i t x ix hop;split at h
  ·rename_i a r' hp;cases h;cases hr;obtain⟨h1,h2⟩:=Zp9 hd hG hp hn;unfold Zc1;rw[hop];simp only[h1];exact⟨trivial,h2⟩
  split at h
  rotate_left
  ·unfold Zst at h;split at h
   ·rename_i u sz i j k q n mm b hx hi ha;split at h
    ·rename_i hc;cases h;cases hr;have he:=Za9 hd hG (x:=x) hx (by intro e;cases e);have hlit:=Za8 (ev_I hd hG hi);have h1:Zbj c.P d s t x ix=none:=Zjk ha
     have h2:Zas c.P s o=none:=by
      unfold Zas;rw[hop];simp only[hlit,ha,he,RA.den,E.den,Dat.int_i,hc.1,hc.2.1,and_self,if_true,Zj5]
     refine⟨?_,by intro e;cases e;exact hc.2.2 rfl⟩;unfold Zc1;rw[hop];simp only[h1,h2,Zot,ha,hlit,E.den,Dat.int_i,hc.1,hc.2.1,and_self,if_true,Zcc,he,RA.den,hc.2.2,ne_eq,not_false_eq_true]
    ·cases h
   ·cases h
  rename_i r1 h1;cases h;have h:=h1;unfold Ziu at h;split at h
  ·rename_i k i hi;have hlit:=Za8 (ev_I hd hG hi);split at h
   ·rename_i n mm q1 ha;split at h
    ·rename_i j;split at h
     ·rename_i hj;split at h
      ·rename_i a r' ho;cases h;cases hr;obtain⟨h1,h2,h3⟩:=Zl7 (m:=m) (s:=s) ho hn;refine⟨evq (by rw[hop];simp) (by rw[hop];simp) (by rw[hop];simp) ?_ (fun t' x' i' e=>by rw[hop]at e;cases e;exact Zjk ha),ofne h2⟩;unfold Zas;rw[hop];simp only[hlit,ha,E.den,Dat.int_i,hj,if_true,Za9 hd hG rfl h3,h1]
      ·cases h
     ·cases h
    ·rename_i e _ _;split at h
     ·rename_i vs hvs;cases h;obtain⟨j,hj,hr⟩:=hr;rw[List.getElem?_map,Option.map_eq_some_iff]at hr;obtain⟨⟨a,r'⟩,hv,rfl⟩:=hr
      have hall:∀(ls:List Nat)(vs:List (List E×RA))(k:Nat)(z:List E×RA),ls.mapM (fun j=>offs (revG G rs x) (j*mm))=some vs->vs[k]? =some z-> ∃y,ls[k]? =some y/\offs (revG G rs x) (y*mm)=some z:=by
       intro ls
       induction ls with
       |nil=>intro vs k z h1 h2;simp at h1;subst h1;cases h2
       |cons y ls ih=>
        intro vs k z h1 h2;simp only[List.mapM_cons,bind,Option.bind_eq_some_iff,pure,Option.some.injEq]at h1;obtain⟨v,h3,vs',h4,rfl⟩:=h1;cases k with
        |zero=>simp at h2;subst h2;exact⟨y,rfl,h3⟩
        |succ k=>simpa using ih vs' k z h4 (by simpa using h2)
      obtain⟨y,hy,ho⟩:=hall _ _ _ _ hvs hv
      have hy2:y=j/\j<n:=by
       rw[List.getElem?_eq_some_iff]at hy;obtain⟨h1,h2⟩:=hy;simp at h1 h2;exact⟨h2.symm,h1⟩
      obtain⟨rfl,hjn⟩:=hy2;have hn1:Nds ρ a:=fun z hz=>hn z (List.mem_cons_of_mem _ (List.mem_cons_of_mem _ (List.mem_flatten.2 ⟨a,List.mem_map.2 ⟨_,List.mem_of_getElem? hv,rfl⟩,hz⟩)))
      obtain⟨h1,h2,h3⟩:=Zl7 (m:=m) (s:=s) ho hn1;refine⟨evq (by rw[hop];simp) (by rw[hop];simp) (by rw[hop];simp) ?_ (fun t' x' i' e=>by rw[hop]at e;cases e;exact Zjk ha),ofne h2⟩;unfold Zas;rw[hop];simp only[hlit,ha,hj];rw[if_pos (by omega),if_pos (by omega)];simp only[Int.toNat_natCast,Za9 hd hG rfl h3,h1]
     ·cases h
   ·rename_i mm q1 q2 q3 ha hs;split at h
    ·rename_i a e hx;cases h;cases hr;have hn':=Zaw.1 hn;have he:=Za9 hd hG (x:=x) rfl (by intro e;rw[e]at hx;simp[Zch,resc]at hx);obtain⟨h1,_⟩:=Zct hd he hx hn'.1;have k0:=Zbi (Zba hn'.2);have k1:=Zp6 (Zba (Zaa.1 hn'.2).2);have k2:=Zhv (Zba (Zaa.1 (Zaa.1 hn'.2).2).2);simp only[E.den,Dat.int_i,Zaf,Zah,sem1,sem2,Dat.row_r]at k0 k1 k2;refine⟨evq (by rw[hop];simp) (by rw[hop];simp) (by rw[hop];simp) ?_ (fun t' x' i' e=>by rw[hop]at e;cases e;exact Ztt h1 hlit (by omega)),by intro e;cases e⟩;unfold Zas;rw[hop];have hlt:(i.den ρ).int.toNat<(e.den ρ).lst.length:=by omega
     simp only[hlit,ha,hs,k0,if_true,h1,List.getElem?_eq_getElem hlt];rw[List.getD_eq_getElem?_getD,List.getElem?_eq_getElem hlt,Option.getD_some]at k2;rw[if_pos (by omega)];simp[RA.den,Zah,sem2,Dat.row_r,List.getD,hlt]
    ·cases h
   ·cases h
  ·cases h
 ·
  rename_i t x ix hop;split at h
  ·rename_i b k i hb hi;split at h
   ·rename_i hp;cases h;cases hr;have k0:=Zbi (Zba hn);have k1:=Zp6 (Zba (Zaa.1 hn).2);simp only[E.den,Dat.int_i,Zaf,sem1]at k0 k1;refine⟨evq (by rw[hop];simp) (by rw[hop];simp) (by rw[hop];simp) ?_ (fun t' x' i' e=>by rw[hop]at e;cases e),by intro e;cases e⟩;unfold Zas;rw[hop];simp only[Za8 (ev_S hd hG hb),Za8 (ev_I hd hG hi),Zco,Zne hp,if_true,Zdo];have hlt:(i.den ρ).int.toNat<(b.den ρ).str.length:=by omega
    rw[dif_pos ⟨k0,k1⟩];simp only[mkI,RA.den,E.den,sem1,Dat.dd_d,Zah,sem2,Dat.int_i,List.getD,List.getElem?_eq_getElem hlt,Option.getD_some];rfl
   ·cases h
  ·rename_i k i hb hi;split at h
   ·rename_i row n e hx ha he;have hev:=Za9 hd hG hx (by intro e;cases e);have hl:s.lit x=none:=by unfold St.lit;rw[hev];rfl
    have hlit:=Za8 (ev_I hd hG hi)
    have cell:∀{kd:Kd}{j:Nat},kd≠ .val->Nds ρ (Zb4 kd (m1 (.cell j) row)).1->(row.den ρ).row[j]? =some (((Zb4 kd (m1 (.cell j) row)).2.den ρ).dd):=fun{kd j} hk hh=>by
     have h1:=Zp1 hk hh;rw[Zcg hh,Zaf];simp[sem1,Dat.dd_d,List.getD,h1]
    split at h
    ·cases h
    ·rename_i kd hkd;split at h
     ·rename_i j;split at h
      ·rename_i hj;cases h;cases hr;refine⟨evq (by rw[hop];simp) (by rw[hop];simp) (by rw[hop];simp) ?_ (fun t' x' i' e=>by rw[hop]at e;cases e),by intro e;cases e⟩;unfold Zas;rw[hop];have hc:=cell (fun e=>hkd e) hn;simp only[hl,hlit,hev,RA.den,ha,E.den,Dat.int_i,hj,and_self,if_true,hc,Option.map_some]
      ·cases h
     ·cases h;obtain⟨j,hj,hr⟩:=hr;rw[List.getElem?_map,Option.map_eq_some_iff]at hr;obtain⟨j',hj',rfl⟩:=hr;obtain⟨h1,h2⟩:=List.getElem?_eq_some_iff.1 hj';simp at h1 h2;subst h2;have hn1:Nds ρ (Zb4 (kdOf c.P e) (m1 (.cell j) row)).1:=fun z hz=>hn z (List.mem_cons_of_mem _ (List.mem_cons_of_mem _ (List.mem_flatten.2 ⟨_,List.mem_map.2 ⟨j,List.mem_range.2 h1,rfl⟩,hz⟩)))
      refine⟨evq (by rw[hop];simp) (by rw[hop];simp) (by rw[hop];simp) ?_ (fun t' x' i' e=>by rw[hop]at e;cases e),by intro e;cases e⟩;unfold Zas;rw[hop];have hc:=cell (fun e=>hkd e) hn1;simp only[hl,hlit,hev,RA.den,ha,hj];rw[if_pos (by omega)];simp only[Int.toNat_natCast,hc,Option.map_some]
   ·cases h
  ·cases h
 ·
  rename_i t x lo hi mx hop;split at h
  ·rename_i a r' hs;cases h;cases hr;have he:=Za9 hd hG (x:=x) rfl (by intro e;rw[e]at hs;simp[rslc,asS,Zch,resc]at hs);obtain⟨h1,h2⟩:=Ztr hd hG he hs hn;refine⟨evq (by rw[hop];simp) (by rw[hop];simp) (by rw[hop];simp) ?_ (fun t' x' i' e=>by rw[hop]at e;cases e),ofne h2⟩;unfold Zas;rw[hop];exact h1
  ·cases h
 ·
  rename_i x xt T hop;split at h
  ·rename_i t row hx;have he:=Za9 hd hG hx (by intro e;cases e);split at h
   ·rename_i hc;cases h;cases hr;obtain⟨rfl,h2,h3⟩:=hc;obtain⟨k1,k2⟩:=Zkt ρ h3;refine⟨evq (by rw[hop];simp) (by rw[hop];simp) (by rw[hop];simp) ?_ (fun t' x' i' e=>by rw[hop]at e;cases e),by intro e;cases e⟩;unfold Zas;rw[hop];have hl:s.lit x=some (.iface t (.agg ((row.den ρ).row.map dval).toArray)):=Za8 (by rw[he];rfl);simp only[hl,h2,k1,k2,and_self,if_true];rfl
   ·cases h
  ·cases h
 ·
  rename_i x i hop;split at h
  ·rename_i tl hx;have he:=Za9 hd hG hx (by intro e;cases e);split at h
   ·rename_i e hi;cases h;cases hr;refine⟨evq (by rw[hop];simp) (by rw[hop];simp) (by rw[hop];simp) ?_ (fun t' x' i' e=>by rw[hop]at e;cases e),by intro e;cases e⟩;unfold Zas;rw[hop];simp only[he,RA.den,List.getElem?_map,hi,Option.map_some,Zc2]
   ·rename_i e hi;cases h;cases hr;refine⟨evq (by rw[hop];simp) (by rw[hop];simp) (by rw[hop];simp) ?_ (fun t' x' i' e=>by rw[hop]at e;cases e),by intro e;cases e⟩;unfold Zas;rw[hop];simp only[he,RA.den,List.getElem?_map,hi,Option.map_some,Zc2]
   ·cases h
  ·cases h
 ·
  rename_i q hop;split at h
  ·rename_i x t hcal hargs htys;split at h
   ·rename_i a r' hl;cases h;cases hr;have he:=Za9 hd hG (x:=x) rfl (by intro e;rw[e]at hl;simp only[rlen,asS,Zch,resc,nwE]at hl;split at hl<;>first|(cases hl;done)|(rename_i h1 h2;cases h1))
    obtain⟨h1,h2⟩:=Zvb hd he hl hn;refine⟨evq (by rw[hop];simp) (by rw[hop];simp) (by rw[hop];simp) ?_ (fun t' x' i' e=>by rw[hop]at e;cases e),ofne h2⟩;unfold Zas;rw[hop];simp only[hcal,hargs,htys];exact h1
   ·cases h
  ·rename_i tl x y hcal hargs;split at h
   ·rename_i k a k2 b hx hy;cases h;cases hr;refine⟨evq (by rw[hop];simp) (by rw[hop];simp) (by rw[hop];simp) ?_ (fun t' x' i' e=>by rw[hop]at e;cases e),by intro e;cases e⟩;unfold Zas;rw[hop];simp only[hcal,hargs,Za8 (ev_I hd hG hx),Za8 (ev_I hd hG hy)];simp only[mkI,RA.den,E.den,sem1,Dat.dd_d,Zah,sem2,Dat.int_i]
   ·cases h
  ·rename_i tl x y hcal hargs;split at h
   ·rename_i k a k2 b hx hy;cases h;cases hr;refine⟨evq (by rw[hop];simp) (by rw[hop];simp) (by rw[hop];simp) ?_ (fun t' x' i' e=>by rw[hop]at e;cases e),by intro e;cases e⟩;unfold Zas;rw[hop];simp only[hcal,hargs,Za8 (ev_I hd hG hx),Za8 (ev_I hd hG hy)];simp only[mkI,RA.den,E.den,sem1,Dat.dd_d,Zah,sem2,Dat.int_i];have hmin:∀p q:Int,(if q<p then q else p)=p+q-(if p<q then q else p):=by intro p q;split<;>split<;>omega
    rw[hmin]
   ·cases h
  ·cases h
 ·cases h
end
end Go.Rf
end
section
namespace Go.Rf
open Go.Ab
inductive Dk where
 |i|b|s|l|r|d
 deriving DecidableEq
abbrev Dk.ty:Dk->Type
 |.i=>Int|.b=>Bool|.s=>List UInt8|.l=>List (List D)|.r=>List D|.d=>D
def Dk.mk:(k:Dk)->k.ty->Dat
 |.i,x=>.i x|.b,x=>.b x|.s,x=>.s x|.l,x=>.l x|.r,x=>.r x|.d,x=>.d x
def Dk.un:(k:Dk)->Dat->k.ty
 |.i,x=>x.int|.b,x=>x.bool|.s,x=>x.str|.l,x=>x.lst|.r,x=>x.row|.d,x=>x.dd
inductive T where
 |ret (v:RA) (K:List (RRef×List RA))
 |pan (v:E) (K:List (RRef×List RA))
 |fork (e:E) (a b:T)
 |need (e:E) (k:T)
 |call (f:Nat) (args:List RA) (caps:List RRef) (bx:List (RRef×List RA)) (n:Nat) (ks:List Dk) (res:RA) (bx':List (RRef×List RA)) (kr:T) (ksp:List Dk) (bxp:List (RRef×List RA)) (kp:T)
 |call2 (f:Nat) (args:List RA) (caps:List RRef) (bx:List (RRef×List RA)) (n:Nat) (ks:List Dk) (res:RA) (bx':List (RRef×List RA)) (kr:T) (ks2:List Dk) (bx2:List (RRef×List RA)) (kr2:T) (ksp:List Dk) (bxp:List (RRef×List RA)) (kp:T)
 |dcall (f:Nat) (args:List RA) (caps:List RRef) (bx:List (RRef×List RA)) (n:Nat) (ks:List Dk) (res:RA) (k:T)
 |loop (n:Nat) (j:Nat) (args:List E) (vs:T)
 |vnil
 |vcons (ks:List Dk) (body rest:T)
 |again (lvl j:Nat) (args:List E)
 |cut (n:Nat) (body vs:T)
 |bad (n:Nat)
 |leaf (rs:RSt)
 |hav (n:Nat) (e:E) (k:T)
def exK:List Dk->Nat->Env->(Env->Prop)->Prop
 |[],_,ρ,p=>p ρ
 |k::ks,n,ρ,p=>∃x:k.ty,exK ks (n+1) (ρ.set n (k.mk x)) p
def allK:List Dk->Nat->Env->List Dat->(Env->List Dat->Prop)->Prop
 |[],_,ρ,acc,p=>p ρ acc
 |k::ks,n,ρ,acc,p=>∀x:k.ty,allK ks (n+1) (ρ.set n (k.mk x)) (acc++[k.mk x]) p
abbrev CurP:List Dk->Type
 |[]=>Prop
 |k::ks=>k.ty->CurP ks
abbrev CurN:List Dk->Type
 |[]=>Nat
 |k::ks=>k.ty->CurN ks
def appP:(ks:List Dk)->CurP ks->List Dat->Prop
 |[],I,_=>I
 |k::ks,I,x::l=>appP ks (I (k.un x)) l
 |k::ks,I,[]=>appP ks (I (k.un (.i 0))) []
def appN:(ks:List Dk)->CurN ks->List Dat->Nat
 |[],I,_=>I
 |k::ks,I,x::l=>appN ks (I (k.un x)) l
 |k::ks,I,[]=>appN ks (I (k.un (.i 0))) []
abbrev Invs:=List ((List Dat->Prop)×(List Dat->Nat))
def Zb7(Is:Invs)(j:Nat)(a:List Dat):Prop:=match Is[j]? with|some h=>h.1 a|none=>False
def Zdy(Is:Invs)(j:Nat)(a:List Dat):Nat:=match Is[j]? with|some h=>h.2 a|none=>0
def exL:List (List Dk)->(Invs->Prop)->Prop
 |[],p=>p []
 |ks::r,p=>∃(I:CurP ks)(μ:CurN ks),exL r fun l=>p ((appP ks I,appN ks μ)::l)
def exC:List (List Dk)->(Invs->Prop)->Prop
 |[],p=>p []
 |ks::r,p=>∃(I:CurP ks),exC r fun l=>p ((appP ks I,fun _=>0)::l)
def T.ksL:T->List (List Dk)
 |.vcons ks _ rest=>ks::rest.ksL
 |_=>[]
def Zab(ρ:Env)(m:Nm)(l:List (RRef×List RA)):List (Ref×List A):=l.map fun x=>(x.1.den m,kDen ρ m x.2)
abbrev Sig:=List (Nat->List Dat->Prop)
def gen0:Nat->Nat:=fun _=>0
mutual
def T.den(P:Program)(up:Nat->Ref)(R:Out->List (Ref×List A)->Prop):T->Env->Sig->Prop
 |.ret v K,ρ,_=>R (.ret (v.den ρ ⟨up,gen0⟩ gen0)) (Zab ρ ⟨up,gen0⟩ K)
 |.pan v K,ρ,_=>R (.pan (dval (v.den ρ).dd)) (Zab ρ ⟨up,gen0⟩ K)
 |.fork e a b,ρ,σ=>((e.den ρ).bool=true->a.den P up R ρ σ)/\((e.den ρ).bool=false->b.den P up R ρ σ)
 |.need e k,ρ,σ=>(e.den ρ).bool=true/\k.den P up R ρ σ
 |.hav n e k,ρ,σ=>∀b:Bool,(b=true->(e.den ρ).bool=true)->k.den P up R (ρ.set n (.b b)) σ
 |.call f args caps bx n ks res bx' kr ksp bxp kp,ρ,σ=>∀ν:Nat->Nat,∃R':Out->List (Ref×List A)->Prop,
   Holds P f (args.map (fun a=>(a.den ρ ⟨up,ν⟩ gen0).lift)++caps.map (fun r=>.ptr (.up (r.den ⟨up,ν⟩)) 0)) (Zao (Zab ρ ⟨up,ν⟩ bx)) R'/\
   (∀v H',R' (.ret v) H'->exK ks n ρ fun ρ'=>v=res.den ρ' ⟨up,ν⟩ gen0/\H'=Zao (Zab ρ' ⟨up,ν⟩ bx')/\kr.den P up R ρ' σ)/\
   (∀v H',R' (.pan v) H'->exK ksp (n+1) (ρ.set n (.d (.lit v))) fun ρ'=>H'=Zao (Zab ρ' ⟨up,ν⟩ bxp)/\kp.den P up R ρ' σ)
 |.call2 f args caps bx n ks res bx' kr ks2 bx2 kr2 ksp bxp kp,ρ,σ=>∀ν:Nat->Nat,∃R':Out->List (Ref×List A)->Prop,
   Holds P f (args.map (fun a=>(a.den ρ ⟨up,ν⟩ gen0).lift)++caps.map (fun r=>.ptr (.up (r.den ⟨up,ν⟩)) 0)) (Zao (Zab ρ ⟨up,ν⟩ bx)) R'/\
   (∀v H',R' (.ret v) H'->(exK ks n ρ fun ρ'=>v=res.den ρ' ⟨up,ν⟩ gen0/\H'=Zao (Zab ρ' ⟨up,ν⟩ bx')/\kr.den P up R ρ' σ)\/
    (exK ks2 n ρ fun ρ'=>v=res.den ρ' ⟨up,ν⟩ gen0/\H'=Zao (Zab ρ' ⟨up,ν⟩ bx2)/\kr2.den P up R ρ' σ))/\
   (∀v H',R' (.pan v) H'->exK ksp (n+1) (ρ.set n (.d (.lit v))) fun ρ'=>H'=Zao (Zab ρ' ⟨up,ν⟩ bxp)/\kp.den P up R ρ' σ)
 |.dcall f args caps bx n ks res k,ρ,σ=>exK ks n ρ fun ρ'=>(∀ν:Nat->Nat,Holds P f (args.map (fun a=>(a.den ρ ⟨up,ν⟩ gen0).lift)++caps.map (fun r=>.ptr (.up (r.den ⟨up,ν⟩)) 0)) (Zao (Zab ρ ⟨up,ν⟩ bx))
   (Zpq (Zao (Zab ρ ⟨up,ν⟩ bx)) (res.den ρ' ⟨up,ν⟩ gen0)))/\k.den P up R ρ' σ
 |.loop n j args vs,ρ,σ=>exL vs.ksL fun Is=>Zb7 Is j (args.map fun e=>e.den ρ)/\vs.denV P up R 0 Is n ρ σ
 |.cut n body vs,ρ,σ=>exC vs.ksL fun Is=>body.den P up R ρ (σ++[fun j a=>Zb7 Is j a])/\vs.denC P up R 0 Is n ρ σ
 |.again lvl j args,ρ,σ=>(match σ[lvl]? with|some h=>h j (args.map fun e=>e.den ρ)|none=>False)
 |_,_,_=>False
def T.denV(P:Program)(up:Nat->Ref)(R:Out->List (Ref×List A)->Prop):T->Nat->Invs->Nat->Env->Sig->Prop
 |.vcons ks body rest,j,Is,n,ρ,σ=>(allK ks n ρ [] fun ρ' vals=>Zb7 Is j vals->body.den P up R ρ' (σ++[fun j' a=>Zb7 Is j' a/\Zdy Is j' a<Zdy Is j vals]))/\rest.denV P up R (j+1) Is n ρ σ
 |_,_,_,_,_,_=>True
def T.denC(P:Program)(up:Nat->Ref)(R:Out->List (Ref×List A)->Prop):T->Nat->Invs->Nat->Env->Sig->Prop
 |.vcons ks body rest,j,Is,n,ρ,σ=>(allK ks n ρ [] fun ρ' vals=>Zb7 Is j vals->body.den P up R ρ' σ)/\rest.denC P up R (j+1) Is n ρ σ
 |_,_,_,_,_,_=>True
end
inductive Re where
 |nrm|exit (id:Nat)|ret|pan (v:E)
structure Opt where
 own:List (Nat×Nat):=[]
 grow:List (Nat×Nat):=[]
 cuts:List Nat:=[]
 lat:List Nat:=[]
 lose:List Nat:=[]
 fresh:List Nat:=[]
 ags:List (Nat×(Nat×Nat×Nat)):=[]
 poke:List Nat:=[]
 com:List (Nat×Nat×Nat):=[]
 dat:List Nat:=[]
 two:List (Nat×Nat):=[]
 zres:List Nat:=[]
def Zku(ops:Array Oper)(rs:RSt)(o:Oper):Option E:=
 match o.guard with
 |none=>some (.bool true)
 |some (j,want)=>(match ops[j]? with
  |some q=>(match q.dst with
   |some t=>(match rs.tm.get t with
    |.c (.o1 .cb e)=>some (if want then e else m1 .not e)
    |.gv g (.c (.o1 .cb e))=>some (m2 .and g (if want then e else m1 .not e))
    |.tup []=>some (.bool false)
    |_=>none)
   |none=>none)
  |none=>none)
def E.isT:E->Bool|.bool true=>true|_=>false
def E.isF:E->Bool|.bool false=>true|_=>false
def asks(G:E):List E->RSt->(RSt->T)->T
 |[],rs,K=>K rs
 |e::l,rs,K=>
  if e.isT||rs.known.any (fun k=>k.beq e)then asks G l rs K
  else if G.isT then .need e (asks G l {rs with known:=e::rs.known} K)
  else
   let e':=m2 .or (m1 .not G) e
   if rs.known.any (fun k=>k.beq e')then asks G l rs K else .need e' (asks G l {rs with known:=e'::rs.known} K)
def Zkv(known:List E)(e:E):E:=
 if known.any (fun k=>k.beq e)then .bool true else if known.any (fun k=>k.beq (.o1 .not e))then .bool false else e
def selT(i:E)(K:RSt->RA->T):Nat->List RA->RSt->T
 |_,[],_=>.bad 1
 |j,[v],rs=>if(Zkv rs.known (m2 .eqI i (.int j))).isT then K rs v else .need (m2 .eqI i (.int j)) (K {rs with known:=m2 .eqI i (.int j)::rs.known} v)
 |j,v::l,rs=>
  if(Zkv rs.known (m2 .eqI i (.int j))).isT then K rs v
  else if(Zkv rs.known (m2 .eqI i (.int j))).isF then selT i K (j+1) l rs
  else .fork (m2 .eqI i (.int j)) (K (rs.assume (m2 .eqI i (.int j)) true) v) (selT i K (j+1) l (rs.assume (m2 .eqI i (.int j)) false))
def Zqa:Value->RA
 |.slice none 0 0=>.zs .lnil
 |v=>.c (Zec v)
def rbox(P:Program)(el:TypeId)(rs:RSt)(r:RA):Option (List E×List RA):=
 match r with
 |.agg row=>(match szOf P el with
  |some (n,_)=>(match cellsOf n row with|some (l,cs)=>some (l,cs.map .c)|none=>none)
  |none=>none)
 |.ptr q o=>some ([],[.ptr q o])
 |.fn f c=>some ([],[.fn f c])
 |.zs es=>some ([],[.zs es])
 |r=>(match resc rs r with|some x=>some ([],[.c x])|none=>none)
def rnew(c:Cfg)(rs:RSt)(o:Oper):Option (List E×List RA):=
 match o.op with
 |.alloc t=>(match Zc8 c.P t with
  |some z=>if z.all isCell then some ([],z.map Zqa)else none
  |none=>none)
 |.box el x=>rbox c.P el rs (rev rs x)
 |_=>none
def Zqb(c:List RA)(off:Nat)(vs:List RA):List RA:=c.take off++vs++c.drop (off+vs.length)
def Zij(es nw:E):E:=match nw with|.lnil=>es|_=>m2 .lcat es nw
theorem Zc4(es nw:E)(ρ:Env):((Zij es nw).den ρ).lst=(es.den ρ).lst++(nw.den ρ).lst:=by
 unfold Zij;split
 ·simp[E.den,Dat.lst]
 ·rw[Zah];rfl
def apR(p:Bool)(m:Nat)(old new:E):RA:=if p then .own m old new else .own m (m2 .lcat old new) .lnil
theorem Zqc(p:Bool)(m0:Nat)(old new:E)(ρ:Env)(m:Nm)(gen:Nat->Nat):(apR p m0 old new).den ρ m gen=.own m0 (Za4 p (old.den ρ).lst (new.den ρ).lst).1 (Za4 p (old.den ρ).lst (new.den ρ).lst).2:=by
 unfold apR Za4;cases p
 ·simp[RA.den,Zah,sem2,Dat.lst_l,E.den]
 ·simp[RA.den]
def apO(p:Bool)(m:Nat)(es nw new:E):RA:=if p then .own m es (Zp4 nw new)else .own m (m2 .lcat (Zij es nw) new) .lnil
theorem Ztu(p:Bool)(m0:Nat)(es nw new:E)(ρ:Env)(m:Nm)(gen:Nat->Nat):(apO p m0 es nw new).den ρ m gen=.own m0 (Zaq p (es.den ρ).lst (nw.den ρ).lst (new.den ρ).lst).1 (Zaq p (es.den ρ).lst (nw.den ρ).lst (new.den ρ).lst).2:=by
 unfold apO Zaq;cases p
 ·simp[RA.den,Zah,sem2,Dat.lst_l,E.den,Zc4]
 ·simp[RA.den,Zef]
theorem Ztv(p:Bool)(m0:Nat)(es nw new:E):(apO p m0 es nw new).ali=none:=by unfold apO;cases p<;>rfl
theorem Ztw(p:Bool)(m0:Nat)(old new:E):(apR p m0 old new).ali=none:=by unfold apR;cases p<;>rfl
def roth(c:Cfg)(ops:Array Oper)(rs:RSt)(o:Oper):Option (List E×RSt):=
 match o.dst,o.op with
 |none,.store t p x=>(match rev rs p,szOf c.P t with
  |.ptr r off,some (n,ag)=>(match Zb3 rs.K r with
   |some cs=>(match x,rev rs x with
    |.tmp u,.own m es nw=>if n=1/\ag=false/\off<cs.length then some ([],(rs.put u .any).setK r (cs.set off (.own m (Zij es nw) .lnil)))else none
    |_,v=>(match rbox c.P t rs v with
     |some (l,vs)=>if vs.length=n/\off+n<=cs.length then some (l,rs.setK r (Zqb cs off vs))else none
     |none=>none))
   |none=>none)
  |_,_=>none)
 |some d,.move (.tmp u)=>(match rev rs (.tmp u)with
  |.own sz es nw=>if Zoe ops (some d)then some ([],(rs.put u .any).put d (.own sz es nw))else none
  |_=>none)
 |some d,.assign (.tmp u)=>(match rev rs (.tmp u)with
  |.own sz es nw=>some ([],(rs.put u .any).put d (.own sz es nw))
  |_=>none)
 |some d,.load t p=>if Zoe ops (some d)then(match rev rs p,szOf c.P t with
   |.ptr r off,some (_,false)=>(match Zb3 rs.K r with
    |some cs=>(match cs[off]? with
     |some (.own sz es nw)=>some ([],(rs.setK r (cs.set off .any)).put d (.own sz es nw))
     |_=>none)
    |none=>none)
   |_,_=>none)else none
 |some d,.call q=>(match q.callee,q.args.toList,q.argTypes.toList with
  |.builtin .append,[.tmp u,x],[t,t2]=>(match slOf c.P t,slOf c.P t2,Zch rs (rev rs x),rev rs (.tmp u)with
   |some (m,by_,_,_),some _,some (l,e2),.own sz es nw=>if sz=m then
     some (l++[m1 (.flat m) e2,m2 .leI (m2 .mul (m2 .add (m1 .llen (Zij es nw)) (m1 .llen e2)) (.int by_)) (.int 140737488355328),m2 .leI (m2 .add (m1 .llen (Zij es nw)) (m1 .llen e2)) (.int 1099511627776)],
      (rs.put u .any).put d (apO (Zg6 ops (some d)) m es nw e2))else none
   |some (m,by_,_,_),some _,some (l,.o2 .lcons z e2),.zs es=>
     some (l++[m1 (.flat m) es,m1 (.flat m) (.o2 .lcons z e2),m2 .leI (m2 .mul (m2 .add (m1 .llen es) (m1 .llen (.o2 .lcons z e2))) (.int by_)) (.int 140737488355328),m2 .leI (m2 .add (m1 .llen es) (m1 .llen (.o2 .lcons z e2))) (.int 1099511627776)],
      rs.put d (apR (Zg6 ops (some d)) m es (.o2 .lcons z e2)))
   |_,_,_,_=>none)
  |_,_,_=>none)
 |_,_=>none
def zsC:RA->RA
 |.c (.val (.slice none 0 0))=>.zs .lnil
 |r=>r
def Zvc:RA->Bool
 |.c (.val (.slice none 0 0))=>true
 |_=>false
def rstn(c:Cfg)(rs:RSt)(o:Oper):Option (List E×RSt):=
 match o.dst,o.op with
 |none,.store t p x=>(match rev rs p,szOf c.P t,rev rs x with
  |.ptr r off,some (n,_),.agg row=>(match Zb3 rs.K r with
   |some cs=>(match rbox c.P t rs (.agg row)with
    |some (l,vs)=>if vs.any Zvc=true/\vs.length=n/\off+n<=cs.length then some (l,rs.setK r (Zqb cs off (vs.map zsC)))else none
    |none=>none)
   |none=>none)
  |_,_,_=>none)
 |_,_=>none
def rags(c:Cfg)(fresh:List Nat)(rs:RSt)(o:Oper):Option (List E×RSt):=
 match o.dst,o.op with
 |some d,.buildSlice t n parts=>if fresh.contains d then(match slOf c.P t,Zgo (.bool true) rs (match slOf c.P t with|some (m,_)=>m|none=>0) 0 parts.toList with
   |some (m,_,_,_),some (l,e)=>if(parts.toList.length=0/\n=0)/\d<c.N then some (l,rs.put d (.zs .lnil))else if(parts.toList.length=n/\n*m<=16777216)/\d<c.N then some (l,rs.put d (.own m .lnil e))else none
   |_,_=>none)else none
 |some d,.build T ps=>(match ps.toList with
  |[(i,.tmp u)]=>(match rs.tm.get u,Zc8 c.P T,Zck c.P T i with
   |.own m es (.o2 .lcons z q),some zz,some (off,1)=>if(zz.all isCell=true/\Zom c.P T=true)/\off<zz.length/\d<c.N then
     some ([],(rs.put u .any).put d (.ags ((zz.take off).map Zec) m es (.o2 .lcons z q) ((zz.drop (off+1)).map Zec)))else none
   |_,_,_=>none)
  |_=>none)
 |none,.store t p (.tmp u)=>(match rs.tm.get u,rev rs p,szOf c.P t with
  |.ags pre m es nw post,.ptr r off,some (n,_)=>(match Zb3 rs.K r with
   |some cs=>if pre.length+1+post.length=n/\off+n<=cs.length then
     some ([],(rs.put u .any).setK r ((Zqb cs off (pre.map .c++.any::post.map .c)).set (off+pre.length) (.own m es nw)))else none
   |none=>none)
  |_,_,_=>none)
 |some d,.move (.tmp u)=>if fresh.contains d then(match rs.tm.get u with
   |.own sz es nw=>if d<c.N then some ([],(rs.put u .any).put d (.own sz es nw))else none
   |_=>none)else none
 |some d,.load t p=>if fresh.contains d then(match rev rs p,szOf c.P t with
   |.ptr r off,some (_,false)=>(match Zb3 rs.K r with
    |some cs=>(match cs[off]? with
     |some (.own sz es nw)=>if d<c.N then some ([],(rs.setK r (cs.set off .any)).put d (.own sz es nw))else none
     |_=>none)
    |none=>none)
   |_,_=>none)else none
 |_,_=>none
def rpre(c:Cfg)(fresh:List Nat)(rs:RSt)(o:Oper):Option (List E×RSt):=
 match rstn c rs o with
 |some x=>some x
 |none=>rags c fresh rs o
def Zr4(c:Cfg)(ops:Array Oper)(rs:RSt)(o:Oper):Option (List E×E×RA×RA):=
 match o.dst,o.op with
 |some d,.call q=>(match q.callee,q.args.toList,q.argTypes.toList with
  |.builtin .append,[.tmp u,x],[t,t2]=>(match slOf c.P t,slOf c.P t2,Zch rs (rev rs x),rev rs (.tmp u)with
   |some (m,by_,_,_),some _,some (l,e2),.zs es=>
     some (l++[m1 (.flat m) es,m1 (.flat m) e2,m2 .leI (m2 .mul (m2 .add (m1 .llen es) (m1 .llen e2)) (.int by_)) (.int 140737488355328),m2 .leI (m2 .add (m1 .llen es) (m1 .llen e2)) (.int 1099511627776)],
      m2 .eqI (m1 .llen e2) (.int 0),.zs es,apR (Zg6 ops (some d)) m es e2)
   |_,_,_,_=>none)
  |_,_,_=>none)
 |_,_=>none
def rmk(c:Cfg)(rs:RSt)(T:TypeId)(x y:Operand):Option (List E×RA):=
 match slOf c.P T,asI (revG (.bool true) rs x),asI (revG (.bool true) rs y)with
 |some (m,by_,_,e),some (_,l),some (_,n)=>(match Zc8 c.P e with
  |some z=>if z.all isCell then some ([m2 .leI (.int 0) l,m2 .leI l n,m2 .leI (m2 .mul (.int by_) n) (.int 281474976710656),m2 .leI n (.int 9223372036854775807)],.own m .lnil (m2 .rpt l (E.ofCells (z.map Zec))))else none
  |none=>none)
 |_,_,_=>none
def rpst(c:Cfg)(rs:RSt)(o:Oper):Option (List E×RSt):=
 match o.op with
 |.store t (.tmp p) x=>(match rs.tm.get p,szOf c.P t with
  |.opt u mm i j,some (n,_)=>(match rs.tm.get u,rrow rs n (rev rs x)with
   |.own sz .lnil nw,some (l,row)=>if sz=mm/\j+n<=mm/\u<c.N then
     some (l++[m2 .leI (.int 0) i,m2 .ltI i (m1 .llen nw)],rs.put u (.own mm .lnil (m3 .lset nw i (m2 (.rset j) (m2 .at nw i) row))))else none
   |.own sz es (.o2 .lcons z q),some (l,row)=>if(sz=mm/\j+n<=mm/\u<c.N)/\i.beq (m1 .llen es)=true then
     some (l,rs.put u (.own mm es (.o2 .lcons (m2 (.rset j) z row) q)))else none
   |_,_=>none)
  |_,_=>none)
 |_=>none
def Zqd(P:Program)(t:TypeId)(n:Nat):RA×List Dk:=
 match szOf P t with
 |some (_,true)=>(.agg (.var n),[.r])
 |_=>(match kdOf P t with
  |.int k=>(.c (.o1 (.ci k) (.var n)),[.i])
  |.bool=>(.c (.o1 .cb (.o1 .tb (.var n))),[.b])
  |.str=>(.c (.o1 .cs (.var n)),[.s])
  |.slc=>(.c (.o1 .cl (.var n)),[.l])
  |.val=>(.c (.var n),[.d]))
def Zsu(P:Program):List TypeId->Nat->List (Bool×E)×List Dk
 |[],_=>([],[])
 |t::l,n=>match Zqd P t n,Zsu P l (n+1)with
  |(.agg e,k),(a,b)=>((true,e)::a,k++b)
  |(.c e,k),(a,b)=>((false,e)::a,k++b)
  |_,_=>([],[])
def Zoy:List (Nat×Nat)->Nat->Option Nat
 |[],_=>none
 |(a,b)::l,k=>if k=a then some b else Zoy l k
def Zsv:List (Nat×(Nat×Nat×Nat))->Nat->Option (Nat×Nat×Nat)
 |[],_=>none
 |(a,b)::l,k=>if k=a then some b else Zsv l k
def Zft(c:Cfg)(op:Opt)(f:Nat)(n:Nat):Option (RA×List Dk):=
 match c.P.funcs[f]? with
 |some fn=>(match fn.resultTypes.toList with
  |[t]=>(match Zoy op.own f with
   |some sz=>some (.own sz (.var n) .lnil,[.l])
   |none=>(match Zsv op.ags f with
    |some (a,sz,b)=>some (.ags ((List.range a).map fun i=>.var (n+i)) sz .lnil (.o2 .lcons (.var (n+a)) .lnil) ((List.range b).map fun i=>.var (n+a+1+i)),List.replicate a .d++.r::List.replicate b .d)
    |none=>if op.zres.contains f then some (.zs .lnil,[])else some (Zqd c.P t n)))
  |ts=>let x:=Zsu c.P ts n;some (.tup x.1,x.2))
 |none=>none
def Zhw(g:Option Nat)(x:RA)(n:Nat):Option (RA×List Dk):=
 match x with
 |.c (.o1 (.ci k) _)=>some (.c (.o1 (.ci k) (.var n)),[.i])
 |.c (.o1 .cb _)=>some (.c (.o1 .cb (.o1 .tb (.var n))),[.b])
 |.c (.o1 .cs _)=>some (.c (.o1 .cs (.var n)),[.s])
 |.c (.o1 .cl _)=>some (.c (.o1 .cl (.var n)),[.l])
 |.c _=>some (.c (.var n),[.d])
 |.own sz _ _=>some (.own sz (.var n) .lnil,[.l])
 |.zs _=>(match g with
  |some sz=>some (.own sz (.var n) .lnil,[.l])
  |none=>some (.zs (.var n),[.l]))
 |.ptr r o=>some (.ptr r o,[])
 |.fn f l=>some (.fn f l,[])
 |_=>none
def Ziw(g:Option Nat):List RA->Nat->Option (List RA×List Dk)
 |[],_=>some ([],[])
 |x::l,n=>match Zhw g x n with
  |some (a,k)=>(match Ziw g l (n+k.length)with
   |some (b,ks)=>some (a::b,k++ks)
   |none=>none)
  |none=>none
def Zvy(b:Bool):RA->RA
 |.own sz a c=>if b then .any else .own sz a c
 |.zs a=>if b then .any else .zs a
 |x=>x
def Zoz(b:Bool)(x:RA)(n:Nat):Option (RA×List Dk):=
 match Zvy b x with
 |.any=>some (.any,[])
 |y=>Zhw none y n
def Zhx(b:Bool):List RA->Nat->Option (List RA×List Dk)
 |[],_=>some ([],[])
 |x::l,n=>match Zoz b x n with
  |some (a,k)=>(match Zhx b l (n+k.length)with
   |some (r,ks)=>some (a::r,k++ks)
   |none=>none)
  |none=>none
def Zfu(b:Bool):List (RRef×List RA)->Nat->Option (List (RRef×List RA)×List Dk)
 |[],_=>some ([],[])
 |(r,c)::l,n=>match Zhx b c n with
  |some (a,k)=>(match Zfu b l (n+k.length)with
   |some (q,ks)=>some ((r,a)::q,k++ks)
   |none=>none)
  |none=>none
def Zgz(g:Option Nat):List (RRef×List RA)->Nat->Option (List (RRef×List RA)×List Dk)
 |[],_=>some ([],[])
 |(r,c)::l,n=>match Ziw g c n with
  |some (a,k)=>(match Zgz g l (n+k.length)with
   |some (b,ks)=>some ((r,a)::b,k++ks)
   |none=>none)
  |none=>none
def Zix:RA->List RRef
 |.ptr r _=>[r]
 |.fn _ l=>l
 |_=>[]
def Zgp(K:List (RRef×List RA)):Nat->List RRef->List RRef->List RRef
 |0,_,done=>done
 |k+1,todo,done=>match todo with
  |[]=>done
  |r::l=>if done.contains r then Zgp K k l done else(match Zb3 K r with
   |some c=>Zgp K k (c.flatMap Zix++l) (done++[r])
   |none=>Zgp K k l (done++[r]))
def Zb8(K:List (RRef×List RA)):List RRef->Option (List (RRef×List RA))
 |[]=>some []
 |r::l=>match Zb3 K r,Zb8 K l with
  |some c,some b=>some ((r,c)::b)
  |_,_=>none
def Zkw(rs:RSt):List Operand->Option (List RA)
 |[]=>some []
 |x::l=>match rval rs (rev rs x),Zkw rs l with
  |some v,some r=>some (v::r)
  |_,_=>none
def Zbt(K:List (RRef×List RA)):List (RRef×List RA)->List (RRef×List RA)
 |[]=>K
 |(r,c)::l=>Zbt (putK K r c) l
def RA.lt(n:Nat):RA->Bool
 |.c x=>x.lt n
 |.agg x=>x.lt n
 |.tup l=>l.all fun x=>x.2.lt n
 |.elp x _=>x.lt n
 |.own _ a b=>a.lt n&&b.lt n
 |.zs a=>a.lt n
 |.opt _ _ i _=>i.lt n
 |.gv g v=>g.lt n&&v.lt n
 |.ags pre _ a b post=>pre.all (E.lt n)&&(post.all (E.lt n)&&(a.lt n&&b.lt n))
 |_=>true
def Tr.lt(n:Nat):Tr->Bool
 |.nil=>true
 |.node v l r=>v.lt n&&(l.lt n&&r.lt n)
def RSt.lt(rs:RSt):Bool:=rs.tm.lt rs.nv&&(rs.K.all (fun x=>x.2.all (RA.lt rs.nv))&&rs.known.all (E.lt rs.nv))
def RA.okRes:RA->Bool
 |.c _|.agg _|.tup _|.own _ _ .lnil|.ags _ _ _ _ _|.zs _=>true
 |_=>false
def RA.okCell:RA->Bool
 |.c _|.own _ _ .lnil|.zs _|.ptr _ _|.fn _ _=>true
 |_=>false
def RA.okCellP:RA->Bool
 |.any=>true
 |x=>x.okCell
def Ztx(op:Opt)(d:Nat):Opt:=if op.dat.contains (d+1000)then{op with ags:=[],own:=[],zres:=[]}else if op.fresh.contains d then op else{op with ags:=[]}
def callT(c:Cfg)(op:Opt)(rs:RSt)(o:Oper)(q:Call)(Kr:RSt->T)(Kp:E->RSt->T):T:=
 match o.dst,q.callee with
 |some d,.value fx=>if d<c.N then(match rev rs fx,Zkw rs q.args.toList with
  |.fn F caps,some vals=>(match Zb8 rs.K (Zgp rs.K 64 (vals.flatMap Zix++caps) [])with
   |some bx=>(match Zft c (Ztx op d) F rs.nv with
    |some (res,k1)=>(match Zgz (Zoy op.grow F) bx (rs.nv+k1.length),Zfu (op.lose.contains F) bx (rs.nv+1)with
     |some (bx',k2),some (bxp,k3)=>
      if rs.lt&&decide ((bx.map (·.1)).Nodup)&&decide (bx'.map (·.1)=bx.map (·.1))&&decide (bxp.map (·.1)=bx.map (·.1))&&res.okRes&&vals.all RA.plain&&bx.all (fun x=>x.2.all RA.okCell)&&(bx'.all fun x=>x.2.all RA.okCell)&&(bxp.all fun x=>x.2.all RA.okCellP)then
       .call F vals caps bx rs.nv (k1++k2) res bx' (Kr ({rs with K:=Zbt rs.K bx',nv:=rs.nv+k1.length+k2.length}.put d res)) k3 bxp (Kp (.var rs.nv) {rs with K:=Zbt rs.K bxp,nv:=rs.nv+1+k3.length})
      else .bad 10
     |_,_=>.bad 11)
    |none=>.bad 12)
   |none=>.bad 13)
  |_,_=>.bad (14000+d))else .bad 15
 |_,_=>.bad (16000+o.dst.getD 0)
def Zo0(x:RA)(n:Nat):Option (RA×List Dk):=
 match x with
 |.zs es=>some (.zs es,[])
 |x=>Zhw none x n
def Zhy:List RA->Nat->Option (List RA×List Dk)
 |[],_=>some ([],[])
 |x::l,n=>match Zo0 x n with
  |some (a,k)=>(match Zhy l (n+k.length)with
   |some (b,ks)=>some (a::b,k++ks)
   |none=>none)
  |none=>none
def Zkx:List (RRef×List RA)->Nat->Option (List (RRef×List RA)×List Dk)
 |[],_=>some ([],[])
 |(r,c)::l,n=>match Zhy c n with
  |some (a,k)=>(match Zkx l (n+k.length)with
   |some (b,ks)=>some ((r,a)::b,k++ks)
   |none=>none)
  |none=>none
def Zvz(K:List (RRef×List RA)):Bool:=K.any fun x=>x.2.any fun y=>match y with|.zs _=>true|_=>false
def Zv0(op:Opt)(rs:RSt)(q:Call):Bool:=
 match q.callee with
 |.value fx=>(match rev rs fx,Zkw rs q.args.toList with
  |.fn F caps,some vals=>(Zoy op.two F).isSome&&(match Zb8 rs.K (Zgp rs.K 64 (vals.flatMap Zix++caps) [])with
   |some bx=>Zvz bx
   |none=>false)
  |_,_=>false)
 |_=>false
def Zqe(c:Cfg)(op:Opt)(rs:RSt)(o:Oper)(q:Call)(Kr:RSt->T)(Kp:E->RSt->T):T:=
 match o.dst,q.callee with
 |some d,.value fx=>if d<c.N then(match rev rs fx,Zkw rs q.args.toList with
  |.fn F caps,some vals=>(match Zb8 rs.K (Zgp rs.K 64 (vals.flatMap Zix++caps) [])with
   |some bx=>(match Zft c (Ztx op d) F rs.nv with
    |some (res,k1)=>(match Zkx bx (rs.nv+k1.length),Zgz (Zoy op.two F) bx (rs.nv+k1.length),Zfu (op.lose.contains F) bx (rs.nv+1)with
     |some (bx',k2),some (bx2,k4),some (bxp,k3)=>
      if rs.lt&&decide ((bx.map (·.1)).Nodup)&&decide (bx'.map (·.1)=bx.map (·.1))&&decide (bx2.map (·.1)=bx.map (·.1))&&decide (bxp.map (·.1)=bx.map (·.1))&&res.okRes&&vals.all RA.plain&&bx.all (fun x=>x.2.all RA.okCell)&&(bx'.all fun x=>x.2.all RA.okCell)&&(bx2.all fun x=>x.2.all RA.okCell)&&(bxp.all fun x=>x.2.all RA.okCellP)then
       .call2 F vals caps bx rs.nv (k1++k2) res bx' (Kr ({rs with K:=Zbt rs.K bx',nv:=rs.nv+k1.length+k2.length}.put d res))
        (k1++k4) bx2 (Kr ({rs with K:=Zbt rs.K bx2,nv:=rs.nv+k1.length+k4.length}.put d res)) k3 bxp (Kp (.var rs.nv) {rs with K:=Zbt rs.K bxp,nv:=rs.nv+1+k3.length})
      else .bad 10
     |_,_,_=>.bad 11)
    |none=>.bad 12)
   |none=>.bad 13)
  |_,_=>.bad (14000+d))else .bad 15
 |_,_=>.bad (16000+o.dst.getD 0)
def Zr5(N:Nat)(o:Oper):Bool:=match o.dst with|some d=>decide (d<N)|none=>true
def Zo1(c:Cfg)(op:Opt)(ops:Array Oper)(o:Oper)(rs:RSt)(Kr:RSt->T)(Kp:E->RSt->T):T:=
 match rpre c op.fresh rs o with
 |some (l,rs')=>asks (.bool true) l rs (fun rs0=>Kr {rs' with known:=rs0.known})
 |none=>match roth c ops rs o with
 |some (l,rs')=>if Zr5 c.N o then asks (.bool true) l rs (fun rs0=>Kr {rs' with known:=rs0.known})else .bad 20
 |none=>(match o.dst with
  |some d=>if d<c.N then(match rnew c rs o with
   |some (l,cs)=>if cs.all fun x=>!x.names d&&x.okCell then asks (.bool true) l rs (fun rs0=>Kr ({rs with known:=rs0.known}.alloc d cs))else .bad 21
   |none=>(match Zhu c (.bool true) rs o d with
    |some (l,.val v)=>asks (.bool true) l rs (fun rs0=>Kr ({rs with known:=rs0.known}.put d v))
    |some (l,.sel i vs)=>asks (.bool true) l rs (fun rs0=>selT i (fun rs1 v=>Kr (rs1.put d v)) 0 vs {rs with known:=rs0.known})
    |none=>(match Zr4 c ops rs o with
     |some (l,e,v1,v2)=>asks (.bool true) l rs (fun rs0=>.fork e (Kr ({rs with known:=rs0.known}.put d v1)) (Kr ({rs with known:=rs0.known}.put d v2)))
     |none=>(match o.op with
      |.call q=>if Zv0 op rs q then Zqe c op rs o q Kr Kp else callT c op rs o q Kr Kp
      |.makeSlice T x y=>(match rmk c rs T x y with
       |some (l,v)=>asks (.bool true) l rs (fun rs0=>Kr ({rs with known:=rs0.known}.put d v))
       |none=>.bad 26)
      |.binOp .eql t x (.const (.slice none _ _)) _=>(match Zch rs (rev rs x),slOf c.P t with
       |some (l,e),some _=>if rs.lt then asks (.bool true) l rs (fun _=>.hav rs.nv (m2 .eqI (m1 .llen e) (.int 0)) (Kr ({rs with nv:=rs.nv+1}.put d (.c (.o1 .cb (.o1 .tb (.var rs.nv)))))))else .bad 28
       |_,_=>.bad 29)
      |_=>.bad (22000+d)))))else .bad 23
  |none=>(match o.op with
   |.panic x=>(match rev rs x with
    |.c (.o1 (.mkI t) y)=>Kp (.o1 (.mkI t) y) rs
    |.c (.o1 (.mkA t) y)=>Kp (.o1 (.mkA t) y) rs
    |.c (.val (.iface t v))=>Kp (.val (.iface t v)) rs
    |_=>.bad 24)
   |_=>(match rpst c rs o with
    |some (l,rs')=>asks (.bool true) l rs (fun rs0=>Kr {rs' with known:=rs0.known})
    |none=>.bad 25)))
def Zky:E->RSt->(RSt->T)->(RSt->T)->T
 |.o2 .and a b,rs,kt,kf=>.fork a (Zky b (rs.assume a true) kt kf) (kf (rs.assume a false))
 |.o2 .or a b,rs,kt,kf=>.fork a (kt (rs.assume a true)) (Zky b (rs.assume a false) kt kf)
 |e,rs,kt,kf=>.fork e (kt (rs.assume e true)) (kf (rs.assume e false))
def opsT(c:Cfg)(op:Opt)(ops:Array Oper)(K:Re->RSt->T):List Oper->RSt->T
 |[],rs=>K .nrm rs
 |o::l,rs=>match Zku ops rs o with
  |none=>.bad 30
  |some G0=>
   let G:=Zkv rs.known G0
   let skip:=fun rs:RSt=>(match o.dst with
    |some d=>if d<c.N then opsT c op ops K l (rs.put d (.tup []))else .bad 31
    |none=>opsT c op ops K l rs)
   if G.isF then skip rs
   else if G.isT then Zo1 c op ops o rs (opsT c op ops K l) (fun v rs=>K (.pan v) rs)
   else(match o.dst with
    |some d=>(match Zhu c G rs o d with
     |some (n,.val v)=>if d<c.N/\v.ali≠some d then asks G n rs (fun rs0=>opsT c op ops K l ({rs with known:=rs0.known}.put d (.gv G v)))else .bad 32
     |_=>Zky G rs (fun rs=>Zo1 c op ops o rs (opsT c op ops K l) (fun v rs=>K (.pan v) rs)) skip)
    |none=>Zky G rs (fun rs=>Zo1 c op ops o rs (opsT c op ops K l) (fun v rs=>K (.pan v) rs)) skip)
end Go.Rf
end
section
namespace Go.Rf
open Go.Ab
section
variable {ρ:Env} {m:Nm} {rs:RSt} {s:St} {G:E} {P:Program} {up:Nat->Ref} {R:Out->List (Ref×List A)->Prop} {σ:Sig}
theorem Zgq{e:E}(h:e.isT=true):e=.bool true:=by unfold E.isT at h;split at h<;>first|rfl|cases h
theorem Znf{e:E}(h:e.isF=true):e=.bool false:=by unfold E.isF at h;split at h<;>first|rfl|cases h
theorem Zdp{e:E}{l:List E}(hk:∀x∈l,(x.den ρ).bool=true)(h:(l.any fun k=>k.beq e)=true):(e.den ρ).bool=true:=by
 obtain⟨x,hx,hb⟩:=List.any_eq_true.1 h;rw[<-E.beq_eq hb];exact hk x hx
theorem Za0{K:RSt->T}:∀{l:List E}{rs:RSt},(∀x∈rs.known,(x.den ρ).bool=true)->(asks G l rs K).den P up R ρ σ->
 ∃kn:List E,(∀x∈kn,(x.den ρ).bool=true)/\((G.den ρ).bool=true->Nds ρ l)/\(K {rs with known:=kn}).den P up R ρ σ
 |[],rs,hk,h=>⟨rs.known,hk,fun _=>Nds.nil,h⟩
 |e::l,rs,hk,h=>by
  unfold asks at h;split at h
  ·rename_i hc;obtain⟨kn,h1,h2,h3⟩:=Za0 hk h;refine⟨kn,h1,fun hg=>Zaa.2 ⟨?_,h2 hg⟩,h3⟩;rcases Bool.or_eq_true_iff.1 hc with hc|hc
   ·rw[Zgq hc];rfl
   ·exact Zdp hk hc
  ·split at h
   ·rename_i hG;unfold T.den at h
    have hk':∀x∈e::rs.known,(x.den ρ).bool=true:=fun x hx=>by
     rcases List.mem_cons.1 hx with rfl|hx
     ·exact h.1
     ·exact hk x hx
    obtain⟨kn,h1,h2,h3⟩:=Za0 (rs:={rs with known:=e::rs.known}) hk' h.2;exact⟨kn,h1,fun hg=>Zaa.2 ⟨h.1,h2 hg⟩,h3⟩
   ·have key:((m2 .or (m1 .not G) e).den ρ).bool=true->(G.den ρ).bool=true->(e.den ρ).bool=true:=fun h1 hg=>by
     rw[Zah,Zaf]at h1;simpa[sem2,sem1,Dat.bool_b,hg]using h1
    simp only at h;split at h
    ·rename_i hc;obtain⟨kn,h1,h2,h3⟩:=Za0 hk h;exact⟨kn,h1,fun hg=>Zaa.2 ⟨key (Zdp hk hc) hg,h2 hg⟩,h3⟩
    ·unfold T.den at h
     have hk':∀x∈m2 .or (m1 .not G) e::rs.known,(x.den ρ).bool=true:=fun x hx=>by
      rcases List.mem_cons.1 hx with rfl|hx
      ·exact h.1
      ·exact hk x hx
     obtain⟨kn,h1,h2,h3⟩:=Za0 (rs:={rs with known:=m2 .or (m1 .not G) e::rs.known}) hk' h.2;exact⟨kn,h1,fun hg=>Zaa.2 ⟨key h.1 hg,h2 hg⟩,h3⟩
theorem Den.knew(h:Den ρ m rs s){kn:List E}(hk:∀x∈kn,(x.den ρ).bool=true):Den ρ m {rs with known:=kn} s:=⟨h.tm,h.al,h.K,h.nd,hk⟩
theorem Zo2(v:Value):(Zqa v).den ρ m gen0=Zcr v:=by
 unfold Zqa;split
 ·rfl
 ·rename_i hne;simp only[RA.den,Zbr];unfold constD Zcr;split
  ·exact absurd rfl hne
  ·first
   |rfl
   |(split
     ·exact absurd rfl hne
     ·rfl)
theorem Zbc(hd:Den ρ m rs s){x:Operand}(hne:rev rs x≠ .any):s.ev x=(rev rs x).den ρ m s.gen:=by
 cases x with
 |tmp t=>exact(hd.tm t).resolve_left hne
 |const v=>exact(Zhq ρ m s.gen v).resolve_left hne
 |func f=>rfl
 |global n=>exact absurd rfl hne
theorem Zqf{el:TypeId}(hd:Den ρ m rs s){x:Operand}{l:List E}{c:List RA}(h:rbox P el rs (rev rs x)=some (l,c))(hn:Nds ρ l):s.boxC x=some (kDen ρ m c):=by
 have he:=Zbc hd (x:=x) (by intro e;rw[e]at h;simp[rbox,resc]at h);unfold rbox at h;unfold St.boxC;split at h
 ·rename_i row hrow;rw[he,hrow];split at h
  ·split at h
   ·rename_i a cs hc;cases h;simp only[RA.den,(Zdv hc hn).1,kDen,List.map_map];rfl
   ·cases h
  ·cases h
 ·rename_i q o hq;cases h;rw[he,hq];rfl
 ·rename_i f c' hq;cases h;rw[he,hq];rfl
 ·rename_i es hq;cases h;rw[he,hq];rfl
 ·rename_i h1 h2 h3 h4;split at h
  ·rename_i y hy;cases h;rw[Zkq hd he hy,he];generalize rev rs x=r at*;cases r with
   |agg row=>exact absurd rfl (h1 row)
   |ptr q o=>exact absurd rfl (h2 q o)
   |fn f c=>exact absurd rfl (h3 f c)
   |zs es=>exact absurd rfl (h4 es)
   |gv g v=>simp[resc]at hy
   |_=>rfl
  ·cases h
theorem Zl9{c:Cfg}(hd:Den ρ m rs s){o:Oper}{l:List E}{cs:List RA}(h:rnew c rs o=some (l,cs))(hn:Nds ρ l):newA c.P s o=some (kDen ρ m cs):=by
 unfold rnew at h;unfold newA;split at h
 ·rename_i t hop;rw[hop];simp only;split at h
  ·rename_i z hz;split at h
   ·rename_i hzc;cases h;simp only[hz,hzc,if_true]
    congr 1
    rw[kDen,List.map_map];exact List.map_congr_left fun v _=>(Zo2 v).symm
   ·cases h
  ·cases h
 ·rename_i el x hop;rw[hop];exact Zqf hd h hn
 ·cases h
theorem Zhz(hd:Den ρ m rs s){x:Operand}(h0:rev rs x≠ .any)(h1:∀a b c,rev rs x≠ .own a b c)(h2:∀g v,rev rs x≠ .gv g v):ownT s x=none:=by
 unfold ownT;split
 ·rename_i t;split
  ·rename_i sz es nw ht;exfalso;have he:=Zbc hd h0;rw[show s.ev (.tmp t)=s.tm t from rfl,ht]at he
   generalize rev rs (.tmp t)=r at*;cases r with
   |own a b e=>exact h1 _ _ _ rfl
   |gv g v=>exact h2 _ _ rfl
   |_=>cases he
  ·rfl
 ·rfl
theorem Zg0(hd:Den ρ m rs s){u:Nat}{sz:Nat}{es nw:E}(h:rev rs (.tmp u)=.own sz es nw):ownT s (.tmp u)=some (u,sz,(es.den ρ).lst,(nw.den ρ).lst):=by
 have he:=Zbc hd (x:=.tmp u) (by rw[h];intro e;cases e);rw[h]at he;have he:s.tm u=.own sz (es.den ρ).lst (nw.den ρ).lst:=he;simp[ownT,he]
theorem Zai(rs:RSt)(d:Nat)(x:RA):(rs.put d x).nv=rs.nv:=by unfold RSt.put RSt.kill;split<;>rfl
theorem Zae(rs:RSt)(d:Nat)(x:RA):(rs.put d x).dep=rs.dep:=by unfold RSt.put RSt.kill;split<;>rfl
theorem Zma(rs:RSt)(d:Nat)(x:RA):(rs.put d x).K=rs.K:=by simp[RSt.put,Zm9]
theorem Zjl(rs:RSt)(d:Nat)(x:List RA):(rs.alloc d x).nv=rs.nv:=by unfold RSt.alloc;simp only[Zai];rfl
theorem Zh0(rs:RSt)(d:Nat)(x:List RA):(rs.alloc d x).dep=rs.dep:=by unfold RSt.alloc;simp only[Zae];rfl
theorem Zaj(rs:RSt)(e:E)(t:Bool):(rs.assume e t).nv=rs.nv/\(rs.assume e t).dep=rs.dep:=by
 unfold RSt.assume;generalize Zc3 t e=l
 induction l generalizing rs with
 |nil=>exact⟨rfl,rfl⟩
 |cons x l ih=>exact ih (rs.assume1 x.1 x.2)
theorem Zng{kn:List E}{e:E}(hk:∀x∈kn,(x.den ρ).bool=true):((Zkv kn e).den ρ).bool=(e.den ρ).bool:=by
 unfold Zkv;split
 ·rename_i h;rw[Zdp hk h];rfl
 ·split
  ·rename_i h;have:=Zdp hk h;simp only[E.den,sem1,Dat.bool_b,Bool.not_eq_true']at this;rw[this];rfl
  ·rfl
theorem Zsw{i:E}{K:RSt->RA->T}:∀{l:List RA}{j:Nat}{rs:RSt},Den ρ m rs s->(selT i K j l rs).den P up R ρ σ->
 ∃k v rs',l[k]? =some v/\(i.den ρ).int=(j+k:Nat)/\Den ρ m rs' s/\rs'.nv=rs.nv/\rs'.dep=rs.dep/\(K rs' v).den P up R ρ σ:=by
 have hit:∀{j:Nat}{rs:RSt},Den ρ m rs s->(Zkv rs.known (m2 .eqI i (.int j))).isT=true->(i.den ρ).int=(j:Nat):=fun{j rs} hd h=>by
  have h1:=Zng (e:=m2 .eqI i (.int j)) hd.known;rw[Zgq h]at h1;have:=Zhv h1.symm;simpa[E.den,Dat.int_i]using this
 intro l
 induction l with
 |nil=>intro j rs hd h;unfold selT T.den at h;exact h.elim
 |cons v l ih=>
  intro j rs hd h;cases l with
  |nil=>
   unfold selT at h;split at h
   ·rename_i hT;exact⟨0,v,rs,rfl,by simpa using hit hd hT,hd,rfl,rfl,h⟩
   ·unfold T.den at h;have:=Zhv h.1
    have hkn:∀x∈m2 .eqI i (.int j)::rs.known,(x.den ρ).bool=true:=fun x hx=>by
     rcases List.mem_cons.1 hx with rfl|hx
     ·exact h.1
     ·exact hd.known x hx
    exact⟨0,v,{rs with known:=m2 .eqI i (.int j)::rs.known},rfl,by simpa[E.den,Dat.int_i]using this,hd.knew hkn,rfl,rfl,h.2⟩
  |cons w l=>
   unfold selT at h;split at h
   ·rename_i hT;exact⟨0,v,rs,rfl,by simpa using hit hd hT,hd,rfl,rfl,h⟩
   ·split at h
    ·obtain⟨k,u,rs',h1,h2,h3⟩:=ih hd h;exact⟨k+1,u,rs',by simpa using h1,by rw[h2];omega,h3⟩
    ·unfold T.den at h;cases hc:((m2 .eqI i (.int j)).den ρ).bool
     ·obtain⟨k,u,rs',h1,h2,h3,h4,h5,h6⟩:=ih (hd.assume hc) (h.2 hc);exact⟨k+1,u,rs',by simpa using h1,by rw[h2];omega,h3,h4.trans (Zaj ..).1,h5.trans (Zaj ..).2,h6⟩
     ·have:=Zhv hc;exact⟨0,v,_,rfl,by simpa[E.den,Dat.int_i]using this,hd.assume hc,(Zaj ..).1,(Zaj ..).2,h.1 hc⟩
theorem Zdb(c:List RA)(i:Nat)(x:RA):kDen ρ m (c.set i x)=(kDen ρ m c).set i (x.den ρ m fun _=>0):=by simp[kDen,List.map_set]
theorem Zgd(c:List RA)(i:Nat)(v:List RA):kDen ρ m (Zqb c i v)=Zd5 (kDen ρ m c) i (kDen ρ m v):=by simp[kDen,Zqb,Zd5,List.map_take,List.map_drop]
theorem Zfv{n:Nat}{e:E}(h:((m1 (.flat n) e).den ρ).bool=true):∀z∈(e.den ρ).lst,z.length=n:=Zl8 h rfl
theorem Zjm{c:Cfg}{ops:Array Oper}(hd:Den ρ m rs s){o:Oper}{l:List E}{rs':RSt}(h:roth c ops rs o=some (l,rs'))(hn:Nds ρ l)(hN:∀d,o.dst=some d->d<c.N):
 ∃s',Zbn c.P c.N ops s o=some s'/\Den ρ m rs' s'/\rs'.nv=rs.nv/\rs'.dep=rs.dep:=by
 unfold roth at h;split at h
 ·
  rename_i t p x hdst hop;split at h
  ·rename_i r off n ag hp hsz;have hep:s.ev p=.ptr (r.den m) off:=by have:=Zbc hd (x:=p) (by rw[hp];intro e;cases e);rw[hp]at this;exact this
   split at h
   ·rename_i cs hcs;have hK:=hd.look hcs;split at h
    ·rename_i u mm es nw hx;split at h
     ·rename_i hc;cases h;refine⟨(s.reset u .any).setK (r.den m) ((kDen ρ m cs).set off (.own mm ((es.den ρ).lst++(nw.den ρ).lst) [])),?_,?_,by simp[RSt.setK,Zai],by simp[RSt.setK,Zae]⟩
      ·unfold Zbn Zbk;rw[hdst,hop];simp only[hep,hsz,hK,Zg0 hd hx,hc.1,hc.2.1];rw[if_pos ⟨trivial,trivial,by simpa[kDen]using hc.2.2⟩]
      ·refine(hd.reset u .any).setK (by rw[Zma];exact hcs) ?_;rw[Zdb];simp[RA.den,Zc4,Dat.lst_l,E.den]
     ·cases h
    ·rename_i x a1 a2 hne;split at h
     ·rename_i a vs hb;split at h
      ·rename_i hc;cases h;have hany:rev rs x≠ .any:=by intro e;rw[e]at hb;simp[rbox,resc]at hb
       have hgv:∀g v,rev rs x≠ .gv g v:=by intro g v e;rw[e]at hb;simp[rbox,resc]at hb
       have hown:∀a b c,rev rs x≠ .own a b c:=by
        intro a b c e;cases x with
        |tmp u=>exact hne u a b c rfl e
        |const v=>
         simp only[rev]at e;unfold Zhp at e;split at e
         ·split at e<;>cases e
         ·cases e
         ·cases e
         ·cases e
        |func f=>cases e
        |global n=>cases e
       refine⟨s.setK (r.den m) (Zd5 (kDen ρ m cs) off (kDen ρ m vs)),?_,?_,rfl,rfl⟩
       ·unfold Zbn Zbk;rw[hdst,hop];simp only[hep,hsz,hK,Zhz hd hany hown hgv,Zqf hd hb hn];rw[if_pos (by simpa[kDen]using hc)]
       ·exact hd.setK hcs (Zgd cs off vs).symm
      ·cases h
     ·cases h
   ·cases h
  ·cases h
 ·
  rename_i d u hdst hop;split at h
  ·rename_i sz es nw hx;split at h
   ·rename_i ht;cases h;refine⟨(s.reset u .any).put d (.own sz (es.den ρ).lst (nw.den ρ).lst),?_,(hd.reset u .any).put (by intro e;cases e) (.inr rfl),by simp[Zai],by simp[Zae]⟩;unfold Zbn;rw[hdst,hop];simp only[hN d hdst,if_true,Zg0 hd hx,ht]
   ·cases h
  ·cases h
 ·
  rename_i d u hdst hop;split at h
  ·rename_i sz es nw hx;cases h;refine⟨(s.reset u .any).put d (.own sz (es.den ρ).lst (nw.den ρ).lst),?_,(hd.reset u .any).put (by intro e;cases e) (.inr rfl),by simp[Zai],by simp[Zae]⟩;unfold Zbn;rw[hdst,hop];simp only[hN d hdst,if_true,Zg0 hd hx]
  ·cases h
 ·
  rename_i d t p hdst hop;split at h
  ·rename_i ht;split at h
   ·rename_i r off n hp hsz;have hep:s.ev p=.ptr (r.den m) off:=by have:=Zbc hd (x:=p) (by rw[hp];intro e;cases e);rw[hp]at this;exact this
    split at h
    ·rename_i cs hcs;have hK:=hd.look hcs;split at h
     ·rename_i sz es nw hc;cases h;refine⟨(s.setK (r.den m) ((kDen ρ m cs).set off .any)).put d (.own sz (es.den ρ).lst (nw.den ρ).lst),?_,(hd.setK hcs (by rw[Zdb];rfl)).put (by intro e;cases e) (.inr rfl),by simp[Zai,RSt.setK],by simp[Zae,RSt.setK]⟩;unfold Zbn;rw[hdst,hop];have hcell:(kDen ρ m cs)[off]? =some (.own sz (es.den ρ).lst (nw.den ρ).lst):=by simp[kDen,hc,RA.den]
      simp only[hN d hdst,if_true,ht,Zke,hep,hsz,hK,hcell]
     ·cases h
    ·cases h
   ·cases h
  ·cases h
 ·
  rename_i d q hdst hop;split at h
  ·rename_i u x t t2 hcal hargs htys;split at h
   ·rename_i mm by_ q1 q2 q3 a e2 sz es nw h1 h2 h3 h4;split at h
    ·rename_i hc;cases h;have hn':=Zaw.1 hn;have hex:=Zbc hd (x:=x) (by intro e;rw[e]at h3;simp[Zch,resc]at h3);obtain⟨hs,_⟩:=Zct hd hex h3 hn'.1;have hf:=Zfv (Zba hn'.2);have k1:=Zbi (Zba (Zaa.1 hn'.2).2);have k2:=Zbi (Zba (Zaa.1 (Zaa.1 hn'.2).2).2);simp only[Zah,Zaf,sem2,sem1,E.den,Dat.int_i,Zc4,List.length_append]at k1 k2;refine⟨(s.reset u .any).put d (.own mm (Zaq (Zg6 ops (some d)) (es.den ρ).lst (nw.den ρ).lst (e2.den ρ).lst).1 (Zaq (Zg6 ops (some d)) (es.den ρ).lst (nw.den ρ).lst (e2.den ρ).lst).2),?_,(hd.reset u .any).put (by rw[Ztv];intro e;cases e) (.inr ?_),by simp[Zai],by simp[Zae]⟩
     ·unfold Zbn;rw[hdst,hop];obtain⟨b,hb⟩:=Option.isSome_iff_exists.1 (show(slOf c.P t2).isSome by rw[h2];rfl);simp only[hN d hdst,if_true,hcal,hargs,htys,Zcs,h1,hb,hs,Zg0 hd h4]
      have hfit:fits (((es.den ρ).lst++(nw.den ρ).lst).length+(e2.den ρ).lst.length) by_:=by
       simp only[fits,List.length_append];rw[Int.natCast_add]at k1;have:(((es.den ρ).lst.length+(nw.den ρ).lst.length+(e2.den ρ).lst.length:Nat)*by_:Nat)=(((es.den ρ).lst.length:Int)+(nw.den ρ).lst.length+(e2.den ρ).lst.length)*by_:=by push_cast;rfl
       omega
      rw[if_pos ⟨hc,hf,hfit⟩]
     ·rw[Ztu]
    ·cases h
   ·rename_i mm by_ q1 q2 q3 a z e2 es h1 h2 h3 h4
    ·cases h;have hn':=Zaw.1 hn;have hex:=Zbc hd (x:=x) (by intro e;rw[e]at h3;simp[Zch,resc]at h3);obtain⟨hs,_⟩:=Zct hd hex h3 hn'.1;have hf0:=Zfv (Zba hn'.2);have hf:=Zfv (Zba (Zaa.1 hn'.2).2);have k1:=Zbi (Zba (Zaa.1 (Zaa.1 hn'.2).2).2);have k2:=Zbi (Zba (Zaa.1 (Zaa.1 (Zaa.1 hn'.2).2).2).2);simp only[Zah,Zaf,sem2,sem1,E.den,Dat.int_i,Dat.lst_l,List.length_cons]at k1 k2 hf;have hzs:s.ev (.tmp u)=.zs (es.den ρ).lst:=by have:=Zbc hd (x:=.tmp u) (by rw[h4];intro e;cases e);rw[h4]at this;exact this
     refine⟨s.put d (.own mm (Za4 (Zg6 ops (some d)) (es.den ρ).lst ((z.den ρ).row::(e2.den ρ).lst)).1 (Za4 (Zg6 ops (some d)) (es.den ρ).lst ((z.den ρ).row::(e2.den ρ).lst)).2),?_,hd.put (by rw[Ztw];intro e;cases e) (.inr ?_),by simp[Zai],by simp[Zae]⟩
     ·unfold Zbn;rw[hdst,hop];obtain⟨b,hb⟩:=Option.isSome_iff_exists.1 (show(slOf c.P t2).isSome by rw[h2];rfl);have hs':s.slice x=some ((z.den ρ).row::(e2.den ρ).lst):=hs;simp only[hN d hdst,if_true,hcal,hargs,htys,Zcs,h1,hb,hs',Zhz hd (x:=.tmp u) (by rw[h4];intro e;cases e) (by rw[h4];intro a b c e;cases e) (by rw[h4];intro a b e;cases e),hzs]
      have hfit:fits ((es.den ρ).lst.length+((z.den ρ).row::(e2.den ρ).lst).length) by_:=by
       simp only[fits,List.length_cons];have:(((es.den ρ).lst.length+((e2.den ρ).lst.length+1):Nat)*by_:Nat)=(((es.den ρ).lst.length:Int)+((e2.den ρ).lst.length+1:Nat))*by_:=by push_cast;rfl
       omega
      rw[if_pos ⟨hf0,hf,hfit⟩]
     ·rw[Zqc];simp only[E.den,sem2,Dat.lst_l]
   ·cases h
  ·cases h
 ·cases h
theorem Znh{c:Cfg}{ops:Array Oper}(hd:Den ρ m rs s){o:Oper}{l:List E}{e:E}{v1 v2:RA}{d:Nat}(hdst:o.dst=some d)(hlt:d<c.N)(h:Zr4 c ops rs o=some (l,e,v1,v2))(hn:Nds ρ l):
 ∃v,(((e.den ρ).bool=true/\v=v1)\/((e.den ρ).bool=false/\v=v2))/\Zbn c.P c.N ops s o=some (s.put d (v.den ρ m s.gen))/\v.ali=none:=by
 unfold Zr4 at h;split at h
 ·rename_i d' q hdst' hop;split at h
  ·rename_i u x t t2 hcal hargs htys;split at h
   ·rename_i mm by_ q1 q2 q3 a e2 es h1 h2 h3 h4
    ·cases h;rw[hdst]at hdst';cases hdst';have hn':=Zaw.1 hn;have hex:=Zbc hd (x:=x) (by intro e;rw[e]at h3;simp[Zch,resc]at h3);obtain⟨hs,_⟩:=Zct hd hex h3 hn'.1;have hf0:=Zfv (Zba hn'.2);have hf:=Zfv (Zba (Zaa.1 hn'.2).2);have k1:=Zbi (Zba (Zaa.1 (Zaa.1 hn'.2).2).2);have k2:=Zbi (Zba (Zaa.1 (Zaa.1 (Zaa.1 hn'.2).2).2).2);simp only[Zah,Zaf,sem2,sem1,E.den,Dat.int_i,Dat.lst_l]at k1 k2 hf;have hzs:s.ev (.tmp u)=.zs (es.den ρ).lst:=by have:=Zbc hd (x:=.tmp u) (by rw[h4];intro e;cases e);rw[h4]at this;exact this
     obtain⟨b,hb⟩:=Option.isSome_iff_exists.1 (show(slOf c.P t2).isSome by rw[h2];rfl)
     have hev:((m2 .eqI (m1 .llen e2) (.int 0)).den ρ).bool=decide ((e2.den ρ).lst.length=0):=by
      rw[Zah,Zaf];simp only[sem2,sem1,Dat.bool_b,Dat.int_i,E.den];rw[Bool.eq_iff_iff];simp
     have hev2:Zbn c.P c.N ops s o=Zcs c.P d (Zg6 ops (some d)) s (.tmp u) x t t2:=by
      unfold Zbn;rw[hdst,hop];simp only[hlt,if_true,hcal,hargs,htys]
     have hevA:=Zhz hd (x:=.tmp u) (by rw[h4];intro e;cases e) (by rw[h4];intro a b c e;cases e) (by rw[h4];intro a b e;cases e);cases hl:(e2.den ρ).lst with
     |nil=>
      refine⟨.zs es,.inl ⟨by rw[hev,hl];rfl,rfl⟩,?_,rfl⟩;rw[hev2];simp only[Zcs,h1,hb,hs,hl,hevA,hzs,RA.den]
     |cons y ys=>
      refine⟨apR (Zg6 ops (some d)) mm es e2,.inr ⟨by rw[hev,hl];simp,rfl⟩,?_,by unfold apR;split<;>rfl⟩;rw[hl]at hf k1 k2;rw[hev2];simp only[Zcs,h1,hb,hs,hl,hevA,hzs]
      have hfit:fits ((es.den ρ).lst.length+(y::ys).length) by_:=by
       simp only[fits];have:(((es.den ρ).lst.length+(y::ys).length:Nat)*by_:Nat)=(((es.den ρ).lst.length:Int)+((y::ys).length:Nat))*by_:=by push_cast;rfl
       omega
      rw[if_pos ⟨hf0,hf,hfit⟩];rw[Zqc,hl]
   ·cases h
  ·cases h
 ·cases h
theorem Zvd{c:Cfg}{C:Ctx}(hP:C.P=c.P)(hN:C.N=c.N)(hd:Den ρ m rs s){o:Oper}{d:Nat}{T:TypeId}{x y:Operand}(hdst:o.dst=some d)(hlt:d<c.N)(hop:o.op=.makeSlice T x y){l:List E}{v:RA}(h:rmk c rs T x y=some (l,v))(hn:Nds ρ l):
 OpOk C o s (s.put d (v.den ρ m s.gen))/\v.ali=none:=by
 unfold rmk at h;split at h
 ·rename_i mm by_ b e k l0 k' n h1 h2 h3;split at h
  ·rename_i z hz;split at h
   ·rename_i hzc;cases h;have hx:=Za8 (ev_I hd (G:=.bool true) rfl h2);have hy:=Za8 (ev_I hd (G:=.bool true) rfl h3);have k0:=Zba hn;have k1:=Zba (Zaa.1 hn).2;have k2:=Zba (Zaa.1 (Zaa.1 hn).2).2;have k3:=Zba (Zaa.1 (Zaa.1 (Zaa.1 hn).2).2).2;rw[Zah]at k0 k1 k2 k3;rw[Zah]at k2;have k0:(0:Int)<=(l0.den ρ).int:=of_decide_eq_true k0;have k1:(l0.den ρ).int<=(n.den ρ).int:=of_decide_eq_true k1;have k2:(by_:Int)*(n.den ρ).int<=281474976710656:=of_decide_eq_true k2;have k3:(n.den ρ).int<=9223372036854775807:=of_decide_eq_true k3;refine⟨?_,rfl⟩;have:=OpOk.makeSlice (C:=C) (s:=s) hop hdst (by rw[hN];exact hlt) (by rw[hP];exact h1) (by rw[hP];exact hz) hzc hx hy k0 k1 k2 k3
    have e:(RA.own mm .lnil (m2 .rpt l0 (E.ofCells (z.map Zec)))).den ρ m s.gen=.own mm [] (List.replicate (l0.den ρ).int.toNat (z.map constD)):=by
     simp only[RA.den,Zah,sem2,E.den_ofCells,Dat.lst_l,Dat.row_r,E.den,List.map_map]
     congr 3
     funext v;simp only[Function.comp,Zbr,Dat.dd_d]
    rw[e];exact this
   ·cases h
  ·cases h
 ·cases h
theorem Zmb{c:Cfg}{ops:Array Oper}(hd:Den ρ m rs s){o:Oper}(hdst:o.dst=none){l:List E}{rs':RSt}(h:rpst c rs o=some (l,rs'))(hn:Nds ρ l):
 ∃s',Zbn c.P c.N ops s o=some s'/\Den ρ m rs' s'/\rs'.nv=rs.nv/\rs'.dep=rs.dep:=by
 unfold rpst at h;split at h
 ·rename_i t p x hop;split at h
  ·rename_i u mm i j n ag hp hsz;split at h
   ·rename_i sz nw a row ht hr;split at h
    ·rename_i hc;cases h;obtain⟨hc1,hc2,hc3⟩:=hc;subst hc1;have hn':=Zaw.1 hn;have k0:=Zba hn'.2;have k1:=Zba (Zaa.1 hn'.2).2;rw[Zah]at k0;rw[Zah,Zaf]at k1;have k0:(0:Int)<=(i.den ρ).int:=of_decide_eq_true k0;have k1:(i.den ρ).int<((nw.den ρ).lst.length:Int):=of_decide_eq_true k1;have hlt:(i.den ρ).int.toNat<(nw.den ρ).lst.length:=by omega
     have hev:s.ev (.tmp p)=.opt u (s.gen u) sz (i.den ρ).int.toNat j:=by
      have:=(hd.tm p).resolve_left (by rw[hp];intro e;cases e);rw[hp]at this;exact this
     have hu:s.tm u=.own sz [] (nw.den ρ).lst:=by
      have:=(hd.tm u).resolve_left (by rw[ht];intro e;cases e);rw[ht]at this;exact this
     have hrow:=Znc hd (x:=x) (Zbc hd (Znd hr)) hr hn'.1;refine⟨(s.reset u .any).put u (.own sz [] ((nw.den ρ).lst.set (i.den ρ).int.toNat (setL ((nw.den ρ).lst.getD (i.den ρ).int.toNat []) j (row.den ρ).row))),?_,hd.reput (by intro e;cases e) (.inr ?_),by simp[Zai],by simp[Zae]⟩
     ·unfold Zbn Zbk;rw[hdst,hop];simp only[hev,hsz,hrow.1];have ho:ownT s (.tmp u)=some (u,sz,[],(nw.den ρ).lst):=by simp[ownT,hu]
      simp only[ho,List.length_nil,Nat.sub_zero,List.getElem?_eq_getElem hlt];rw[if_pos ⟨trivial,trivial,Nat.zero_le _,hrow.2,hc2,hc3⟩];simp[List.getD,List.getElem?_eq_getElem hlt]
     ·simp only[RA.den,Zey,Zah,sem3,sem2,Dat.lst_l,Dat.row_r,E.den]
    ·cases h
   ·rename_i sz es z q a row _ ht hr;split at h
    ·rename_i hc;cases h;obtain⟨⟨hc1,hc2,hc3⟩,hc4⟩:=hc;subst hc1;have hiv:(i.den ρ).int.toNat=(es.den ρ).lst.length:=by rw[E.beq_eq hc4,Zaf];simp[sem1,Dat.int_i]
     have hev:s.ev (.tmp p)=.opt u (s.gen u) sz (i.den ρ).int.toNat j:=by
      have:=(hd.tm p).resolve_left (by rw[hp];intro e;cases e);rw[hp]at this;exact this
     have hu:s.tm u=.own sz (es.den ρ).lst ((z.den ρ).row::(q.den ρ).lst):=by
      have:=(hd.tm u).resolve_left (by rw[ht];intro e;cases e);rw[ht]at this;exact this
     have hrow:=Znc hd (x:=x) (Zbc hd (Znd hr)) hr hn;refine⟨(s.reset u .any).put u (.own sz (es.den ρ).lst (setL (z.den ρ).row j (row.den ρ).row::(q.den ρ).lst)),?_,hd.reput (by intro e;cases e) (.inr ?_),by simp[Zai],by simp[Zae]⟩
     ·unfold Zbn Zbk;rw[hdst,hop];simp only[hev,hsz,hrow.1];have ho:ownT s (.tmp u)=some (u,sz,(es.den ρ).lst,(z.den ρ).row::(q.den ρ).lst):=by simp[ownT,hu]
      simp only[ho,hiv,Nat.sub_self,List.getElem?_cons_zero,List.set_cons_zero];rw[if_pos ⟨trivial,trivial,Nat.le_refl _,hrow.2,hc2,hc3⟩]
     ·simp only[RA.den,Zah,sem2,Dat.lst_l,Dat.row_r,E.den]
    ·cases h
   ·cases h
  ·cases h
 ·cases h
end
end Go.Rf
end
