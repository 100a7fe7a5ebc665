/- Part 6 of the proof: Vmk, Veq, Vsml, Vmap, Vrc, Vsiz, Vrs, Vrr, Vcom, Vref, Xsets, Xchk, Xpar, Xder, Xprs. -/
import Derived.Test.YtpcnadmaeebhbaaGreatDoorProg
import Derived.Test.YtpcnadmaeebhbaaGreatDoorJae
set_option linter.unusedVariables false
set_option linter.unusedSimpArgs false
section
open Go Go.Proofs Go.Ab Go.Rf
set_option maxRecDepth 1000000
set_option maxHeartbeats 2000000
set_option linter.unusedVariables false
namespace Go.Sy
end Go.Sy
namespace Go.Rf
abbrev HT:=Holds Tryz.prog
abbrev bA(b:Bool):A:=A.d (D.lit (.bool b))
abbrev iA(n:Int):A:=A.d (D.lit (.int .i64 n))
abbrev oV(x:Int)(p:Prop):Prop:=tB (decide ((-9223372036854775808)<=x))=true/\tB (decide (x<=9223372036854775807))=true/\p
abbrev RT:=Out->List (Ref×List A)->Prop
abbrev PN(R R':RT):Prop:=∀v H',R' (.pan v) H'->H'=[]/\R (.pan v) []
end Go.Rf
namespace Go.Sy
theorem w23{R:RT}(x0:List (List D))(x1:List (List D))(h:((!(tB ((x0.length:Int)==(x1.length:Int))))=true->
 R (.ret (bA false)) [])/\
 ((!(tB ((x0.length:Int)==(x1.length:Int))))=false->
 ∃(I0_0:Int->Prop)(M0_0:Int->Nat),I0_0 0/\
 (∀(x2:Int),I0_0 x2->
 (tB (decide (x2<(x0.length:Int)))=true->
 tB (decide (0<=x2))=true/\
 tB (((gAt x0 x2).length:Int)==1)=true/\
 isK .str ((gAt x0 x2).getD 0 D0)=true/\
 tB (decide (x2<(x1.length:Int)))=true/\
 tB (((gAt x1 x2).length:Int)==1)=true/\
 isK .str ((gAt x1 x2).getD 0 D0)=true/\
 ((!(tB ((dstr ((gAt x0 x2).getD 0 D0))==(dstr ((gAt x1 x2).getD 0 D0)))))=true->
 R (.ret (bA false)) [])/\
 ((!(tB ((dstr ((gAt x0 x2).getD 0 D0))==(dstr ((gAt x1 x2).getD 0 D0)))))=false->
 oV (x2+1) (I0_0 (x2+1)/\M0_0 (x2+1)<M0_0 x2)))/\
 (tB (decide (x2<(x0.length:Int)))=false->
 R (.ret (bA true)) []))/\
 True)):
 HT 23 [A.d (D.slc x0),A.d (D.slc x1)] [] R:=
 walk (c:=⟨Tryz.prog,26,true,[0,1,4,5,10,12,13,14,24]⟩) (op:={com:=[(8,(14,5000)),(8,(5,5000)),(8,(24,5000)),(8,(4,5000))]}) (fn:=Tryz.f23) (args:=[.c (.o1 .cl (.var 0)),.c (.o1 .cl (.var 1))]) (K:=[]) (nv:=2) (depth:=5) (up:=upOf []) (ρ:=Zwa [.l x0,.l x1])
  rfl rfl rfl rfl rfl (by decide) (by decide) (by decide) (by decide) rfl (by simp[Zab,RRef.den,upOf]) (T_of (by kernel_rfl) h)
end Go.Sy
end
section
open Go Go.Proofs Go.Ab Go.Rf
set_option maxRecDepth 1000000
set_option maxHeartbeats 2000000
set_option linter.unusedVariables false
namespace Go.Sy
theorem w19{R:RT}(x0:List D)(x1:List D)(h:tB ((x0.length:Int)==4)=true/\
 tB ((x1.length:Int)==4)=true/\
 isK .str (x0.getD 0 D0)=true/\
 isK .str (x1.getD 0 D0)=true/\
 ((!(tB ((dstr (x0.getD 0 D0))==(dstr (x1.getD 0 D0)))))||(isK .slc (x0.getD 1 D0)))=true/\
 ((!(tB ((dstr (x0.getD 0 D0))==(dstr (x1.getD 0 D0)))))||(isK .slc (x1.getD 1 D0)))=true/\
 (tB ((dstr (x0.getD 0 D0))==(dstr (x1.getD 0 D0)))=true->
 ∀_:Nat->Nat,∃R',HT 62 [A.d (D.slc (dlst (x0.getD 1 D0))),A.d (D.slc (dlst (x1.getD 1 D0))),A.fn 61 []] [] R'/\
 (∀v H',R' (.ret v) H'-> ∃x2:Bool,v=bA x2/\H'=[]/\
 ((!x2)||(isK .slc (x0.getD 2 D0)))=true/\
 ((!x2)||(isK .slc (x1.getD 2 D0)))=true/\
 (x2=true->
 ∀_:Nat->Nat,∃R',HT 63 [A.d (D.slc (dlst (x0.getD 2 D0))),A.d (D.slc (dlst (x1.getD 2 D0))),A.fn 64 []] [] R'/\
 (∀v H',R' (.ret v) H'-> ∃x3:Bool,v=bA x3/\H'=[]/\
 ((!x3)||(isK .slc (x0.getD 3 D0)))=true/\
 ((!x3)||(isK .slc (x1.getD 3 D0)))=true/\
 (x3=true->
 ∀_:Nat->Nat,∃R',HT 65 [A.d (D.slc (dlst (x0.getD 3 D0))),A.d (D.slc (dlst (x1.getD 3 D0)))] [] R'/\
 (∀v H',R' (.ret v) H'-> ∃x4:Bool,v=bA x4/\H'=[]/\
 R (.ret (bA x4)) [])/\
 PN R R')/\
 (x3=false->
 R (.ret (bA false)) []))/\
 PN R R')/\
 (x2=false->
 R (.ret (bA false)) []))/\
 PN R R')/\
 (tB ((dstr (x0.getD 0 D0))==(dstr (x1.getD 0 D0)))=false->
 R (.ret (bA false)) [])):
 HT 19 [A.agg x0,A.agg x1] [] R:=
 walk (c:=⟨Tryz.prog,33,true,[0,1,2,3,4,5]⟩) (op:={}) (fn:=Tryz.f19) (args:=[.agg (.var 0),.agg (.var 1)]) (K:=[]) (nv:=2) (depth:=6) (up:=upOf []) (ρ:=Zwa [.r x0,.r x1])
  rfl rfl rfl rfl rfl (by decide) (by decide) (by decide) (by decide) rfl (by simp[Zab,RRef.den,upOf]) (T_of (by kernel_rfl) h)
theorem w21{R:RT}(x0:List D)(x1:List D)(h:tB ((x0.length:Int)==9)=true/\
 tB ((x1.length:Int)==9)=true/\
 isK (.int .i64) (x0.getD 0 D0)=true/\
 isK (.int .i64) (x1.getD 0 D0)=true/\
 ((!(tB ((dint (x0.getD 0 D0))==(dint (x1.getD 0 D0)))))||(isK .str (x0.getD 1 D0)))=true/\
 ((!(tB ((dint (x0.getD 0 D0))==(dint (x1.getD 0 D0)))))||(isK .str (x1.getD 1 D0)))=true/\
 ((!((tB ((dint (x0.getD 0 D0))==(dint (x1.getD 0 D0))))&&(tB ((dstr (x0.getD 1 D0))==(dstr (x1.getD 1 D0))))))||(isK (.int .i64) (x0.getD 2 D0)))=true/\
 ((!((tB ((dint (x0.getD 0 D0))==(dint (x1.getD 0 D0))))&&(tB ((dstr (x0.getD 1 D0))==(dstr (x1.getD 1 D0))))))||(isK (.int .i64) (x1.getD 2 D0)))=true/\
 ((!(((tB ((dint (x0.getD 0 D0))==(dint (x1.getD 0 D0))))&&(tB ((dstr (x0.getD 1 D0))==(dstr (x1.getD 1 D0)))))&&(tB ((dint (x0.getD 2 D0))==(dint (x1.getD 2 D0))))))||(isK .str (x0.getD 3 D0)))=true/\
 ((!(((tB ((dint (x0.getD 0 D0))==(dint (x1.getD 0 D0))))&&(tB ((dstr (x0.getD 1 D0))==(dstr (x1.getD 1 D0)))))&&(tB ((dint (x0.getD 2 D0))==(dint (x1.getD 2 D0))))))||(isK .str (x1.getD 3 D0)))=true/\
 ((!(((tB ((dint (x0.getD 0 D0))==(dint (x1.getD 0 D0))))&&(tB ((dstr (x0.getD 1 D0))==(dstr (x1.getD 1 D0)))))&&(tB ((dint (x0.getD 2 D0))==(dint (x1.getD 2 D0))))))||(isK .str (x0.getD 4 D0)))=true/\
 ((!(((tB ((dint (x0.getD 0 D0))==(dint (x1.getD 0 D0))))&&(tB ((dstr (x0.getD 1 D0))==(dstr (x1.getD 1 D0)))))&&(tB ((dint (x0.getD 2 D0))==(dint (x1.getD 2 D0))))))||(isK .str (x1.getD 4 D0)))=true/\
 ((!((((tB ((dint (x0.getD 0 D0))==(dint (x1.getD 0 D0))))&&(tB ((dstr (x0.getD 1 D0))==(dstr (x1.getD 1 D0)))))&&(tB ((dint (x0.getD 2 D0))==(dint (x1.getD 2 D0)))))&&((tB ((dstr (x0.getD 3 D0))==(dstr (x1.getD 3 D0))))&&(tB ((dstr (x0.getD 4 D0))==(dstr (x1.getD 4 D0)))))))||(isK .slc (x0.getD 7 D0)))=true/\
 ((!((((tB ((dint (x0.getD 0 D0))==(dint (x1.getD 0 D0))))&&(tB ((dstr (x0.getD 1 D0))==(dstr (x1.getD 1 D0)))))&&(tB ((dint (x0.getD 2 D0))==(dint (x1.getD 2 D0)))))&&((tB ((dstr (x0.getD 3 D0))==(dstr (x1.getD 3 D0))))&&(tB ((dstr (x0.getD 4 D0))==(dstr (x1.getD 4 D0)))))))||(isK .slc (x1.getD 7 D0)))=true/\
 ((((tB ((dint (x0.getD 0 D0))==(dint (x1.getD 0 D0))))&&(tB ((dstr (x0.getD 1 D0))==(dstr (x1.getD 1 D0)))))&&(tB ((dint (x0.getD 2 D0))==(dint (x1.getD 2 D0)))))=true->
 (tB ((dstr (x0.getD 3 D0))==(dstr (x1.getD 3 D0)))=true->
 (tB ((dstr (x0.getD 4 D0))==(dstr (x1.getD 4 D0)))=true->
 ∀_:Nat->Nat,∃R',HT 65 [A.d (D.slc (dlst (x0.getD 7 D0))),A.d (D.slc (dlst (x1.getD 7 D0)))] [] R'/\
 (∀v H',R' (.ret v) H'-> ∃x2:Bool,v=bA x2/\H'=[]/\
 ((!x2)||(isK .slc (x0.getD 5 D0)))=true/\
 ((!x2)||(isK .slc (x1.getD 5 D0)))=true/\
 (x2=true->
 ∀_:Nat->Nat,∃R',HT 67 [A.d (D.slc (dlst (x0.getD 5 D0))),A.d (D.slc (dlst (x1.getD 5 D0))),A.fn 21 []] [] R'/\
 (∀v H',R' (.ret v) H'-> ∃x3:Bool,v=bA x3/\H'=[]/\
 ((!x3)||(isK .slc (x0.getD 6 D0)))=true/\
 ((!x3)||(isK .slc (x1.getD 6 D0)))=true/\
 (x3=true->
 ∀_:Nat->Nat,∃R',HT 63 [A.d (D.slc (dlst (x0.getD 6 D0))),A.d (D.slc (dlst (x1.getD 6 D0))),A.fn 64 []] [] R'/\
 (∀v H',R' (.ret v) H'-> ∃x4:Bool,v=bA x4/\H'=[]/\
 R (.ret (bA x4)) [])/\
 PN R R')/\
 (x3=false->
 R (.ret (bA false)) []))/\
 PN R R')/\
 (x2=false->
 R (.ret (bA false)) []))/\
 PN R R')/\
 (tB ((dstr (x0.getD 4 D0))==(dstr (x1.getD 4 D0)))=false->
 R (.ret (bA false)) []))/\
 (tB ((dstr (x0.getD 3 D0))==(dstr (x1.getD 3 D0)))=false->
 R (.ret (bA false)) []))/\
 ((((tB ((dint (x0.getD 0 D0))==(dint (x1.getD 0 D0))))&&(tB ((dstr (x0.getD 1 D0))==(dstr (x1.getD 1 D0)))))&&(tB ((dint (x0.getD 2 D0))==(dint (x1.getD 2 D0)))))=false->
 R (.ret (bA false)) [])):
 HT 21 [A.agg x0,A.agg x1] [] R:=
 walk (c:=⟨Tryz.prog,52,true,[0,1,2,3,4]⟩) (op:={}) (fn:=Tryz.f21) (args:=[.agg (.var 0),.agg (.var 1)]) (K:=[]) (nv:=2) (depth:=6) (up:=upOf []) (ρ:=Zwa [.r x0,.r x1])
  rfl rfl rfl rfl rfl (by decide) (by decide) (by decide) (by decide) rfl (by simp[Zab,RRef.den,upOf]) (T_of (by kernel_rfl) h)
theorem w61{R:RT}(x0:List D)(x1:List D)(h:tB ((x0.length:Int)==3)=true/\
 tB ((x1.length:Int)==3)=true/\
 isK .str (x0.getD 0 D0)=true/\
 isK .str (x1.getD 0 D0)=true/\
 ((!(tB ((dstr (x0.getD 0 D0))==(dstr (x1.getD 0 D0)))))||(isK .str (x0.getD 1 D0)))=true/\
 ((!(tB ((dstr (x0.getD 0 D0))==(dstr (x1.getD 0 D0)))))||(isK .str (x1.getD 1 D0)))=true/\
 R (.ret (bA ((tB ((dstr (x0.getD 0 D0))==(dstr (x1.getD 0 D0))))&&(tB ((dstr (x0.getD 1 D0))==(dstr (x1.getD 1 D0))))))) []):
 HT 61 [A.agg x0,A.agg x1] [] R:=
 walk (c:=⟨Tryz.prog,17,true,[0,1,2,3,4]⟩) (op:={}) (fn:=Tryz.f61) (args:=[.agg (.var 0),.agg (.var 1)]) (K:=[]) (nv:=2) (depth:=5) (up:=upOf []) (ρ:=Zwa [.r x0,.r x1])
  rfl rfl rfl rfl rfl (by decide) (by decide) (by decide) (by decide) rfl (by simp[Zab,RRef.den,upOf]) (T_of (by kernel_rfl) h)
theorem w62{R:RT}(x0:List (List D))(x1:List (List D))(h:((!(tB ((x0.length:Int)==(x1.length:Int))))=true->
 R (.ret (bA false)) [])/\
 ((!(tB ((x0.length:Int)==(x1.length:Int))))=false->
 ∃(I0_0:Int->Prop)(M0_0:Int->Nat),I0_0 0/\
 (∀(x2:Int),I0_0 x2->
 (tB (decide (x2<(x0.length:Int)))=true->
 tB (decide (0<=x2))=true/\
 tB (((gAt x0 x2).length:Int)==3)=true/\
 tB (decide (x2<(x1.length:Int)))=true/\
 tB (((gAt x1 x2).length:Int)==3)=true/\
 ∀_:Nat->Nat,∃R',HT 61 [A.agg (gAt x0 x2),A.agg (gAt x1 x2)] [] R'/\
 (∀v H',R' (.ret v) H'-> ∃x3:Bool,v=bA x3/\H'=[]/\
 ((!x3)=true->
 R (.ret (bA false)) [])/\
 ((!x3)=false->
 oV (x2+1) (I0_0 (x2+1)/\M0_0 (x2+1)<M0_0 x2)))/\
 PN R R')/\
 (tB (decide (x2<(x0.length:Int)))=false->
 R (.ret (bA true)) []))/\
 True)):
 HT 62 [A.d (D.slc x0),A.d (D.slc x1),A.fn 61 []] [] R:=
 walk (c:=⟨Tryz.prog,32,true,[0,1,2,6,7,8,9,14,15,16,17,18,30]⟩) (op:={com:=[(9,(18,5000)),(9,(8,5000)),(9,(7,5000)),(9,(9,5000)),(9,(30,5000)),(9,(6,5000))]}) (fn:=Tryz.f62) (args:=[.c (.o1 .cl (.var 0)),.c (.o1 .cl (.var 1)),.fn 61 []]) (K:=[]) (nv:=2) (depth:=6) (up:=upOf []) (ρ:=Zwa [.l x0,.l x1])
  rfl rfl rfl rfl rfl (by decide) (by decide) (by decide) (by decide) rfl (by simp[Zab,RRef.den,upOf]) (T_of (by kernel_rfl) h)
theorem w63{R:RT}(x0:List (List D))(x1:List (List D))(h:((!(tB ((x0.length:Int)==(x1.length:Int))))=true->
 R (.ret (bA false)) [])/\
 ((!(tB ((x0.length:Int)==(x1.length:Int))))=false->
 ∃(I0_0:Int->Prop)(M0_0:Int->Nat),I0_0 0/\
 (∀(x2:Int),I0_0 x2->
 (tB (decide (x2<(x0.length:Int)))=true->
 tB (decide (0<=x2))=true/\
 tB (((gAt x0 x2).length:Int)==11)=true/\
 tB (decide (x2<(x1.length:Int)))=true/\
 tB (((gAt x1 x2).length:Int)==11)=true/\
 ∀_:Nat->Nat,∃R',HT 64 [A.agg (gAt x0 x2),A.agg (gAt x1 x2)] [] R'/\
 (∀v H',R' (.ret v) H'-> ∃x3:Bool,v=bA x3/\H'=[]/\
 ((!x3)=true->
 R (.ret (bA false)) [])/\
 ((!x3)=false->
 oV (x2+1) (I0_0 (x2+1)/\M0_0 (x2+1)<M0_0 x2)))/\
 PN R R')/\
 (tB (decide (x2<(x0.length:Int)))=false->
 R (.ret (bA true)) []))/\
 True)):
 HT 63 [A.d (D.slc x0),A.d (D.slc x1),A.fn 64 []] [] R:=
 walk (c:=⟨Tryz.prog,32,true,[0,1,2,6,7,8,9,14,15,16,17,18,30]⟩) (op:={com:=[(9,(18,5000)),(9,(8,5000)),(9,(7,5000)),(9,(9,5000)),(9,(30,5000)),(9,(6,5000))]}) (fn:=Tryz.f63) (args:=[.c (.o1 .cl (.var 0)),.c (.o1 .cl (.var 1)),.fn 64 []]) (K:=[]) (nv:=2) (depth:=6) (up:=upOf []) (ρ:=Zwa [.l x0,.l x1])
  rfl rfl rfl rfl rfl (by decide) (by decide) (by decide) (by decide) rfl (by simp[Zab,RRef.den,upOf]) (T_of (by kernel_rfl) h)
theorem w64{R:RT}(x0:List D)(x1:List D)(h:tB ((x0.length:Int)==11)=true/\
 tB ((x1.length:Int)==11)=true/\
 isK (.int .i64) (x0.getD 0 D0)=true/\
 isK (.int .i64) (x1.getD 0 D0)=true/\
 ((!(tB ((dint (x0.getD 0 D0))==(dint (x1.getD 0 D0)))))||(isK (.int .i64) (x0.getD 1 D0)))=true/\
 ((!(tB ((dint (x0.getD 0 D0))==(dint (x1.getD 0 D0)))))||(isK (.int .i64) (x1.getD 1 D0)))=true/\
 ((!((tB ((dint (x0.getD 0 D0))==(dint (x1.getD 0 D0))))&&(tB ((dint (x0.getD 1 D0))==(dint (x1.getD 1 D0))))))||(isK .str (x0.getD 2 D0)))=true/\
 ((!((tB ((dint (x0.getD 0 D0))==(dint (x1.getD 0 D0))))&&(tB ((dint (x0.getD 1 D0))==(dint (x1.getD 1 D0))))))||(isK .str (x1.getD 2 D0)))=true/\
 ((!(((tB ((dint (x0.getD 0 D0))==(dint (x1.getD 0 D0))))&&(tB ((dint (x0.getD 1 D0))==(dint (x1.getD 1 D0)))))&&(tB ((dstr (x0.getD 2 D0))==(dstr (x1.getD 2 D0))))))||(isK .str (x0.getD 3 D0)))=true/\
 ((!(((tB ((dint (x0.getD 0 D0))==(dint (x1.getD 0 D0))))&&(tB ((dint (x0.getD 1 D0))==(dint (x1.getD 1 D0)))))&&(tB ((dstr (x0.getD 2 D0))==(dstr (x1.getD 2 D0))))))||(isK .str (x1.getD 3 D0)))=true/\
 ((!(((tB ((dint (x0.getD 0 D0))==(dint (x1.getD 0 D0))))&&(tB ((dint (x0.getD 1 D0))==(dint (x1.getD 1 D0)))))&&(tB ((dstr (x0.getD 2 D0))==(dstr (x1.getD 2 D0))))))||(isK .str (x0.getD 4 D0)))=true/\
 ((!(((tB ((dint (x0.getD 0 D0))==(dint (x1.getD 0 D0))))&&(tB ((dint (x0.getD 1 D0))==(dint (x1.getD 1 D0)))))&&(tB ((dstr (x0.getD 2 D0))==(dstr (x1.getD 2 D0))))))||(isK .str (x1.getD 4 D0)))=true/\
 ((!((((tB ((dint (x0.getD 0 D0))==(dint (x1.getD 0 D0))))&&(tB ((dint (x0.getD 1 D0))==(dint (x1.getD 1 D0)))))&&(tB ((dstr (x0.getD 2 D0))==(dstr (x1.getD 2 D0)))))&&((tB ((dstr (x0.getD 3 D0))==(dstr (x1.getD 3 D0))))&&(tB ((dstr (x0.getD 4 D0))==(dstr (x1.getD 4 D0)))))))||(isK .str (x0.getD 9 D0)))=true/\
 ((!((((tB ((dint (x0.getD 0 D0))==(dint (x1.getD 0 D0))))&&(tB ((dint (x0.getD 1 D0))==(dint (x1.getD 1 D0)))))&&(tB ((dstr (x0.getD 2 D0))==(dstr (x1.getD 2 D0)))))&&((tB ((dstr (x0.getD 3 D0))==(dstr (x1.getD 3 D0))))&&(tB ((dstr (x0.getD 4 D0))==(dstr (x1.getD 4 D0)))))))||(isK .str (x1.getD 9 D0)))=true/\
 ((!(((((tB ((dint (x0.getD 0 D0))==(dint (x1.getD 0 D0))))&&(tB ((dint (x0.getD 1 D0))==(dint (x1.getD 1 D0)))))&&(tB ((dstr (x0.getD 2 D0))==(dstr (x1.getD 2 D0)))))&&((tB ((dstr (x0.getD 3 D0))==(dstr (x1.getD 3 D0))))&&(tB ((dstr (x0.getD 4 D0))==(dstr (x1.getD 4 D0))))))&&(tB ((dstr (x0.getD 9 D0))==(dstr (x1.getD 9 D0))))))||(isK .slc (x0.getD 8 D0)))=true/\
 ((!(((((tB ((dint (x0.getD 0 D0))==(dint (x1.getD 0 D0))))&&(tB ((dint (x0.getD 1 D0))==(dint (x1.getD 1 D0)))))&&(tB ((dstr (x0.getD 2 D0))==(dstr (x1.getD 2 D0)))))&&((tB ((dstr (x0.getD 3 D0))==(dstr (x1.getD 3 D0))))&&(tB ((dstr (x0.getD 4 D0))==(dstr (x1.getD 4 D0))))))&&(tB ((dstr (x0.getD 9 D0))==(dstr (x1.getD 9 D0))))))||(isK .slc (x1.getD 8 D0)))=true/\
 (((((tB ((dint (x0.getD 0 D0))==(dint (x1.getD 0 D0))))&&(tB ((dint (x0.getD 1 D0))==(dint (x1.getD 1 D0)))))&&(tB ((dstr (x0.getD 2 D0))==(dstr (x1.getD 2 D0)))))&&((tB ((dstr (x0.getD 3 D0))==(dstr (x1.getD 3 D0))))&&(tB ((dstr (x0.getD 4 D0))==(dstr (x1.getD 4 D0))))))=true->
 (tB ((dstr (x0.getD 9 D0))==(dstr (x1.getD 9 D0)))=true->
 ∀_:Nat->Nat,∃R',HT 65 [A.d (D.slc (dlst (x0.getD 8 D0))),A.d (D.slc (dlst (x1.getD 8 D0)))] [] R'/\
 (∀v H',R' (.ret v) H'-> ∃x2:Bool,v=bA x2/\H'=[]/\
 ((!x2)||(isK .slc (x0.getD 7 D0)))=true/\
 ((!x2)||(isK .slc (x1.getD 7 D0)))=true/\
 (x2=true->
 ∀_:Nat->Nat,∃R',HT 65 [A.d (D.slc (dlst (x0.getD 7 D0))),A.d (D.slc (dlst (x1.getD 7 D0)))] [] R'/\
 (∀v H',R' (.ret v) H'-> ∃x3:Bool,v=bA x3/\H'=[]/\
 ((!x3)||(isK .slc (x0.getD 5 D0)))=true/\
 ((!x3)||(isK .slc (x1.getD 5 D0)))=true/\
 (x3=true->
 ∀_:Nat->Nat,∃R',HT 67 [A.d (D.slc (dlst (x0.getD 5 D0))),A.d (D.slc (dlst (x1.getD 5 D0))),A.fn 21 []] [] R'/\
 (∀v H',R' (.ret v) H'-> ∃x4:Bool,v=bA x4/\H'=[]/\
 ((!x4)||(isK .slc (x0.getD 6 D0)))=true/\
 ((!x4)||(isK .slc (x1.getD 6 D0)))=true/\
 (x4=true->
 ∀_:Nat->Nat,∃R',HT 63 [A.d (D.slc (dlst (x0.getD 6 D0))),A.d (D.slc (dlst (x1.getD 6 D0))),A.fn 64 []] [] R'/\
 (∀v H',R' (.ret v) H'-> ∃x5:Bool,v=bA x5/\H'=[]/\
 R (.ret (bA x5)) [])/\
 PN R R')/\
 (x4=false->
 R (.ret (bA false)) []))/\
 PN R R')/\
 (x3=false->
 R (.ret (bA false)) []))/\
 PN R R')/\
 (x2=false->
 R (.ret (bA false)) []))/\
 PN R R')/\
 (tB ((dstr (x0.getD 9 D0))==(dstr (x1.getD 9 D0)))=false->
 R (.ret (bA false)) []))/\
 (((((tB ((dint (x0.getD 0 D0))==(dint (x1.getD 0 D0))))&&(tB ((dint (x0.getD 1 D0))==(dint (x1.getD 1 D0)))))&&(tB ((dstr (x0.getD 2 D0))==(dstr (x1.getD 2 D0)))))&&((tB ((dstr (x0.getD 3 D0))==(dstr (x1.getD 3 D0))))&&(tB ((dstr (x0.getD 4 D0))==(dstr (x1.getD 4 D0))))))=false->
 R (.ret (bA false)) [])):
 HT 64 [A.agg x0,A.agg x1] [] R:=
 walk (c:=⟨Tryz.prog,66,true,[0,1,2,3,4]⟩) (op:={}) (fn:=Tryz.f64) (args:=[.agg (.var 0),.agg (.var 1)]) (K:=[]) (nv:=2) (depth:=7) (up:=upOf []) (ρ:=Zwa [.r x0,.r x1])
  rfl rfl rfl rfl rfl (by decide) (by decide) (by decide) (by decide) rfl (by simp[Zab,RRef.den,upOf]) (T_of (by kernel_rfl) h)
theorem w65{R:RT}(x0:List (List D))(x1:List (List D))(h:((!(tB ((x0.length:Int)==(x1.length:Int))))=true->
 R (.ret (bA false)) [])/\
 ((!(tB ((x0.length:Int)==(x1.length:Int))))=false->
 ∃(I0_0:Int->Prop)(M0_0:Int->Nat),I0_0 0/\
 (∀(x2:Int),I0_0 x2->
 (tB (decide (x2<(x0.length:Int)))=true->
 tB (decide (0<=x2))=true/\
 tB (((gAt x0 x2).length:Int)==1)=true/\
 isK .str ((gAt x0 x2).getD 0 D0)=true/\
 tB (decide (x2<(x1.length:Int)))=true/\
 tB (((gAt x1 x2).length:Int)==1)=true/\
 isK .str ((gAt x1 x2).getD 0 D0)=true/\
 ((!(tB ((dstr ((gAt x0 x2).getD 0 D0))==(dstr ((gAt x1 x2).getD 0 D0)))))=true->
 R (.ret (bA false)) [])/\
 ((!(tB ((dstr ((gAt x0 x2).getD 0 D0))==(dstr ((gAt x1 x2).getD 0 D0)))))=false->
 oV (x2+1) (I0_0 (x2+1)/\M0_0 (x2+1)<M0_0 x2)))/\
 (tB (decide (x2<(x0.length:Int)))=false->
 R (.ret (bA true)) []))/\
 True)):
 HT 65 [A.d (D.slc x0),A.d (D.slc x1)] [] R:=
 walk (c:=⟨Tryz.prog,26,true,[0,1,4,5,10,12,13,14,24]⟩) (op:={com:=[(8,(14,5000)),(8,(5,5000)),(8,(24,5000)),(8,(4,5000))]}) (fn:=Tryz.f65) (args:=[.c (.o1 .cl (.var 0)),.c (.o1 .cl (.var 1))]) (K:=[]) (nv:=2) (depth:=5) (up:=upOf []) (ρ:=Zwa [.l x0,.l x1])
  rfl rfl rfl rfl rfl (by decide) (by decide) (by decide) (by decide) rfl (by simp[Zab,RRef.den,upOf]) (T_of (by kernel_rfl) h)
theorem w67{R:RT}(x0:List (List D))(x1:List (List D))(h:((!(tB ((x0.length:Int)==(x1.length:Int))))=true->
 R (.ret (bA false)) [])/\
 ((!(tB ((x0.length:Int)==(x1.length:Int))))=false->
 ∃(I0_0:Int->Prop)(M0_0:Int->Nat),I0_0 0/\
 (∀(x2:Int),I0_0 x2->
 (tB (decide (x2<(x0.length:Int)))=true->
 tB (decide (0<=x2))=true/\
 tB (((gAt x0 x2).length:Int)==9)=true/\
 tB (decide (x2<(x1.length:Int)))=true/\
 tB (((gAt x1 x2).length:Int)==9)=true/\
 ∀_:Nat->Nat,∃R',HT 21 [A.agg (gAt x0 x2),A.agg (gAt x1 x2)] [] R'/\
 (∀v H',R' (.ret v) H'-> ∃x3:Bool,v=bA x3/\H'=[]/\
 ((!x3)=true->
 R (.ret (bA false)) [])/\
 ((!x3)=false->
 oV (x2+1) (I0_0 (x2+1)/\M0_0 (x2+1)<M0_0 x2)))/\
 PN R R')/\
 (tB (decide (x2<(x0.length:Int)))=false->
 R (.ret (bA true)) []))/\
 True)):
 HT 67 [A.d (D.slc x0),A.d (D.slc x1),A.fn 21 []] [] R:=
 walk (c:=⟨Tryz.prog,32,true,[0,1,2,6,7,8,9,14,15,16,17,18,30]⟩) (op:={com:=[(9,(18,5000)),(9,(8,5000)),(9,(7,5000)),(9,(9,5000)),(9,(30,5000)),(9,(6,5000))]}) (fn:=Tryz.f67) (args:=[.c (.o1 .cl (.var 0)),.c (.o1 .cl (.var 1)),.fn 21 []]) (K:=[]) (nv:=2) (depth:=6) (up:=upOf []) (ρ:=Zwa [.l x0,.l x1])
  rfl rfl rfl rfl rfl (by decide) (by decide) (by decide) (by decide) rfl (by simp[Zab,RRef.den,upOf]) (T_of (by kernel_rfl) h)
end Go.Sy
end
section
open Go Go.Proofs Go.Ab Go.Rf
set_option maxRecDepth 1000000
set_option maxHeartbeats 2000000
set_option linter.unusedVariables false
namespace Go.Sy
theorem w12{R:RT}(x0:List D)(h:tB ((x0.length:Int)==4)=true/\
 isK .slc (x0.getD 1 D0)=true/\
 ((tB (decide (5<((dlst (x0.getD 1 D0)).length:Int))))||(isK .slc (x0.getD 3 D0)))=true/\
 (((tB (decide (5<((dlst (x0.getD 1 D0)).length:Int))))||(tB (decide (20<((dlst (x0.getD 3 D0)).length:Int)))))||(isK .str (x0.getD 0 D0)))=true/\
 ((!((tB (decide (5<((dlst (x0.getD 1 D0)).length:Int))))||(tB (decide (20<((dlst (x0.getD 3 D0)).length:Int))))))=true->
 ∃x1:Int,(∀_:Nat->Nat,HT 41 [A.d (D.slc [[D.lit (Zco (dstr (x0.getD 0 D0)))]])] [] (Zpq [] (iA x1)))/\
 isK .slc (x0.getD 3 D0)=true/\
 ∀_:Nat->Nat,∃R',HT 41 [A.d (D.slc (dlst (x0.getD 3 D0)))] [] R'/\
 (∀v H',R' (.ret v) H'-> ∃x2:Int,v=iA x2/\H'=[]/\
 oV (x1+x2) ((tB (decide (1000<(x1+x2)))=true->
 R (.ret (bA false)) [])/\
 (tB (decide (1000<(x1+x2)))=false->
 ∃(I0_0:Int->Prop)(M0_0:Int->Nat),I0_0 0/\
 (∀(x3:Int),I0_0 x3->
 (tB (decide (x3<((dlst (x0.getD 1 D0)).length:Int)))=true->
 tB (decide (0<=x3))=true/\
 tB (((gAt (dlst (x0.getD 1 D0)) x3).length:Int)==3)=true/\
 isK .str ((gAt (dlst (x0.getD 1 D0)) x3).getD 0 D0)=true/\
 isK .str ((gAt (dlst (x0.getD 1 D0)) x3).getD 1 D0)=true/\
 oV (((dstr ((gAt (dlst (x0.getD 1 D0)) x3).getD 0 D0)).length:Int)+((dstr ((gAt (dlst (x0.getD 1 D0)) x3).getD 1 D0)).length:Int)) ((tB (decide (200<(((dstr ((gAt (dlst (x0.getD 1 D0)) x3).getD 0 D0)).length:Int)+((dstr ((gAt (dlst (x0.getD 1 D0)) x3).getD 1 D0)).length:Int))))=true->
 R (.ret (bA false)) [])/\
 (tB (decide (200<(((dstr ((gAt (dlst (x0.getD 1 D0)) x3).getD 0 D0)).length:Int)+((dstr ((gAt (dlst (x0.getD 1 D0)) x3).getD 1 D0)).length:Int))))=false->
 oV (x3+1) (I0_0 (x3+1)/\M0_0 (x3+1)<M0_0 x3))))/\
 (tB (decide (x3<((dlst (x0.getD 1 D0)).length:Int)))=false->
 isK .slc (x0.getD 2 D0)=true/\
 ∀_:Nat->Nat,∃R',HT 42 [A.d (D.slc (dlst (x0.getD 2 D0))),iA 150] [] R'/\
 (∀v H',R' (.ret v) H'-> ∃x4:Int,v=iA x4/\H'=[]/\
 R (.ret (bA (tB (decide (0<=x4))))) [])/\
 PN R R'))/\
 True)))/\
 PN R R')/\
 ((!((tB (decide (5<((dlst (x0.getD 1 D0)).length:Int))))||(tB (decide (20<((dlst (x0.getD 3 D0)).length:Int))))))=false->
 R (.ret (bA false)) [])):
 HT 12 [A.agg x0] [] R:=
 walk (c:=⟨Tryz.prog,46,true,[0,1,2,4,25,27,28,29,30,40]⟩) (op:={com:=[(8,(30,5000)),(8,(4,5000)),(8,(40,5000)),(8,(2,5000))]}) (fn:=Tryz.f12) (args:=[.agg (.var 0)]) (K:=[]) (nv:=1) (depth:=6) (up:=upOf []) (ρ:=Zwa [.r x0])
  rfl rfl rfl rfl rfl (by decide) (by decide) (by decide) (by decide) rfl (by simp[Zab,RRef.den,upOf]) (T_of (by kernel_rfl) h)
theorem w41{R:RT}(x0:List (List D))(h:∃(I0_0:Int->Int->Prop)(M0_0:Int->Int->Nat),I0_0 0 0/\
 (∀(x1:Int)(x2:Int),I0_0 x1 x2->
 (tB (decide (x2<(x0.length:Int)))=true->
 tB (decide (0<=x2))=true/\
 tB (((gAt x0 x2).length:Int)==1)=true/\
 isK .str ((gAt x0 x2).getD 0 D0)=true/\
 oV (x1+((dstr ((gAt x0 x2).getD 0 D0)).length:Int)) (oV (x2+1) (I0_0 (((x1+((dstr ((gAt x0 x2).getD 0 D0)).length:Int))+10000)-(gMax (x1+((dstr ((gAt x0 x2).getD 0 D0)).length:Int)) 10000)) (x2+1)/\M0_0 (((x1+((dstr ((gAt x0 x2).getD 0 D0)).length:Int))+10000)-(gMax (x1+((dstr ((gAt x0 x2).getD 0 D0)).length:Int)) 10000)) (x2+1)<M0_0 x1 x2)))/\
 (tB (decide (x2<(x0.length:Int)))=false->
 R (.ret (iA x1)) []))/\
 True):
 HT 41 [A.d (D.slc x0)] [] R:=
 walk (c:=⟨Tryz.prog,19,true,[0,2,3,5,6,7,8,9]⟩) (op:={com:=[(6,(9,5000)),(6,(5,5000))]}) (fn:=Tryz.f41) (args:=[.c (.o1 .cl (.var 0))]) (K:=[]) (nv:=1) (depth:=5) (up:=upOf []) (ρ:=Zwa [.l x0])
  rfl rfl rfl rfl rfl (by decide) (by decide) (by decide) (by decide) rfl (by simp[Zab,RRef.den,upOf]) (T_of (by kernel_rfl) h)
theorem w42{R:RT}(x0:List (List D))(x1:Int)(h:∃(I0_0:Int->Int->Prop)(M0_0:Int->Int->Nat),I0_0 x1 0/\
 (∀(x2:Int)(x3:Int),I0_0 x2 x3->
 (tB (decide (x3<(x0.length:Int)))=true->
 tB (decide (0<=x3))=true/\
 tB (((gAt x0 x3).length:Int)==11)=true/\
 (tB (decide (x2<0))=true->
 R (.ret (iA x2)) [])/\
 (tB (decide (x2<0))=false->
 oV (x2-1) (isK .slc ((gAt x0 x3).getD 8 D0)=true/\
 oV ((x2-1)-((dlst ((gAt x0 x3).getD 8 D0)).length:Int)) (isK .slc ((gAt x0 x3).getD 7 D0)=true/\
 oV (((x2-1)-((dlst ((gAt x0 x3).getD 8 D0)).length:Int))-((dlst ((gAt x0 x3).getD 7 D0)).length:Int)) (isK .str ((gAt x0 x3).getD 2 D0)=true/\
 isK .str ((gAt x0 x3).getD 3 D0)=true/\
 isK .str ((gAt x0 x3).getD 4 D0)=true/\
 isK .str ((gAt x0 x3).getD 9 D0)=true/\
 ∃x4:Int,(∀_:Nat->Nat,HT 41 [A.d (D.slc [[D.lit (Zco (dstr ((gAt x0 x3).getD 2 D0)))],[D.lit (Zco (dstr ((gAt x0 x3).getD 3 D0)))],[D.lit (Zco (dstr ((gAt x0 x3).getD 4 D0)))],[D.lit (Zco (dstr ((gAt x0 x3).getD 9 D0)))]])] [] (Zpq [] (iA x4)))/\
 oV (x4.tdiv 20) (oV ((((x2-1)-((dlst ((gAt x0 x3).getD 8 D0)).length:Int))-((dlst ((gAt x0 x3).getD 7 D0)).length:Int))-(x4.tdiv 20)) (∃x5:Int,(∀_:Nat->Nat,HT 41 [A.d (D.slc (dlst ((gAt x0 x3).getD 8 D0)))] [] (Zpq [] (iA x5)))/\
 oV (x5.tdiv 20) (oV (((((x2-1)-((dlst ((gAt x0 x3).getD 8 D0)).length:Int))-((dlst ((gAt x0 x3).getD 7 D0)).length:Int))-(x4.tdiv 20))-(x5.tdiv 20)) (∃x6:Int,(∀_:Nat->Nat,HT 41 [A.d (D.slc (dlst ((gAt x0 x3).getD 7 D0)))] [] (Zpq [] (iA x6)))/\
 oV (x6.tdiv 20) (oV ((((((x2-1)-((dlst ((gAt x0 x3).getD 8 D0)).length:Int))-((dlst ((gAt x0 x3).getD 7 D0)).length:Int))-(x4.tdiv 20))-(x5.tdiv 20))-(x6.tdiv 20)) (isK .slc ((gAt x0 x3).getD 5 D0)=true/\
 ∃(I1_0:Int->Int->Prop)(M1_0:Int->Int->Nat),I1_0 ((((((x2-1)-((dlst ((gAt x0 x3).getD 8 D0)).length:Int))-((dlst ((gAt x0 x3).getD 7 D0)).length:Int))-(x4.tdiv 20))-(x5.tdiv 20))-(x6.tdiv 20)) 0/\
 (∀(x7:Int)(x8:Int),I1_0 x7 x8->
 (tB (decide (x8<((dlst ((gAt x0 x3).getD 5 D0)).length:Int)))=true->
 tB (decide (0<=x8))=true/\
 tB (((gAt (dlst ((gAt x0 x3).getD 5 D0)) x8).length:Int)==9)=true/\
 (tB (decide (0<=x7))=true->
 ∀_:Nat->Nat,∃R',HT 57 [A.agg (gAt (dlst ((gAt x0 x3).getD 5 D0)) x8),iA x7] [] R'/\
 (∀v H',R' (.ret v) H'-> ∃x9:Int,v=iA x9/\H'=[]/\
 oV (x8+1) (I1_0 x9 (x8+1)/\M1_0 x9 (x8+1)<M1_0 x7 x8))/\
 PN R R')/\
 (tB (decide (0<=x7))=false->
 oV (x8+1) (I1_0 x7 (x8+1)/\M1_0 x7 (x8+1)<M1_0 x7 x8)))/\
 (tB (decide (x8<((dlst ((gAt x0 x3).getD 5 D0)).length:Int)))=false->
 isK .slc ((gAt x0 x3).getD 6 D0)=true/\
 ∀_:Nat->Nat,∃R',HT 42 [A.d (D.slc (dlst ((gAt x0 x3).getD 6 D0))),iA x7] [] R'/\
 (∀v H',R' (.ret v) H'-> ∃x9:Int,v=iA x9/\H'=[]/\
 oV (x3+1) (I0_0 x9 (x3+1)/\M0_0 x9 (x3+1)<M0_0 x2 x3))/\
 PN R R'))/\
 True)))))))))))/\
 (tB (decide (x3<(x0.length:Int)))=false->
 R (.ret (iA x2)) []))/\
 True):
 HT 42 [A.d (D.slc x0),iA x1] [] R:=
 walk (c:=⟨Tryz.prog,71,true,[0,1,4,6,8,9,10,11,12,16,53,54,55,56,60]⟩) (op:={com:=[(14,(12,5000)),(14,(6,5000)),(14,(16,5000)),(14,(4,5000)),(14,(53,5000)),(14,(54,5000)),(14,(55,5000)),(14,(56,5000)),(14,(8,5000)),(14,(60,5000)),(12,(56,5000)),(12,(8,5000)),(12,(60,5000))]}) (fn:=Tryz.f42) (args:=[.c (.o1 .cl (.var 0)),.c (.o1 (.ci .i64) (.var 1))]) (K:=[]) (nv:=2) (depth:=7) (up:=upOf []) (ρ:=Zwa [.l x0,.i x1])
  rfl rfl rfl rfl rfl (by decide) (by decide) (by decide) (by decide) rfl (by simp[Zab,RRef.den,upOf]) (T_of (by kernel_rfl) h)
theorem w57{R:RT}(x0:List D)(x1:Int)(h:tB ((x0.length:Int)==9)=true/\
 oV (x1-1) (isK .slc (x0.getD 7 D0)=true/\
 oV ((x1-1)-((dlst (x0.getD 7 D0)).length:Int)) (isK .str (x0.getD 1 D0)=true/\
 isK .str (x0.getD 3 D0)=true/\
 isK .str (x0.getD 4 D0)=true/\
 ∃x2:Int,(∀_:Nat->Nat,HT 41 [A.d (D.slc [[D.lit (Zco (dstr (x0.getD 1 D0)))],[D.lit (Zco (dstr (x0.getD 3 D0)))],[D.lit (Zco (dstr (x0.getD 4 D0)))]])] [] (Zpq [] (iA x2)))/\
 oV (x2.tdiv 20) (oV (((x1-1)-((dlst (x0.getD 7 D0)).length:Int))-(x2.tdiv 20)) (∃x3:Int,(∀_:Nat->Nat,HT 41 [A.d (D.slc (dlst (x0.getD 7 D0)))] [] (Zpq [] (iA x3)))/\
 oV (x3.tdiv 20) (oV ((((x1-1)-((dlst (x0.getD 7 D0)).length:Int))-(x2.tdiv 20))-(x3.tdiv 20)) (isK .slc (x0.getD 5 D0)=true/\
 ∃(I0_0:Int->Int->Prop)(M0_0:Int->Int->Nat),I0_0 ((((x1-1)-((dlst (x0.getD 7 D0)).length:Int))-(x2.tdiv 20))-(x3.tdiv 20)) 0/\
 (∀(x4:Int)(x5:Int),I0_0 x4 x5->
 (tB (decide (x5<((dlst (x0.getD 5 D0)).length:Int)))=true->
 tB (decide (0<=x5))=true/\
 tB (((gAt (dlst (x0.getD 5 D0)) x5).length:Int)==9)=true/\
 (tB (decide (0<=x4))=true->
 ∀_:Nat->Nat,∃R',HT 57 [A.agg (gAt (dlst (x0.getD 5 D0)) x5),iA x4] [] R'/\
 (∀v H',R' (.ret v) H'-> ∃x6:Int,v=iA x6/\H'=[]/\
 oV (x5+1) (I0_0 x6 (x5+1)/\M0_0 x6 (x5+1)<M0_0 x4 x5))/\
 PN R R')/\
 (tB (decide (0<=x4))=false->
 oV (x5+1) (I0_0 x4 (x5+1)/\M0_0 x4 (x5+1)<M0_0 x4 x5)))/\
 (tB (decide (x5<((dlst (x0.getD 5 D0)).length:Int)))=false->
 isK .slc (x0.getD 6 D0)=true/\
 ∀_:Nat->Nat,∃R',HT 42 [A.d (D.slc (dlst (x0.getD 6 D0))),iA x4] [] R'/\
 (∀v H',R' (.ret v) H'-> ∃x6:Int,v=iA x6/\H'=[]/\
 R (.ret (iA x6)) [])/\
 PN R R'))/\
 True))))))):
 HT 57 [A.agg x0,iA x1] [] R:=
 walk (c:=⟨Tryz.prog,47,true,[0,1,2,4,6,31,32,33,34,38]⟩) (op:={com:=[(7,(34,5000)),(7,(6,5000)),(7,(38,5000))]}) (fn:=Tryz.f57) (args:=[.agg (.var 0),.c (.o1 (.ci .i64) (.var 1))]) (K:=[]) (nv:=2) (depth:=6) (up:=upOf []) (ρ:=Zwa [.r x0,.i x1])
  rfl rfl rfl rfl rfl (by decide) (by decide) (by decide) (by decide) rfl (by simp[Zab,RRef.den,upOf]) (T_of (by kernel_rfl) h)
end Go.Sy
end
section
open Go Go.Proofs Go.Ab Go.Rf
set_option maxRecDepth 1000000
set_option maxHeartbeats 2000000
set_option linter.unusedVariables false
namespace Go.Sy
theorem w74s{R:RT}(x0:List D)(h:tB ((x0.length:Int)==9)=true/\
 ∀_:Nat->Nat,∃R',HT 79 [A.agg x0] [] R'/\
 (∀v H',R' (.ret v) H'-> ∃x1:List D,v=A.agg x1/\H'=[]/\
 tB ((x1.length:Int)==9)=true/\
 isK .slc (x0.getD 5 D0)=true/\
 ∀_:Nat->Nat,∃R',HT 107 [A.d (D.slc (dlst (x0.getD 5 D0))),A.fn 79 [],A.fn 80 []] [] R'/\
 (∀v H',R' (.ret v) H'-> ∃x2:List (List D),v=A.d (D.slc x2)/\H'=[]/\
 isK .slc (x0.getD 6 D0)=true/\
 ∀_:Nat->Nat,∃R',HT 78 [A.d (D.slc (dlst (x0.getD 6 D0))),A.fn 79 [],A.fn 80 []] [] R'/\
 (∀v H',R' (.ret v) H'-> ∃x3:List (List D),v=A.d (D.slc x3)/\H'=[]/\
 isK .slc (x1.getD 7 D0)=true/\
 ∀_:Nat->Nat,∃R',HT 69 [A.d (D.slc (dlst (x1.getD 7 D0)))] [] R'/\
 (∀v H',R' (.ret v) H'-> ∃x4:List (List D),v=A.d (D.slc x4)/\H'=[]/\
 R (.ret (A.agg [x1.getD 0 D0,x1.getD 1 D0,x1.getD 2 D0,x1.getD 3 D0,x1.getD 4 D0,D.slc x2,D.slc x3,D.slc x4,x1.getD 8 D0])) [])/\
 PN R R')/\
 PN R R')/\
 PN R R')/\
 PN R R'):
 HT 74 [A.agg x0,A.fn 79 [],A.fn 80 []] [] R:=
 walk (c:=⟨Tryz.prog,28,true,[0,1,2,3,6,7]⟩) (op:={}) (fn:=Tryz.f74) (args:=[.agg (.var 0),.fn 79 [],.fn 80 []]) (K:=[]) (nv:=1) (depth:=5) (up:=upOf []) (ρ:=Zwa [.r x0])
  rfl rfl rfl rfl rfl (by decide) (by decide) (by decide) (by decide) rfl (by simp[Zab,RRef.den,upOf]) (T_of (by kernel_rfl) h)
theorem w78s{R:RT}(x0:List (List D))(h:∃(I0_0:Prop)(M0_0:Nat),∃(I0_1:List (List D)->Int->Prop)(M0_1:List (List D)->Int->Nat),I0_0/\
 (I0_0->
 (tB (decide (0<(x0.length:Int)))=true->
 tB (((gAt x0 0).length:Int)==11)=true/\
 ∀_:Nat->Nat,∃R',HT 80 [A.agg (gAt x0 0)] [] R'/\
 (∀v H',R' (.ret v) H'-> ∃x1:List D,v=A.agg x1/\H'=[]/\
 tB ((x1.length:Int)==11)=true/\
 isK .slc ((gAt x0 0).getD 5 D0)=true/\
 ∀_:Nat->Nat,∃R',HT 107 [A.d (D.slc (dlst ((gAt x0 0).getD 5 D0))),A.fn 79 [],A.fn 80 []] [] R'/\
 (∀v H',R' (.ret v) H'-> ∃x2:List (List D),v=A.d (D.slc x2)/\H'=[]/\
 isK .slc ((gAt x0 0).getD 6 D0)=true/\
 ∀_:Nat->Nat,∃R',HT 78 [A.d (D.slc (dlst ((gAt x0 0).getD 6 D0))),A.fn 79 [],A.fn 80 []] [] R'/\
 (∀v H',R' (.ret v) H'-> ∃x3:List (List D),v=A.d (D.slc x3)/\H'=[]/\
 isK .slc (x1.getD 8 D0)=true/\
 ∃x4:List (List D),(∀_:Nat->Nat,HT 69 [A.d (D.slc (dlst (x1.getD 8 D0)))] [] (Zpq [] (A.d (D.slc x4))))/\
 isK .slc (x1.getD 7 D0)=true/\
 ∃x5:List (List D),(∀_:Nat->Nat,HT 69 [A.d (D.slc (dlst (x1.getD 7 D0)))] [] (Zpq [] (A.d (D.slc x5))))/\
 tB (decide (((0+([[x1.getD 0 D0,x1.getD 1 D0,x1.getD 2 D0,x1.getD 3 D0,x1.getD 4 D0,D.slc x2,D.slc x3,D.slc x5,D.slc x4,x1.getD 9 D0,x1.getD 10 D0]].length:Int))*184)<=140737488355328))=true/\
 tB (decide ((0+([[x1.getD 0 D0,x1.getD 1 D0,x1.getD 2 D0,x1.getD 3 D0,x1.getD 4 D0,D.slc x2,D.slc x3,D.slc x5,D.slc x4,x1.getD 9 D0,x1.getD 10 D0]].length:Int))<=1099511627776))=true/\
 I0_1 [[x1.getD 0 D0,x1.getD 1 D0,x1.getD 2 D0,x1.getD 3 D0,x1.getD 4 D0,D.slc x2,D.slc x3,D.slc x5,D.slc x4,x1.getD 9 D0,x1.getD 10 D0]] 1/\M0_1 [[x1.getD 0 D0,x1.getD 1 D0,x1.getD 2 D0,x1.getD 3 D0,x1.getD 4 D0,D.slc x2,D.slc x3,D.slc x5,D.slc x4,x1.getD 9 D0,x1.getD 10 D0]] 1<M0_0)/\
 PN R R')/\
 PN R R')/\
 PN R R')/\
 (tB (decide (0<(x0.length:Int)))=false->
 R (.ret (A.zs ([]:List (List D)))) []))/\
 (∀(x1:List (List D))(x2:Int),I0_1 x1 x2->
 (tB (decide (x2<(x0.length:Int)))=true->
 tB (decide (0<=x2))=true/\
 tB (((gAt x0 x2).length:Int)==11)=true/\
 ∀_:Nat->Nat,∃R',HT 80 [A.agg (gAt x0 x2)] [] R'/\
 (∀v H',R' (.ret v) H'-> ∃x3:List D,v=A.agg x3/\H'=[]/\
 tB ((x3.length:Int)==11)=true/\
 isK .slc ((gAt x0 x2).getD 5 D0)=true/\
 ∀_:Nat->Nat,∃R',HT 107 [A.d (D.slc (dlst ((gAt x0 x2).getD 5 D0))),A.fn 79 [],A.fn 80 []] [] R'/\
 (∀v H',R' (.ret v) H'-> ∃x4:List (List D),v=A.d (D.slc x4)/\H'=[]/\
 isK .slc ((gAt x0 x2).getD 6 D0)=true/\
 ∀_:Nat->Nat,∃R',HT 78 [A.d (D.slc (dlst ((gAt x0 x2).getD 6 D0))),A.fn 79 [],A.fn 80 []] [] R'/\
 (∀v H',R' (.ret v) H'-> ∃x5:List (List D),v=A.d (D.slc x5)/\H'=[]/\
 isK .slc (x3.getD 8 D0)=true/\
 ∃x6:List (List D),(∀_:Nat->Nat,HT 69 [A.d (D.slc (dlst (x3.getD 8 D0)))] [] (Zpq [] (A.d (D.slc x6))))/\
 isK .slc (x3.getD 7 D0)=true/\
 ∃x7:List (List D),(∀_:Nat->Nat,HT 69 [A.d (D.slc (dlst (x3.getD 7 D0)))] [] (Zpq [] (A.d (D.slc x7))))/\
 tB (decide ((((x1.length:Int)+([[x3.getD 0 D0,x3.getD 1 D0,x3.getD 2 D0,x3.getD 3 D0,x3.getD 4 D0,D.slc x4,D.slc x5,D.slc x7,D.slc x6,x3.getD 9 D0,x3.getD 10 D0]].length:Int))*184)<=140737488355328))=true/\
 tB (decide (((x1.length:Int)+([[x3.getD 0 D0,x3.getD 1 D0,x3.getD 2 D0,x3.getD 3 D0,x3.getD 4 D0,D.slc x4,D.slc x5,D.slc x7,D.slc x6,x3.getD 9 D0,x3.getD 10 D0]].length:Int))<=1099511627776))=true/\
 oV (x2+1) (I0_1 (x1++[[x3.getD 0 D0,x3.getD 1 D0,x3.getD 2 D0,x3.getD 3 D0,x3.getD 4 D0,D.slc x4,D.slc x5,D.slc x7,D.slc x6,x3.getD 9 D0,x3.getD 10 D0]]) (x2+1)/\M0_1 (x1++[[x3.getD 0 D0,x3.getD 1 D0,x3.getD 2 D0,x3.getD 3 D0,x3.getD 4 D0,D.slc x4,D.slc x5,D.slc x7,D.slc x6,x3.getD 9 D0,x3.getD 10 D0]]) (x2+1)<M0_1 x1 x2))/\
 PN R R')/\
 PN R R')/\
 PN R R')/\
 (tB (decide (x2<(x0.length:Int)))=false->
 R (.ret (A.d (D.slc x1))) []))/\
 True):
 HT 78 [A.d (D.slc x0),A.fn 79 [],A.fn 80 []] [] R:=
 walk (c:=⟨Tryz.prog,46,true,[0,1,2,6,7,9,10,11,12,13,14]⟩) (op:={com:=[(10,(14,5000)),(10,(9,5000)),(10,(10,5000))]}) (fn:=Tryz.f78) (args:=[.c (.o1 .cl (.var 0)),.fn 79 [],.fn 80 []]) (K:=[]) (nv:=1) (depth:=6) (up:=upOf []) (ρ:=Zwa [.l x0])
  rfl rfl rfl rfl rfl (by decide) (by decide) (by decide) (by decide) rfl (by simp[Zab,RRef.den,upOf]) (T_of (by kernel_rfl) h)
theorem Ykt{R:RT}(x0:List (List D))(h:∃(I0_0:Prop)(M0_0:Nat),∃(I0_1:List (List D)->Int->Prop)(M0_1:List (List D)->Int->Nat),I0_0/\
 (I0_0->
 (tB (decide (0<(x0.length:Int)))=true->
 tB (((gAt x0 0).length:Int)==9)=true/\
 ∀_:Nat->Nat,∃R',HT 74 [A.agg (gAt x0 0),A.fn 79 [],A.fn 80 []] [] R'/\
 (∀v H',R' (.ret v) H'-> ∃x1:List D,v=A.agg x1/\H'=[]/\
 tB ((x1.length:Int)==9)=true/\
 (Zwd 9 [x1])=true/\
 tB (decide (((0+([x1].length:Int))*144)<=140737488355328))=true/\
 tB (decide ((0+([x1].length:Int))<=1099511627776))=true/\
 I0_1 [x1] 1/\M0_1 [x1] 1<M0_0)/\
 PN R R')/\
 (tB (decide (0<(x0.length:Int)))=false->
 R (.ret (A.zs ([]:List (List D)))) []))/\
 (∀(x1:List (List D))(x2:Int),I0_1 x1 x2->
 (tB (decide (x2<(x0.length:Int)))=true->
 tB (decide (0<=x2))=true/\
 tB (((gAt x0 x2).length:Int)==9)=true/\
 ∀_:Nat->Nat,∃R',HT 74 [A.agg (gAt x0 x2),A.fn 79 [],A.fn 80 []] [] R'/\
 (∀v H',R' (.ret v) H'-> ∃x3:List D,v=A.agg x3/\H'=[]/\
 tB ((x3.length:Int)==9)=true/\
 (Zwd 9 [x3])=true/\
 tB (decide ((((x1.length:Int)+([x3].length:Int))*144)<=140737488355328))=true/\
 tB (decide (((x1.length:Int)+([x3].length:Int))<=1099511627776))=true/\
 oV (x2+1) (I0_1 (x1++[x3]) (x2+1)/\M0_1 (x1++[x3]) (x2+1)<M0_1 x1 x2))/\
 PN R R')/\
 (tB (decide (x2<(x0.length:Int)))=false->
 R (.ret (A.d (D.slc x1))) []))/\
 True):
 HT 107 [A.d (D.slc x0),A.fn 79 [],A.fn 80 []] [] R:=
 walk (c:=⟨Tryz.prog,25,true,[0,1,2,6,7,9,10,11,12,13]⟩) (op:={com:=[(6,(13,5000)),(6,(9,5000))]}) (fn:=Tryz.f107) (args:=[.c (.o1 .cl (.var 0)),.fn 79 [],.fn 80 []]) (K:=[]) (nv:=1) (depth:=5) (up:=upOf []) (ρ:=Zwa [.l x0])
  rfl rfl rfl rfl rfl (by decide) (by decide) (by decide) (by decide) rfl (by simp[Zab,RRef.den,upOf]) (T_of (by kernel_rfl) h)
theorem w74p{R:RT}(x0:List D)(h:tB ((x0.length:Int)==9)=true/\
 ∀_:Nat->Nat,∃R',HT 82 [A.agg x0] [] R'/\
 (∀v H',R' (.ret v) H'-> ∃x1:List D,v=A.agg x1/\H'=[]/\
 tB ((x1.length:Int)==9)=true/\
 isK .slc (x0.getD 5 D0)=true/\
 ∀_:Nat->Nat,∃R',HT 107 [A.d (D.slc (dlst (x0.getD 5 D0))),A.fn 82 [],A.fn 83 []] [] R'/\
 (∀v H',R' (.ret v) H'-> ∃x2:List (List D),v=A.d (D.slc x2)/\H'=[]/\
 isK .slc (x0.getD 6 D0)=true/\
 ∀_:Nat->Nat,∃R',HT 78 [A.d (D.slc (dlst (x0.getD 6 D0))),A.fn 82 [],A.fn 83 []] [] R'/\
 (∀v H',R' (.ret v) H'-> ∃x3:List (List D),v=A.d (D.slc x3)/\H'=[]/\
 isK .slc (x1.getD 7 D0)=true/\
 ∀_:Nat->Nat,∃R',HT 69 [A.d (D.slc (dlst (x1.getD 7 D0)))] [] R'/\
 (∀v H',R' (.ret v) H'-> ∃x4:List (List D),v=A.d (D.slc x4)/\H'=[]/\
 R (.ret (A.agg [x1.getD 0 D0,x1.getD 1 D0,x1.getD 2 D0,x1.getD 3 D0,x1.getD 4 D0,D.slc x2,D.slc x3,D.slc x4,x1.getD 8 D0])) [])/\
 PN R R')/\
 PN R R')/\
 PN R R')/\
 PN R R'):
 HT 74 [A.agg x0,A.fn 82 [],A.fn 83 []] [] R:=
 walk (c:=⟨Tryz.prog,28,true,[0,1,2,3,6,7]⟩) (op:={}) (fn:=Tryz.f74) (args:=[.agg (.var 0),.fn 82 [],.fn 83 []]) (K:=[]) (nv:=1) (depth:=5) (up:=upOf []) (ρ:=Zwa [.r x0])
  rfl rfl rfl rfl rfl (by decide) (by decide) (by decide) (by decide) rfl (by simp[Zab,RRef.den,upOf]) (T_of (by kernel_rfl) h)
theorem w78p{R:RT}(x0:List (List D))(h:∃(I0_0:Prop)(M0_0:Nat),∃(I0_1:List (List D)->Int->Prop)(M0_1:List (List D)->Int->Nat),I0_0/\
 (I0_0->
 (tB (decide (0<(x0.length:Int)))=true->
 tB (((gAt x0 0).length:Int)==11)=true/\
 ∀_:Nat->Nat,∃R',HT 83 [A.agg (gAt x0 0)] [] R'/\
 (∀v H',R' (.ret v) H'-> ∃x1:List D,v=A.agg x1/\H'=[]/\
 tB ((x1.length:Int)==11)=true/\
 isK .slc ((gAt x0 0).getD 5 D0)=true/\
 ∀_:Nat->Nat,∃R',HT 107 [A.d (D.slc (dlst ((gAt x0 0).getD 5 D0))),A.fn 82 [],A.fn 83 []] [] R'/\
 (∀v H',R' (.ret v) H'-> ∃x2:List (List D),v=A.d (D.slc x2)/\H'=[]/\
 isK .slc ((gAt x0 0).getD 6 D0)=true/\
 ∀_:Nat->Nat,∃R',HT 78 [A.d (D.slc (dlst ((gAt x0 0).getD 6 D0))),A.fn 82 [],A.fn 83 []] [] R'/\
 (∀v H',R' (.ret v) H'-> ∃x3:List (List D),v=A.d (D.slc x3)/\H'=[]/\
 isK .slc (x1.getD 8 D0)=true/\
 ∃x4:List (List D),(∀_:Nat->Nat,HT 69 [A.d (D.slc (dlst (x1.getD 8 D0)))] [] (Zpq [] (A.d (D.slc x4))))/\
 isK .slc (x1.getD 7 D0)=true/\
 ∃x5:List (List D),(∀_:Nat->Nat,HT 69 [A.d (D.slc (dlst (x1.getD 7 D0)))] [] (Zpq [] (A.d (D.slc x5))))/\
 tB (decide (((0+([[x1.getD 0 D0,x1.getD 1 D0,x1.getD 2 D0,x1.getD 3 D0,x1.getD 4 D0,D.slc x2,D.slc x3,D.slc x5,D.slc x4,x1.getD 9 D0,x1.getD 10 D0]].length:Int))*184)<=140737488355328))=true/\
 tB (decide ((0+([[x1.getD 0 D0,x1.getD 1 D0,x1.getD 2 D0,x1.getD 3 D0,x1.getD 4 D0,D.slc x2,D.slc x3,D.slc x5,D.slc x4,x1.getD 9 D0,x1.getD 10 D0]].length:Int))<=1099511627776))=true/\
 I0_1 [[x1.getD 0 D0,x1.getD 1 D0,x1.getD 2 D0,x1.getD 3 D0,x1.getD 4 D0,D.slc x2,D.slc x3,D.slc x5,D.slc x4,x1.getD 9 D0,x1.getD 10 D0]] 1/\M0_1 [[x1.getD 0 D0,x1.getD 1 D0,x1.getD 2 D0,x1.getD 3 D0,x1.getD 4 D0,D.slc x2,D.slc x3,D.slc x5,D.slc x4,x1.getD 9 D0,x1.getD 10 D0]] 1<M0_0)/\
 PN R R')/\
 PN R R')/\
 PN R R')/\
 (tB (decide (0<(x0.length:Int)))=false->
 R (.ret (A.zs ([]:List (List D)))) []))/\
 (∀(x1:List (List D))(x2:Int),I0_1 x1 x2->
 (tB (decide (x2<(x0.length:Int)))=true->
 tB (decide (0<=x2))=true/\
 tB (((gAt x0 x2).length:Int)==11)=true/\
 ∀_:Nat->Nat,∃R',HT 83 [A.agg (gAt x0 x2)] [] R'/\
 (∀v H',R' (.ret v) H'-> ∃x3:List D,v=A.agg x3/\H'=[]/\
 tB ((x3.length:Int)==11)=true/\
 isK .slc ((gAt x0 x2).getD 5 D0)=true/\
 ∀_:Nat->Nat,∃R',HT 107 [A.d (D.slc (dlst ((gAt x0 x2).getD 5 D0))),A.fn 82 [],A.fn 83 []] [] R'/\
 (∀v H',R' (.ret v) H'-> ∃x4:List (List D),v=A.d (D.slc x4)/\H'=[]/\
 isK .slc ((gAt x0 x2).getD 6 D0)=true/\
 ∀_:Nat->Nat,∃R',HT 78 [A.d (D.slc (dlst ((gAt x0 x2).getD 6 D0))),A.fn 82 [],A.fn 83 []] [] R'/\
 (∀v H',R' (.ret v) H'-> ∃x5:List (List D),v=A.d (D.slc x5)/\H'=[]/\
 isK .slc (x3.getD 8 D0)=true/\
 ∃x6:List (List D),(∀_:Nat->Nat,HT 69 [A.d (D.slc (dlst (x3.getD 8 D0)))] [] (Zpq [] (A.d (D.slc x6))))/\
 isK .slc (x3.getD 7 D0)=true/\
 ∃x7:List (List D),(∀_:Nat->Nat,HT 69 [A.d (D.slc (dlst (x3.getD 7 D0)))] [] (Zpq [] (A.d (D.slc x7))))/\
 tB (decide ((((x1.length:Int)+([[x3.getD 0 D0,x3.getD 1 D0,x3.getD 2 D0,x3.getD 3 D0,x3.getD 4 D0,D.slc x4,D.slc x5,D.slc x7,D.slc x6,x3.getD 9 D0,x3.getD 10 D0]].length:Int))*184)<=140737488355328))=true/\
 tB (decide (((x1.length:Int)+([[x3.getD 0 D0,x3.getD 1 D0,x3.getD 2 D0,x3.getD 3 D0,x3.getD 4 D0,D.slc x4,D.slc x5,D.slc x7,D.slc x6,x3.getD 9 D0,x3.getD 10 D0]].length:Int))<=1099511627776))=true/\
 oV (x2+1) (I0_1 (x1++[[x3.getD 0 D0,x3.getD 1 D0,x3.getD 2 D0,x3.getD 3 D0,x3.getD 4 D0,D.slc x4,D.slc x5,D.slc x7,D.slc x6,x3.getD 9 D0,x3.getD 10 D0]]) (x2+1)/\M0_1 (x1++[[x3.getD 0 D0,x3.getD 1 D0,x3.getD 2 D0,x3.getD 3 D0,x3.getD 4 D0,D.slc x4,D.slc x5,D.slc x7,D.slc x6,x3.getD 9 D0,x3.getD 10 D0]]) (x2+1)<M0_1 x1 x2))/\
 PN R R')/\
 PN R R')/\
 PN R R')/\
 (tB (decide (x2<(x0.length:Int)))=false->
 R (.ret (A.d (D.slc x1))) []))/\
 True):
 HT 78 [A.d (D.slc x0),A.fn 82 [],A.fn 83 []] [] R:=
 walk (c:=⟨Tryz.prog,46,true,[0,1,2,6,7,9,10,11,12,13,14]⟩) (op:={com:=[(10,(14,5000)),(10,(9,5000)),(10,(10,5000))]}) (fn:=Tryz.f78) (args:=[.c (.o1 .cl (.var 0)),.fn 82 [],.fn 83 []]) (K:=[]) (nv:=1) (depth:=6) (up:=upOf []) (ρ:=Zwa [.l x0])
  rfl rfl rfl rfl rfl (by decide) (by decide) (by decide) (by decide) rfl (by simp[Zab,RRef.den,upOf]) (T_of (by kernel_rfl) h)
theorem Yku{R:RT}(x0:List (List D))(h:∃(I0_0:Prop)(M0_0:Nat),∃(I0_1:List (List D)->Int->Prop)(M0_1:List (List D)->Int->Nat),I0_0/\
 (I0_0->
 (tB (decide (0<(x0.length:Int)))=true->
 tB (((gAt x0 0).length:Int)==9)=true/\
 ∀_:Nat->Nat,∃R',HT 74 [A.agg (gAt x0 0),A.fn 82 [],A.fn 83 []] [] R'/\
 (∀v H',R' (.ret v) H'-> ∃x1:List D,v=A.agg x1/\H'=[]/\
 tB ((x1.length:Int)==9)=true/\
 (Zwd 9 [x1])=true/\
 tB (decide (((0+([x1].length:Int))*144)<=140737488355328))=true/\
 tB (decide ((0+([x1].length:Int))<=1099511627776))=true/\
 I0_1 [x1] 1/\M0_1 [x1] 1<M0_0)/\
 PN R R')/\
 (tB (decide (0<(x0.length:Int)))=false->
 R (.ret (A.zs ([]:List (List D)))) []))/\
 (∀(x1:List (List D))(x2:Int),I0_1 x1 x2->
 (tB (decide (x2<(x0.length:Int)))=true->
 tB (decide (0<=x2))=true/\
 tB (((gAt x0 x2).length:Int)==9)=true/\
 ∀_:Nat->Nat,∃R',HT 74 [A.agg (gAt x0 x2),A.fn 82 [],A.fn 83 []] [] R'/\
 (∀v H',R' (.ret v) H'-> ∃x3:List D,v=A.agg x3/\H'=[]/\
 tB ((x3.length:Int)==9)=true/\
 (Zwd 9 [x3])=true/\
 tB (decide ((((x1.length:Int)+([x3].length:Int))*144)<=140737488355328))=true/\
 tB (decide (((x1.length:Int)+([x3].length:Int))<=1099511627776))=true/\
 oV (x2+1) (I0_1 (x1++[x3]) (x2+1)/\M0_1 (x1++[x3]) (x2+1)<M0_1 x1 x2))/\
 PN R R')/\
 (tB (decide (x2<(x0.length:Int)))=false->
 R (.ret (A.d (D.slc x1))) []))/\
 True):
 HT 107 [A.d (D.slc x0),A.fn 82 [],A.fn 83 []] [] R:=
 walk (c:=⟨Tryz.prog,25,true,[0,1,2,6,7,9,10,11,12,13]⟩) (op:={com:=[(6,(13,5000)),(6,(9,5000))]}) (fn:=Tryz.f107) (args:=[.c (.o1 .cl (.var 0)),.fn 82 [],.fn 83 []]) (K:=[]) (nv:=1) (depth:=5) (up:=upOf []) (ρ:=Zwa [.l x0])
  rfl rfl rfl rfl rfl (by decide) (by decide) (by decide) (by decide) rfl (by simp[Zab,RRef.den,upOf]) (T_of (by kernel_rfl) h)
theorem w79{R:RT}(x0:List D)(h:tB ((x0.length:Int)==9)=true/\
 R (.ret (A.agg [x0.getD 0 D0,x0.getD 1 D0,x0.getD 2 D0,x0.getD 3 D0,x0.getD 4 D0,x0.getD 5 D0,x0.getD 6 D0,x0.getD 7 D0,D.lit (.int .i64 0)])) []):
 HT 79 [A.agg x0] [] R:=
 walk (c:=⟨Tryz.prog,5,true,[0,1,2]⟩) (op:={}) (fn:=Tryz.f79) (args:=[.agg (.var 0)]) (K:=[]) (nv:=1) (depth:=3) (up:=upOf []) (ρ:=Zwa [.r x0])
  rfl rfl rfl rfl rfl (by decide) (by decide) (by decide) (by decide) rfl (by simp[Zab,RRef.den,upOf]) (T_of (by kernel_rfl) h)
theorem w80{R:RT}(x0:List D)(h:tB ((x0.length:Int)==11)=true/\
 R (.ret (A.agg [x0.getD 0 D0,x0.getD 1 D0,x0.getD 2 D0,x0.getD 3 D0,x0.getD 4 D0,x0.getD 5 D0,x0.getD 6 D0,x0.getD 7 D0,x0.getD 8 D0,x0.getD 9 D0,D.lit (.int .i64 0)])) []):
 HT 80 [A.agg x0] [] R:=
 walk (c:=⟨Tryz.prog,5,true,[0,1,2]⟩) (op:={}) (fn:=Tryz.f80) (args:=[.agg (.var 0)]) (K:=[]) (nv:=1) (depth:=3) (up:=upOf []) (ρ:=Zwa [.r x0])
  rfl rfl rfl rfl rfl (by decide) (by decide) (by decide) (by decide) rfl (by simp[Zab,RRef.den,upOf]) (T_of (by kernel_rfl) h)
theorem w82{R:RT}(x0:List D)(h:tB ((x0.length:Int)==9)=true/\
 R (.ret (A.agg [x0.getD 0 D0,x0.getD 1 D0,x0.getD 2 D0,x0.getD 3 D0,x0.getD 4 D0,x0.getD 5 D0,x0.getD 6 D0,(D.slc ([]:List (List D))),x0.getD 8 D0])) []):
 HT 82 [A.agg x0] [] R:=
 walk (c:=⟨Tryz.prog,5,true,[0,1,2]⟩) (op:={}) (fn:=Tryz.f82) (args:=[.agg (.var 0)]) (K:=[]) (nv:=1) (depth:=3) (up:=upOf []) (ρ:=Zwa [.r x0])
  rfl rfl rfl rfl rfl (by decide) (by decide) (by decide) (by decide) rfl (by simp[Zab,RRef.den,upOf]) (T_of (by kernel_rfl) h)
theorem w83{R:RT}(x0:List D)(h:tB ((x0.length:Int)==11)=true/\
 R (.ret (A.agg [x0.getD 0 D0,x0.getD 1 D0,x0.getD 2 D0,x0.getD 3 D0,x0.getD 4 D0,x0.getD 5 D0,x0.getD 6 D0,(D.slc ([]:List (List D))),(D.slc ([]:List (List D))),(D.lit (Zco ([]:List UInt8))),x0.getD 10 D0])) []):
 HT 83 [A.agg x0] [] R:=
 walk (c:=⟨Tryz.prog,7,true,[0,1,2]⟩) (op:={}) (fn:=Tryz.f83) (args:=[.agg (.var 0)]) (K:=[]) (nv:=1) (depth:=3) (up:=upOf []) (ρ:=Zwa [.r x0])
  rfl rfl rfl rfl rfl (by decide) (by decide) (by decide) (by decide) rfl (by simp[Zab,RRef.den,upOf]) (T_of (by kernel_rfl) h)
theorem w69{R:RT}(x0:List (List D))(h:∀x1:Bool,(x1=true->tB ((x0.length:Int)==0)=true)->
 (x1=true->
 R (.ret (A.zs ([]:List (List D)))) [])/\
 (x1=false->
 (Zwd 1 x0)=true/\
 tB (decide (((0+(x0.length:Int))*16)<=140737488355328))=true/\
 tB (decide ((0+(x0.length:Int))<=1099511627776))=true/\
 (tB ((x0.length:Int)==0)=true->
 R (.ret (A.zs ([]:List (List D)))) [])/\
 (tB ((x0.length:Int)==0)=false->
 R (.ret (A.own 1 (([]:List (List D))++x0) ([]:List (List D)))) []))):
 HT 69 [A.d (D.slc x0)] [] R:=
 walk (c:=⟨Tryz.prog,8,true,[0,2,4]⟩) (op:={fresh:=[5]}) (fn:=Tryz.f69) (args:=[.c (.o1 .cl (.var 0))]) (K:=[]) (nv:=1) (depth:=4) (up:=upOf []) (ρ:=Zwa [.l x0])
  rfl rfl rfl rfl rfl (by decide) (by decide) (by decide) (by decide) rfl (by simp[Zab,RRef.den,upOf]) (T_of (by kernel_rfl) h)
theorem w81{R:RT}(x0:List (List D))(h:∀x1:Bool,(x1=true->tB ((x0.length:Int)==0)=true)->
 (x1=true->
 R (.ret (A.zs ([]:List (List D)))) [])/\
 (x1=false->
 (Zwd 3 x0)=true/\
 tB (decide (((0+(x0.length:Int))*40)<=140737488355328))=true/\
 tB (decide ((0+(x0.length:Int))<=1099511627776))=true/\
 (tB ((x0.length:Int)==0)=true->
 R (.ret (A.zs ([]:List (List D)))) [])/\
 (tB ((x0.length:Int)==0)=false->
 R (.ret (A.own 3 (([]:List (List D))++x0) ([]:List (List D)))) []))):
 HT 81 [A.d (D.slc x0)] [] R:=
 walk (c:=⟨Tryz.prog,8,true,[0,2,4]⟩) (op:={fresh:=[5]}) (fn:=Tryz.f81) (args:=[.c (.o1 .cl (.var 0))]) (K:=[]) (nv:=1) (depth:=4) (up:=upOf []) (ρ:=Zwa [.l x0])
  rfl rfl rfl rfl rfl (by decide) (by decide) (by decide) (by decide) rfl (by simp[Zab,RRef.den,upOf]) (T_of (by kernel_rfl) h)
theorem w28{R:RT}(x0:List D)(h:tB ((x0.length:Int)==4)=true/\
 isK .str (x0.getD 0 D0)=true/\
 isK .slc (x0.getD 2 D0)=true/\
 ∃x1:List (List D),(∀_:Nat->Nat,HT 78 [A.d (D.slc (dlst (x0.getD 2 D0))),A.fn 79 [],A.fn 80 []] [] (Zpq [] (A.d (D.slc x1))))/\
 isK .slc (x0.getD 3 D0)=true/\
 ∃x2:List (List D),(∀_:Nat->Nat,HT 69 [A.d (D.slc (dlst (x0.getD 3 D0)))] [] (Zpq [] (A.d (D.slc x2))))/\
 isK .slc (x0.getD 1 D0)=true/\
 ∃(I0_0:Prop)(M0_0:Nat),∃(I0_1:Int->List (List D)->Prop)(M0_1:Int->List (List D)->Nat),I0_0/\
 (I0_0->
 (tB (decide (0<((dlst (x0.getD 1 D0)).length:Int)))=true->
 tB (((gAt (dlst (x0.getD 1 D0)) 0).length:Int)==3)=true/\
 tB (decide (((0+([[(gAt (dlst (x0.getD 1 D0)) 0).getD 0 D0,(gAt (dlst (x0.getD 1 D0)) 0).getD 1 D0,D.lit (.int .i64 0)]].length:Int))*40)<=140737488355328))=true/\
 tB (decide ((0+([[(gAt (dlst (x0.getD 1 D0)) 0).getD 0 D0,(gAt (dlst (x0.getD 1 D0)) 0).getD 1 D0,D.lit (.int .i64 0)]].length:Int))<=1099511627776))=true/\
 I0_1 1 [[(gAt (dlst (x0.getD 1 D0)) 0).getD 0 D0,(gAt (dlst (x0.getD 1 D0)) 0).getD 1 D0,D.lit (.int .i64 0)]]/\M0_1 1 [[(gAt (dlst (x0.getD 1 D0)) 0).getD 0 D0,(gAt (dlst (x0.getD 1 D0)) 0).getD 1 D0,D.lit (.int .i64 0)]]<M0_0)/\
 (tB (decide (0<((dlst (x0.getD 1 D0)).length:Int)))=false->
 R (.ret (A.agg [D.lit (Zco (dstr (x0.getD 0 D0))),(D.slc ([]:List (List D))),D.slc x1,D.slc x2])) []))/\
 (∀(x3:Int)(x4:List (List D)),I0_1 x3 x4->
 (tB (decide (x3<((dlst (x0.getD 1 D0)).length:Int)))=true->
 tB (decide (0<=x3))=true/\
 tB (((gAt (dlst (x0.getD 1 D0)) x3).length:Int)==3)=true/\
 tB (decide ((((x4.length:Int)+([[(gAt (dlst (x0.getD 1 D0)) x3).getD 0 D0,(gAt (dlst (x0.getD 1 D0)) x3).getD 1 D0,D.lit (.int .i64 0)]].length:Int))*40)<=140737488355328))=true/\
 tB (decide (((x4.length:Int)+([[(gAt (dlst (x0.getD 1 D0)) x3).getD 0 D0,(gAt (dlst (x0.getD 1 D0)) x3).getD 1 D0,D.lit (.int .i64 0)]].length:Int))<=1099511627776))=true/\
 oV (x3+1) (I0_1 (x3+1) (x4++[[(gAt (dlst (x0.getD 1 D0)) x3).getD 0 D0,(gAt (dlst (x0.getD 1 D0)) x3).getD 1 D0,D.lit (.int .i64 0)]])/\M0_1 (x3+1) (x4++[[(gAt (dlst (x0.getD 1 D0)) x3).getD 0 D0,(gAt (dlst (x0.getD 1 D0)) x3).getD 1 D0,D.lit (.int .i64 0)]])<M0_1 x3 x4))/\
 (tB (decide (x3<((dlst (x0.getD 1 D0)).length:Int)))=false->
 R (.ret (A.agg [D.lit (Zco (dstr (x0.getD 0 D0))),D.slc x4,D.slc x1,D.slc x2])) []))/\
 True):
 HT 28 [A.agg x0] [] R:=
 walk (c:=⟨Tryz.prog,31,true,[0,1,2,3,5,16,17,18,19]⟩) (op:={com:=[(7,(19,5000)),(7,(5,5000))]}) (fn:=Tryz.f28) (args:=[.agg (.var 0)]) (K:=[]) (nv:=1) (depth:=5) (up:=upOf []) (ρ:=Zwa [.r x0])
  rfl rfl rfl rfl rfl (by decide) (by decide) (by decide) (by decide) rfl (by simp[Zab,RRef.den,upOf]) (T_of (by kernel_rfl) h)
theorem w29{R:RT}(x0:List D)(h:tB ((x0.length:Int)==4)=true/\
 isK .str (x0.getD 0 D0)=true/\
 isK .slc (x0.getD 1 D0)=true/\
 ∃x1:List (List D),(∀_:Nat->Nat,HT 81 [A.d (D.slc (dlst (x0.getD 1 D0)))] [] (Zpq [] (A.d (D.slc x1))))/\
 isK .slc (x0.getD 2 D0)=true/\
 ∀_:Nat->Nat,∃R',HT 78 [A.d (D.slc (dlst (x0.getD 2 D0))),A.fn 82 [],A.fn 83 []] [] R'/\
 (∀v H',R' (.ret v) H'-> ∃x2:List (List D),v=A.d (D.slc x2)/\H'=[]/\
 R (.ret (A.agg [D.lit (Zco (dstr (x0.getD 0 D0))),D.slc x1,D.slc x2,(D.slc ([]:List (List D)))])) [])/\
 PN R R'):
 HT 29 [A.agg x0] [] R:=
 walk (c:=⟨Tryz.prog,15,true,[0,1,2,3]⟩) (op:={}) (fn:=Tryz.f29) (args:=[.agg (.var 0)]) (K:=[]) (nv:=1) (depth:=4) (up:=upOf []) (ρ:=Zwa [.r x0])
  rfl rfl rfl rfl rfl (by decide) (by decide) (by decide) (by decide) rfl (by simp[Zab,RRef.den,upOf]) (T_of (by kernel_rfl) h)
end Go.Sy
end
section
open Go Go.Proofs Go.Ab Go.Rf
set_option maxRecDepth 1000000
set_option maxHeartbeats 2000000
set_option linter.unusedVariables false
namespace Go.Sy
end Go.Sy
end
section
open Go Go.Proofs Go.Ab Go.Rf
set_option maxRecDepth 1000000
set_option maxHeartbeats 2000000
set_option linter.unusedVariables false
namespace Go.Sy
end Go.Sy
end
section
open Go Go.Proofs Go.Ab Go.Rf
set_option maxRecDepth 1000000
set_option maxHeartbeats 2000000
set_option linter.unusedVariables false
namespace Go.Sy
end Go.Sy
end
section
open Go Go.Proofs Go.Ab Go.Rf
set_option maxRecDepth 1000000
set_option maxHeartbeats 2000000
set_option linter.unusedVariables false
namespace Go.Sy
end Go.Sy
end
section
open Go Go.Proofs Go.Ab Go.Rf
set_option maxRecDepth 1000000
set_option maxHeartbeats 2000000
set_option linter.unusedVariables false
namespace Go.Sy
theorem w31{R:RT}(x0:List D)(h:tB ((x0.length:Int)==4)=true/\
 isK .slc (x0.getD 2 D0)=true/\
 ∀ν:Nat->Nat,∃R',HT 87 [A.d (D.slc (dlst (x0.getD 2 D0))),A.ptr (.up (Ref.own 4 (ν 4))) 0,A.ptr (.up (Ref.own 5 (ν 5))) 0,A.ptr (.up (Ref.own 6 (ν 6))) 0] [(Ref.up (Ref.own 4 (ν 4)),[A.fn 85 [.up (Ref.own 3 (ν 3))]]),(Ref.up (Ref.own 3 (ν 3)),[(A.zs ([]:List (List D)))]),(Ref.up (Ref.own 5 (ν 5)),[A.fn 86 [.up (Ref.own 5 (ν 5)),.up (Ref.own 6 (ν 6)),.up (Ref.own 4 (ν 4))]]),(Ref.up (Ref.own 6 (ν 6)),[A.fn 87 [.up (Ref.own 4 (ν 4)),.up (Ref.own 5 (ν 5)),.up (Ref.own 6 (ν 6))]])] R'/\
 (∀v H',R' (.ret v) H'->(v=(A.tup [])/\H'=[(Ref.up (Ref.own 4 (ν 4)),[A.fn 85 [.up (Ref.own 3 (ν 3))]]),(Ref.up (Ref.own 3 (ν 3)),[(A.zs ([]:List (List D)))]),(Ref.up (Ref.own 5 (ν 5)),[A.fn 86 [.up (Ref.own 5 (ν 5)),.up (Ref.own 6 (ν 6)),.up (Ref.own 4 (ν 4))]]),(Ref.up (Ref.own 6 (ν 6)),[A.fn 87 [.up (Ref.own 4 (ν 4)),.up (Ref.own 5 (ν 5)),.up (Ref.own 6 (ν 6))]])]/\
 isK .slc (x0.getD 3 D0)=true/\
 ∀ν:Nat->Nat,∃R',HT 85 [A.d (D.slc (dlst (x0.getD 3 D0))),A.ptr (.up (Ref.own 3 (ν 3))) 0] [(Ref.up (Ref.own 3 (ν 3)),[(A.zs ([]:List (List D)))])] R'/\
 (∀v H',R' (.ret v) H'->(v=(A.tup [])/\H'=[(Ref.up (Ref.own 3 (ν 3)),[(A.zs ([]:List (List D)))])]/\
 R (.ret (A.zs ([]:List (List D)))) [])\/
 (∃x1:List (List D),v=A.tup []/\H'=[(Ref.up (Ref.own 3 (ν 3)),[(A.own 1 x1 ([]:List (List D)))])]/\
 R (.ret (A.d (D.slc x1))) []))/\
 (∀x1v H',R' (.pan x1v) H'-> ∃x2:List (List D),H'=[(Ref.up (Ref.own 3 (ν 3)),[A.zs x2])]/\
 R (.pan x1v) []))\/
 (∃x1:List (List D),v=A.tup []/\H'=[(Ref.up (Ref.own 4 (ν 4)),[A.fn 85 [.up (Ref.own 3 (ν 3))]]),(Ref.up (Ref.own 3 (ν 3)),[(A.own 1 x1 ([]:List (List D)))]),(Ref.up (Ref.own 5 (ν 5)),[A.fn 86 [.up (Ref.own 5 (ν 5)),.up (Ref.own 6 (ν 6)),.up (Ref.own 4 (ν 4))]]),(Ref.up (Ref.own 6 (ν 6)),[A.fn 87 [.up (Ref.own 4 (ν 4)),.up (Ref.own 5 (ν 5)),.up (Ref.own 6 (ν 6))]])]/\
 isK .slc (x0.getD 3 D0)=true/\
 ∀ν:Nat->Nat,∃R',HT 85 [A.d (D.slc (dlst (x0.getD 3 D0))),A.ptr (.up (Ref.own 3 (ν 3))) 0] [(Ref.up (Ref.own 3 (ν 3)),[(A.own 1 x1 ([]:List (List D)))])] R'/\
 (∀v H',R' (.ret v) H'-> ∃x2:List (List D),v=A.tup []/\H'=[(Ref.up (Ref.own 3 (ν 3)),[(A.own 1 x2 ([]:List (List D)))])]/\
 R (.ret (A.d (D.slc x2))) [])/\
 (∀x2v H',R' (.pan x2v) H'-> ∃x3:List (List D),H'=[(Ref.up (Ref.own 3 (ν 3)),[(A.own 1 x3 ([]:List (List D)))])]/\
 R (.pan x2v) [])))/\
 (∀x1v H',R' (.pan x1v) H'-> ∃x2:List (List D),H'=[(Ref.up (Ref.own 4 (ν 4)),[A.fn 85 [.up (Ref.own 3 (ν 3))]]),(Ref.up (Ref.own 3 (ν 3)),[A.zs x2]),(Ref.up (Ref.own 5 (ν 5)),[A.fn 86 [.up (Ref.own 5 (ν 5)),.up (Ref.own 6 (ν 6)),.up (Ref.own 4 (ν 4))]]),(Ref.up (Ref.own 6 (ν 6)),[A.fn 87 [.up (Ref.own 4 (ν 4)),.up (Ref.own 5 (ν 5)),.up (Ref.own 6 (ν 6))]])]/\
 R (.pan x1v) [])):
 HT 31 [A.agg x0] [] R:=
 walk (c:=⟨Tryz.prog,19,true,[0,1,2,3,4,5,6]⟩) (op:={two:=[(70,1),(72,1),(85,1),(86,1),(87,1)]}) (fn:=Tryz.f31) (args:=[.agg (.var 0)]) (K:=[]) (nv:=1) (depth:=5) (up:=upOf []) (ρ:=Zwa [.r x0])
  rfl rfl rfl rfl rfl (by decide) (by decide) (by decide) (by decide) rfl (by simp[Zab,RRef.den,upOf]) (T_of (by kernel_rfl) h)
theorem w85a{R:RT}(x0:List (List D))(q0:Ref)(h:(Zwd 1 x0)=true/\
 tB (decide (((0+(x0.length:Int))*16)<=140737488355328))=true/\
 tB (decide ((0+(x0.length:Int))<=1099511627776))=true/\
 (tB ((x0.length:Int)==0)=true->
 R (.ret (A.tup [])) [((Ref.up q0),[(A.zs ([]:List (List D)))])])/\
 (tB ((x0.length:Int)==0)=false->
 R (.ret (A.tup [])) [((Ref.up q0),[(A.own 1 (([]:List (List D))++x0) ([]:List (List D)))])])):
 HT 85 [A.d (D.slc x0),A.ptr (Ref.up q0) 0] [((Ref.up q0),[(A.zs ([]:List (List D)))])] R:=
 walk (c:=⟨Tryz.prog,6,true,[0,1]⟩) (op:={}) (fn:=Tryz.f85) (args:=[.c (.o1 .cl (.var 0)),.ptr (.up 0) 0]) (K:=[(.up 0,[.zs .lnil])]) (nv:=1) (depth:=3) (up:=upOf [q0]) (ρ:=Zwa [.l x0])
  rfl rfl rfl rfl rfl (by decide) (by decide) (by decide) (by decide) rfl (by simp[Zab,RRef.den,upOf]) (T_of (by kernel_rfl) h)
theorem w85b{R:RT}(x0:List (List D))(x1:List (List D))(q0:Ref)(h:(Zwd 1 x0)=true/\
 tB (decide ((((x1.length:Int)+(x0.length:Int))*16)<=140737488355328))=true/\
 tB (decide (((x1.length:Int)+(x0.length:Int))<=1099511627776))=true/\
 R (.ret (A.tup [])) [((Ref.up q0),[(A.own 1 (x1++x0) ([]:List (List D)))])]):
 HT 85 [A.d (D.slc x0),A.ptr (Ref.up q0) 0] [((Ref.up q0),[(A.own 1 x1 ([]:List (List D)))])] R:=
 walk (c:=⟨Tryz.prog,6,true,[0,1]⟩) (op:={}) (fn:=Tryz.f85) (args:=[.c (.o1 .cl (.var 0)),.ptr (.up 0) 0]) (K:=[(.up 0,[.own 1 (.var 1) .lnil])]) (nv:=2) (depth:=3) (up:=upOf [q0]) (ρ:=Zwa [.l x0,.l x1])
  rfl rfl rfl rfl rfl (by decide) (by decide) (by decide) (by decide) rfl (by simp[Zab,RRef.den,upOf]) (T_of (by kernel_rfl) h)
theorem w86a{R:RT}(x0:List D)(q0 q1 q2 q3:Ref)(hq01:q0≠q1)(hq02:q0≠q2)(hq12:q1≠q2)(hq03:q0≠q3)(hq13:q1≠q3)(hq23:q2≠q3)(h:tB ((x0.length:Int)==9)=true/\
 isK .slc (x0.getD 5 D0)=true/\
 ∃(I0_0:Int->Prop)(M0_0:Int->Nat),∃(I0_1:Int->List (List D)->Prop)(M0_1:Int->List (List D)->Nat),I0_0 0/\
 (∀(x1:Int),I0_0 x1->
 (tB (decide (x1<((dlst (x0.getD 5 D0)).length:Int)))=true->
 tB (decide (0<=x1))=true/\
 tB (((gAt (dlst (x0.getD 5 D0)) x1).length:Int)==9)=true/\
 ∀_:Nat->Nat,∃R',HT 86 [A.agg (gAt (dlst (x0.getD 5 D0)) x1),A.ptr (.up (Ref.up q0)) 0,A.ptr (.up (Ref.up q1)) 0,A.ptr (.up (Ref.up q2)) 0] [(Ref.up (Ref.up q0),[A.fn 86 [.up (Ref.up q0),.up (Ref.up q1),.up (Ref.up q2)]]),(Ref.up (Ref.up q1),[A.fn 87 [.up (Ref.up q2),.up (Ref.up q0),.up (Ref.up q1)]]),(Ref.up (Ref.up q2),[A.fn 85 [.up (Ref.up q3)]]),(Ref.up (Ref.up q3),[(A.zs ([]:List (List D)))])] R'/\
 (∀v H',R' (.ret v) H'->(v=(A.tup [])/\H'=[(Ref.up (Ref.up q0),[A.fn 86 [.up (Ref.up q0),.up (Ref.up q1),.up (Ref.up q2)]]),(Ref.up (Ref.up q1),[A.fn 87 [.up (Ref.up q2),.up (Ref.up q0),.up (Ref.up q1)]]),(Ref.up (Ref.up q2),[A.fn 85 [.up (Ref.up q3)]]),(Ref.up (Ref.up q3),[(A.zs ([]:List (List D)))])]/\
 oV (x1+1) (I0_0 (x1+1)/\M0_0 (x1+1)<M0_0 x1))\/
 (∃x2:List (List D),v=A.tup []/\H'=[(Ref.up (Ref.up q0),[A.fn 86 [.up (Ref.up q0),.up (Ref.up q1),.up (Ref.up q2)]]),(Ref.up (Ref.up q1),[A.fn 87 [.up (Ref.up q2),.up (Ref.up q0),.up (Ref.up q1)]]),(Ref.up (Ref.up q2),[A.fn 85 [.up (Ref.up q3)]]),(Ref.up (Ref.up q3),[(A.own 1 x2 ([]:List (List D)))])]/\
 oV (x1+1) (I0_1 (x1+1) x2/\M0_1 (x1+1) x2<M0_0 x1)))/\
 (∀x2v H',R' (.pan x2v) H'-> ∃x3:List (List D),H'=[(Ref.up (Ref.up q0),[A.fn 86 [.up (Ref.up q0),.up (Ref.up q1),.up (Ref.up q2)]]),(Ref.up (Ref.up q1),[A.fn 87 [.up (Ref.up q2),.up (Ref.up q0),.up (Ref.up q1)]]),(Ref.up (Ref.up q2),[A.fn 85 [.up (Ref.up q3)]]),(Ref.up (Ref.up q3),[A.zs x3])]/\
 R (.pan x2v) [((Ref.up q0),[A.fn 86 [Ref.up q0,Ref.up q1,Ref.up q2]]),((Ref.up q1),[A.fn 87 [Ref.up q2,Ref.up q0,Ref.up q1]]),((Ref.up q2),[A.fn 85 [Ref.up q3]]),((Ref.up q3),[A.zs x3])]))/\
 (tB (decide (x1<((dlst (x0.getD 5 D0)).length:Int)))=false->
 isK .slc (x0.getD 6 D0)=true/\
 ∀_:Nat->Nat,∃R',HT 87 [A.d (D.slc (dlst (x0.getD 6 D0))),A.ptr (.up (Ref.up q2)) 0,A.ptr (.up (Ref.up q0)) 0,A.ptr (.up (Ref.up q1)) 0] [(Ref.up (Ref.up q2),[A.fn 85 [.up (Ref.up q3)]]),(Ref.up (Ref.up q3),[(A.zs ([]:List (List D)))]),(Ref.up (Ref.up q0),[A.fn 86 [.up (Ref.up q0),.up (Ref.up q1),.up (Ref.up q2)]]),(Ref.up (Ref.up q1),[A.fn 87 [.up (Ref.up q2),.up (Ref.up q0),.up (Ref.up q1)]])] R'/\
 (∀v H',R' (.ret v) H'->(v=(A.tup [])/\H'=[(Ref.up (Ref.up q2),[A.fn 85 [.up (Ref.up q3)]]),(Ref.up (Ref.up q3),[(A.zs ([]:List (List D)))]),(Ref.up (Ref.up q0),[A.fn 86 [.up (Ref.up q0),.up (Ref.up q1),.up (Ref.up q2)]]),(Ref.up (Ref.up q1),[A.fn 87 [.up (Ref.up q2),.up (Ref.up q0),.up (Ref.up q1)]])]/\
 isK .slc (x0.getD 7 D0)=true/\
 ∀_:Nat->Nat,∃R',HT 85 [A.d (D.slc (dlst (x0.getD 7 D0))),A.ptr (.up (Ref.up q3)) 0] [(Ref.up (Ref.up q3),[(A.zs ([]:List (List D)))])] R'/\
 (∀v H',R' (.ret v) H'->(v=(A.tup [])/\H'=[(Ref.up (Ref.up q3),[(A.zs ([]:List (List D)))])]/\
 R (.ret (A.tup [])) [((Ref.up q0),[A.fn 86 [Ref.up q0,Ref.up q1,Ref.up q2]]),((Ref.up q1),[A.fn 87 [Ref.up q2,Ref.up q0,Ref.up q1]]),((Ref.up q2),[A.fn 85 [Ref.up q3]]),((Ref.up q3),[(A.zs ([]:List (List D)))])])\/
 (∃x2:List (List D),v=A.tup []/\H'=[(Ref.up (Ref.up q3),[(A.own 1 x2 ([]:List (List D)))])]/\
 R (.ret (A.tup [])) [((Ref.up q0),[A.fn 86 [Ref.up q0,Ref.up q1,Ref.up q2]]),((Ref.up q1),[A.fn 87 [Ref.up q2,Ref.up q0,Ref.up q1]]),((Ref.up q2),[A.fn 85 [Ref.up q3]]),((Ref.up q3),[(A.own 1 x2 ([]:List (List D)))])]))/\
 (∀x2v H',R' (.pan x2v) H'-> ∃x3:List (List D),H'=[(Ref.up (Ref.up q3),[A.zs x3])]/\
 R (.pan x2v) [((Ref.up q0),[A.fn 86 [Ref.up q0,Ref.up q1,Ref.up q2]]),((Ref.up q1),[A.fn 87 [Ref.up q2,Ref.up q0,Ref.up q1]]),((Ref.up q2),[A.fn 85 [Ref.up q3]]),((Ref.up q3),[A.zs x3])]))\/
 (∃x2:List (List D),v=A.tup []/\H'=[(Ref.up (Ref.up q2),[A.fn 85 [.up (Ref.up q3)]]),(Ref.up (Ref.up q3),[(A.own 1 x2 ([]:List (List D)))]),(Ref.up (Ref.up q0),[A.fn 86 [.up (Ref.up q0),.up (Ref.up q1),.up (Ref.up q2)]]),(Ref.up (Ref.up q1),[A.fn 87 [.up (Ref.up q2),.up (Ref.up q0),.up (Ref.up q1)]])]/\
 isK .slc (x0.getD 7 D0)=true/\
 ∀_:Nat->Nat,∃R',HT 85 [A.d (D.slc (dlst (x0.getD 7 D0))),A.ptr (.up (Ref.up q3)) 0] [(Ref.up (Ref.up q3),[(A.own 1 x2 ([]:List (List D)))])] R'/\
 (∀v H',R' (.ret v) H'-> ∃x3:List (List D),v=A.tup []/\H'=[(Ref.up (Ref.up q3),[(A.own 1 x3 ([]:List (List D)))])]/\
 R (.ret (A.tup [])) [((Ref.up q0),[A.fn 86 [Ref.up q0,Ref.up q1,Ref.up q2]]),((Ref.up q1),[A.fn 87 [Ref.up q2,Ref.up q0,Ref.up q1]]),((Ref.up q2),[A.fn 85 [Ref.up q3]]),((Ref.up q3),[(A.own 1 x3 ([]:List (List D)))])])/\
 (∀x3v H',R' (.pan x3v) H'-> ∃x4:List (List D),H'=[(Ref.up (Ref.up q3),[(A.own 1 x4 ([]:List (List D)))])]/\
 R (.pan x3v) [((Ref.up q0),[A.fn 86 [Ref.up q0,Ref.up q1,Ref.up q2]]),((Ref.up q1),[A.fn 87 [Ref.up q2,Ref.up q0,Ref.up q1]]),((Ref.up q2),[A.fn 85 [Ref.up q3]]),((Ref.up q3),[(A.own 1 x4 ([]:List (List D)))])])))/\
 (∀x2v H',R' (.pan x2v) H'-> ∃x3:List (List D),H'=[(Ref.up (Ref.up q2),[A.fn 85 [.up (Ref.up q3)]]),(Ref.up (Ref.up q3),[A.zs x3]),(Ref.up (Ref.up q0),[A.fn 86 [.up (Ref.up q0),.up (Ref.up q1),.up (Ref.up q2)]]),(Ref.up (Ref.up q1),[A.fn 87 [.up (Ref.up q2),.up (Ref.up q0),.up (Ref.up q1)]])]/\
 R (.pan x2v) [((Ref.up q0),[A.fn 86 [Ref.up q0,Ref.up q1,Ref.up q2]]),((Ref.up q1),[A.fn 87 [Ref.up q2,Ref.up q0,Ref.up q1]]),((Ref.up q2),[A.fn 85 [Ref.up q3]]),((Ref.up q3),[A.zs x3])])))/\
 (∀(x1:Int)(x2:List (List D)),I0_1 x1 x2->
 (tB (decide (x1<((dlst (x0.getD 5 D0)).length:Int)))=true->
 tB (decide (0<=x1))=true/\
 tB (((gAt (dlst (x0.getD 5 D0)) x1).length:Int)==9)=true/\
 ∀_:Nat->Nat,∃R',HT 86 [A.agg (gAt (dlst (x0.getD 5 D0)) x1),A.ptr (.up (Ref.up q0)) 0,A.ptr (.up (Ref.up q1)) 0,A.ptr (.up (Ref.up q2)) 0] [(Ref.up (Ref.up q0),[A.fn 86 [.up (Ref.up q0),.up (Ref.up q1),.up (Ref.up q2)]]),(Ref.up (Ref.up q1),[A.fn 87 [.up (Ref.up q2),.up (Ref.up q0),.up (Ref.up q1)]]),(Ref.up (Ref.up q2),[A.fn 85 [.up (Ref.up q3)]]),(Ref.up (Ref.up q3),[(A.own 1 x2 ([]:List (List D)))])] R'/\
 (∀v H',R' (.ret v) H'-> ∃x3:List (List D),v=A.tup []/\H'=[(Ref.up (Ref.up q0),[A.fn 86 [.up (Ref.up q0),.up (Ref.up q1),.up (Ref.up q2)]]),(Ref.up (Ref.up q1),[A.fn 87 [.up (Ref.up q2),.up (Ref.up q0),.up (Ref.up q1)]]),(Ref.up (Ref.up q2),[A.fn 85 [.up (Ref.up q3)]]),(Ref.up (Ref.up q3),[(A.own 1 x3 ([]:List (List D)))])]/\
 oV (x1+1) (I0_1 (x1+1) x3/\M0_1 (x1+1) x3<M0_1 x1 x2))/\
 (∀x3v H',R' (.pan x3v) H'-> ∃x4:List (List D),H'=[(Ref.up (Ref.up q0),[A.fn 86 [.up (Ref.up q0),.up (Ref.up q1),.up (Ref.up q2)]]),(Ref.up (Ref.up q1),[A.fn 87 [.up (Ref.up q2),.up (Ref.up q0),.up (Ref.up q1)]]),(Ref.up (Ref.up q2),[A.fn 85 [.up (Ref.up q3)]]),(Ref.up (Ref.up q3),[(A.own 1 x4 ([]:List (List D)))])]/\
 R (.pan x3v) [((Ref.up q0),[A.fn 86 [Ref.up q0,Ref.up q1,Ref.up q2]]),((Ref.up q1),[A.fn 87 [Ref.up q2,Ref.up q0,Ref.up q1]]),((Ref.up q2),[A.fn 85 [Ref.up q3]]),((Ref.up q3),[(A.own 1 x4 ([]:List (List D)))])]))/\
 (tB (decide (x1<((dlst (x0.getD 5 D0)).length:Int)))=false->
 isK .slc (x0.getD 6 D0)=true/\
 ∀_:Nat->Nat,∃R',HT 87 [A.d (D.slc (dlst (x0.getD 6 D0))),A.ptr (.up (Ref.up q2)) 0,A.ptr (.up (Ref.up q0)) 0,A.ptr (.up (Ref.up q1)) 0] [(Ref.up (Ref.up q2),[A.fn 85 [.up (Ref.up q3)]]),(Ref.up (Ref.up q3),[(A.own 1 x2 ([]:List (List D)))]),(Ref.up (Ref.up q0),[A.fn 86 [.up (Ref.up q0),.up (Ref.up q1),.up (Ref.up q2)]]),(Ref.up (Ref.up q1),[A.fn 87 [.up (Ref.up q2),.up (Ref.up q0),.up (Ref.up q1)]])] R'/\
 (∀v H',R' (.ret v) H'-> ∃x3:List (List D),v=A.tup []/\H'=[(Ref.up (Ref.up q2),[A.fn 85 [.up (Ref.up q3)]]),(Ref.up (Ref.up q3),[(A.own 1 x3 ([]:List (List D)))]),(Ref.up (Ref.up q0),[A.fn 86 [.up (Ref.up q0),.up (Ref.up q1),.up (Ref.up q2)]]),(Ref.up (Ref.up q1),[A.fn 87 [.up (Ref.up q2),.up (Ref.up q0),.up (Ref.up q1)]])]/\
 isK .slc (x0.getD 7 D0)=true/\
 ∀_:Nat->Nat,∃R',HT 85 [A.d (D.slc (dlst (x0.getD 7 D0))),A.ptr (.up (Ref.up q3)) 0] [(Ref.up (Ref.up q3),[(A.own 1 x3 ([]:List (List D)))])] R'/\
 (∀v H',R' (.ret v) H'-> ∃x4:List (List D),v=A.tup []/\H'=[(Ref.up (Ref.up q3),[(A.own 1 x4 ([]:List (List D)))])]/\
 R (.ret (A.tup [])) [((Ref.up q0),[A.fn 86 [Ref.up q0,Ref.up q1,Ref.up q2]]),((Ref.up q1),[A.fn 87 [Ref.up q2,Ref.up q0,Ref.up q1]]),((Ref.up q2),[A.fn 85 [Ref.up q3]]),((Ref.up q3),[(A.own 1 x4 ([]:List (List D)))])])/\
 (∀x4v H',R' (.pan x4v) H'-> ∃x5:List (List D),H'=[(Ref.up (Ref.up q3),[(A.own 1 x5 ([]:List (List D)))])]/\
 R (.pan x4v) [((Ref.up q0),[A.fn 86 [Ref.up q0,Ref.up q1,Ref.up q2]]),((Ref.up q1),[A.fn 87 [Ref.up q2,Ref.up q0,Ref.up q1]]),((Ref.up q2),[A.fn 85 [Ref.up q3]]),((Ref.up q3),[(A.own 1 x5 ([]:List (List D)))])]))/\
 (∀x3v H',R' (.pan x3v) H'-> ∃x4:List (List D),H'=[(Ref.up (Ref.up q2),[A.fn 85 [.up (Ref.up q3)]]),(Ref.up (Ref.up q3),[(A.own 1 x4 ([]:List (List D)))]),(Ref.up (Ref.up q0),[A.fn 86 [.up (Ref.up q0),.up (Ref.up q1),.up (Ref.up q2)]]),(Ref.up (Ref.up q1),[A.fn 87 [.up (Ref.up q2),.up (Ref.up q0),.up (Ref.up q1)]])]/\
 R (.pan x3v) [((Ref.up q0),[A.fn 86 [Ref.up q0,Ref.up q1,Ref.up q2]]),((Ref.up q1),[A.fn 87 [Ref.up q2,Ref.up q0,Ref.up q1]]),((Ref.up q2),[A.fn 85 [Ref.up q3]]),((Ref.up q3),[(A.own 1 x4 ([]:List (List D)))])])))/\
 True):
 HT 86 [A.agg x0,A.ptr (Ref.up q0) 0,A.ptr (Ref.up q1) 0,A.ptr (Ref.up q2) 0] [((Ref.up q0),[A.fn 86 [Ref.up q0,Ref.up q1,Ref.up q2]]),((Ref.up q1),[A.fn 87 [Ref.up q2,Ref.up q0,Ref.up q1]]),((Ref.up q2),[A.fn 85 [Ref.up q3]]),((Ref.up q3),[(A.zs ([]:List (List D)))])] R:=
 walk (c:=⟨Tryz.prog,26,true,[0,1,2,3,4,6,8,9,10,11]⟩) (op:={two:=[(70,1),(72,1),(85,1),(86,1),(87,1)],com:=[(5,(11,5000)),(5,(6,5000))]}) (fn:=Tryz.f86) (args:=[.agg (.var 0),.ptr (.up 0) 0,.ptr (.up 1) 0,.ptr (.up 2) 0]) (K:=[(.up 0,[.fn 86 [.up 0,.up 1,.up 2]]),(.up 1,[.fn 87 [.up 2,.up 0,.up 1]]),(.up 2,[.fn 85 [.up 3]]),(.up 3,[.zs .lnil])]) (nv:=1) (depth:=5) (up:=upOf [q0,q1,q2,q3]) (ρ:=Zwa [.r x0])
  rfl rfl rfl rfl rfl (by decide) (by decide) (by decide) (by decide) rfl (by simp[Zab,RRef.den,upOf,hq01,hq02,hq12,hq03,hq13,hq23]) (T_of (by kernel_rfl) h)
theorem w86b{R:RT}(x0:List D)(x1:List (List D))(q0 q1 q2 q3:Ref)(hq01:q0≠q1)(hq02:q0≠q2)(hq12:q1≠q2)(hq03:q0≠q3)(hq13:q1≠q3)(hq23:q2≠q3)(h:tB ((x0.length:Int)==9)=true/\
 isK .slc (x0.getD 5 D0)=true/\
 ∃(I0_0:Int->List (List D)->Prop)(M0_0:Int->List (List D)->Nat),I0_0 0 x1/\
 (∀(x2:Int)(x3:List (List D)),I0_0 x2 x3->
 (tB (decide (x2<((dlst (x0.getD 5 D0)).length:Int)))=true->
 tB (decide (0<=x2))=true/\
 tB (((gAt (dlst (x0.getD 5 D0)) x2).length:Int)==9)=true/\
 ∀_:Nat->Nat,∃R',HT 86 [A.agg (gAt (dlst (x0.getD 5 D0)) x2),A.ptr (.up (Ref.up q0)) 0,A.ptr (.up (Ref.up q1)) 0,A.ptr (.up (Ref.up q2)) 0] [(Ref.up (Ref.up q0),[A.fn 86 [.up (Ref.up q0),.up (Ref.up q1),.up (Ref.up q2)]]),(Ref.up (Ref.up q1),[A.fn 87 [.up (Ref.up q2),.up (Ref.up q0),.up (Ref.up q1)]]),(Ref.up (Ref.up q2),[A.fn 85 [.up (Ref.up q3)]]),(Ref.up (Ref.up q3),[(A.own 1 x3 ([]:List (List D)))])] R'/\
 (∀v H',R' (.ret v) H'-> ∃x4:List (List D),v=A.tup []/\H'=[(Ref.up (Ref.up q0),[A.fn 86 [.up (Ref.up q0),.up (Ref.up q1),.up (Ref.up q2)]]),(Ref.up (Ref.up q1),[A.fn 87 [.up (Ref.up q2),.up (Ref.up q0),.up (Ref.up q1)]]),(Ref.up (Ref.up q2),[A.fn 85 [.up (Ref.up q3)]]),(Ref.up (Ref.up q3),[(A.own 1 x4 ([]:List (List D)))])]/\
 oV (x2+1) (I0_0 (x2+1) x4/\M0_0 (x2+1) x4<M0_0 x2 x3))/\
 (∀x4v H',R' (.pan x4v) H'-> ∃x5:List (List D),H'=[(Ref.up (Ref.up q0),[A.fn 86 [.up (Ref.up q0),.up (Ref.up q1),.up (Ref.up q2)]]),(Ref.up (Ref.up q1),[A.fn 87 [.up (Ref.up q2),.up (Ref.up q0),.up (Ref.up q1)]]),(Ref.up (Ref.up q2),[A.fn 85 [.up (Ref.up q3)]]),(Ref.up (Ref.up q3),[(A.own 1 x5 ([]:List (List D)))])]/\
 R (.pan x4v) [((Ref.up q0),[A.fn 86 [Ref.up q0,Ref.up q1,Ref.up q2]]),((Ref.up q1),[A.fn 87 [Ref.up q2,Ref.up q0,Ref.up q1]]),((Ref.up q2),[A.fn 85 [Ref.up q3]]),((Ref.up q3),[(A.own 1 x5 ([]:List (List D)))])]))/\
 (tB (decide (x2<((dlst (x0.getD 5 D0)).length:Int)))=false->
 isK .slc (x0.getD 6 D0)=true/\
 ∀_:Nat->Nat,∃R',HT 87 [A.d (D.slc (dlst (x0.getD 6 D0))),A.ptr (.up (Ref.up q2)) 0,A.ptr (.up (Ref.up q0)) 0,A.ptr (.up (Ref.up q1)) 0] [(Ref.up (Ref.up q2),[A.fn 85 [.up (Ref.up q3)]]),(Ref.up (Ref.up q3),[(A.own 1 x3 ([]:List (List D)))]),(Ref.up (Ref.up q0),[A.fn 86 [.up (Ref.up q0),.up (Ref.up q1),.up (Ref.up q2)]]),(Ref.up (Ref.up q1),[A.fn 87 [.up (Ref.up q2),.up (Ref.up q0),.up (Ref.up q1)]])] R'/\
 (∀v H',R' (.ret v) H'-> ∃x4:List (List D),v=A.tup []/\H'=[(Ref.up (Ref.up q2),[A.fn 85 [.up (Ref.up q3)]]),(Ref.up (Ref.up q3),[(A.own 1 x4 ([]:List (List D)))]),(Ref.up (Ref.up q0),[A.fn 86 [.up (Ref.up q0),.up (Ref.up q1),.up (Ref.up q2)]]),(Ref.up (Ref.up q1),[A.fn 87 [.up (Ref.up q2),.up (Ref.up q0),.up (Ref.up q1)]])]/\
 isK .slc (x0.getD 7 D0)=true/\
 ∀_:Nat->Nat,∃R',HT 85 [A.d (D.slc (dlst (x0.getD 7 D0))),A.ptr (.up (Ref.up q3)) 0] [(Ref.up (Ref.up q3),[(A.own 1 x4 ([]:List (List D)))])] R'/\
 (∀v H',R' (.ret v) H'-> ∃x5:List (List D),v=A.tup []/\H'=[(Ref.up (Ref.up q3),[(A.own 1 x5 ([]:List (List D)))])]/\
 R (.ret (A.tup [])) [((Ref.up q0),[A.fn 86 [Ref.up q0,Ref.up q1,Ref.up q2]]),((Ref.up q1),[A.fn 87 [Ref.up q2,Ref.up q0,Ref.up q1]]),((Ref.up q2),[A.fn 85 [Ref.up q3]]),((Ref.up q3),[(A.own 1 x5 ([]:List (List D)))])])/\
 (∀x5v H',R' (.pan x5v) H'-> ∃x6:List (List D),H'=[(Ref.up (Ref.up q3),[(A.own 1 x6 ([]:List (List D)))])]/\
 R (.pan x5v) [((Ref.up q0),[A.fn 86 [Ref.up q0,Ref.up q1,Ref.up q2]]),((Ref.up q1),[A.fn 87 [Ref.up q2,Ref.up q0,Ref.up q1]]),((Ref.up q2),[A.fn 85 [Ref.up q3]]),((Ref.up q3),[(A.own 1 x6 ([]:List (List D)))])]))/\
 (∀x4v H',R' (.pan x4v) H'-> ∃x5:List (List D),H'=[(Ref.up (Ref.up q2),[A.fn 85 [.up (Ref.up q3)]]),(Ref.up (Ref.up q3),[(A.own 1 x5 ([]:List (List D)))]),(Ref.up (Ref.up q0),[A.fn 86 [.up (Ref.up q0),.up (Ref.up q1),.up (Ref.up q2)]]),(Ref.up (Ref.up q1),[A.fn 87 [.up (Ref.up q2),.up (Ref.up q0),.up (Ref.up q1)]])]/\
 R (.pan x4v) [((Ref.up q0),[A.fn 86 [Ref.up q0,Ref.up q1,Ref.up q2]]),((Ref.up q1),[A.fn 87 [Ref.up q2,Ref.up q0,Ref.up q1]]),((Ref.up q2),[A.fn 85 [Ref.up q3]]),((Ref.up q3),[(A.own 1 x5 ([]:List (List D)))])])))/\
 True):
 HT 86 [A.agg x0,A.ptr (Ref.up q0) 0,A.ptr (Ref.up q1) 0,A.ptr (Ref.up q2) 0] [((Ref.up q0),[A.fn 86 [Ref.up q0,Ref.up q1,Ref.up q2]]),((Ref.up q1),[A.fn 87 [Ref.up q2,Ref.up q0,Ref.up q1]]),((Ref.up q2),[A.fn 85 [Ref.up q3]]),((Ref.up q3),[(A.own 1 x1 ([]:List (List D)))])] R:=
 walk (c:=⟨Tryz.prog,26,true,[0,1,2,3,4,6,8,9,10,11]⟩) (op:={com:=[(5,(11,5000)),(5,(6,5000))]}) (fn:=Tryz.f86) (args:=[.agg (.var 0),.ptr (.up 0) 0,.ptr (.up 1) 0,.ptr (.up 2) 0]) (K:=[(.up 0,[.fn 86 [.up 0,.up 1,.up 2]]),(.up 1,[.fn 87 [.up 2,.up 0,.up 1]]),(.up 2,[.fn 85 [.up 3]]),(.up 3,[.own 1 (.var 1) .lnil])]) (nv:=2) (depth:=5) (up:=upOf [q0,q1,q2,q3]) (ρ:=Zwa [.r x0,.l x1])
  rfl rfl rfl rfl rfl (by decide) (by decide) (by decide) (by decide) rfl (by simp[Zab,RRef.den,upOf,hq01,hq02,hq12,hq03,hq13,hq23]) (T_of (by kernel_rfl) h)
theorem w87a{R:RT}(x0:List (List D))(q0 q1 q2 q3:Ref)(hq01:q0≠q1)(hq02:q0≠q2)(hq12:q1≠q2)(hq03:q0≠q3)(hq13:q1≠q3)(hq23:q2≠q3)(h:∃(I0_0:Int->Prop)(M0_0:Int->Nat),∃(I0_1:Int->List (List D)->Prop)(M0_1:Int->List (List D)->Nat),I0_0 0/\
 (∀(x1:Int),I0_0 x1->
 (tB (decide (x1<(x0.length:Int)))=true->
 ∃J1_0:Int->Bool->Prop,∃J1_1:Int->Bool->List (List D)->Prop,(tB (decide (0<=x1))=true/\
 tB (((gAt x0 x1).length:Int)==11)=true/\
 isK .slc ((gAt x0 x1).getD 8 D0)=true/\
 ∀_:Nat->Nat,∃R',HT 85 [A.d (D.slc (dlst ((gAt x0 x1).getD 8 D0))),A.ptr (.up (Ref.up q1)) 0] [(Ref.up (Ref.up q1),[(A.zs ([]:List (List D)))])] R'/\
 (∀v H',R' (.ret v) H'->(v=(A.tup [])/\H'=[(Ref.up (Ref.up q1),[(A.zs ([]:List (List D)))])]/\
 ∃J2_0:Int->Prop,∃J2_1:Int->List (List D)->Prop,(isK .slc ((gAt x0 x1).getD 5 D0)=true/\
 ∃(I3_0:Int->Prop)(M3_0:Int->Nat),∃(I3_1:Int->List (List D)->Prop)(M3_1:Int->List (List D)->Nat),I3_0 0/\
 (∀(x2:Int),I3_0 x2->
 (tB (decide (x2<((dlst ((gAt x0 x1).getD 5 D0)).length:Int)))=true->
 tB (decide (0<=x2))=true/\
 tB (((gAt (dlst ((gAt x0 x1).getD 5 D0)) x2).length:Int)==9)=true/\
 ∀_:Nat->Nat,∃R',HT 86 [A.agg (gAt (dlst ((gAt x0 x1).getD 5 D0)) x2),A.ptr (.up (Ref.up q2)) 0,A.ptr (.up (Ref.up q3)) 0,A.ptr (.up (Ref.up q0)) 0] [(Ref.up (Ref.up q2),[A.fn 86 [.up (Ref.up q2),.up (Ref.up q3),.up (Ref.up q0)]]),(Ref.up (Ref.up q3),[A.fn 87 [.up (Ref.up q0),.up (Ref.up q2),.up (Ref.up q3)]]),(Ref.up (Ref.up q0),[A.fn 85 [.up (Ref.up q1)]]),(Ref.up (Ref.up q1),[(A.zs ([]:List (List D)))])] R'/\
 (∀v H',R' (.ret v) H'->(v=(A.tup [])/\H'=[(Ref.up (Ref.up q2),[A.fn 86 [.up (Ref.up q2),.up (Ref.up q3),.up (Ref.up q0)]]),(Ref.up (Ref.up q3),[A.fn 87 [.up (Ref.up q0),.up (Ref.up q2),.up (Ref.up q3)]]),(Ref.up (Ref.up q0),[A.fn 85 [.up (Ref.up q1)]]),(Ref.up (Ref.up q1),[(A.zs ([]:List (List D)))])]/\
 oV (x2+1) (I3_0 (x2+1)/\M3_0 (x2+1)<M3_0 x2))\/
 (∃x3:List (List D),v=A.tup []/\H'=[(Ref.up (Ref.up q2),[A.fn 86 [.up (Ref.up q2),.up (Ref.up q3),.up (Ref.up q0)]]),(Ref.up (Ref.up q3),[A.fn 87 [.up (Ref.up q0),.up (Ref.up q2),.up (Ref.up q3)]]),(Ref.up (Ref.up q0),[A.fn 85 [.up (Ref.up q1)]]),(Ref.up (Ref.up q1),[(A.own 1 x3 ([]:List (List D)))])]/\
 oV (x2+1) (I3_1 (x2+1) x3/\M3_1 (x2+1) x3<M3_0 x2)))/\
 (∀x3v H',R' (.pan x3v) H'-> ∃x4:List (List D),H'=[(Ref.up (Ref.up q2),[A.fn 86 [.up (Ref.up q2),.up (Ref.up q3),.up (Ref.up q0)]]),(Ref.up (Ref.up q3),[A.fn 87 [.up (Ref.up q0),.up (Ref.up q2),.up (Ref.up q3)]]),(Ref.up (Ref.up q0),[A.fn 85 [.up (Ref.up q1)]]),(Ref.up (Ref.up q1),[A.zs x4])]/\
 R (.pan x3v) [((Ref.up q0),[A.fn 85 [Ref.up q1]]),((Ref.up q1),[A.zs x4]),((Ref.up q2),[A.fn 86 [Ref.up q2,Ref.up q3,Ref.up q0]]),((Ref.up q3),[A.fn 87 [Ref.up q0,Ref.up q2,Ref.up q3]])]))/\
 (tB (decide (x2<((dlst ((gAt x0 x1).getD 5 D0)).length:Int)))=false->
 J2_0 x2))/\
 (∀(x2:Int)(x3:List (List D)),I3_1 x2 x3->
 (tB (decide (x2<((dlst ((gAt x0 x1).getD 5 D0)).length:Int)))=true->
 tB (decide (0<=x2))=true/\
 tB (((gAt (dlst ((gAt x0 x1).getD 5 D0)) x2).length:Int)==9)=true/\
 ∀_:Nat->Nat,∃R',HT 86 [A.agg (gAt (dlst ((gAt x0 x1).getD 5 D0)) x2),A.ptr (.up (Ref.up q2)) 0,A.ptr (.up (Ref.up q3)) 0,A.ptr (.up (Ref.up q0)) 0] [(Ref.up (Ref.up q2),[A.fn 86 [.up (Ref.up q2),.up (Ref.up q3),.up (Ref.up q0)]]),(Ref.up (Ref.up q3),[A.fn 87 [.up (Ref.up q0),.up (Ref.up q2),.up (Ref.up q3)]]),(Ref.up (Ref.up q0),[A.fn 85 [.up (Ref.up q1)]]),(Ref.up (Ref.up q1),[(A.own 1 x3 ([]:List (List D)))])] R'/\
 (∀v H',R' (.ret v) H'-> ∃x4:List (List D),v=A.tup []/\H'=[(Ref.up (Ref.up q2),[A.fn 86 [.up (Ref.up q2),.up (Ref.up q3),.up (Ref.up q0)]]),(Ref.up (Ref.up q3),[A.fn 87 [.up (Ref.up q0),.up (Ref.up q2),.up (Ref.up q3)]]),(Ref.up (Ref.up q0),[A.fn 85 [.up (Ref.up q1)]]),(Ref.up (Ref.up q1),[(A.own 1 x4 ([]:List (List D)))])]/\
 oV (x2+1) (I3_1 (x2+1) x4/\M3_1 (x2+1) x4<M3_1 x2 x3))/\
 (∀x4v H',R' (.pan x4v) H'-> ∃x5:List (List D),H'=[(Ref.up (Ref.up q2),[A.fn 86 [.up (Ref.up q2),.up (Ref.up q3),.up (Ref.up q0)]]),(Ref.up (Ref.up q3),[A.fn 87 [.up (Ref.up q0),.up (Ref.up q2),.up (Ref.up q3)]]),(Ref.up (Ref.up q0),[A.fn 85 [.up (Ref.up q1)]]),(Ref.up (Ref.up q1),[(A.own 1 x5 ([]:List (List D)))])]/\
 R (.pan x4v) [((Ref.up q0),[A.fn 85 [Ref.up q1]]),((Ref.up q1),[(A.own 1 x5 ([]:List (List D)))]),((Ref.up q2),[A.fn 86 [Ref.up q2,Ref.up q3,Ref.up q0]]),((Ref.up q3),[A.fn 87 [Ref.up q0,Ref.up q2,Ref.up q3]])]))/\
 (tB (decide (x2<((dlst ((gAt x0 x1).getD 5 D0)).length:Int)))=false->
 J2_1 x2 x3))/\
 True)/\
 (∀(x2:Int),J2_0 x2->
 isK .slc ((gAt x0 x1).getD 6 D0)=true/\
 ∀_:Nat->Nat,∃R',HT 87 [A.d (D.slc (dlst ((gAt x0 x1).getD 6 D0))),A.ptr (.up (Ref.up q0)) 0,A.ptr (.up (Ref.up q2)) 0,A.ptr (.up (Ref.up q3)) 0] [(Ref.up (Ref.up q0),[A.fn 85 [.up (Ref.up q1)]]),(Ref.up (Ref.up q1),[(A.zs ([]:List (List D)))]),(Ref.up (Ref.up q2),[A.fn 86 [.up (Ref.up q2),.up (Ref.up q3),.up (Ref.up q0)]]),(Ref.up (Ref.up q3),[A.fn 87 [.up (Ref.up q0),.up (Ref.up q2),.up (Ref.up q3)]])] R'/\
 (∀v H',R' (.ret v) H'->(v=(A.tup [])/\H'=[(Ref.up (Ref.up q0),[A.fn 85 [.up (Ref.up q1)]]),(Ref.up (Ref.up q1),[(A.zs ([]:List (List D)))]),(Ref.up (Ref.up q2),[A.fn 86 [.up (Ref.up q2),.up (Ref.up q3),.up (Ref.up q0)]]),(Ref.up (Ref.up q3),[A.fn 87 [.up (Ref.up q0),.up (Ref.up q2),.up (Ref.up q3)]])]/\
 isK .slc ((gAt x0 x1).getD 7 D0)=true/\
 ∀_:Nat->Nat,∃R',HT 85 [A.d (D.slc (dlst ((gAt x0 x1).getD 7 D0))),A.ptr (.up (Ref.up q1)) 0] [(Ref.up (Ref.up q1),[(A.zs ([]:List (List D)))])] R'/\
 (∀v H',R' (.ret v) H'->(v=(A.tup [])/\H'=[(Ref.up (Ref.up q1),[(A.zs ([]:List (List D)))])]/\
 isK .str ((gAt x0 x1).getD 9 D0)=true/\
 ((!(tB ((dstr ((gAt x0 x1).getD 9 D0))==([]:List UInt8))))=true->
 ∀_:Nat->Nat,∃R',HT 85 [A.d (D.slc [[D.lit (Zco (dstr ((gAt x0 x1).getD 9 D0)))]]),A.ptr (.up (Ref.up q1)) 0] [(Ref.up (Ref.up q1),[(A.zs ([]:List (List D)))])] R'/\
 (∀v H',R' (.ret v) H'->(v=(A.tup [])/\H'=[(Ref.up (Ref.up q1),[(A.zs ([]:List (List D)))])]/\
 J1_0 x2 true)\/
 (∃x3:List (List D),v=A.tup []/\H'=[(Ref.up (Ref.up q1),[(A.own 1 x3 ([]:List (List D)))])]/\
 J1_1 x2 true x3))/\
 (∀x3v H',R' (.pan x3v) H'-> ∃x4:List (List D),H'=[(Ref.up (Ref.up q1),[A.zs x4])]/\
 R (.pan x3v) [((Ref.up q0),[A.fn 85 [Ref.up q1]]),((Ref.up q1),[A.zs x4]),((Ref.up q2),[A.fn 86 [Ref.up q2,Ref.up q3,Ref.up q0]]),((Ref.up q3),[A.fn 87 [Ref.up q0,Ref.up q2,Ref.up q3]])]))/\
 ((!(tB ((dstr ((gAt x0 x1).getD 9 D0))==([]:List UInt8))))=false->
 J1_0 x2 false))\/
 (∃x3:List (List D),v=A.tup []/\H'=[(Ref.up (Ref.up q1),[(A.own 1 x3 ([]:List (List D)))])]/\
 isK .str ((gAt x0 x1).getD 9 D0)=true/\
 ((!(tB ((dstr ((gAt x0 x1).getD 9 D0))==([]:List UInt8))))=true->
 ∀_:Nat->Nat,∃R',HT 85 [A.d (D.slc [[D.lit (Zco (dstr ((gAt x0 x1).getD 9 D0)))]]),A.ptr (.up (Ref.up q1)) 0] [(Ref.up (Ref.up q1),[(A.own 1 x3 ([]:List (List D)))])] R'/\
 (∀v H',R' (.ret v) H'-> ∃x4:List (List D),v=A.tup []/\H'=[(Ref.up (Ref.up q1),[(A.own 1 x4 ([]:List (List D)))])]/\
 J1_1 x2 true x4)/\
 (∀x4v H',R' (.pan x4v) H'-> ∃x5:List (List D),H'=[(Ref.up (Ref.up q1),[(A.own 1 x5 ([]:List (List D)))])]/\
 R (.pan x4v) [((Ref.up q0),[A.fn 85 [Ref.up q1]]),((Ref.up q1),[(A.own 1 x5 ([]:List (List D)))]),((Ref.up q2),[A.fn 86 [Ref.up q2,Ref.up q3,Ref.up q0]]),((Ref.up q3),[A.fn 87 [Ref.up q0,Ref.up q2,Ref.up q3]])]))/\
 ((!(tB ((dstr ((gAt x0 x1).getD 9 D0))==([]:List UInt8))))=false->
 J1_1 x2 false x3)))/\
 (∀x3v H',R' (.pan x3v) H'-> ∃x4:List (List D),H'=[(Ref.up (Ref.up q1),[A.zs x4])]/\
 R (.pan x3v) [((Ref.up q0),[A.fn 85 [Ref.up q1]]),((Ref.up q1),[A.zs x4]),((Ref.up q2),[A.fn 86 [Ref.up q2,Ref.up q3,Ref.up q0]]),((Ref.up q3),[A.fn 87 [Ref.up q0,Ref.up q2,Ref.up q3]])]))\/
 (∃x3:List (List D),v=A.tup []/\H'=[(Ref.up (Ref.up q0),[A.fn 85 [.up (Ref.up q1)]]),(Ref.up (Ref.up q1),[(A.own 1 x3 ([]:List (List D)))]),(Ref.up (Ref.up q2),[A.fn 86 [.up (Ref.up q2),.up (Ref.up q3),.up (Ref.up q0)]]),(Ref.up (Ref.up q3),[A.fn 87 [.up (Ref.up q0),.up (Ref.up q2),.up (Ref.up q3)]])]/\
 isK .slc ((gAt x0 x1).getD 7 D0)=true/\
 ∀_:Nat->Nat,∃R',HT 85 [A.d (D.slc (dlst ((gAt x0 x1).getD 7 D0))),A.ptr (.up (Ref.up q1)) 0] [(Ref.up (Ref.up q1),[(A.own 1 x3 ([]:List (List D)))])] R'/\
 (∀v H',R' (.ret v) H'-> ∃x4:List (List D),v=A.tup []/\H'=[(Ref.up (Ref.up q1),[(A.own 1 x4 ([]:List (List D)))])]/\
 isK .str ((gAt x0 x1).getD 9 D0)=true/\
 ((!(tB ((dstr ((gAt x0 x1).getD 9 D0))==([]:List UInt8))))=true->
 ∀_:Nat->Nat,∃R',HT 85 [A.d (D.slc [[D.lit (Zco (dstr ((gAt x0 x1).getD 9 D0)))]]),A.ptr (.up (Ref.up q1)) 0] [(Ref.up (Ref.up q1),[(A.own 1 x4 ([]:List (List D)))])] R'/\
 (∀v H',R' (.ret v) H'-> ∃x5:List (List D),v=A.tup []/\H'=[(Ref.up (Ref.up q1),[(A.own 1 x5 ([]:List (List D)))])]/\
 J1_1 x2 true x5)/\
 (∀x5v H',R' (.pan x5v) H'-> ∃x6:List (List D),H'=[(Ref.up (Ref.up q1),[(A.own 1 x6 ([]:List (List D)))])]/\
 R (.pan x5v) [((Ref.up q0),[A.fn 85 [Ref.up q1]]),((Ref.up q1),[(A.own 1 x6 ([]:List (List D)))]),((Ref.up q2),[A.fn 86 [Ref.up q2,Ref.up q3,Ref.up q0]]),((Ref.up q3),[A.fn 87 [Ref.up q0,Ref.up q2,Ref.up q3]])]))/\
 ((!(tB ((dstr ((gAt x0 x1).getD 9 D0))==([]:List UInt8))))=false->
 J1_1 x2 false x4))/\
 (∀x4v H',R' (.pan x4v) H'-> ∃x5:List (List D),H'=[(Ref.up (Ref.up q1),[(A.own 1 x5 ([]:List (List D)))])]/\
 R (.pan x4v) [((Ref.up q0),[A.fn 85 [Ref.up q1]]),((Ref.up q1),[(A.own 1 x5 ([]:List (List D)))]),((Ref.up q2),[A.fn 86 [Ref.up q2,Ref.up q3,Ref.up q0]]),((Ref.up q3),[A.fn 87 [Ref.up q0,Ref.up q2,Ref.up q3]])])))/\
 (∀x3v H',R' (.pan x3v) H'-> ∃x4:List (List D),H'=[(Ref.up (Ref.up q0),[A.fn 85 [.up (Ref.up q1)]]),(Ref.up (Ref.up q1),[A.zs x4]),(Ref.up (Ref.up q2),[A.fn 86 [.up (Ref.up q2),.up (Ref.up q3),.up (Ref.up q0)]]),(Ref.up (Ref.up q3),[A.fn 87 [.up (Ref.up q0),.up (Ref.up q2),.up (Ref.up q3)]])]/\
 R (.pan x3v) [((Ref.up q0),[A.fn 85 [Ref.up q1]]),((Ref.up q1),[A.zs x4]),((Ref.up q2),[A.fn 86 [Ref.up q2,Ref.up q3,Ref.up q0]]),((Ref.up q3),[A.fn 87 [Ref.up q0,Ref.up q2,Ref.up q3]])]))/\
 (∀(x2:Int)(x3:List (List D)),J2_1 x2 x3->
 isK .slc ((gAt x0 x1).getD 6 D0)=true/\
 ∀_:Nat->Nat,∃R',HT 87 [A.d (D.slc (dlst ((gAt x0 x1).getD 6 D0))),A.ptr (.up (Ref.up q0)) 0,A.ptr (.up (Ref.up q2)) 0,A.ptr (.up (Ref.up q3)) 0] [(Ref.up (Ref.up q0),[A.fn 85 [.up (Ref.up q1)]]),(Ref.up (Ref.up q1),[(A.own 1 x3 ([]:List (List D)))]),(Ref.up (Ref.up q2),[A.fn 86 [.up (Ref.up q2),.up (Ref.up q3),.up (Ref.up q0)]]),(Ref.up (Ref.up q3),[A.fn 87 [.up (Ref.up q0),.up (Ref.up q2),.up (Ref.up q3)]])] R'/\
 (∀v H',R' (.ret v) H'-> ∃x4:List (List D),v=A.tup []/\H'=[(Ref.up (Ref.up q0),[A.fn 85 [.up (Ref.up q1)]]),(Ref.up (Ref.up q1),[(A.own 1 x4 ([]:List (List D)))]),(Ref.up (Ref.up q2),[A.fn 86 [.up (Ref.up q2),.up (Ref.up q3),.up (Ref.up q0)]]),(Ref.up (Ref.up q3),[A.fn 87 [.up (Ref.up q0),.up (Ref.up q2),.up (Ref.up q3)]])]/\
 isK .slc ((gAt x0 x1).getD 7 D0)=true/\
 ∀_:Nat->Nat,∃R',HT 85 [A.d (D.slc (dlst ((gAt x0 x1).getD 7 D0))),A.ptr (.up (Ref.up q1)) 0] [(Ref.up (Ref.up q1),[(A.own 1 x4 ([]:List (List D)))])] R'/\
 (∀v H',R' (.ret v) H'-> ∃x5:List (List D),v=A.tup []/\H'=[(Ref.up (Ref.up q1),[(A.own 1 x5 ([]:List (List D)))])]/\
 isK .str ((gAt x0 x1).getD 9 D0)=true/\
 ((!(tB ((dstr ((gAt x0 x1).getD 9 D0))==([]:List UInt8))))=true->
 ∀_:Nat->Nat,∃R',HT 85 [A.d (D.slc [[D.lit (Zco (dstr ((gAt x0 x1).getD 9 D0)))]]),A.ptr (.up (Ref.up q1)) 0] [(Ref.up (Ref.up q1),[(A.own 1 x5 ([]:List (List D)))])] R'/\
 (∀v H',R' (.ret v) H'-> ∃x6:List (List D),v=A.tup []/\H'=[(Ref.up (Ref.up q1),[(A.own 1 x6 ([]:List (List D)))])]/\
 J1_1 x2 true x6)/\
 (∀x6v H',R' (.pan x6v) H'-> ∃x7:List (List D),H'=[(Ref.up (Ref.up q1),[(A.own 1 x7 ([]:List (List D)))])]/\
 R (.pan x6v) [((Ref.up q0),[A.fn 85 [Ref.up q1]]),((Ref.up q1),[(A.own 1 x7 ([]:List (List D)))]),((Ref.up q2),[A.fn 86 [Ref.up q2,Ref.up q3,Ref.up q0]]),((Ref.up q3),[A.fn 87 [Ref.up q0,Ref.up q2,Ref.up q3]])]))/\
 ((!(tB ((dstr ((gAt x0 x1).getD 9 D0))==([]:List UInt8))))=false->
 J1_1 x2 false x5))/\
 (∀x5v H',R' (.pan x5v) H'-> ∃x6:List (List D),H'=[(Ref.up (Ref.up q1),[(A.own 1 x6 ([]:List (List D)))])]/\
 R (.pan x5v) [((Ref.up q0),[A.fn 85 [Ref.up q1]]),((Ref.up q1),[(A.own 1 x6 ([]:List (List D)))]),((Ref.up q2),[A.fn 86 [Ref.up q2,Ref.up q3,Ref.up q0]]),((Ref.up q3),[A.fn 87 [Ref.up q0,Ref.up q2,Ref.up q3]])]))/\
 (∀x4v H',R' (.pan x4v) H'-> ∃x5:List (List D),H'=[(Ref.up (Ref.up q0),[A.fn 85 [.up (Ref.up q1)]]),(Ref.up (Ref.up q1),[(A.own 1 x5 ([]:List (List D)))]),(Ref.up (Ref.up q2),[A.fn 86 [.up (Ref.up q2),.up (Ref.up q3),.up (Ref.up q0)]]),(Ref.up (Ref.up q3),[A.fn 87 [.up (Ref.up q0),.up (Ref.up q2),.up (Ref.up q3)]])]/\
 R (.pan x4v) [((Ref.up q0),[A.fn 85 [Ref.up q1]]),((Ref.up q1),[(A.own 1 x5 ([]:List (List D)))]),((Ref.up q2),[A.fn 86 [Ref.up q2,Ref.up q3,Ref.up q0]]),((Ref.up q3),[A.fn 87 [Ref.up q0,Ref.up q2,Ref.up q3]])]))/\
 True)\/
 (∃x2:List (List D),v=A.tup []/\H'=[(Ref.up (Ref.up q1),[(A.own 1 x2 ([]:List (List D)))])]/\
 ∃J2_0:Int->List (List D)->Prop,(isK .slc ((gAt x0 x1).getD 5 D0)=true/\
 ∃(I3_0:Int->List (List D)->Prop)(M3_0:Int->List (List D)->Nat),I3_0 0 x2/\
 (∀(x3:Int)(x4:List (List D)),I3_0 x3 x4->
 (tB (decide (x3<((dlst ((gAt x0 x1).getD 5 D0)).length:Int)))=true->
 tB (decide (0<=x3))=true/\
 tB (((gAt (dlst ((gAt x0 x1).getD 5 D0)) x3).length:Int)==9)=true/\
 ∀_:Nat->Nat,∃R',HT 86 [A.agg (gAt (dlst ((gAt x0 x1).getD 5 D0)) x3),A.ptr (.up (Ref.up q2)) 0,A.ptr (.up (Ref.up q3)) 0,A.ptr (.up (Ref.up q0)) 0] [(Ref.up (Ref.up q2),[A.fn 86 [.up (Ref.up q2),.up (Ref.up q3),.up (Ref.up q0)]]),(Ref.up (Ref.up q3),[A.fn 87 [.up (Ref.up q0),.up (Ref.up q2),.up (Ref.up q3)]]),(Ref.up (Ref.up q0),[A.fn 85 [.up (Ref.up q1)]]),(Ref.up (Ref.up q1),[(A.own 1 x4 ([]:List (List D)))])] R'/\
 (∀v H',R' (.ret v) H'-> ∃x5:List (List D),v=A.tup []/\H'=[(Ref.up (Ref.up q2),[A.fn 86 [.up (Ref.up q2),.up (Ref.up q3),.up (Ref.up q0)]]),(Ref.up (Ref.up q3),[A.fn 87 [.up (Ref.up q0),.up (Ref.up q2),.up (Ref.up q3)]]),(Ref.up (Ref.up q0),[A.fn 85 [.up (Ref.up q1)]]),(Ref.up (Ref.up q1),[(A.own 1 x5 ([]:List (List D)))])]/\
 oV (x3+1) (I3_0 (x3+1) x5/\M3_0 (x3+1) x5<M3_0 x3 x4))/\
 (∀x5v H',R' (.pan x5v) H'-> ∃x6:List (List D),H'=[(Ref.up (Ref.up q2),[A.fn 86 [.up (Ref.up q2),.up (Ref.up q3),.up (Ref.up q0)]]),(Ref.up (Ref.up q3),[A.fn 87 [.up (Ref.up q0),.up (Ref.up q2),.up (Ref.up q3)]]),(Ref.up (Ref.up q0),[A.fn 85 [.up (Ref.up q1)]]),(Ref.up (Ref.up q1),[(A.own 1 x6 ([]:List (List D)))])]/\
 R (.pan x5v) [((Ref.up q0),[A.fn 85 [Ref.up q1]]),((Ref.up q1),[(A.own 1 x6 ([]:List (List D)))]),((Ref.up q2),[A.fn 86 [Ref.up q2,Ref.up q3,Ref.up q0]]),((Ref.up q3),[A.fn 87 [Ref.up q0,Ref.up q2,Ref.up q3]])]))/\
 (tB (decide (x3<((dlst ((gAt x0 x1).getD 5 D0)).length:Int)))=false->
 J2_0 x3 x4))/\
 True)/\
 (∀(x3:Int)(x4:List (List D)),J2_0 x3 x4->
 isK .slc ((gAt x0 x1).getD 6 D0)=true/\
 ∀_:Nat->Nat,∃R',HT 87 [A.d (D.slc (dlst ((gAt x0 x1).getD 6 D0))),A.ptr (.up (Ref.up q0)) 0,A.ptr (.up (Ref.up q2)) 0,A.ptr (.up (Ref.up q3)) 0] [(Ref.up (Ref.up q0),[A.fn 85 [.up (Ref.up q1)]]),(Ref.up (Ref.up q1),[(A.own 1 x4 ([]:List (List D)))]),(Ref.up (Ref.up q2),[A.fn 86 [.up (Ref.up q2),.up (Ref.up q3),.up (Ref.up q0)]]),(Ref.up (Ref.up q3),[A.fn 87 [.up (Ref.up q0),.up (Ref.up q2),.up (Ref.up q3)]])] R'/\
 (∀v H',R' (.ret v) H'-> ∃x5:List (List D),v=A.tup []/\H'=[(Ref.up (Ref.up q0),[A.fn 85 [.up (Ref.up q1)]]),(Ref.up (Ref.up q1),[(A.own 1 x5 ([]:List (List D)))]),(Ref.up (Ref.up q2),[A.fn 86 [.up (Ref.up q2),.up (Ref.up q3),.up (Ref.up q0)]]),(Ref.up (Ref.up q3),[A.fn 87 [.up (Ref.up q0),.up (Ref.up q2),.up (Ref.up q3)]])]/\
 isK .slc ((gAt x0 x1).getD 7 D0)=true/\
 ∀_:Nat->Nat,∃R',HT 85 [A.d (D.slc (dlst ((gAt x0 x1).getD 7 D0))),A.ptr (.up (Ref.up q1)) 0] [(Ref.up (Ref.up q1),[(A.own 1 x5 ([]:List (List D)))])] R'/\
 (∀v H',R' (.ret v) H'-> ∃x6:List (List D),v=A.tup []/\H'=[(Ref.up (Ref.up q1),[(A.own 1 x6 ([]:List (List D)))])]/\
 isK .str ((gAt x0 x1).getD 9 D0)=true/\
 ((!(tB ((dstr ((gAt x0 x1).getD 9 D0))==([]:List UInt8))))=true->
 ∀_:Nat->Nat,∃R',HT 85 [A.d (D.slc [[D.lit (Zco (dstr ((gAt x0 x1).getD 9 D0)))]]),A.ptr (.up (Ref.up q1)) 0] [(Ref.up (Ref.up q1),[(A.own 1 x6 ([]:List (List D)))])] R'/\
 (∀v H',R' (.ret v) H'-> ∃x7:List (List D),v=A.tup []/\H'=[(Ref.up (Ref.up q1),[(A.own 1 x7 ([]:List (List D)))])]/\
 J1_1 x3 true x7)/\
 (∀x7v H',R' (.pan x7v) H'-> ∃x8:List (List D),H'=[(Ref.up (Ref.up q1),[(A.own 1 x8 ([]:List (List D)))])]/\
 R (.pan x7v) [((Ref.up q0),[A.fn 85 [Ref.up q1]]),((Ref.up q1),[(A.own 1 x8 ([]:List (List D)))]),((Ref.up q2),[A.fn 86 [Ref.up q2,Ref.up q3,Ref.up q0]]),((Ref.up q3),[A.fn 87 [Ref.up q0,Ref.up q2,Ref.up q3]])]))/\
 ((!(tB ((dstr ((gAt x0 x1).getD 9 D0))==([]:List UInt8))))=false->
 J1_1 x3 false x6))/\
 (∀x6v H',R' (.pan x6v) H'-> ∃x7:List (List D),H'=[(Ref.up (Ref.up q1),[(A.own 1 x7 ([]:List (List D)))])]/\
 R (.pan x6v) [((Ref.up q0),[A.fn 85 [Ref.up q1]]),((Ref.up q1),[(A.own 1 x7 ([]:List (List D)))]),((Ref.up q2),[A.fn 86 [Ref.up q2,Ref.up q3,Ref.up q0]]),((Ref.up q3),[A.fn 87 [Ref.up q0,Ref.up q2,Ref.up q3]])]))/\
 (∀x5v H',R' (.pan x5v) H'-> ∃x6:List (List D),H'=[(Ref.up (Ref.up q0),[A.fn 85 [.up (Ref.up q1)]]),(Ref.up (Ref.up q1),[(A.own 1 x6 ([]:List (List D)))]),(Ref.up (Ref.up q2),[A.fn 86 [.up (Ref.up q2),.up (Ref.up q3),.up (Ref.up q0)]]),(Ref.up (Ref.up q3),[A.fn 87 [.up (Ref.up q0),.up (Ref.up q2),.up (Ref.up q3)]])]/\
 R (.pan x5v) [((Ref.up q0),[A.fn 85 [Ref.up q1]]),((Ref.up q1),[(A.own 1 x6 ([]:List (List D)))]),((Ref.up q2),[A.fn 86 [Ref.up q2,Ref.up q3,Ref.up q0]]),((Ref.up q3),[A.fn 87 [Ref.up q0,Ref.up q2,Ref.up q3]])]))/\
 True))/\
 (∀x2v H',R' (.pan x2v) H'-> ∃x3:List (List D),H'=[(Ref.up (Ref.up q1),[A.zs x3])]/\
 R (.pan x2v) [((Ref.up q0),[A.fn 85 [Ref.up q1]]),((Ref.up q1),[A.zs x3]),((Ref.up q2),[A.fn 86 [Ref.up q2,Ref.up q3,Ref.up q0]]),((Ref.up q3),[A.fn 87 [Ref.up q0,Ref.up q2,Ref.up q3]])]))/\
 (∀(x2:Int)(x3:Bool),J1_0 x2 x3->
 oV (x1+1) (I0_0 (x1+1)/\M0_0 (x1+1)<M0_0 x1))/\
 (∀(x2:Int)(x3:Bool)(x4:List (List D)),J1_1 x2 x3 x4->
 oV (x1+1) (I0_1 (x1+1) x4/\M0_1 (x1+1) x4<M0_0 x1))/\
 True)/\
 (tB (decide (x1<(x0.length:Int)))=false->
 R (.ret (A.tup [])) [((Ref.up q0),[A.fn 85 [Ref.up q1]]),((Ref.up q1),[(A.zs ([]:List (List D)))]),((Ref.up q2),[A.fn 86 [Ref.up q2,Ref.up q3,Ref.up q0]]),((Ref.up q3),[A.fn 87 [Ref.up q0,Ref.up q2,Ref.up q3]])]))/\
 (∀(x1:Int)(x2:List (List D)),I0_1 x1 x2->
 (tB (decide (x1<(x0.length:Int)))=true->
 ∃J1_0:Int->Bool->List (List D)->Prop,(tB (decide (0<=x1))=true/\
 tB (((gAt x0 x1).length:Int)==11)=true/\
 isK .slc ((gAt x0 x1).getD 8 D0)=true/\
 ∀_:Nat->Nat,∃R',HT 85 [A.d (D.slc (dlst ((gAt x0 x1).getD 8 D0))),A.ptr (.up (Ref.up q1)) 0] [(Ref.up (Ref.up q1),[(A.own 1 x2 ([]:List (List D)))])] R'/\
 (∀v H',R' (.ret v) H'-> ∃x3:List (List D),v=A.tup []/\H'=[(Ref.up (Ref.up q1),[(A.own 1 x3 ([]:List (List D)))])]/\
 ∃J2_0:Int->List (List D)->Prop,(isK .slc ((gAt x0 x1).getD 5 D0)=true/\
 ∃(I3_0:Int->List (List D)->Prop)(M3_0:Int->List (List D)->Nat),I3_0 0 x3/\
 (∀(x4:Int)(x5:List (List D)),I3_0 x4 x5->
 (tB (decide (x4<((dlst ((gAt x0 x1).getD 5 D0)).length:Int)))=true->
 tB (decide (0<=x4))=true/\
 tB (((gAt (dlst ((gAt x0 x1).getD 5 D0)) x4).length:Int)==9)=true/\
 ∀_:Nat->Nat,∃R',HT 86 [A.agg (gAt (dlst ((gAt x0 x1).getD 5 D0)) x4),A.ptr (.up (Ref.up q2)) 0,A.ptr (.up (Ref.up q3)) 0,A.ptr (.up (Ref.up q0)) 0] [(Ref.up (Ref.up q2),[A.fn 86 [.up (Ref.up q2),.up (Ref.up q3),.up (Ref.up q0)]]),(Ref.up (Ref.up q3),[A.fn 87 [.up (Ref.up q0),.up (Ref.up q2),.up (Ref.up q3)]]),(Ref.up (Ref.up q0),[A.fn 85 [.up (Ref.up q1)]]),(Ref.up (Ref.up q1),[(A.own 1 x5 ([]:List (List D)))])] R'/\
 (∀v H',R' (.ret v) H'-> ∃x6:List (List D),v=A.tup []/\H'=[(Ref.up (Ref.up q2),[A.fn 86 [.up (Ref.up q2),.up (Ref.up q3),.up (Ref.up q0)]]),(Ref.up (Ref.up q3),[A.fn 87 [.up (Ref.up q0),.up (Ref.up q2),.up (Ref.up q3)]]),(Ref.up (Ref.up q0),[A.fn 85 [.up (Ref.up q1)]]),(Ref.up (Ref.up q1),[(A.own 1 x6 ([]:List (List D)))])]/\
 oV (x4+1) (I3_0 (x4+1) x6/\M3_0 (x4+1) x6<M3_0 x4 x5))/\
 (∀x6v H',R' (.pan x6v) H'-> ∃x7:List (List D),H'=[(Ref.up (Ref.up q2),[A.fn 86 [.up (Ref.up q2),.up (Ref.up q3),.up (Ref.up q0)]]),(Ref.up (Ref.up q3),[A.fn 87 [.up (Ref.up q0),.up (Ref.up q2),.up (Ref.up q3)]]),(Ref.up (Ref.up q0),[A.fn 85 [.up (Ref.up q1)]]),(Ref.up (Ref.up q1),[(A.own 1 x7 ([]:List (List D)))])]/\
 R (.pan x6v) [((Ref.up q0),[A.fn 85 [Ref.up q1]]),((Ref.up q1),[(A.own 1 x7 ([]:List (List D)))]),((Ref.up q2),[A.fn 86 [Ref.up q2,Ref.up q3,Ref.up q0]]),((Ref.up q3),[A.fn 87 [Ref.up q0,Ref.up q2,Ref.up q3]])]))/\
 (tB (decide (x4<((dlst ((gAt x0 x1).getD 5 D0)).length:Int)))=false->
 J2_0 x4 x5))/\
 True)/\
 (∀(x4:Int)(x5:List (List D)),J2_0 x4 x5->
 isK .slc ((gAt x0 x1).getD 6 D0)=true/\
 ∀_:Nat->Nat,∃R',HT 87 [A.d (D.slc (dlst ((gAt x0 x1).getD 6 D0))),A.ptr (.up (Ref.up q0)) 0,A.ptr (.up (Ref.up q2)) 0,A.ptr (.up (Ref.up q3)) 0] [(Ref.up (Ref.up q0),[A.fn 85 [.up (Ref.up q1)]]),(Ref.up (Ref.up q1),[(A.own 1 x5 ([]:List (List D)))]),(Ref.up (Ref.up q2),[A.fn 86 [.up (Ref.up q2),.up (Ref.up q3),.up (Ref.up q0)]]),(Ref.up (Ref.up q3),[A.fn 87 [.up (Ref.up q0),.up (Ref.up q2),.up (Ref.up q3)]])] R'/\
 (∀v H',R' (.ret v) H'-> ∃x6:List (List D),v=A.tup []/\H'=[(Ref.up (Ref.up q0),[A.fn 85 [.up (Ref.up q1)]]),(Ref.up (Ref.up q1),[(A.own 1 x6 ([]:List (List D)))]),(Ref.up (Ref.up q2),[A.fn 86 [.up (Ref.up q2),.up (Ref.up q3),.up (Ref.up q0)]]),(Ref.up (Ref.up q3),[A.fn 87 [.up (Ref.up q0),.up (Ref.up q2),.up (Ref.up q3)]])]/\
 isK .slc ((gAt x0 x1).getD 7 D0)=true/\
 ∀_:Nat->Nat,∃R',HT 85 [A.d (D.slc (dlst ((gAt x0 x1).getD 7 D0))),A.ptr (.up (Ref.up q1)) 0] [(Ref.up (Ref.up q1),[(A.own 1 x6 ([]:List (List D)))])] R'/\
 (∀v H',R' (.ret v) H'-> ∃x7:List (List D),v=A.tup []/\H'=[(Ref.up (Ref.up q1),[(A.own 1 x7 ([]:List (List D)))])]/\
 isK .str ((gAt x0 x1).getD 9 D0)=true/\
 ((!(tB ((dstr ((gAt x0 x1).getD 9 D0))==([]:List UInt8))))=true->
 ∀_:Nat->Nat,∃R',HT 85 [A.d (D.slc [[D.lit (Zco (dstr ((gAt x0 x1).getD 9 D0)))]]),A.ptr (.up (Ref.up q1)) 0] [(Ref.up (Ref.up q1),[(A.own 1 x7 ([]:List (List D)))])] R'/\
 (∀v H',R' (.ret v) H'-> ∃x8:List (List D),v=A.tup []/\H'=[(Ref.up (Ref.up q1),[(A.own 1 x8 ([]:List (List D)))])]/\
 J1_0 x4 true x8)/\
 (∀x8v H',R' (.pan x8v) H'-> ∃x9:List (List D),H'=[(Ref.up (Ref.up q1),[(A.own 1 x9 ([]:List (List D)))])]/\
 R (.pan x8v) [((Ref.up q0),[A.fn 85 [Ref.up q1]]),((Ref.up q1),[(A.own 1 x9 ([]:List (List D)))]),((Ref.up q2),[A.fn 86 [Ref.up q2,Ref.up q3,Ref.up q0]]),((Ref.up q3),[A.fn 87 [Ref.up q0,Ref.up q2,Ref.up q3]])]))/\
 ((!(tB ((dstr ((gAt x0 x1).getD 9 D0))==([]:List UInt8))))=false->
 J1_0 x4 false x7))/\
 (∀x7v H',R' (.pan x7v) H'-> ∃x8:List (List D),H'=[(Ref.up (Ref.up q1),[(A.own 1 x8 ([]:List (List D)))])]/\
 R (.pan x7v) [((Ref.up q0),[A.fn 85 [Ref.up q1]]),((Ref.up q1),[(A.own 1 x8 ([]:List (List D)))]),((Ref.up q2),[A.fn 86 [Ref.up q2,Ref.up q3,Ref.up q0]]),((Ref.up q3),[A.fn 87 [Ref.up q0,Ref.up q2,Ref.up q3]])]))/\
 (∀x6v H',R' (.pan x6v) H'-> ∃x7:List (List D),H'=[(Ref.up (Ref.up q0),[A.fn 85 [.up (Ref.up q1)]]),(Ref.up (Ref.up q1),[(A.own 1 x7 ([]:List (List D)))]),(Ref.up (Ref.up q2),[A.fn 86 [.up (Ref.up q2),.up (Ref.up q3),.up (Ref.up q0)]]),(Ref.up (Ref.up q3),[A.fn 87 [.up (Ref.up q0),.up (Ref.up q2),.up (Ref.up q3)]])]/\
 R (.pan x6v) [((Ref.up q0),[A.fn 85 [Ref.up q1]]),((Ref.up q1),[(A.own 1 x7 ([]:List (List D)))]),((Ref.up q2),[A.fn 86 [Ref.up q2,Ref.up q3,Ref.up q0]]),((Ref.up q3),[A.fn 87 [Ref.up q0,Ref.up q2,Ref.up q3]])]))/\
 True)/\
 (∀x3v H',R' (.pan x3v) H'-> ∃x4:List (List D),H'=[(Ref.up (Ref.up q1),[(A.own 1 x4 ([]:List (List D)))])]/\
 R (.pan x3v) [((Ref.up q0),[A.fn 85 [Ref.up q1]]),((Ref.up q1),[(A.own 1 x4 ([]:List (List D)))]),((Ref.up q2),[A.fn 86 [Ref.up q2,Ref.up q3,Ref.up q0]]),((Ref.up q3),[A.fn 87 [Ref.up q0,Ref.up q2,Ref.up q3]])]))/\
 (∀(x3:Int)(x4:Bool)(x5:List (List D)),J1_0 x3 x4 x5->
 oV (x1+1) (I0_1 (x1+1) x5/\M0_1 (x1+1) x5<M0_1 x1 x2))/\
 True)/\
 (tB (decide (x1<(x0.length:Int)))=false->
 R (.ret (A.tup [])) [((Ref.up q0),[A.fn 85 [Ref.up q1]]),((Ref.up q1),[(A.own 1 x2 ([]:List (List D)))]),((Ref.up q2),[A.fn 86 [Ref.up q2,Ref.up q3,Ref.up q0]]),((Ref.up q3),[A.fn 87 [Ref.up q0,Ref.up q2,Ref.up q3]])]))/\
 True):
 HT 87 [A.d (D.slc x0),A.ptr (Ref.up q0) 0,A.ptr (Ref.up q2) 0,A.ptr (Ref.up q3) 0] [((Ref.up q0),[A.fn 85 [Ref.up q1]]),((Ref.up q1),[(A.zs ([]:List (List D)))]),((Ref.up q2),[A.fn 86 [Ref.up q2,Ref.up q3,Ref.up q0]]),((Ref.up q3),[A.fn 87 [Ref.up q0,Ref.up q2,Ref.up q3]])] R:=
 walk (c:=⟨Tryz.prog,47,true,[0,1,2,3,6,8,9,10,11,12,20,21,22,23,40]⟩) (op:={cuts:=[9,13],two:=[(70,1),(72,1),(85,1),(86,1),(87,1)],com:=[(13,(12,5000)),(13,(6,5000)),(13,(20,5000)),(13,(21,5000)),(13,(22,5000)),(13,(23,5000)),(13,(8,5000)),(13,(40,5000)),(8,(23,5000)),(8,(8,5000))]}) (fn:=Tryz.f87) (args:=[.c (.o1 .cl (.var 0)),.ptr (.up 0) 0,.ptr (.up 2) 0,.ptr (.up 3) 0]) (K:=[(.up 0,[.fn 85 [.up 1]]),(.up 1,[.zs .lnil]),(.up 2,[.fn 86 [.up 2,.up 3,.up 0]]),(.up 3,[.fn 87 [.up 0,.up 2,.up 3]])]) (nv:=1) (depth:=6) (up:=upOf [q0,q1,q2,q3]) (ρ:=Zwa [.l x0])
  rfl rfl rfl rfl rfl (by decide) (by decide) (by decide) (by decide) rfl (by simp[Zab,RRef.den,upOf,hq01,hq02,hq12,hq03,hq13,hq23]) (T_of (by kernel_rfl) h)
theorem w87b{R:RT}(x0:List (List D))(x1:List (List D))(q0 q1 q2 q3:Ref)(hq01:q0≠q1)(hq02:q0≠q2)(hq12:q1≠q2)(hq03:q0≠q3)(hq13:q1≠q3)(hq23:q2≠q3)(h:∃(I0_0:Int->List (List D)->Prop)(M0_0:Int->List (List D)->Nat),I0_0 0 x1/\
 (∀(x2:Int)(x3:List (List D)),I0_0 x2 x3->
 (tB (decide (x2<(x0.length:Int)))=true->
 ∃J1_0:Int->Bool->List (List D)->Prop,(tB (decide (0<=x2))=true/\
 tB (((gAt x0 x2).length:Int)==11)=true/\
 isK .slc ((gAt x0 x2).getD 8 D0)=true/\
 ∀_:Nat->Nat,∃R',HT 85 [A.d (D.slc (dlst ((gAt x0 x2).getD 8 D0))),A.ptr (.up (Ref.up q1)) 0] [(Ref.up (Ref.up q1),[(A.own 1 x3 ([]:List (List D)))])] R'/\
 (∀v H',R' (.ret v) H'-> ∃x4:List (List D),v=A.tup []/\H'=[(Ref.up (Ref.up q1),[(A.own 1 x4 ([]:List (List D)))])]/\
 isK .slc ((gAt x0 x2).getD 5 D0)=true/\
 ∃(I2_0:Int->List (List D)->Prop)(M2_0:Int->List (List D)->Nat),I2_0 0 x4/\
 (∀(x5:Int)(x6:List (List D)),I2_0 x5 x6->
 (tB (decide (x5<((dlst ((gAt x0 x2).getD 5 D0)).length:Int)))=true->
 tB (decide (0<=x5))=true/\
 tB (((gAt (dlst ((gAt x0 x2).getD 5 D0)) x5).length:Int)==9)=true/\
 ∀_:Nat->Nat,∃R',HT 86 [A.agg (gAt (dlst ((gAt x0 x2).getD 5 D0)) x5),A.ptr (.up (Ref.up q2)) 0,A.ptr (.up (Ref.up q3)) 0,A.ptr (.up (Ref.up q0)) 0] [(Ref.up (Ref.up q2),[A.fn 86 [.up (Ref.up q2),.up (Ref.up q3),.up (Ref.up q0)]]),(Ref.up (Ref.up q3),[A.fn 87 [.up (Ref.up q0),.up (Ref.up q2),.up (Ref.up q3)]]),(Ref.up (Ref.up q0),[A.fn 85 [.up (Ref.up q1)]]),(Ref.up (Ref.up q1),[(A.own 1 x6 ([]:List (List D)))])] R'/\
 (∀v H',R' (.ret v) H'-> ∃x7:List (List D),v=A.tup []/\H'=[(Ref.up (Ref.up q2),[A.fn 86 [.up (Ref.up q2),.up (Ref.up q3),.up (Ref.up q0)]]),(Ref.up (Ref.up q3),[A.fn 87 [.up (Ref.up q0),.up (Ref.up q2),.up (Ref.up q3)]]),(Ref.up (Ref.up q0),[A.fn 85 [.up (Ref.up q1)]]),(Ref.up (Ref.up q1),[(A.own 1 x7 ([]:List (List D)))])]/\
 oV (x5+1) (I2_0 (x5+1) x7/\M2_0 (x5+1) x7<M2_0 x5 x6))/\
 (∀x7v H',R' (.pan x7v) H'-> ∃x8:List (List D),H'=[(Ref.up (Ref.up q2),[A.fn 86 [.up (Ref.up q2),.up (Ref.up q3),.up (Ref.up q0)]]),(Ref.up (Ref.up q3),[A.fn 87 [.up (Ref.up q0),.up (Ref.up q2),.up (Ref.up q3)]]),(Ref.up (Ref.up q0),[A.fn 85 [.up (Ref.up q1)]]),(Ref.up (Ref.up q1),[(A.own 1 x8 ([]:List (List D)))])]/\
 R (.pan x7v) [((Ref.up q0),[A.fn 85 [Ref.up q1]]),((Ref.up q1),[(A.own 1 x8 ([]:List (List D)))]),((Ref.up q2),[A.fn 86 [Ref.up q2,Ref.up q3,Ref.up q0]]),((Ref.up q3),[A.fn 87 [Ref.up q0,Ref.up q2,Ref.up q3]])]))/\
 (tB (decide (x5<((dlst ((gAt x0 x2).getD 5 D0)).length:Int)))=false->
 isK .slc ((gAt x0 x2).getD 6 D0)=true/\
 ∀_:Nat->Nat,∃R',HT 87 [A.d (D.slc (dlst ((gAt x0 x2).getD 6 D0))),A.ptr (.up (Ref.up q0)) 0,A.ptr (.up (Ref.up q2)) 0,A.ptr (.up (Ref.up q3)) 0] [(Ref.up (Ref.up q0),[A.fn 85 [.up (Ref.up q1)]]),(Ref.up (Ref.up q1),[(A.own 1 x6 ([]:List (List D)))]),(Ref.up (Ref.up q2),[A.fn 86 [.up (Ref.up q2),.up (Ref.up q3),.up (Ref.up q0)]]),(Ref.up (Ref.up q3),[A.fn 87 [.up (Ref.up q0),.up (Ref.up q2),.up (Ref.up q3)]])] R'/\
 (∀v H',R' (.ret v) H'-> ∃x7:List (List D),v=A.tup []/\H'=[(Ref.up (Ref.up q0),[A.fn 85 [.up (Ref.up q1)]]),(Ref.up (Ref.up q1),[(A.own 1 x7 ([]:List (List D)))]),(Ref.up (Ref.up q2),[A.fn 86 [.up (Ref.up q2),.up (Ref.up q3),.up (Ref.up q0)]]),(Ref.up (Ref.up q3),[A.fn 87 [.up (Ref.up q0),.up (Ref.up q2),.up (Ref.up q3)]])]/\
 isK .slc ((gAt x0 x2).getD 7 D0)=true/\
 ∀_:Nat->Nat,∃R',HT 85 [A.d (D.slc (dlst ((gAt x0 x2).getD 7 D0))),A.ptr (.up (Ref.up q1)) 0] [(Ref.up (Ref.up q1),[(A.own 1 x7 ([]:List (List D)))])] R'/\
 (∀v H',R' (.ret v) H'-> ∃x8:List (List D),v=A.tup []/\H'=[(Ref.up (Ref.up q1),[(A.own 1 x8 ([]:List (List D)))])]/\
 isK .str ((gAt x0 x2).getD 9 D0)=true/\
 ((!(tB ((dstr ((gAt x0 x2).getD 9 D0))==([]:List UInt8))))=true->
 ∀_:Nat->Nat,∃R',HT 85 [A.d (D.slc [[D.lit (Zco (dstr ((gAt x0 x2).getD 9 D0)))]]),A.ptr (.up (Ref.up q1)) 0] [(Ref.up (Ref.up q1),[(A.own 1 x8 ([]:List (List D)))])] R'/\
 (∀v H',R' (.ret v) H'-> ∃x9:List (List D),v=A.tup []/\H'=[(Ref.up (Ref.up q1),[(A.own 1 x9 ([]:List (List D)))])]/\
 J1_0 x5 true x9)/\
 (∀x9v H',R' (.pan x9v) H'-> ∃x10:List (List D),H'=[(Ref.up (Ref.up q1),[(A.own 1 x10 ([]:List (List D)))])]/\
 R (.pan x9v) [((Ref.up q0),[A.fn 85 [Ref.up q1]]),((Ref.up q1),[(A.own 1 x10 ([]:List (List D)))]),((Ref.up q2),[A.fn 86 [Ref.up q2,Ref.up q3,Ref.up q0]]),((Ref.up q3),[A.fn 87 [Ref.up q0,Ref.up q2,Ref.up q3]])]))/\
 ((!(tB ((dstr ((gAt x0 x2).getD 9 D0))==([]:List UInt8))))=false->
 J1_0 x5 false x8))/\
 (∀x8v H',R' (.pan x8v) H'-> ∃x9:List (List D),H'=[(Ref.up (Ref.up q1),[(A.own 1 x9 ([]:List (List D)))])]/\
 R (.pan x8v) [((Ref.up q0),[A.fn 85 [Ref.up q1]]),((Ref.up q1),[(A.own 1 x9 ([]:List (List D)))]),((Ref.up q2),[A.fn 86 [Ref.up q2,Ref.up q3,Ref.up q0]]),((Ref.up q3),[A.fn 87 [Ref.up q0,Ref.up q2,Ref.up q3]])]))/\
 (∀x7v H',R' (.pan x7v) H'-> ∃x8:List (List D),H'=[(Ref.up (Ref.up q0),[A.fn 85 [.up (Ref.up q1)]]),(Ref.up (Ref.up q1),[(A.own 1 x8 ([]:List (List D)))]),(Ref.up (Ref.up q2),[A.fn 86 [.up (Ref.up q2),.up (Ref.up q3),.up (Ref.up q0)]]),(Ref.up (Ref.up q3),[A.fn 87 [.up (Ref.up q0),.up (Ref.up q2),.up (Ref.up q3)]])]/\
 R (.pan x7v) [((Ref.up q0),[A.fn 85 [Ref.up q1]]),((Ref.up q1),[(A.own 1 x8 ([]:List (List D)))]),((Ref.up q2),[A.fn 86 [Ref.up q2,Ref.up q3,Ref.up q0]]),((Ref.up q3),[A.fn 87 [Ref.up q0,Ref.up q2,Ref.up q3]])])))/\
 True)/\
 (∀x4v H',R' (.pan x4v) H'-> ∃x5:List (List D),H'=[(Ref.up (Ref.up q1),[(A.own 1 x5 ([]:List (List D)))])]/\
 R (.pan x4v) [((Ref.up q0),[A.fn 85 [Ref.up q1]]),((Ref.up q1),[(A.own 1 x5 ([]:List (List D)))]),((Ref.up q2),[A.fn 86 [Ref.up q2,Ref.up q3,Ref.up q0]]),((Ref.up q3),[A.fn 87 [Ref.up q0,Ref.up q2,Ref.up q3]])]))/\
 (∀(x4:Int)(x5:Bool)(x6:List (List D)),J1_0 x4 x5 x6->
 oV (x2+1) (I0_0 (x2+1) x6/\M0_0 (x2+1) x6<M0_0 x2 x3))/\
 True)/\
 (tB (decide (x2<(x0.length:Int)))=false->
 R (.ret (A.tup [])) [((Ref.up q0),[A.fn 85 [Ref.up q1]]),((Ref.up q1),[(A.own 1 x3 ([]:List (List D)))]),((Ref.up q2),[A.fn 86 [Ref.up q2,Ref.up q3,Ref.up q0]]),((Ref.up q3),[A.fn 87 [Ref.up q0,Ref.up q2,Ref.up q3]])]))/\
 True):
 HT 87 [A.d (D.slc x0),A.ptr (Ref.up q0) 0,A.ptr (Ref.up q2) 0,A.ptr (Ref.up q3) 0] [((Ref.up q0),[A.fn 85 [Ref.up q1]]),((Ref.up q1),[(A.own 1 x1 ([]:List (List D)))]),((Ref.up q2),[A.fn 86 [Ref.up q2,Ref.up q3,Ref.up q0]]),((Ref.up q3),[A.fn 87 [Ref.up q0,Ref.up q2,Ref.up q3]])] R:=
 walk (c:=⟨Tryz.prog,47,true,[0,1,2,3,6,8,9,10,11,12,20,21,22,23,40]⟩) (op:={cuts:=[13],com:=[(13,(12,5000)),(13,(6,5000)),(13,(20,5000)),(13,(21,5000)),(13,(22,5000)),(13,(23,5000)),(13,(8,5000)),(13,(40,5000)),(8,(23,5000)),(8,(8,5000))]}) (fn:=Tryz.f87) (args:=[.c (.o1 .cl (.var 0)),.ptr (.up 0) 0,.ptr (.up 2) 0,.ptr (.up 3) 0]) (K:=[(.up 0,[.fn 85 [.up 1]]),(.up 1,[.own 1 (.var 1) .lnil]),(.up 2,[.fn 86 [.up 2,.up 3,.up 0]]),(.up 3,[.fn 87 [.up 0,.up 2,.up 3]])]) (nv:=2) (depth:=6) (up:=upOf [q0,q1,q2,q3]) (ρ:=Zwa [.l x0,.l x1])
  rfl rfl rfl rfl rfl (by decide) (by decide) (by decide) (by decide) rfl (by simp[Zab,RRef.den,upOf,hq01,hq02,hq12,hq03,hq13,hq23]) (T_of (by kernel_rfl) h)
end Go.Sy
end
section
open Go Go.Proofs Go.Ab Go.Rf
set_option maxRecDepth 1000000
set_option maxHeartbeats 2000000
set_option linter.unusedVariables false
namespace Go.Sy
theorem w71{R:RT}(x0:List (List D))(x1:List UInt8)(h:∀_:Nat->Nat,∃R',HT 104 [A.d (D.slc x0),A.d (D.lit (Zco x1))] [] R'/\
 (∀v H',R' (.ret v) H'-> ∃x2:Int,v=iA x2/\H'=[]/\
 R (.ret (bA (tB (decide (0<=x2))))) [])/\
 PN R R'):
 HT 71 [A.d (D.slc x0),A.d (D.lit (Zco x1))] [] R:=
 walk (c:=⟨Tryz.prog,9,true,[0,1,4]⟩) (op:={}) (fn:=Tryz.f71) (args:=[.c (.o1 .cl (.var 0)),.c (.o1 .cs (.var 1))]) (K:=[]) (nv:=2) (depth:=4) (up:=upOf []) (ρ:=Zwa [.l x0,.s x1])
  rfl rfl rfl rfl rfl (by decide) (by decide) (by decide) (by decide) rfl (by simp[Zab,RRef.den,upOf]) (T_of (by kernel_rfl) h)
theorem w104{R:RT}(x0:List (List D))(x1:List UInt8)(h:∃(I0_0:Int->Prop)(M0_0:Int->Nat),I0_0 0/\
 (∀(x2:Int),I0_0 x2->
 (tB (decide (x2<(x0.length:Int)))=true->
 tB (decide (0<=x2))=true/\
 tB (((gAt x0 x2).length:Int)==1)=true/\
 isK .str ((gAt x0 x2).getD 0 D0)=true/\
 (tB (x1==(dstr ((gAt x0 x2).getD 0 D0)))=true->
 R (.ret (iA x2)) [])/\
 (tB (x1==(dstr ((gAt x0 x2).getD 0 D0)))=false->
 oV (x2+1) (I0_0 (x2+1)/\M0_0 (x2+1)<M0_0 x2)))/\
 (tB (decide (x2<(x0.length:Int)))=false->
 R (.ret (iA (-1))) []))/\
 True):
 HT 104 [A.d (D.slc x0),A.d (D.lit (Zco x1))] [] R:=
 walk (c:=⟨Tryz.prog,19,true,[0,1,4,5,7,8,9,16]⟩) (op:={com:=[(6,(9,5000)),(6,(5,5000)),(6,(16,5000)),(6,(4,5000))]}) (fn:=Tryz.f104) (args:=[.c (.o1 .cl (.var 0)),.c (.o1 .cs (.var 1))]) (K:=[]) (nv:=2) (depth:=5) (up:=upOf []) (ρ:=Zwa [.l x0,.s x1])
  rfl rfl rfl rfl rfl (by decide) (by decide) (by decide) (by decide) rfl (by simp[Zab,RRef.den,upOf]) (T_of (by kernel_rfl) h)
end Go.Sy
end
section
open Go Go.Proofs Go.Ab Go.Rf
set_option maxRecDepth 1000000
set_option maxHeartbeats 2000000
set_option linter.unusedVariables false
namespace Go.Rx
theorem w83{R:RT}(x0:List UInt8)(x1:Int)(h:∀_:Nat->Nat,∃R',HT 133 [A.d (D.lit (Zco x0)),A.d (D.lit (.int .u8 x1))] [] R'/\
 (∀v H',R' (.ret v) H'-> ∃x2:Int,v=iA x2/\H'=[]/\
 R (.ret (iA x2)) [])/\
 PN R R'):
 HT 164 [A.d (D.lit (Zco x0)),A.d (D.lit (.int .u8 x1))] [] R:=
 walk (c:=⟨Tryz.prog,8,true,[0,1,4]⟩) (op:={}) (fn:=Tryz.f164) (args:=[.c (.o1 .cs (.var 0)),.c (.o1 (.ci .u8) (.var 1))]) (K:=[]) (nv:=2) (depth:=4) (up:=upOf []) (ρ:=Zwa [.s x0,.i x1])
  rfl rfl rfl rfl rfl (by decide) (by decide) (by decide) (by decide) rfl (by simp[Zab,RRef.den,upOf]) (T_of (by kernel_rfl) h)
theorem w94{R:RT}(x0:List UInt8)(x1:Int)(h:∀_:Nat->Nat,∃R',HT 146 [A.d (D.lit (Zco x0)),A.d (D.lit (.int .u8 x1))] [] R'/\
 (∀v H',R' (.ret v) H'-> ∃x2:Int,v=iA x2/\H'=[]/\
 R (.ret (iA x2)) [])/\
 PN R R'):
 HT 133 [A.d (D.lit (Zco x0)),A.d (D.lit (.int .u8 x1))] [] R:=
 walk (c:=⟨Tryz.prog,8,true,[0,1,4]⟩) (op:={}) (fn:=Tryz.f133) (args:=[.c (.o1 .cs (.var 0)),.c (.o1 (.ci .u8) (.var 1))]) (K:=[]) (nv:=2) (depth:=4) (up:=upOf []) (ρ:=Zwa [.s x0,.i x1])
  rfl rfl rfl rfl rfl (by decide) (by decide) (by decide) (by decide) rfl (by simp[Zab,RRef.den,upOf]) (T_of (by kernel_rfl) h)
theorem w79{R:RT}(x0:Int)(x1:Int)(h:∃(I0_0:Int->Int->Int->Int->Int->Prop)(M0_0:Int->Int->Int->Int->Int->Nat),I0_0 0 0 0 0 0/\
 (∀(x2:Int)(x3:Int)(x4:Int)(x5:Int)(x6:Int),I0_0 x2 x3 x4 x5 x6->
 (tB (decide (x2<256))=true->
 tB (decide ((-9223372036854775808)<=x0))=true/\
 tB (decide (x0<=9223372036854775807))=true/\
 ((!(tB (decide (x0<=x2))))||(tB (decide ((-9223372036854775808)<=x1))))=true/\
 ((!(tB (decide (x0<=x2))))||(tB (decide (x1<=9223372036854775807))))=true/\
 (((tB (decide (x0<=x2)))&&(tB (decide (x2<=x1))))=true->
 tB (decide ((-9223372036854775808)<=(x2.tdiv 64)))=true/\
 tB (decide ((x2.tdiv 64)<=9223372036854775807))=true/\
 tB (decide (0<=(x2.tdiv 64)))=true/\
 tB (decide ((x2.tdiv 64)<4))=true/\
 (tB ((x2.tdiv 64)==0)=true->
 tB (decide (0<=(x2.tmod 64)))=true/\
 tB (decide ((-9223372036854775808)<=(x2+1)))=true/\
 tB (decide ((x2+1)<=9223372036854775807))=true/\
 I0_0 (x2+1) (gOr .u64 x3 (gShl .u64 1 (x2.tmod 64))) x4 x5 x6/\M0_0 (x2+1) (gOr .u64 x3 (gShl .u64 1 (x2.tmod 64))) x4 x5 x6<M0_0 x2 x3 x4 x5 x6)/\
 (tB ((x2.tdiv 64)==0)=false->
 (tB ((x2.tdiv 64)==1)=true->
 tB (decide (0<=(x2.tmod 64)))=true/\
 tB (decide ((-9223372036854775808)<=(x2+1)))=true/\
 tB (decide ((x2+1)<=9223372036854775807))=true/\
 I0_0 (x2+1) x3 (gOr .u64 x4 (gShl .u64 1 (x2.tmod 64))) x5 x6/\M0_0 (x2+1) x3 (gOr .u64 x4 (gShl .u64 1 (x2.tmod 64))) x5 x6<M0_0 x2 x3 x4 x5 x6)/\
 (tB ((x2.tdiv 64)==1)=false->
 (tB ((x2.tdiv 64)==2)=true->
 tB (decide (0<=(x2.tmod 64)))=true/\
 tB (decide ((-9223372036854775808)<=(x2+1)))=true/\
 tB (decide ((x2+1)<=9223372036854775807))=true/\
 I0_0 (x2+1) x3 x4 (gOr .u64 x5 (gShl .u64 1 (x2.tmod 64))) x6/\M0_0 (x2+1) x3 x4 (gOr .u64 x5 (gShl .u64 1 (x2.tmod 64))) x6<M0_0 x2 x3 x4 x5 x6)/\
 (tB ((x2.tdiv 64)==2)=false->
 tB ((x2.tdiv 64)==3)=true/\
 tB (decide (0<=(x2.tmod 64)))=true/\
 tB (decide ((-9223372036854775808)<=(x2+1)))=true/\
 tB (decide ((x2+1)<=9223372036854775807))=true/\
 I0_0 (x2+1) x3 x4 x5 (gOr .u64 x6 (gShl .u64 1 (x2.tmod 64)))/\M0_0 (x2+1) x3 x4 x5 (gOr .u64 x6 (gShl .u64 1 (x2.tmod 64)))<M0_0 x2 x3 x4 x5 x6))))/\
 (((tB (decide (x0<=x2)))&&(tB (decide (x2<=x1))))=false->
 tB (decide ((-9223372036854775808)<=(x2+1)))=true/\
 tB (decide ((x2+1)<=9223372036854775807))=true/\
 I0_0 (x2+1) x3 x4 x5 x6/\M0_0 (x2+1) x3 x4 x5 x6<M0_0 x2 x3 x4 x5 x6))/\
 (tB (decide (x2<256))=false->
 R (.ret (A.agg [D.lit (.int .u64 x3),D.lit (.int .u64 x4),D.lit (.int .u64 x5),D.lit (.int .u64 x6)])) []))/\
 True):
 HT 160 [A.d (D.lit (.int .u8 x0)),A.d (D.lit (.int .u8 x1))] [] R:=
 walk (c:=⟨Tryz.prog,31,true,[0,1,4,5,6,7,8,19]⟩) (op:={com:=[(7,(8,5000)),(7,(6,5000)),(7,(19,5000))]}) (fn:=Tryz.f160) (args:=[.c (.o1 (.ci .u8) (.var 0)),.c (.o1 (.ci .u8) (.var 1))]) (K:=[]) (nv:=2) (depth:=5) (up:=upOf []) (ρ:=Zwa [.i x0,.i x1])
  rfl rfl rfl rfl rfl (by decide) (by decide) (by decide) (by decide) rfl (by simp[Zab,RRef.den,upOf]) (T_of (by kernel_rfl) h)
theorem w91{R:RT}(x0:List D)(x1:List D)(h:tB ((x0.length:Int)==4)=true/\
 tB ((x1.length:Int)==4)=true/\
 ∃(I0_0:Int->D->D->D->D->Prop)(M0_0:Int->D->D->D->D->Nat),I0_0 0 (x0.getD 0 D0) (x0.getD 1 D0) (x0.getD 2 D0) (x0.getD 3 D0)/\
 (∀(x2:Int)(x3:D)(x4:D)(x5:D)(x6:D),I0_0 x2 x3 x4 x5 x6->
 (tB (decide (x2<4))=true->
 tB (decide (0<=x2))=true/\
 (tB (x2==0)=true->
 isK (.int .u64) x3=true/\
 isK (.int .u64) (x1.getD 0 D0)=true/\
 tB (decide ((-9223372036854775808)<=(x2+1)))=true/\
 tB (decide ((x2+1)<=9223372036854775807))=true/\
 I0_0 (x2+1) (D.lit (.int .u64 (gOr .u64 (dint x3) (dint (x1.getD 0 D0))))) x4 x5 x6/\M0_0 (x2+1) (D.lit (.int .u64 (gOr .u64 (dint x3) (dint (x1.getD 0 D0))))) x4 x5 x6<M0_0 x2 x3 x4 x5 x6)/\
 (tB (x2==0)=false->
 (tB (x2==1)=true->
 isK (.int .u64) x4=true/\
 isK (.int .u64) (x1.getD 1 D0)=true/\
 tB (decide ((-9223372036854775808)<=(x2+1)))=true/\
 tB (decide ((x2+1)<=9223372036854775807))=true/\
 I0_0 (x2+1) x3 (D.lit (.int .u64 (gOr .u64 (dint x4) (dint (x1.getD 1 D0))))) x5 x6/\M0_0 (x2+1) x3 (D.lit (.int .u64 (gOr .u64 (dint x4) (dint (x1.getD 1 D0))))) x5 x6<M0_0 x2 x3 x4 x5 x6)/\
 (tB (x2==1)=false->
 (tB (x2==2)=true->
 isK (.int .u64) x5=true/\
 isK (.int .u64) (x1.getD 2 D0)=true/\
 tB (decide ((-9223372036854775808)<=(x2+1)))=true/\
 tB (decide ((x2+1)<=9223372036854775807))=true/\
 I0_0 (x2+1) x3 x4 (D.lit (.int .u64 (gOr .u64 (dint x5) (dint (x1.getD 2 D0))))) x6/\M0_0 (x2+1) x3 x4 (D.lit (.int .u64 (gOr .u64 (dint x5) (dint (x1.getD 2 D0))))) x6<M0_0 x2 x3 x4 x5 x6)/\
 (tB (x2==2)=false->
 tB (x2==3)=true/\
 isK (.int .u64) x6=true/\
 isK (.int .u64) (x1.getD 3 D0)=true/\
 tB (decide ((-9223372036854775808)<=(x2+1)))=true/\
 tB (decide ((x2+1)<=9223372036854775807))=true/\
 I0_0 (x2+1) x3 x4 x5 (D.lit (.int .u64 (gOr .u64 (dint x6) (dint (x1.getD 3 D0)))))/\M0_0 (x2+1) x3 x4 x5 (D.lit (.int .u64 (gOr .u64 (dint x6) (dint (x1.getD 3 D0)))))<M0_0 x2 x3 x4 x5 x6))))/\
 (tB (decide (x2<4))=false->
 R (.ret (A.agg [x3,x4,x5,x6])) []))/\
 True):
 HT 173 [A.agg x0,A.agg x1] [] R:=
 walk (c:=⟨Tryz.prog,19,true,[0,1,2,3,4,5,6,7]⟩) (op:={com:=[(5,(7,5000)),(5,(5,5000))]}) (fn:=Tryz.f173) (args:=[.agg (.var 0),.agg (.var 1)]) (K:=[]) (nv:=2) (depth:=5) (up:=upOf []) (ρ:=Zwa [.r x0,.r x1])
  rfl rfl rfl rfl rfl (by decide) (by decide) (by decide) (by decide) rfl (by simp[Zab,RRef.den,upOf]) (T_of (by kernel_rfl) h)
theorem w92{R:RT}(x0:List D)(h:tB ((x0.length:Int)==4)=true/\
 ∃(I0_0:Int->D->D->D->D->Prop)(M0_0:Int->D->D->D->D->Nat),I0_0 0 (x0.getD 0 D0) (x0.getD 1 D0) (x0.getD 2 D0) (x0.getD 3 D0)/\
 (∀(x1:Int)(x2:D)(x3:D)(x4:D)(x5:D),I0_0 x1 x2 x3 x4 x5->
 (tB (decide (x1<4))=true->
 tB (decide (0<=x1))=true/\
 (tB (x1==0)=true->
 isK (.int .u64) x2=true/\
 tB (decide ((-9223372036854775808)<=(x1+1)))=true/\
 tB (decide ((x1+1)<=9223372036854775807))=true/\
 I0_0 (x1+1) (D.lit (.int .u64 (gNot .u64 (dint x2)))) x3 x4 x5/\M0_0 (x1+1) (D.lit (.int .u64 (gNot .u64 (dint x2)))) x3 x4 x5<M0_0 x1 x2 x3 x4 x5)/\
 (tB (x1==0)=false->
 (tB (x1==1)=true->
 isK (.int .u64) x3=true/\
 tB (decide ((-9223372036854775808)<=(x1+1)))=true/\
 tB (decide ((x1+1)<=9223372036854775807))=true/\
 I0_0 (x1+1) x2 (D.lit (.int .u64 (gNot .u64 (dint x3)))) x4 x5/\M0_0 (x1+1) x2 (D.lit (.int .u64 (gNot .u64 (dint x3)))) x4 x5<M0_0 x1 x2 x3 x4 x5)/\
 (tB (x1==1)=false->
 (tB (x1==2)=true->
 isK (.int .u64) x4=true/\
 tB (decide ((-9223372036854775808)<=(x1+1)))=true/\
 tB (decide ((x1+1)<=9223372036854775807))=true/\
 I0_0 (x1+1) x2 x3 (D.lit (.int .u64 (gNot .u64 (dint x4)))) x5/\M0_0 (x1+1) x2 x3 (D.lit (.int .u64 (gNot .u64 (dint x4)))) x5<M0_0 x1 x2 x3 x4 x5)/\
 (tB (x1==2)=false->
 tB (x1==3)=true/\
 isK (.int .u64) x5=true/\
 tB (decide ((-9223372036854775808)<=(x1+1)))=true/\
 tB (decide ((x1+1)<=9223372036854775807))=true/\
 I0_0 (x1+1) x2 x3 x4 (D.lit (.int .u64 (gNot .u64 (dint x5))))/\M0_0 (x1+1) x2 x3 x4 (D.lit (.int .u64 (gNot .u64 (dint x5))))<M0_0 x1 x2 x3 x4 x5))))/\
 (tB (decide (x1<4))=false->
 R (.ret (A.agg [x2,x3,x4,x5])) []))/\
 True):
 HT 174 [A.agg x0] [] R:=
 walk (c:=⟨Tryz.prog,15,true,[0,1,2,3,4,5]⟩) (op:={com:=[(5,(5,5000)),(5,(3,5000))]}) (fn:=Tryz.f174) (args:=[.agg (.var 0)]) (K:=[]) (nv:=1) (depth:=4) (up:=upOf []) (ρ:=Zwa [.r x0])
  rfl rfl rfl rfl rfl (by decide) (by decide) (by decide) (by decide) rfl (by simp[Zab,RRef.den,upOf]) (T_of (by kernel_rfl) h)
theorem w101{R:RT}(x0:Int)(h:(((tB (decide (48<=x0)))&&(tB (decide (x0<=57))))=true->
 R (.ret (A.tup [(false,[D.lit (.int .u8 (IntKind.wrap .u8 (x0-48)))]),(false,[D.lit (.bool true)])])) [])/\
 (((tB (decide (48<=x0)))&&(tB (decide (x0<=57))))=false->
 (((tB (decide (97<=x0)))&&(tB (decide (x0<=102))))=true->
 R (.ret (A.tup [(false,[D.lit (.int .u8 (IntKind.wrap .u8 ((IntKind.wrap .u8 (x0-97))+10)))]),(false,[D.lit (.bool true)])])) [])/\
 (((tB (decide (97<=x0)))&&(tB (decide (x0<=102))))=false->
 (((tB (decide (65<=x0)))&&(tB (decide (x0<=70))))=true->
 R (.ret (A.tup [(false,[D.lit (.int .u8 (IntKind.wrap .u8 ((IntKind.wrap .u8 (x0-65))+10)))]),(false,[D.lit (.bool true)])])) [])/\
 (((tB (decide (65<=x0)))&&(tB (decide (x0<=70))))=false->
 R (.ret (A.tup [(false,[D.lit (.int .u8 0)]),(false,[D.lit (.bool false)])])) [])))):
 HT 183 [A.d (D.lit (.int .u8 x0))] [] R:=
 walk (c:=⟨Tryz.prog,33,true,[0,2,3,4,13,23]⟩) (op:={}) (fn:=Tryz.f183) (args:=[.c (.o1 (.ci .u8) (.var 0))]) (K:=[]) (nv:=1) (depth:=6) (up:=upOf []) (ρ:=Zwa [.i x0])
  rfl rfl rfl rfl rfl (by decide) (by decide) (by decide) (by decide) rfl (by simp[Zab,RRef.den,upOf]) (T_of (by kernel_rfl) h)
theorem w80{R:RT}(x0:Int)(h:∀_:Nat->Nat,∃R',HT 160 [A.d (D.lit (.int .u8 48)),A.d (D.lit (.int .u8 57))] [] R'/\
 (∀v H',R' (.ret v) H'-> ∃x1:List D,v=A.agg x1/\H'=[]/\
 tB ((x1.length:Int)==4)=true/\
 (tB (x0==100)=true->
 R (.ret (A.tup [(true,x1),(false,[D.lit (.bool true)])])) [])/\
 (tB (x0==100)=false->
 (tB (x0==119)=true->
 ∀_:Nat->Nat,∃R',HT 160 [A.d (D.lit (.int .u8 97)),A.d (D.lit (.int .u8 122))] [] R'/\
 (∀v H',R' (.ret v) H'-> ∃x2:List D,v=A.agg x2/\H'=[]/\
 ∀_:Nat->Nat,∃R',HT 160 [A.d (D.lit (.int .u8 65)),A.d (D.lit (.int .u8 90))] [] R'/\
 (∀v H',R' (.ret v) H'-> ∃x3:List D,v=A.agg x3/\H'=[]/\
 ∀_:Nat->Nat,∃R',HT 173 [A.agg x2,A.agg x3] [] R'/\
 (∀v H',R' (.ret v) H'-> ∃x4:List D,v=A.agg x4/\H'=[]/\
 tB ((x4.length:Int)==4)=true/\
 ∀_:Nat->Nat,∃R',HT 173 [A.agg x1,A.agg x4] [] R'/\
 (∀v H',R' (.ret v) H'-> ∃x5:List D,v=A.agg x5/\H'=[]/\
 ∀_:Nat->Nat,∃R',HT 160 [A.d (D.lit (.int .u8 95)),A.d (D.lit (.int .u8 95))] [] R'/\
 (∀v H',R' (.ret v) H'-> ∃x6:List D,v=A.agg x6/\H'=[]/\
 ∀_:Nat->Nat,∃R',HT 173 [A.agg x5,A.agg x6] [] R'/\
 (∀v H',R' (.ret v) H'-> ∃x7:List D,v=A.agg x7/\H'=[]/\
 tB ((x7.length:Int)==4)=true/\
 R (.ret (A.tup [(true,x7),(false,[D.lit (.bool true)])])) [])/\
 PN R R')/\
 PN R R')/\
 PN R R')/\
 PN R R')/\
 PN R R')/\
 PN R R')/\
 (tB (x0==119)=false->
 (tB (x0==115)=true->
 ∀_:Nat->Nat,∃R',HT 160 [A.d (D.lit (.int .u8 9)),A.d (D.lit (.int .u8 10))] [] R'/\
 (∀v H',R' (.ret v) H'-> ∃x2:List D,v=A.agg x2/\H'=[]/\
 ∀_:Nat->Nat,∃R',HT 160 [A.d (D.lit (.int .u8 13)),A.d (D.lit (.int .u8 13))] [] R'/\
 (∀v H',R' (.ret v) H'-> ∃x3:List D,v=A.agg x3/\H'=[]/\
 ∀_:Nat->Nat,∃R',HT 173 [A.agg x2,A.agg x3] [] R'/\
 (∀v H',R' (.ret v) H'-> ∃x4:List D,v=A.agg x4/\H'=[]/\
 ∀_:Nat->Nat,∃R',HT 160 [A.d (D.lit (.int .u8 32)),A.d (D.lit (.int .u8 32))] [] R'/\
 (∀v H',R' (.ret v) H'-> ∃x5:List D,v=A.agg x5/\H'=[]/\
 ∀_:Nat->Nat,∃R',HT 173 [A.agg x4,A.agg x5] [] R'/\
 (∀v H',R' (.ret v) H'-> ∃x6:List D,v=A.agg x6/\H'=[]/\
 tB ((x6.length:Int)==4)=true/\
 R (.ret (A.tup [(true,x6),(false,[D.lit (.bool true)])])) [])/\
 PN R R')/\
 PN R R')/\
 PN R R')/\
 PN R R')/\
 PN R R')/\
 (tB (x0==115)=false->
 R (.ret (A.tup [(true,[D.lit (.int .u64 0),D.lit (.int .u64 0),D.lit (.int .u64 0),D.lit (.int .u64 0)]),(false,[D.lit (.bool false)])])) []))))/\
 PN R R'):
 HT 161 [A.d (D.lit (.int .u8 x0))] [] R:=
 walk (c:=⟨Tryz.prog,29,true,[0,2,3,4,5,7,8,11,21]⟩) (op:={}) (fn:=Tryz.f161) (args:=[.c (.o1 (.ci .u8) (.var 0))]) (K:=[]) (nv:=1) (depth:=5) (up:=upOf []) (ρ:=Zwa [.i x0])
  rfl rfl rfl rfl rfl (by decide) (by decide) (by decide) (by decide) rfl (by simp[Zab,RRef.den,upOf]) (T_of (by kernel_rfl) h)
end Go.Rx
end
section
open Go Go.Proofs Go.Ab Go.Rf
set_option maxRecDepth 1000000
set_option maxHeartbeats 2000000
set_option linter.unusedVariables false
namespace Go.Rx
theorem w33{R:RT}(x0:List D)(x1:Int)(h:tB ((x0.length:Int)==6)=true/\
 (tB (decide (16<x1))=true->
 R (.ret (iA 9)) [])/\
 (tB (decide (16<x1))=false->
 isK (.int .i64) (x0.getD 0 D0)=true/\
 ((!((!((tB (decide ((dint (x0.getD 0 D0))<0)))||(tB (decide (5<(dint (x0.getD 0 D0)))))))&&(!(tB ((dint (x0.getD 0 D0))==2)))))||(isK (.int .u64) (x0.getD 1 D0)))=true/\
 ((!((!((tB (decide ((dint (x0.getD 0 D0))<0)))||(tB (decide (5<(dint (x0.getD 0 D0)))))))&&(!(tB ((dint (x0.getD 0 D0))==2)))))||(isK (.int .u64) (x0.getD 2 D0)))=true/\
 ((!((!((tB (decide ((dint (x0.getD 0 D0))<0)))||(tB (decide (5<(dint (x0.getD 0 D0)))))))&&(!(tB ((dint (x0.getD 0 D0))==2)))))||(isK (.int .u64) (x0.getD 3 D0)))=true/\
 ((!((!((tB (decide ((dint (x0.getD 0 D0))<0)))||(tB (decide (5<(dint (x0.getD 0 D0)))))))&&(!(tB ((dint (x0.getD 0 D0))==2)))))||(isK (.int .u64) (x0.getD 4 D0)))=true/\
 ((((tB (decide ((dint (x0.getD 0 D0))<0)))||(tB (decide (5<(dint (x0.getD 0 D0))))))||((!(tB ((dint (x0.getD 0 D0))==2)))&&(!((tB ((dint (x0.getD 1 D0))==0))&&((tB ((dint (x0.getD 2 D0))==0))&&((tB ((dint (x0.getD 3 D0))==0))&&(tB ((dint (x0.getD 4 D0))==0))))))))=true->
 R (.ret (iA 11)) [])/\
 ((((tB (decide ((dint (x0.getD 0 D0))<0)))||(tB (decide (5<(dint (x0.getD 0 D0))))))||((!(tB ((dint (x0.getD 0 D0))==2)))&&(!((tB ((dint (x0.getD 1 D0))==0))&&((tB ((dint (x0.getD 2 D0))==0))&&((tB ((dint (x0.getD 3 D0))==0))&&(tB ((dint (x0.getD 4 D0))==0))))))))=false->
 isK .slc (x0.getD 5 D0)=true/\
 ∃J0_0:Bool->Prop,((tB ((dint (x0.getD 0 D0))==3)=true->
 (tB (decide (((dlst (x0.getD 5 D0)).length:Int)<2))=true->
 R (.ret (iA 2)) [])/\
 (tB (decide (((dlst (x0.getD 5 D0)).length:Int)<2))=false->
 J0_0 true))/\
 (tB ((dint (x0.getD 0 D0))==3)=false->
 (tB ((dint (x0.getD 0 D0))==4)=true->
 (tB (decide (((dlst (x0.getD 5 D0)).length:Int)<2))=true->
 R (.ret (iA 2)) [])/\
 (tB (decide (((dlst (x0.getD 5 D0)).length:Int)<2))=false->
 J0_0 true))/\
 (tB ((dint (x0.getD 0 D0))==4)=false->
 (tB ((dint (x0.getD 0 D0))==5)=true->
 ((!(tB (((dlst (x0.getD 5 D0)).length:Int)==1)))=true->
 R (.ret (iA 2)) [])/\
 ((!(tB (((dlst (x0.getD 5 D0)).length:Int)==1)))=false->
 J0_0 false))/\
 (tB ((dint (x0.getD 0 D0))==5)=false->
 ((!(tB (((dlst (x0.getD 5 D0)).length:Int)==0)))=true->
 R (.ret (iA 2)) [])/\
 ((!(tB (((dlst (x0.getD 5 D0)).length:Int)==0)))=false->
 J0_0 false)))))/\
 (∀(x2:Bool),J0_0 x2->
 ∃(I0_0:Int->Prop)(M0_0:Int->Nat),I0_0 0/\
 (∀(x3:Int),I0_0 x3->
 (tB (decide (x3<((dlst (x0.getD 5 D0)).length:Int)))=true->
 tB (decide (0<=x3))=true/\
 tB (((gAt (dlst (x0.getD 5 D0)) x3).length:Int)==6)=true/\
 tB (decide ((-9223372036854775808)<=(x1+1)))=true/\
 tB (decide ((x1+1)<=9223372036854775807))=true/\
 ∀_:Nat->Nat,∃R',HT 140 [A.agg (gAt (dlst (x0.getD 5 D0)) x3),iA (x1+1)] [] R'/\
 (∀v H',R' (.ret v) H'-> ∃x4:Int,v=iA x4/\H'=[]/\
 ((!(tB (x4==0)))=true->
 R (.ret (iA x4)) [])/\
 ((!(tB (x4==0)))=false->
 tB (decide ((-9223372036854775808)<=(x3+1)))=true/\
 tB (decide ((x3+1)<=9223372036854775807))=true/\
 I0_0 (x3+1)/\M0_0 (x3+1)<M0_0 x3))/\
 PN R R')/\
 (tB (decide (x3<((dlst (x0.getD 5 D0)).length:Int)))=false->
 R (.ret (iA 0)) []))/\
 True)/\
 True))):
 HT 140 [A.agg x0,iA x1] [] R:=
 walk (c:=⟨Tryz.prog,61,true,[0,1,2,4,5,7,8,10,29,34,36,37,41,42,45,47,48,49,50,58]⟩) (op:={cuts:=[16],com:=[(22,(50,5000)),(22,(7,5000)),(22,(8,5000)),(22,(58,5000)),(22,(4,5000))]}) (fn:=Tryz.f140) (args:=[.agg (.var 0),.c (.o1 (.ci .i64) (.var 1))]) (K:=[]) (nv:=2) (depth:=6) (up:=upOf []) (ρ:=Zwa [.r x0,.i x1])
  rfl rfl rfl rfl rfl (by decide) (by decide) (by decide) (by decide) rfl (by simp[Zab,RRef.den,upOf]) (T_of (by kernel_rfl) h)
theorem w15{R:RT}(x0:List D)(h:tB ((x0.length:Int)==6)=true/\
 ∀_:Nat->Nat,∃R',HT 140 [A.agg x0,iA 1] [] R'/\
 (∀v H',R' (.ret v) H'-> ∃x1:Int,v=iA x1/\H'=[]/\
 R (.ret (iA x1)) [])/\
 PN R R'):
 HT 129 [A.agg x0] [] R:=
 walk (c:=⟨Tryz.prog,5,true,[0,1,2]⟩) (op:={}) (fn:=Tryz.f129) (args:=[.agg (.var 0)]) (K:=[]) (nv:=1) (depth:=3) (up:=upOf []) (ρ:=Zwa [.r x0])
  rfl rfl rfl rfl rfl (by decide) (by decide) (by decide) (by decide) rfl (by simp[Zab,RRef.den,upOf]) (T_of (by kernel_rfl) h)
end Go.Rx
end
section
open Go Go.Proofs Go.Ab Go.Rf
set_option maxRecDepth 1000000
set_option maxHeartbeats 2000000
set_option linter.unusedVariables false
namespace Go.Rx
theorem w37{R:RT}(x0:List UInt8)(x1:Int)(q0:Ref)(h:∀_:Nat->Nat,∃R',HT 137 [A.ptr (.up (Ref.up q0)) 0] [(Ref.up (Ref.up q0),[A.d (D.lit (Zco x0)),iA x1])] R'/\
 (∀v H',R' (.ret v) H'-> ∃x2:List D,∃x3:List UInt8,∃x4:Int,v=A.agg x2/\H'=[(Ref.up (Ref.up q0),[A.d (D.lit (Zco x3)),iA x4])]/\
 tB ((x2.length:Int)==6)=true/\
 ∃(I0_0:List (List D)->List UInt8->Int->Prop)(M0_0:List (List D)->List UInt8->Int->Nat),I0_0 [x2] x3 x4/\
 (∀(x5:List (List D))(x6:List UInt8)(x7:Int),I0_0 x5 x6 x7->
 ∀_:Nat->Nat,∃R',HT 138 [A.ptr (.up (Ref.up q0)) 0] [(Ref.up (Ref.up q0),[A.d (D.lit (Zco x6)),iA x7])] R'/\
 (∀v H',R' (.ret v) H'-> ∃x8:Int,∃x9:List UInt8,∃x10:Int,v=A.d (D.lit (.int .u8 x8))/\H'=[(Ref.up (Ref.up q0),[A.d (D.lit (Zco x9)),iA x10])]/\
 (tB (x8==124)=true->
 tB (decide ((-9223372036854775808)<=(x10+1)))=true/\
 tB (decide ((x10+1)<=9223372036854775807))=true/\
 ∀_:Nat->Nat,∃R',HT 137 [A.ptr (.up (Ref.up q0)) 0] [(Ref.up (Ref.up q0),[A.d (D.lit (Zco x9)),iA (x10+1)])] R'/\
 (∀v H',R' (.ret v) H'-> ∃x11:List D,∃x12:List UInt8,∃x13:Int,v=A.agg x11/\H'=[(Ref.up (Ref.up q0),[A.d (D.lit (Zco x12)),iA x13])]/\
 tB ((x11.length:Int)==6)=true/\
 (Zwd 6 [x11])=true/\
 tB (decide ((((x5.length:Int)+([x11].length:Int))*64)<=140737488355328))=true/\
 tB (decide (((x5.length:Int)+([x11].length:Int))<=1099511627776))=true/\
 I0_0 (x5++[x11]) x12 x13/\M0_0 (x5++[x11]) x12 x13<M0_0 x5 x6 x7)/\
 (∀x11v H',R' (.pan x11v) H'-> ∃x12:List UInt8,∃x13:Int,H'=[(Ref.up (Ref.up q0),[A.d (D.lit (Zco x12)),iA x13])]/\
 R (.pan x11v) [((Ref.up q0),[A.d (D.lit (Zco x12)),iA x13])]))/\
 (tB (x8==124)=false->
 ∀_:Nat->Nat,∃R',HT 139 [iA 4,A.d (D.slc x5)] [] R'/\
 (∀v H',R' (.ret v) H'-> ∃x11:List D,v=A.agg x11/\H'=[]/\
 tB ((x11.length:Int)==6)=true/\
 R (.ret (A.agg x11)) [((Ref.up q0),[A.d (D.lit (Zco x9)),iA x10])])/\
 (∀x11v H',R' (.pan x11v) H'->H'=[]/\
 R (.pan x11v) [((Ref.up q0),[A.d (D.lit (Zco x9)),iA x10])])))/\
 (∀x8v H',R' (.pan x8v) H'-> ∃x9:List UInt8,∃x10:Int,H'=[(Ref.up (Ref.up q0),[A.d (D.lit (Zco x9)),iA x10])]/\
 R (.pan x8v) [((Ref.up q0),[A.d (D.lit (Zco x9)),iA x10])]))/\
 True)/\
 (∀x2v H',R' (.pan x2v) H'-> ∃x3:List UInt8,∃x4:Int,H'=[(Ref.up (Ref.up q0),[A.d (D.lit (Zco x3)),iA x4])]/\
 R (.pan x2v) [((Ref.up q0),[A.d (D.lit (Zco x3)),iA x4])])):
 HT 127 [A.ptr (Ref.up q0) 0] [((Ref.up q0),[A.d (D.lit (Zco x0)),iA x1])] R:=
 walk (c:=⟨Tryz.prog,24,true,[0,2,3,9]⟩) (op:={com:=[(2,(9,5000))]}) (fn:=Tryz.f127) (args:=[.ptr (.up 0) 0]) (K:=[(.up 0,[.c (.o1 .cs (.var 0)),.c (.o1 (.ci .i64) (.var 1))])]) (nv:=2) (depth:=5) (up:=upOf [q0]) (ρ:=Zwa [.s x0,.i x1])
  rfl rfl rfl rfl rfl (by decide) (by decide) (by decide) (by decide) rfl (by simp[Zab,RRef.den,upOf]) (T_of (by kernel_rfl) h)
theorem w38{R:RT}(x0:List UInt8)(x1:Int)(x2:Int)(q0:Ref)(h:(Zpr [D.lit (.int .i64 x2)])=true/\
 R (.pan (dval (D.lit (.iface 135 (.agg ([D.lit (.int .i64 x2)].map dval).toArray))))) [((Ref.up q0),[A.d (D.lit (Zco x0)),iA x1])]):
 HT 128 [A.ptr (Ref.up q0) 0,iA x2] [((Ref.up q0),[A.d (D.lit (Zco x0)),iA x1])] R:=
 walk (c:=⟨Tryz.prog,7,true,[0,1]⟩) (op:={}) (fn:=Tryz.f128) (args:=[.ptr (.up 0) 0,.c (.o1 (.ci .i64) (.var 2))]) (K:=[(.up 0,[.c (.o1 .cs (.var 0)),.c (.o1 (.ci .i64) (.var 1))])]) (nv:=3) (depth:=3) (up:=upOf [q0]) (ρ:=Zwa [.s x0,.i x1,.i x2])
  rfl rfl rfl rfl rfl (by decide) (by decide) (by decide) (by decide) rfl (by simp[Zab,RRef.den,upOf]) (T_of (by kernel_rfl) h)
theorem w48{R:RT}(x0:List UInt8)(x1:Int)(q0:Ref)(h:∀ν:Nat->Nat,∃R',HT 148 [A.ptr (.up (Ref.own 3 (ν 3))) 0,A.ptr (.up (Ref.own 1 (ν 1))) 0] [(Ref.up (Ref.own 3 (ν 3)),[(A.zs ([]:List (List D)))]),(Ref.up (Ref.own 1 (ν 1)),[A.ptr (.up (Ref.up q0)) 0]),(Ref.up (Ref.up q0),[A.d (D.lit (Zco x0)),iA x1])] R'/\
 (∀v H',R' (.ret v) H'-> ∃x2:List (List D),∃x3:List UInt8,∃x4:Int,v=A.tup []/\H'=[(Ref.up (Ref.own 3 (ν 3)),[(A.own 6 x2 ([]:List (List D)))]),(Ref.up (Ref.own 1 (ν 1)),[A.ptr (.up (Ref.up q0)) 0]),(Ref.up (Ref.up q0),[A.d (D.lit (Zco x3)),iA x4])]/\
 ∃(I0_0:List (List D)->List UInt8->Int->Prop)(M0_0:List (List D)->List UInt8->Int->Nat),I0_0 x2 x3 x4/\
 (∀(x5:List (List D))(x6:List UInt8)(x7:Int),I0_0 x5 x6 x7->
 (tB (decide (x7<(x6.length:Int)))=true->
 ∀_:Nat->Nat,∃R',HT 138 [A.ptr (.up (Ref.up q0)) 0] [(Ref.up (Ref.up q0),[A.d (D.lit (Zco x6)),iA x7])] R'/\
 (∀v H',R' (.ret v) H'-> ∃x8:Int,∃x9:List UInt8,∃x10:Int,v=A.d (D.lit (.int .u8 x8))/\H'=[(Ref.up (Ref.up q0),[A.d (D.lit (Zco x9)),iA x10])]/\
 ((!(tB (x8==124)))=true->
 ∀_:Nat->Nat,∃R',HT 138 [A.ptr (.up (Ref.up q0)) 0] [(Ref.up (Ref.up q0),[A.d (D.lit (Zco x9)),iA x10])] R'/\
 (∀v H',R' (.ret v) H'-> ∃x11:Int,∃x12:List UInt8,∃x13:Int,v=A.d (D.lit (.int .u8 x11))/\H'=[(Ref.up (Ref.up q0),[A.d (D.lit (Zco x12)),iA x13])]/\
 ((!(tB (x11==41)))=true->
 ∀ν:Nat->Nat,∃R',HT 148 [A.ptr (.up (Ref.own 3 (ν 3))) 0,A.ptr (.up (Ref.own 1 (ν 1))) 0] [(Ref.up (Ref.own 3 (ν 3)),[(A.own 6 x5 ([]:List (List D)))]),(Ref.up (Ref.own 1 (ν 1)),[A.ptr (.up (Ref.up q0)) 0]),(Ref.up (Ref.up q0),[A.d (D.lit (Zco x12)),iA x13])] R'/\
 (∀v H',R' (.ret v) H'-> ∃x14:List (List D),∃x15:List UInt8,∃x16:Int,v=A.tup []/\H'=[(Ref.up (Ref.own 3 (ν 3)),[(A.own 6 x14 ([]:List (List D)))]),(Ref.up (Ref.own 1 (ν 1)),[A.ptr (.up (Ref.up q0)) 0]),(Ref.up (Ref.up q0),[A.d (D.lit (Zco x15)),iA x16])]/\
 I0_0 x14 x15 x16/\M0_0 x14 x15 x16<M0_0 x5 x6 x7)/\
 (∀x14v H',R' (.pan x14v) H'-> ∃x15:List UInt8,∃x16:Int,H'=[(Ref.up (Ref.own 3 (ν 3)),[A.any]),(Ref.up (Ref.own 1 (ν 1)),[A.ptr (.up (Ref.up q0)) 0]),(Ref.up (Ref.up q0),[A.d (D.lit (Zco x15)),iA x16])]/\
 R (.pan x14v) [((Ref.up q0),[A.d (D.lit (Zco x15)),iA x16])]))/\
 ((!(tB (x11==41)))=false->
 ∀_:Nat->Nat,∃R',HT 139 [iA 3,A.d (D.slc x5)] [] R'/\
 (∀v H',R' (.ret v) H'-> ∃x14:List D,v=A.agg x14/\H'=[]/\
 tB ((x14.length:Int)==6)=true/\
 R (.ret (A.agg x14)) [((Ref.up q0),[A.d (D.lit (Zco x12)),iA x13])])/\
 (∀x14v H',R' (.pan x14v) H'->H'=[]/\
 R (.pan x14v) [((Ref.up q0),[A.d (D.lit (Zco x12)),iA x13])])))/\
 (∀x11v H',R' (.pan x11v) H'-> ∃x12:List UInt8,∃x13:Int,H'=[(Ref.up (Ref.up q0),[A.d (D.lit (Zco x12)),iA x13])]/\
 R (.pan x11v) [((Ref.up q0),[A.d (D.lit (Zco x12)),iA x13])]))/\
 ((!(tB (x8==124)))=false->
 ∀_:Nat->Nat,∃R',HT 139 [iA 3,A.d (D.slc x5)] [] R'/\
 (∀v H',R' (.ret v) H'-> ∃x11:List D,v=A.agg x11/\H'=[]/\
 tB ((x11.length:Int)==6)=true/\
 R (.ret (A.agg x11)) [((Ref.up q0),[A.d (D.lit (Zco x9)),iA x10])])/\
 (∀x11v H',R' (.pan x11v) H'->H'=[]/\
 R (.pan x11v) [((Ref.up q0),[A.d (D.lit (Zco x9)),iA x10])])))/\
 (∀x8v H',R' (.pan x8v) H'-> ∃x9:List UInt8,∃x10:Int,H'=[(Ref.up (Ref.up q0),[A.d (D.lit (Zco x9)),iA x10])]/\
 R (.pan x8v) [((Ref.up q0),[A.d (D.lit (Zco x9)),iA x10])]))/\
 (tB (decide (x7<(x6.length:Int)))=false->
 ∀_:Nat->Nat,∃R',HT 139 [iA 3,A.d (D.slc x5)] [] R'/\
 (∀v H',R' (.ret v) H'-> ∃x8:List D,v=A.agg x8/\H'=[]/\
 tB ((x8.length:Int)==6)=true/\
 R (.ret (A.agg x8)) [((Ref.up q0),[A.d (D.lit (Zco x6)),iA x7])])/\
 (∀x8v H',R' (.pan x8v) H'->H'=[]/\
 R (.pan x8v) [((Ref.up q0),[A.d (D.lit (Zco x6)),iA x7])])))/\
 True)/\
 (∀x2v H',R' (.pan x2v) H'-> ∃x3:List UInt8,∃x4:Int,H'=[(Ref.up (Ref.own 3 (ν 3)),[A.any]),(Ref.up (Ref.own 1 (ν 1)),[A.ptr (.up (Ref.up q0)) 0]),(Ref.up (Ref.up q0),[A.d (D.lit (Zco x3)),iA x4])]/\
 R (.pan x2v) [((Ref.up q0),[A.d (D.lit (Zco x3)),iA x4])])):
 HT 137 [A.ptr (Ref.up q0) 0] [((Ref.up q0),[A.d (D.lit (Zco x0)),iA x1])] R:=
 walk (c:=⟨Tryz.prog,32,true,[0,1,2,3,4,27]⟩) (op:={grow:=[(148,6)],lose:=[148],com:=[(4,(27,5000))]}) (fn:=Tryz.f137) (args:=[.ptr (.up 0) 0]) (K:=[(.up 0,[.c (.o1 .cs (.var 0)),.c (.o1 (.ci .i64) (.var 1))])]) (nv:=2) (depth:=6) (up:=upOf [q0]) (ρ:=Zwa [.s x0,.i x1])
  rfl rfl rfl rfl rfl (by decide) (by decide) (by decide) (by decide) rfl (by simp[Zab,RRef.den,upOf]) (T_of (by kernel_rfl) h)
theorem w49{R:RT}(x0:List UInt8)(x1:Int)(q0:Ref)(h:(tB (decide (x1<(x0.length:Int)))=true->
 tB (decide (0<=x1))=true/\
 R (.ret (A.d (D.lit (.int .u8 (Zwc x0 x1))))) [((Ref.up q0),[A.d (D.lit (Zco x0)),iA x1])])/\
 (tB (decide (x1<(x0.length:Int)))=false->
 R (.ret (A.d (D.lit (.int .u8 0)))) [((Ref.up q0),[A.d (D.lit (Zco x0)),iA x1])])):
 HT 138 [A.ptr (Ref.up q0) 0] [((Ref.up q0),[A.d (D.lit (Zco x0)),iA x1])] R:=
 walk (c:=⟨Tryz.prog,22,true,[0,2,12]⟩) (op:={}) (fn:=Tryz.f138) (args:=[.ptr (.up 0) 0]) (K:=[(.up 0,[.c (.o1 .cs (.var 0)),.c (.o1 (.ci .i64) (.var 1))])]) (nv:=2) (depth:=5) (up:=upOf [q0]) (ρ:=Zwa [.s x0,.i x1])
  rfl rfl rfl rfl rfl (by decide) (by decide) (by decide) (by decide) rfl (by simp[Zab,RRef.den,upOf]) (T_of (by kernel_rfl) h)
theorem w64a{R:RT}(x0:List UInt8)(x1:Int)(q0 q1 q2:Ref)(hq01:q0≠q1)(hq02:q0≠q2)(hq12:q1≠q2)(h:∀_:Nat->Nat,∃R',HT 149 [A.ptr (.up (Ref.up q2)) 0] [(Ref.up (Ref.up q2),[A.d (D.lit (Zco x0)),iA x1])] R'/\
 (∀v H',R' (.ret v) H'-> ∃x2:List D,∃x3:List UInt8,∃x4:Int,v=A.agg x2/\H'=[(Ref.up (Ref.up q2),[A.d (D.lit (Zco x3)),iA x4])]/\
 tB (decide (((0+([[D.lit (.int .i64 0),D.lit (.int .u64 0),D.lit (.int .u64 0),D.lit (.int .u64 0),D.lit (.int .u64 0),(D.slc ([]:List (List D)))]].length:Int))*64)<=140737488355328))=true/\
 tB (decide ((0+([[D.lit (.int .i64 0),D.lit (.int .u64 0),D.lit (.int .u64 0),D.lit (.int .u64 0),D.lit (.int .u64 0),(D.slc ([]:List (List D)))]].length:Int))<=1099511627776))=true/\
 tB (decide (0<([[D.lit (.int .i64 0),D.lit (.int .u64 0),D.lit (.int .u64 0),D.lit (.int .u64 0),D.lit (.int .u64 0),(D.slc ([]:List (List D)))]].length:Int)))=true/\
 tB ((x2.length:Int)==6)=true/\
 R (.ret (A.tup [])) [((Ref.up q0),[(A.own 6 (([]:List (List D))++(gSet [[D.lit (.int .i64 0),D.lit (.int .u64 0),D.lit (.int .u64 0),D.lit (.int .u64 0),D.lit (.int .u64 0),(D.slc ([]:List (List D)))]] 0 (setL (gAt [[D.lit (.int .i64 0),D.lit (.int .u64 0),D.lit (.int .u64 0),D.lit (.int .u64 0),D.lit (.int .u64 0),(D.slc ([]:List (List D)))]] 0) 0 x2))) ([]:List (List D)))]),((Ref.up q1),[A.ptr (Ref.up q2) 0]),((Ref.up q2),[A.d (D.lit (Zco x3)),iA x4])])/\
 (∀x2v H',R' (.pan x2v) H'-> ∃x3:List UInt8,∃x4:Int,H'=[(Ref.up (Ref.up q2),[A.d (D.lit (Zco x3)),iA x4])]/\
 R (.pan x2v) [((Ref.up q0),[(A.zs ([]:List (List D)))]),((Ref.up q1),[A.ptr (Ref.up q2) 0]),((Ref.up q2),[A.d (D.lit (Zco x3)),iA x4])])):
 HT 148 [A.ptr (Ref.up q0) 0,A.ptr (Ref.up q1) 0] [((Ref.up q0),[(A.zs ([]:List (List D)))]),((Ref.up q1),[A.ptr (Ref.up q2) 0]),((Ref.up q2),[A.d (D.lit (Zco x0)),iA x1])] R:=
 walk (c:=⟨Tryz.prog,9,true,[0,1]⟩) (op:={lat:=[0]}) (fn:=Tryz.f148) (args:=[.ptr (.up 0) 0,.ptr (.up 1) 0]) (K:=[(.up 0,[.zs .lnil]),(.up 1,[.ptr (.up 2) 0]),(.up 2,[.c (.o1 .cs (.var 0)),.c (.o1 (.ci .i64) (.var 1))])]) (nv:=2) (depth:=4) (up:=upOf [q0,q1,q2]) (ρ:=Zwa [.s x0,.i x1])
  rfl rfl rfl rfl rfl (by decide) (by decide) (by decide) (by decide) rfl (by simp[Zab,RRef.den,upOf,hq01,hq02,hq12]) (T_of (by kernel_rfl) h)
theorem w64b{R:RT}(x0:List (List D))(x1:List UInt8)(x2:Int)(q0 q1 q2:Ref)(hq01:q0≠q1)(hq02:q0≠q2)(hq12:q1≠q2)(h:∀_:Nat->Nat,∃R',HT 149 [A.ptr (.up (Ref.up q2)) 0] [(Ref.up (Ref.up q2),[A.d (D.lit (Zco x1)),iA x2])] R'/\
 (∀v H',R' (.ret v) H'-> ∃x3:List D,∃x4:List UInt8,∃x5:Int,v=A.agg x3/\H'=[(Ref.up (Ref.up q2),[A.d (D.lit (Zco x4)),iA x5])]/\
 tB (decide ((((x0.length:Int)+([[D.lit (.int .i64 0),D.lit (.int .u64 0),D.lit (.int .u64 0),D.lit (.int .u64 0),D.lit (.int .u64 0),(D.slc ([]:List (List D)))]].length:Int))*64)<=140737488355328))=true/\
 tB (decide (((x0.length:Int)+([[D.lit (.int .i64 0),D.lit (.int .u64 0),D.lit (.int .u64 0),D.lit (.int .u64 0),D.lit (.int .u64 0),(D.slc ([]:List (List D)))]].length:Int))<=1099511627776))=true/\
 tB ((x3.length:Int)==6)=true/\
 R (.ret (A.tup [])) [((Ref.up q0),[(A.own 6 (x0++[(setL [D.lit (.int .i64 0),D.lit (.int .u64 0),D.lit (.int .u64 0),D.lit (.int .u64 0),D.lit (.int .u64 0),(D.slc ([]:List (List D)))] 0 x3)]) ([]:List (List D)))]),((Ref.up q1),[A.ptr (Ref.up q2) 0]),((Ref.up q2),[A.d (D.lit (Zco x4)),iA x5])])/\
 (∀x3v H',R' (.pan x3v) H'-> ∃x4:List UInt8,∃x5:Int,H'=[(Ref.up (Ref.up q2),[A.d (D.lit (Zco x4)),iA x5])]/\
 R (.pan x3v) [((Ref.up q0),[A.any]),((Ref.up q1),[A.ptr (Ref.up q2) 0]),((Ref.up q2),[A.d (D.lit (Zco x4)),iA x5])])):
 HT 148 [A.ptr (Ref.up q0) 0,A.ptr (Ref.up q1) 0] [((Ref.up q0),[(A.own 6 x0 ([]:List (List D)))]),((Ref.up q1),[A.ptr (Ref.up q2) 0]),((Ref.up q2),[A.d (D.lit (Zco x1)),iA x2])] R:=
 walk (c:=⟨Tryz.prog,9,true,[0,1]⟩) (op:={lat:=[0]}) (fn:=Tryz.f148) (args:=[.ptr (.up 0) 0,.ptr (.up 1) 0]) (K:=[(.up 0,[.own 6 (.var 0) .lnil]),(.up 1,[.ptr (.up 2) 0]),(.up 2,[.c (.o1 .cs (.var 1)),.c (.o1 (.ci .i64) (.var 2))])]) (nv:=3) (depth:=4) (up:=upOf [q0,q1,q2]) (ρ:=Zwa [.l x0,.s x1,.i x2])
  rfl rfl rfl rfl rfl (by decide) (by decide) (by decide) (by decide) rfl (by simp[Zab,RRef.den,upOf,hq01,hq02,hq12]) (T_of (by kernel_rfl) h)
theorem w65{R:RT}(x0:List UInt8)(x1:Int)(q0:Ref)(h:∀_:Nat->Nat,∃R',HT 154 [A.ptr (.up (Ref.up q0)) 0] [(Ref.up (Ref.up q0),[A.d (D.lit (Zco x0)),iA x1])] R'/\
 (∀v H',R' (.ret v) H'-> ∃x2:List D,∃x3:List UInt8,∃x4:Int,v=A.agg x2/\H'=[(Ref.up (Ref.up q0),[A.d (D.lit (Zco x3)),iA x4])]/\
 tB ((x2.length:Int)==6)=true/\
 ∃(I0_0:D->D->D->D->D->D->List UInt8->Int->Prop)(M0_0:D->D->D->D->D->D->List UInt8->Int->Nat),I0_0 (x2.getD 0 D0) (x2.getD 1 D0) (x2.getD 2 D0) (x2.getD 3 D0) (x2.getD 4 D0) (x2.getD 5 D0) x3 x4/\
 (∀(x5:D)(x6:D)(x7:D)(x8:D)(x9:D)(x10:D)(x11:List UInt8)(x12:Int),I0_0 x5 x6 x7 x8 x9 x10 x11 x12->
 ∀_:Nat->Nat,∃R',HT 138 [A.ptr (.up (Ref.up q0)) 0] [(Ref.up (Ref.up q0),[A.d (D.lit (Zco x11)),iA x12])] R'/\
 (∀v H',R' (.ret v) H'-> ∃x13:Int,∃x14:List UInt8,∃x15:Int,v=A.d (D.lit (.int .u8 x13))/\H'=[(Ref.up (Ref.up q0),[A.d (D.lit (Zco x14)),iA x15])]/\
 (tB (x13==42)=true->
 tB (decide ((-9223372036854775808)<=(x15+1)))=true/\
 tB (decide ((x15+1)<=9223372036854775807))=true/\
 I0_0 (D.lit (.int .i64 5)) (D.lit (.int .u64 0)) (D.lit (.int .u64 0)) (D.lit (.int .u64 0)) (D.lit (.int .u64 0)) (D.slc [[x5,x6,x7,x8,x9,x10]]) x14 (x15+1)/\M0_0 (D.lit (.int .i64 5)) (D.lit (.int .u64 0)) (D.lit (.int .u64 0)) (D.lit (.int .u64 0)) (D.lit (.int .u64 0)) (D.slc [[x5,x6,x7,x8,x9,x10]]) x14 (x15+1)<M0_0 x5 x6 x7 x8 x9 x10 x11 x12)/\
 (tB (x13==42)=false->
 (tB (x13==43)=true->
 tB (decide ((-9223372036854775808)<=(x15+1)))=true/\
 tB (decide ((x15+1)<=9223372036854775807))=true/\
 I0_0 (D.lit (.int .i64 3)) (D.lit (.int .u64 0)) (D.lit (.int .u64 0)) (D.lit (.int .u64 0)) (D.lit (.int .u64 0)) (D.slc [[x5,x6,x7,x8,x9,x10],[D.lit (.int .i64 5),D.lit (.int .u64 0),D.lit (.int .u64 0),D.lit (.int .u64 0),D.lit (.int .u64 0),D.slc [[x5,x6,x7,x8,x9,x10]]]]) x14 (x15+1)/\M0_0 (D.lit (.int .i64 3)) (D.lit (.int .u64 0)) (D.lit (.int .u64 0)) (D.lit (.int .u64 0)) (D.lit (.int .u64 0)) (D.slc [[x5,x6,x7,x8,x9,x10],[D.lit (.int .i64 5),D.lit (.int .u64 0),D.lit (.int .u64 0),D.lit (.int .u64 0),D.lit (.int .u64 0),D.slc [[x5,x6,x7,x8,x9,x10]]]]) x14 (x15+1)<M0_0 x5 x6 x7 x8 x9 x10 x11 x12)/\
 (tB (x13==43)=false->
 (tB (x13==63)=true->
 tB (decide ((-9223372036854775808)<=(x15+1)))=true/\
 tB (decide ((x15+1)<=9223372036854775807))=true/\
 I0_0 (D.lit (.int .i64 4)) (D.lit (.int .u64 0)) (D.lit (.int .u64 0)) (D.lit (.int .u64 0)) (D.lit (.int .u64 0)) (D.slc [[x5,x6,x7,x8,x9,x10],[D.lit (.int .i64 1),D.lit (.int .u64 0),D.lit (.int .u64 0),D.lit (.int .u64 0),D.lit (.int .u64 0),(D.slc ([]:List (List D)))]]) x14 (x15+1)/\M0_0 (D.lit (.int .i64 4)) (D.lit (.int .u64 0)) (D.lit (.int .u64 0)) (D.lit (.int .u64 0)) (D.lit (.int .u64 0)) (D.slc [[x5,x6,x7,x8,x9,x10],[D.lit (.int .i64 1),D.lit (.int .u64 0),D.lit (.int .u64 0),D.lit (.int .u64 0),D.lit (.int .u64 0),(D.slc ([]:List (List D)))]]) x14 (x15+1)<M0_0 x5 x6 x7 x8 x9 x10 x11 x12)/\
 (tB (x13==63)=false->
 R (.ret (A.agg [x5,x6,x7,x8,x9,x10])) [((Ref.up q0),[A.d (D.lit (Zco x14)),iA x15])]))))/\
 (∀x13v H',R' (.pan x13v) H'-> ∃x14:List UInt8,∃x15:Int,H'=[(Ref.up (Ref.up q0),[A.d (D.lit (Zco x14)),iA x15])]/\
 R (.pan x13v) [((Ref.up q0),[A.d (D.lit (Zco x14)),iA x15])]))/\
 True)/\
 (∀x2v H',R' (.pan x2v) H'-> ∃x3:List UInt8,∃x4:Int,H'=[(Ref.up (Ref.up q0),[A.d (D.lit (Zco x3)),iA x4])]/\
 R (.pan x2v) [((Ref.up q0),[A.d (D.lit (Zco x3)),iA x4])])):
 HT 149 [A.ptr (Ref.up q0) 0] [((Ref.up q0),[A.d (D.lit (Zco x0)),iA x1])] R:=
 walk (c:=⟨Tryz.prog,35,true,[0,2,3,4,11,13,16,22]⟩) (op:={}) (fn:=Tryz.f149) (args:=[.ptr (.up 0) 0]) (K:=[(.up 0,[.c (.o1 .cs (.var 0)),.c (.o1 (.ci .i64) (.var 1))])]) (nv:=2) (depth:=6) (up:=upOf [q0]) (ρ:=Zwa [.s x0,.i x1])
  rfl rfl rfl rfl rfl (by decide) (by decide) (by decide) (by decide) rfl (by simp[Zab,RRef.den,upOf]) (T_of (by kernel_rfl) h)
theorem w73{R:RT}(x0:List UInt8)(x1:Int)(q0:Ref)(h:∀_:Nat->Nat,∃R',HT 138 [A.ptr (.up (Ref.up q0)) 0] [(Ref.up (Ref.up q0),[A.d (D.lit (Zco x0)),iA x1])] R'/\
 (∀v H',R' (.ret v) H'-> ∃x2:Int,∃x3:List UInt8,∃x4:Int,v=A.d (D.lit (.int .u8 x2))/\H'=[(Ref.up (Ref.up q0),[A.d (D.lit (Zco x3)),iA x4])]/\
 (tB (decide ((x3.length:Int)<=x4))=true->
 ∀_:Nat->Nat,∃R',HT 128 [A.ptr (.up (Ref.up q0)) 0,(iA (x3.length:Int))] [(Ref.up (Ref.up q0),[A.d (D.lit (Zco x3)),iA x4])] R'/\
 (∀v H',R' (.ret v) H'-> ∃x5:List UInt8,∃x6:Int,v=A.tup []/\H'=[(Ref.up (Ref.up q0),[A.d (D.lit (Zco x5)),iA x6])]/\
 tB (decide ((-9223372036854775808)<=(x6+1)))=true/\
 tB (decide ((x6+1)<=9223372036854775807))=true/\
 ∀_:Nat->Nat,∃R',HT 162 [A.d (D.lit (.int .u8 x2))] [] R'/\
 (∀v H',R' (.ret v) H'-> ∃x7:List D,v=A.agg x7/\H'=[]/\
 tB ((x7.length:Int)==6)=true/\
 R (.ret (A.agg x7)) [((Ref.up q0),[A.d (D.lit (Zco x5)),iA (x6+1)])])/\
 (∀x7v H',R' (.pan x7v) H'->H'=[]/\
 R (.pan x7v) [((Ref.up q0),[A.d (D.lit (Zco x5)),iA (x6+1)])]))/\
 (∀x5v H',R' (.pan x5v) H'-> ∃x6:List UInt8,∃x7:Int,H'=[(Ref.up (Ref.up q0),[A.d (D.lit (Zco x6)),iA x7])]/\
 R (.pan x5v) [((Ref.up q0),[A.d (D.lit (Zco x6)),iA x7])]))/\
 (tB (decide ((x3.length:Int)<=x4))=false->
 (tB (x2==40)=true->
 ∀_:Nat->Nat,∃R',HT 158 [A.ptr (.up (Ref.up q0)) 0] [(Ref.up (Ref.up q0),[A.d (D.lit (Zco x3)),iA x4])] R'/\
 (∀v H',R' (.ret v) H'-> ∃x5:List D,∃x6:List UInt8,∃x7:Int,v=A.agg x5/\H'=[(Ref.up (Ref.up q0),[A.d (D.lit (Zco x6)),iA x7])]/\
 tB ((x5.length:Int)==6)=true/\
 R (.ret (A.agg x5)) [((Ref.up q0),[A.d (D.lit (Zco x6)),iA x7])])/\
 (∀x5v H',R' (.pan x5v) H'-> ∃x6:List UInt8,∃x7:Int,H'=[(Ref.up (Ref.up q0),[A.d (D.lit (Zco x6)),iA x7])]/\
 R (.pan x5v) [((Ref.up q0),[A.d (D.lit (Zco x6)),iA x7])]))/\
 (tB (x2==40)=false->
 (tB (x2==91)=true->
 ∀_:Nat->Nat,∃R',HT 159 [A.ptr (.up (Ref.up q0)) 0] [(Ref.up (Ref.up q0),[A.d (D.lit (Zco x3)),iA x4])] R'/\
 (∀v H',R' (.ret v) H'-> ∃x5:List D,∃x6:List UInt8,∃x7:Int,v=A.agg x5/\H'=[(Ref.up (Ref.up q0),[A.d (D.lit (Zco x6)),iA x7])]/\
 tB ((x5.length:Int)==6)=true/\
 R (.ret (A.agg x5)) [((Ref.up q0),[A.d (D.lit (Zco x6)),iA x7])])/\
 (∀x5v H',R' (.pan x5v) H'-> ∃x6:List UInt8,∃x7:Int,H'=[(Ref.up (Ref.up q0),[A.d (D.lit (Zco x6)),iA x7])]/\
 R (.pan x5v) [((Ref.up q0),[A.d (D.lit (Zco x6)),iA x7])]))/\
 (tB (x2==91)=false->
 (tB (x2==46)=true->
 tB (decide ((-9223372036854775808)<=(x4+1)))=true/\
 tB (decide ((x4+1)<=9223372036854775807))=true/\
 ∀_:Nat->Nat,∃R',HT 160 [A.d (D.lit (.int .u8 0)),A.d (D.lit (.int .u8 255))] [] R'/\
 (∀v H',R' (.ret v) H'-> ∃x5:List D,v=A.agg x5/\H'=[]/\
 tB ((x5.length:Int)==4)=true/\
 R (.ret (A.agg [D.lit (.int .i64 2),x5.getD 0 D0,x5.getD 1 D0,x5.getD 2 D0,x5.getD 3 D0,(D.slc ([]:List (List D)))])) [((Ref.up q0),[A.d (D.lit (Zco x3)),iA (x4+1)])])/\
 (∀x5v H',R' (.pan x5v) H'->H'=[]/\
 R (.pan x5v) [((Ref.up q0),[A.d (D.lit (Zco x3)),iA (x4+1)])]))/\
 (tB (x2==46)=false->
 (tB (x2==92)=true->
 tB (decide ((-9223372036854775808)<=(x4+1)))=true/\
 tB (decide ((x4+1)<=9223372036854775807))=true/\
 (tB (decide ((x4+1)<(x3.length:Int)))=true->
 tB (decide (0<=(x4+1)))=true/\
 ∀_:Nat->Nat,∃R',HT 161 [A.d (D.lit (.int .u8 (Zwc x3 (x4+1))))] [] R'/\
 (∀v H',R' (.ret v) H'-> ∃x5:List D,∃x6:Bool,v=A.tup [(true,x5),(false,[D.lit (.bool x6)])]/\H'=[]/\
 tB ((x5.length:Int)==4)=true/\
 (x6=true->
 tB (decide ((-9223372036854775808)<=(x4+2)))=true/\
 tB (decide ((x4+2)<=9223372036854775807))=true/\
 R (.ret (A.agg [D.lit (.int .i64 2),x5.getD 0 D0,x5.getD 1 D0,x5.getD 2 D0,x5.getD 3 D0,(D.slc ([]:List (List D)))])) [((Ref.up q0),[A.d (D.lit (Zco x3)),iA (x4+2)])])/\
 (x6=false->
 ∀_:Nat->Nat,∃R',HT 163 [A.ptr (.up (Ref.up q0)) 0,A.d (D.lit (.int .u8 0))] [(Ref.up (Ref.up q0),[A.d (D.lit (Zco x3)),iA x4])] R'/\
 (∀v H',R' (.ret v) H'-> ∃x7:Int,∃x8:List UInt8,∃x9:Int,v=A.d (D.lit (.int .u8 x7))/\H'=[(Ref.up (Ref.up q0),[A.d (D.lit (Zco x8)),iA x9])]/\
 ∀_:Nat->Nat,∃R',HT 162 [A.d (D.lit (.int .u8 x7))] [] R'/\
 (∀v H',R' (.ret v) H'-> ∃x10:List D,v=A.agg x10/\H'=[]/\
 tB ((x10.length:Int)==6)=true/\
 R (.ret (A.agg x10)) [((Ref.up q0),[A.d (D.lit (Zco x8)),iA x9])])/\
 (∀x10v H',R' (.pan x10v) H'->H'=[]/\
 R (.pan x10v) [((Ref.up q0),[A.d (D.lit (Zco x8)),iA x9])]))/\
 (∀x7v H',R' (.pan x7v) H'-> ∃x8:List UInt8,∃x9:Int,H'=[(Ref.up (Ref.up q0),[A.d (D.lit (Zco x8)),iA x9])]/\
 R (.pan x7v) [((Ref.up q0),[A.d (D.lit (Zco x8)),iA x9])])))/\
 (∀x5v H',R' (.pan x5v) H'->H'=[]/\
 R (.pan x5v) [((Ref.up q0),[A.d (D.lit (Zco x3)),iA x4])]))/\
 (tB (decide ((x4+1)<(x3.length:Int)))=false->
 ∀_:Nat->Nat,∃R',HT 163 [A.ptr (.up (Ref.up q0)) 0,A.d (D.lit (.int .u8 0))] [(Ref.up (Ref.up q0),[A.d (D.lit (Zco x3)),iA x4])] R'/\
 (∀v H',R' (.ret v) H'-> ∃x5:Int,∃x6:List UInt8,∃x7:Int,v=A.d (D.lit (.int .u8 x5))/\H'=[(Ref.up (Ref.up q0),[A.d (D.lit (Zco x6)),iA x7])]/\
 ∀_:Nat->Nat,∃R',HT 162 [A.d (D.lit (.int .u8 x5))] [] R'/\
 (∀v H',R' (.ret v) H'-> ∃x8:List D,v=A.agg x8/\H'=[]/\
 tB ((x8.length:Int)==6)=true/\
 R (.ret (A.agg x8)) [((Ref.up q0),[A.d (D.lit (Zco x6)),iA x7])])/\
 (∀x8v H',R' (.pan x8v) H'->H'=[]/\
 R (.pan x8v) [((Ref.up q0),[A.d (D.lit (Zco x6)),iA x7])]))/\
 (∀x5v H',R' (.pan x5v) H'-> ∃x6:List UInt8,∃x7:Int,H'=[(Ref.up (Ref.up q0),[A.d (D.lit (Zco x6)),iA x7])]/\
 R (.pan x5v) [((Ref.up q0),[A.d (D.lit (Zco x6)),iA x7])])))/\
 (tB (x2==92)=false->
 ((!((tB (decide (x2<32)))||(tB (decide (126<x2)))))=true->
 ∀_:Nat->Nat,∃R',HT 164 [(A.d (D.lit (Zco ([40,41,91,93,123,125,124,42,43,63,46,92]:List UInt8)))),A.d (D.lit (.int .u8 x2))] [] R'/\
 (∀v H',R' (.ret v) H'-> ∃x5:Int,v=iA x5/\H'=[]/\
 (tB (decide (0<=x5))=true->
 ∀_:Nat->Nat,∃R',HT 128 [A.ptr (.up (Ref.up q0)) 0,iA x4] [(Ref.up (Ref.up q0),[A.d (D.lit (Zco x3)),iA x4])] R'/\
 (∀v H',R' (.ret v) H'-> ∃x6:List UInt8,∃x7:Int,v=A.tup []/\H'=[(Ref.up (Ref.up q0),[A.d (D.lit (Zco x6)),iA x7])]/\
 tB (decide ((-9223372036854775808)<=(x7+1)))=true/\
 tB (decide ((x7+1)<=9223372036854775807))=true/\
 ∀_:Nat->Nat,∃R',HT 162 [A.d (D.lit (.int .u8 x2))] [] R'/\
 (∀v H',R' (.ret v) H'-> ∃x8:List D,v=A.agg x8/\H'=[]/\
 tB ((x8.length:Int)==6)=true/\
 R (.ret (A.agg x8)) [((Ref.up q0),[A.d (D.lit (Zco x6)),iA (x7+1)])])/\
 (∀x8v H',R' (.pan x8v) H'->H'=[]/\
 R (.pan x8v) [((Ref.up q0),[A.d (D.lit (Zco x6)),iA (x7+1)])]))/\
 (∀x6v H',R' (.pan x6v) H'-> ∃x7:List UInt8,∃x8:Int,H'=[(Ref.up (Ref.up q0),[A.d (D.lit (Zco x7)),iA x8])]/\
 R (.pan x6v) [((Ref.up q0),[A.d (D.lit (Zco x7)),iA x8])]))/\
 (tB (decide (0<=x5))=false->
 tB (decide ((-9223372036854775808)<=(x4+1)))=true/\
 tB (decide ((x4+1)<=9223372036854775807))=true/\
 ∀_:Nat->Nat,∃R',HT 162 [A.d (D.lit (.int .u8 x2))] [] R'/\
 (∀v H',R' (.ret v) H'-> ∃x6:List D,v=A.agg x6/\H'=[]/\
 tB ((x6.length:Int)==6)=true/\
 R (.ret (A.agg x6)) [((Ref.up q0),[A.d (D.lit (Zco x3)),iA (x4+1)])])/\
 (∀x6v H',R' (.pan x6v) H'->H'=[]/\
 R (.pan x6v) [((Ref.up q0),[A.d (D.lit (Zco x3)),iA (x4+1)])])))/\
 (∀x5v H',R' (.pan x5v) H'->H'=[]/\
 R (.pan x5v) [((Ref.up q0),[A.d (D.lit (Zco x3)),iA x4])]))/\
 ((!((tB (decide (x2<32)))||(tB (decide (126<x2)))))=false->
 ∀_:Nat->Nat,∃R',HT 128 [A.ptr (.up (Ref.up q0)) 0,iA x4] [(Ref.up (Ref.up q0),[A.d (D.lit (Zco x3)),iA x4])] R'/\
 (∀v H',R' (.ret v) H'-> ∃x5:List UInt8,∃x6:Int,v=A.tup []/\H'=[(Ref.up (Ref.up q0),[A.d (D.lit (Zco x5)),iA x6])]/\
 tB (decide ((-9223372036854775808)<=(x6+1)))=true/\
 tB (decide ((x6+1)<=9223372036854775807))=true/\
 ∀_:Nat->Nat,∃R',HT 162 [A.d (D.lit (.int .u8 x2))] [] R'/\
 (∀v H',R' (.ret v) H'-> ∃x7:List D,v=A.agg x7/\H'=[]/\
 tB ((x7.length:Int)==6)=true/\
 R (.ret (A.agg x7)) [((Ref.up q0),[A.d (D.lit (Zco x5)),iA (x6+1)])])/\
 (∀x7v H',R' (.pan x7v) H'->H'=[]/\
 R (.pan x7v) [((Ref.up q0),[A.d (D.lit (Zco x5)),iA (x6+1)])]))/\
 (∀x5v H',R' (.pan x5v) H'-> ∃x6:List UInt8,∃x7:Int,H'=[(Ref.up (Ref.up q0),[A.d (D.lit (Zco x6)),iA x7])]/\
 R (.pan x5v) [((Ref.up q0),[A.d (D.lit (Zco x6)),iA x7])]))))))))/\
 (∀x2v H',R' (.pan x2v) H'-> ∃x3:List UInt8,∃x4:Int,H'=[(Ref.up (Ref.up q0),[A.d (D.lit (Zco x3)),iA x4])]/\
 R (.pan x2v) [((Ref.up q0),[A.d (D.lit (Zco x3)),iA x4])])):
 HT 154 [A.ptr (Ref.up q0) 0] [((Ref.up q0),[A.d (D.lit (Zco x0)),iA x1])] R:=
 walk (c:=⟨Tryz.prog,116,true,[0,2,3,4,5,8,26,31,36,48,61,76,89]⟩) (op:={lat:=[13]}) (fn:=Tryz.f154) (args:=[.ptr (.up 0) 0]) (K:=[(.up 0,[.c (.o1 .cs (.var 0)),.c (.o1 (.ci .i64) (.var 1))])]) (nv:=2) (depth:=7) (up:=upOf [q0]) (ρ:=Zwa [.s x0,.i x1])
  rfl rfl rfl rfl rfl (by decide) (by decide) (by decide) (by decide) rfl (by simp[Zab,RRef.den,upOf]) (T_of (by kernel_rfl) h)
theorem w77{R:RT}(x0:List UInt8)(x1:Int)(q0:Ref)(h:tB (decide ((-9223372036854775808)<=(x1+1)))=true/\
 tB (decide ((x1+1)<=9223372036854775807))=true/\
 ∀_:Nat->Nat,∃R',HT 138 [A.ptr (.up (Ref.up q0)) 0] [(Ref.up (Ref.up q0),[A.d (D.lit (Zco x0)),iA (x1+1)])] R'/\
 (∀v H',R' (.ret v) H'-> ∃x2:Int,∃x3:List UInt8,∃x4:Int,v=A.d (D.lit (.int .u8 x2))/\H'=[(Ref.up (Ref.up q0),[A.d (D.lit (Zco x3)),iA x4])]/\
 (tB (x2==41)=true->
 tB (decide ((-9223372036854775808)<=(x4+1)))=true/\
 tB (decide ((x4+1)<=9223372036854775807))=true/\
 R (.ret (A.agg [D.lit (.int .i64 1),D.lit (.int .u64 0),D.lit (.int .u64 0),D.lit (.int .u64 0),D.lit (.int .u64 0),(D.slc ([]:List (List D)))])) [((Ref.up q0),[A.d (D.lit (Zco x3)),iA (x4+1)])])/\
 (tB (x2==41)=false->
 ∀_:Nat->Nat,∃R',HT 127 [A.ptr (.up (Ref.up q0)) 0] [(Ref.up (Ref.up q0),[A.d (D.lit (Zco x3)),iA x4])] R'/\
 (∀v H',R' (.ret v) H'-> ∃x5:List D,∃x6:List UInt8,∃x7:Int,v=A.agg x5/\H'=[(Ref.up (Ref.up q0),[A.d (D.lit (Zco x6)),iA x7])]/\
 tB ((x5.length:Int)==6)=true/\
 ∀_:Nat->Nat,∃R',HT 138 [A.ptr (.up (Ref.up q0)) 0] [(Ref.up (Ref.up q0),[A.d (D.lit (Zco x6)),iA x7])] R'/\
 (∀v H',R' (.ret v) H'-> ∃x8:Int,∃x9:List UInt8,∃x10:Int,v=A.d (D.lit (.int .u8 x8))/\H'=[(Ref.up (Ref.up q0),[A.d (D.lit (Zco x9)),iA x10])]/\
 ((!(tB (x8==41)))=true->
 ∀_:Nat->Nat,∃R',HT 128 [A.ptr (.up (Ref.up q0)) 0,iA x10] [(Ref.up (Ref.up q0),[A.d (D.lit (Zco x9)),iA x10])] R'/\
 (∀v H',R' (.ret v) H'-> ∃x11:List UInt8,∃x12:Int,v=A.tup []/\H'=[(Ref.up (Ref.up q0),[A.d (D.lit (Zco x11)),iA x12])]/\
 tB (decide ((-9223372036854775808)<=(x12+1)))=true/\
 tB (decide ((x12+1)<=9223372036854775807))=true/\
 R (.ret (A.agg x5)) [((Ref.up q0),[A.d (D.lit (Zco x11)),iA (x12+1)])])/\
 (∀x11v H',R' (.pan x11v) H'-> ∃x12:List UInt8,∃x13:Int,H'=[(Ref.up (Ref.up q0),[A.d (D.lit (Zco x12)),iA x13])]/\
 R (.pan x11v) [((Ref.up q0),[A.d (D.lit (Zco x12)),iA x13])]))/\
 ((!(tB (x8==41)))=false->
 tB (decide ((-9223372036854775808)<=(x10+1)))=true/\
 tB (decide ((x10+1)<=9223372036854775807))=true/\
 R (.ret (A.agg x5)) [((Ref.up q0),[A.d (D.lit (Zco x9)),iA (x10+1)])]))/\
 (∀x8v H',R' (.pan x8v) H'-> ∃x9:List UInt8,∃x10:Int,H'=[(Ref.up (Ref.up q0),[A.d (D.lit (Zco x9)),iA x10])]/\
 R (.pan x8v) [((Ref.up q0),[A.d (D.lit (Zco x9)),iA x10])]))/\
 (∀x5v H',R' (.pan x5v) H'-> ∃x6:List UInt8,∃x7:Int,H'=[(Ref.up (Ref.up q0),[A.d (D.lit (Zco x6)),iA x7])]/\
 R (.pan x5v) [((Ref.up q0),[A.d (D.lit (Zco x6)),iA x7])])))/\
 (∀x2v H',R' (.pan x2v) H'-> ∃x3:List UInt8,∃x4:Int,H'=[(Ref.up (Ref.up q0),[A.d (D.lit (Zco x3)),iA x4])]/\
 R (.pan x2v) [((Ref.up q0),[A.d (D.lit (Zco x3)),iA x4])])):
 HT 158 [A.ptr (Ref.up q0) 0] [((Ref.up q0),[A.d (D.lit (Zco x0)),iA x1])] R:=
 walk (c:=⟨Tryz.prog,41,true,[0,2,3,13,26]⟩) (op:={}) (fn:=Tryz.f158) (args:=[.ptr (.up 0) 0]) (K:=[(.up 0,[.c (.o1 .cs (.var 0)),.c (.o1 (.ci .i64) (.var 1))])]) (nv:=2) (depth:=6) (up:=upOf [q0]) (ρ:=Zwa [.s x0,.i x1])
  rfl rfl rfl rfl rfl (by decide) (by decide) (by decide) (by decide) rfl (by simp[Zab,RRef.den,upOf]) (T_of (by kernel_rfl) h)
theorem w78{R:RT}(x0:List UInt8)(x1:Int)(q0:Ref)(h:tB (decide ((-9223372036854775808)<=(x1+1)))=true/\
 tB (decide ((x1+1)<=9223372036854775807))=true/\
 ∀_:Nat->Nat,∃R',HT 138 [A.ptr (.up (Ref.up q0)) 0] [(Ref.up (Ref.up q0),[A.d (D.lit (Zco x0)),iA (x1+1)])] R'/\
 (∀v H',R' (.ret v) H'-> ∃x2:Int,∃x3:List UInt8,∃x4:Int,v=A.d (D.lit (.int .u8 x2))/\H'=[(Ref.up (Ref.up q0),[A.d (D.lit (Zco x3)),iA x4])]/\
 (tB (x2==94)=true->
 tB (decide ((-9223372036854775808)<=(x4+1)))=true/\
 tB (decide ((x4+1)<=9223372036854775807))=true/\
 ∃(I0_0:Bool->D->D->D->D->List UInt8->Int->Prop)(M0_0:Bool->D->D->D->D->List UInt8->Int->Nat),I0_0 true (D.lit (.int .u64 0)) (D.lit (.int .u64 0)) (D.lit (.int .u64 0)) (D.lit (.int .u64 0)) x3 (x4+1)/\
 (∀(x5:Bool)(x6:D)(x7:D)(x8:D)(x9:D)(x10:List UInt8)(x11:Int),I0_0 x5 x6 x7 x8 x9 x10 x11->
 ((!x5)=true->
 ∀_:Nat->Nat,∃R',HT 138 [A.ptr (.up (Ref.up q0)) 0] [(Ref.up (Ref.up q0),[A.d (D.lit (Zco x10)),iA x11])] R'/\
 (∀v H',R' (.ret v) H'-> ∃x12:Int,∃x13:List UInt8,∃x14:Int,v=A.d (D.lit (.int .u8 x12))/\H'=[(Ref.up (Ref.up q0),[A.d (D.lit (Zco x13)),iA x14])]/\
 ((!(tB (x12==93)))=true->
 ∀_:Nat->Nat,∃R',HT 172 [A.ptr (.up (Ref.up q0)) 0,A.d (D.lit (.int .u8 0))] [(Ref.up (Ref.up q0),[A.d (D.lit (Zco x13)),iA x14])] R'/\
 (∀v H',R' (.ret v) H'-> ∃x15:Int,∃x16:List UInt8,∃x17:Int,v=A.d (D.lit (.int .u8 x15))/\H'=[(Ref.up (Ref.up q0),[A.d (D.lit (Zco x16)),iA x17])]/\
 ∀_:Nat->Nat,∃R',HT 138 [A.ptr (.up (Ref.up q0)) 0] [(Ref.up (Ref.up q0),[A.d (D.lit (Zco x16)),iA x17])] R'/\
 (∀v H',R' (.ret v) H'-> ∃x18:Int,∃x19:List UInt8,∃x20:Int,v=A.d (D.lit (.int .u8 x18))/\H'=[(Ref.up (Ref.up q0),[A.d (D.lit (Zco x19)),iA x20])]/\
 (tB (x18==45)=true->
 tB (decide ((-9223372036854775808)<=(x20+1)))=true/\
 tB (decide ((x20+1)<=9223372036854775807))=true/\
 ∀_:Nat->Nat,∃R',HT 172 [A.ptr (.up (Ref.up q0)) 0,A.d (D.lit (.int .u8 x15))] [(Ref.up (Ref.up q0),[A.d (D.lit (Zco x19)),iA (x20+1)])] R'/\
 (∀v H',R' (.ret v) H'-> ∃x21:Int,∃x22:List UInt8,∃x23:Int,v=A.d (D.lit (.int .u8 x21))/\H'=[(Ref.up (Ref.up q0),[A.d (D.lit (Zco x22)),iA x23])]/\
 ∃x24:List D,(∀_:Nat->Nat,HT 160 [A.d (D.lit (.int .u8 x15)),A.d (D.lit (.int .u8 x21))] [] (Zpq [] (A.agg x24)))/\
 ∀_:Nat->Nat,∃R',HT 173 [A.agg [x6,x7,x8,x9],A.agg x24] [] R'/\
 (∀v H',R' (.ret v) H'-> ∃x25:List D,v=A.agg x25/\H'=[]/\
 tB ((x25.length:Int)==4)=true/\
 I0_0 false (x25.getD 0 D0) (x25.getD 1 D0) (x25.getD 2 D0) (x25.getD 3 D0) x22 x23/\M0_0 false (x25.getD 0 D0) (x25.getD 1 D0) (x25.getD 2 D0) (x25.getD 3 D0) x22 x23<M0_0 x5 x6 x7 x8 x9 x10 x11)/\
 (∀x25v H',R' (.pan x25v) H'->H'=[]/\
 R (.pan x25v) [((Ref.up q0),[A.d (D.lit (Zco x22)),iA x23])]))/\
 (∀x21v H',R' (.pan x21v) H'-> ∃x22:List UInt8,∃x23:Int,H'=[(Ref.up (Ref.up q0),[A.d (D.lit (Zco x22)),iA x23])]/\
 R (.pan x21v) [((Ref.up q0),[A.d (D.lit (Zco x22)),iA x23])]))/\
 (tB (x18==45)=false->
 ∃x21:List D,(∀_:Nat->Nat,HT 160 [A.d (D.lit (.int .u8 x15)),A.d (D.lit (.int .u8 x15))] [] (Zpq [] (A.agg x21)))/\
 ∀_:Nat->Nat,∃R',HT 173 [A.agg [x6,x7,x8,x9],A.agg x21] [] R'/\
 (∀v H',R' (.ret v) H'-> ∃x22:List D,v=A.agg x22/\H'=[]/\
 tB ((x22.length:Int)==4)=true/\
 I0_0 false (x22.getD 0 D0) (x22.getD 1 D0) (x22.getD 2 D0) (x22.getD 3 D0) x19 x20/\M0_0 false (x22.getD 0 D0) (x22.getD 1 D0) (x22.getD 2 D0) (x22.getD 3 D0) x19 x20<M0_0 x5 x6 x7 x8 x9 x10 x11)/\
 (∀x22v H',R' (.pan x22v) H'->H'=[]/\
 R (.pan x22v) [((Ref.up q0),[A.d (D.lit (Zco x19)),iA x20])])))/\
 (∀x18v H',R' (.pan x18v) H'-> ∃x19:List UInt8,∃x20:Int,H'=[(Ref.up (Ref.up q0),[A.d (D.lit (Zco x19)),iA x20])]/\
 R (.pan x18v) [((Ref.up q0),[A.d (D.lit (Zco x19)),iA x20])]))/\
 (∀x15v H',R' (.pan x15v) H'-> ∃x16:List UInt8,∃x17:Int,H'=[(Ref.up (Ref.up q0),[A.d (D.lit (Zco x16)),iA x17])]/\
 R (.pan x15v) [((Ref.up q0),[A.d (D.lit (Zco x16)),iA x17])]))/\
 ((!(tB (x12==93)))=false->
 tB (decide ((-9223372036854775808)<=(x14+1)))=true/\
 tB (decide ((x14+1)<=9223372036854775807))=true/\
 ∀_:Nat->Nat,∃R',HT 174 [A.agg [x6,x7,x8,x9]] [] R'/\
 (∀v H',R' (.ret v) H'-> ∃x15:List D,v=A.agg x15/\H'=[]/\
 tB ((x15.length:Int)==4)=true/\
 R (.ret (A.agg [D.lit (.int .i64 2),x15.getD 0 D0,x15.getD 1 D0,x15.getD 2 D0,x15.getD 3 D0,(D.slc ([]:List (List D)))])) [((Ref.up q0),[A.d (D.lit (Zco x13)),iA (x14+1)])])/\
 (∀x15v H',R' (.pan x15v) H'->H'=[]/\
 R (.pan x15v) [((Ref.up q0),[A.d (D.lit (Zco x13)),iA (x14+1)])])))/\
 (∀x12v H',R' (.pan x12v) H'-> ∃x13:List UInt8,∃x14:Int,H'=[(Ref.up (Ref.up q0),[A.d (D.lit (Zco x13)),iA x14])]/\
 R (.pan x12v) [((Ref.up q0),[A.d (D.lit (Zco x13)),iA x14])]))/\
 ((!x5)=false->
 ∀_:Nat->Nat,∃R',HT 172 [A.ptr (.up (Ref.up q0)) 0,A.d (D.lit (.int .u8 0))] [(Ref.up (Ref.up q0),[A.d (D.lit (Zco x10)),iA x11])] R'/\
 (∀v H',R' (.ret v) H'-> ∃x12:Int,∃x13:List UInt8,∃x14:Int,v=A.d (D.lit (.int .u8 x12))/\H'=[(Ref.up (Ref.up q0),[A.d (D.lit (Zco x13)),iA x14])]/\
 ∀_:Nat->Nat,∃R',HT 138 [A.ptr (.up (Ref.up q0)) 0] [(Ref.up (Ref.up q0),[A.d (D.lit (Zco x13)),iA x14])] R'/\
 (∀v H',R' (.ret v) H'-> ∃x15:Int,∃x16:List UInt8,∃x17:Int,v=A.d (D.lit (.int .u8 x15))/\H'=[(Ref.up (Ref.up q0),[A.d (D.lit (Zco x16)),iA x17])]/\
 (tB (x15==45)=true->
 tB (decide ((-9223372036854775808)<=(x17+1)))=true/\
 tB (decide ((x17+1)<=9223372036854775807))=true/\
 ∀_:Nat->Nat,∃R',HT 172 [A.ptr (.up (Ref.up q0)) 0,A.d (D.lit (.int .u8 x12))] [(Ref.up (Ref.up q0),[A.d (D.lit (Zco x16)),iA (x17+1)])] R'/\
 (∀v H',R' (.ret v) H'-> ∃x18:Int,∃x19:List UInt8,∃x20:Int,v=A.d (D.lit (.int .u8 x18))/\H'=[(Ref.up (Ref.up q0),[A.d (D.lit (Zco x19)),iA x20])]/\
 ∃x21:List D,(∀_:Nat->Nat,HT 160 [A.d (D.lit (.int .u8 x12)),A.d (D.lit (.int .u8 x18))] [] (Zpq [] (A.agg x21)))/\
 ∀_:Nat->Nat,∃R',HT 173 [A.agg [x6,x7,x8,x9],A.agg x21] [] R'/\
 (∀v H',R' (.ret v) H'-> ∃x22:List D,v=A.agg x22/\H'=[]/\
 tB ((x22.length:Int)==4)=true/\
 I0_0 false (x22.getD 0 D0) (x22.getD 1 D0) (x22.getD 2 D0) (x22.getD 3 D0) x19 x20/\M0_0 false (x22.getD 0 D0) (x22.getD 1 D0) (x22.getD 2 D0) (x22.getD 3 D0) x19 x20<M0_0 x5 x6 x7 x8 x9 x10 x11)/\
 (∀x22v H',R' (.pan x22v) H'->H'=[]/\
 R (.pan x22v) [((Ref.up q0),[A.d (D.lit (Zco x19)),iA x20])]))/\
 (∀x18v H',R' (.pan x18v) H'-> ∃x19:List UInt8,∃x20:Int,H'=[(Ref.up (Ref.up q0),[A.d (D.lit (Zco x19)),iA x20])]/\
 R (.pan x18v) [((Ref.up q0),[A.d (D.lit (Zco x19)),iA x20])]))/\
 (tB (x15==45)=false->
 ∃x18:List D,(∀_:Nat->Nat,HT 160 [A.d (D.lit (.int .u8 x12)),A.d (D.lit (.int .u8 x12))] [] (Zpq [] (A.agg x18)))/\
 ∀_:Nat->Nat,∃R',HT 173 [A.agg [x6,x7,x8,x9],A.agg x18] [] R'/\
 (∀v H',R' (.ret v) H'-> ∃x19:List D,v=A.agg x19/\H'=[]/\
 tB ((x19.length:Int)==4)=true/\
 I0_0 false (x19.getD 0 D0) (x19.getD 1 D0) (x19.getD 2 D0) (x19.getD 3 D0) x16 x17/\M0_0 false (x19.getD 0 D0) (x19.getD 1 D0) (x19.getD 2 D0) (x19.getD 3 D0) x16 x17<M0_0 x5 x6 x7 x8 x9 x10 x11)/\
 (∀x19v H',R' (.pan x19v) H'->H'=[]/\
 R (.pan x19v) [((Ref.up q0),[A.d (D.lit (Zco x16)),iA x17])])))/\
 (∀x15v H',R' (.pan x15v) H'-> ∃x16:List UInt8,∃x17:Int,H'=[(Ref.up (Ref.up q0),[A.d (D.lit (Zco x16)),iA x17])]/\
 R (.pan x15v) [((Ref.up q0),[A.d (D.lit (Zco x16)),iA x17])]))/\
 (∀x12v H',R' (.pan x12v) H'-> ∃x13:List UInt8,∃x14:Int,H'=[(Ref.up (Ref.up q0),[A.d (D.lit (Zco x13)),iA x14])]/\
 R (.pan x12v) [((Ref.up q0),[A.d (D.lit (Zco x13)),iA x14])])))/\
 True)/\
 (tB (x2==94)=false->
 ∀_:Nat->Nat,∃R',HT 138 [A.ptr (.up (Ref.up q0)) 0] [(Ref.up (Ref.up q0),[A.d (D.lit (Zco x3)),iA x4])] R'/\
 (∀v H',R' (.ret v) H'-> ∃x5:Int,∃x6:List UInt8,∃x7:Int,v=A.d (D.lit (.int .u8 x5))/\H'=[(Ref.up (Ref.up q0),[A.d (D.lit (Zco x6)),iA x7])]/\
 (tB (x5==93)=true->
 tB (decide ((-9223372036854775808)<=(x7+1)))=true/\
 tB (decide ((x7+1)<=9223372036854775807))=true/\
 R (.ret (A.agg [D.lit (.int .i64 0),D.lit (.int .u64 0),D.lit (.int .u64 0),D.lit (.int .u64 0),D.lit (.int .u64 0),(D.slc ([]:List (List D)))])) [((Ref.up q0),[A.d (D.lit (Zco x6)),iA (x7+1)])])/\
 (tB (x5==93)=false->
 ∃(I0_0:Bool->D->D->D->D->List UInt8->Int->Prop)(M0_0:Bool->D->D->D->D->List UInt8->Int->Nat),I0_0 true (D.lit (.int .u64 0)) (D.lit (.int .u64 0)) (D.lit (.int .u64 0)) (D.lit (.int .u64 0)) x6 x7/\
 (∀(x8:Bool)(x9:D)(x10:D)(x11:D)(x12:D)(x13:List UInt8)(x14:Int),I0_0 x8 x9 x10 x11 x12 x13 x14->
 ((!x8)=true->
 ∀_:Nat->Nat,∃R',HT 138 [A.ptr (.up (Ref.up q0)) 0] [(Ref.up (Ref.up q0),[A.d (D.lit (Zco x13)),iA x14])] R'/\
 (∀v H',R' (.ret v) H'-> ∃x15:Int,∃x16:List UInt8,∃x17:Int,v=A.d (D.lit (.int .u8 x15))/\H'=[(Ref.up (Ref.up q0),[A.d (D.lit (Zco x16)),iA x17])]/\
 ((!(tB (x15==93)))=true->
 ∀_:Nat->Nat,∃R',HT 172 [A.ptr (.up (Ref.up q0)) 0,A.d (D.lit (.int .u8 0))] [(Ref.up (Ref.up q0),[A.d (D.lit (Zco x16)),iA x17])] R'/\
 (∀v H',R' (.ret v) H'-> ∃x18:Int,∃x19:List UInt8,∃x20:Int,v=A.d (D.lit (.int .u8 x18))/\H'=[(Ref.up (Ref.up q0),[A.d (D.lit (Zco x19)),iA x20])]/\
 ∀_:Nat->Nat,∃R',HT 138 [A.ptr (.up (Ref.up q0)) 0] [(Ref.up (Ref.up q0),[A.d (D.lit (Zco x19)),iA x20])] R'/\
 (∀v H',R' (.ret v) H'-> ∃x21:Int,∃x22:List UInt8,∃x23:Int,v=A.d (D.lit (.int .u8 x21))/\H'=[(Ref.up (Ref.up q0),[A.d (D.lit (Zco x22)),iA x23])]/\
 (tB (x21==45)=true->
 tB (decide ((-9223372036854775808)<=(x23+1)))=true/\
 tB (decide ((x23+1)<=9223372036854775807))=true/\
 ∀_:Nat->Nat,∃R',HT 172 [A.ptr (.up (Ref.up q0)) 0,A.d (D.lit (.int .u8 x18))] [(Ref.up (Ref.up q0),[A.d (D.lit (Zco x22)),iA (x23+1)])] R'/\
 (∀v H',R' (.ret v) H'-> ∃x24:Int,∃x25:List UInt8,∃x26:Int,v=A.d (D.lit (.int .u8 x24))/\H'=[(Ref.up (Ref.up q0),[A.d (D.lit (Zco x25)),iA x26])]/\
 ∃x27:List D,(∀_:Nat->Nat,HT 160 [A.d (D.lit (.int .u8 x18)),A.d (D.lit (.int .u8 x24))] [] (Zpq [] (A.agg x27)))/\
 ∀_:Nat->Nat,∃R',HT 173 [A.agg [x9,x10,x11,x12],A.agg x27] [] R'/\
 (∀v H',R' (.ret v) H'-> ∃x28:List D,v=A.agg x28/\H'=[]/\
 tB ((x28.length:Int)==4)=true/\
 I0_0 false (x28.getD 0 D0) (x28.getD 1 D0) (x28.getD 2 D0) (x28.getD 3 D0) x25 x26/\M0_0 false (x28.getD 0 D0) (x28.getD 1 D0) (x28.getD 2 D0) (x28.getD 3 D0) x25 x26<M0_0 x8 x9 x10 x11 x12 x13 x14)/\
 (∀x28v H',R' (.pan x28v) H'->H'=[]/\
 R (.pan x28v) [((Ref.up q0),[A.d (D.lit (Zco x25)),iA x26])]))/\
 (∀x24v H',R' (.pan x24v) H'-> ∃x25:List UInt8,∃x26:Int,H'=[(Ref.up (Ref.up q0),[A.d (D.lit (Zco x25)),iA x26])]/\
 R (.pan x24v) [((Ref.up q0),[A.d (D.lit (Zco x25)),iA x26])]))/\
 (tB (x21==45)=false->
 ∃x24:List D,(∀_:Nat->Nat,HT 160 [A.d (D.lit (.int .u8 x18)),A.d (D.lit (.int .u8 x18))] [] (Zpq [] (A.agg x24)))/\
 ∀_:Nat->Nat,∃R',HT 173 [A.agg [x9,x10,x11,x12],A.agg x24] [] R'/\
 (∀v H',R' (.ret v) H'-> ∃x25:List D,v=A.agg x25/\H'=[]/\
 tB ((x25.length:Int)==4)=true/\
 I0_0 false (x25.getD 0 D0) (x25.getD 1 D0) (x25.getD 2 D0) (x25.getD 3 D0) x22 x23/\M0_0 false (x25.getD 0 D0) (x25.getD 1 D0) (x25.getD 2 D0) (x25.getD 3 D0) x22 x23<M0_0 x8 x9 x10 x11 x12 x13 x14)/\
 (∀x25v H',R' (.pan x25v) H'->H'=[]/\
 R (.pan x25v) [((Ref.up q0),[A.d (D.lit (Zco x22)),iA x23])])))/\
 (∀x21v H',R' (.pan x21v) H'-> ∃x22:List UInt8,∃x23:Int,H'=[(Ref.up (Ref.up q0),[A.d (D.lit (Zco x22)),iA x23])]/\
 R (.pan x21v) [((Ref.up q0),[A.d (D.lit (Zco x22)),iA x23])]))/\
 (∀x18v H',R' (.pan x18v) H'-> ∃x19:List UInt8,∃x20:Int,H'=[(Ref.up (Ref.up q0),[A.d (D.lit (Zco x19)),iA x20])]/\
 R (.pan x18v) [((Ref.up q0),[A.d (D.lit (Zco x19)),iA x20])]))/\
 ((!(tB (x15==93)))=false->
 tB (decide ((-9223372036854775808)<=(x17+1)))=true/\
 tB (decide ((x17+1)<=9223372036854775807))=true/\
 R (.ret (A.agg [D.lit (.int .i64 2),x9,x10,x11,x12,(D.slc ([]:List (List D)))])) [((Ref.up q0),[A.d (D.lit (Zco x16)),iA (x17+1)])]))/\
 (∀x15v H',R' (.pan x15v) H'-> ∃x16:List UInt8,∃x17:Int,H'=[(Ref.up (Ref.up q0),[A.d (D.lit (Zco x16)),iA x17])]/\
 R (.pan x15v) [((Ref.up q0),[A.d (D.lit (Zco x16)),iA x17])]))/\
 ((!x8)=false->
 ∀_:Nat->Nat,∃R',HT 172 [A.ptr (.up (Ref.up q0)) 0,A.d (D.lit (.int .u8 0))] [(Ref.up (Ref.up q0),[A.d (D.lit (Zco x13)),iA x14])] R'/\
 (∀v H',R' (.ret v) H'-> ∃x15:Int,∃x16:List UInt8,∃x17:Int,v=A.d (D.lit (.int .u8 x15))/\H'=[(Ref.up (Ref.up q0),[A.d (D.lit (Zco x16)),iA x17])]/\
 ∀_:Nat->Nat,∃R',HT 138 [A.ptr (.up (Ref.up q0)) 0] [(Ref.up (Ref.up q0),[A.d (D.lit (Zco x16)),iA x17])] R'/\
 (∀v H',R' (.ret v) H'-> ∃x18:Int,∃x19:List UInt8,∃x20:Int,v=A.d (D.lit (.int .u8 x18))/\H'=[(Ref.up (Ref.up q0),[A.d (D.lit (Zco x19)),iA x20])]/\
 (tB (x18==45)=true->
 tB (decide ((-9223372036854775808)<=(x20+1)))=true/\
 tB (decide ((x20+1)<=9223372036854775807))=true/\
 ∀_:Nat->Nat,∃R',HT 172 [A.ptr (.up (Ref.up q0)) 0,A.d (D.lit (.int .u8 x15))] [(Ref.up (Ref.up q0),[A.d (D.lit (Zco x19)),iA (x20+1)])] R'/\
 (∀v H',R' (.ret v) H'-> ∃x21:Int,∃x22:List UInt8,∃x23:Int,v=A.d (D.lit (.int .u8 x21))/\H'=[(Ref.up (Ref.up q0),[A.d (D.lit (Zco x22)),iA x23])]/\
 ∃x24:List D,(∀_:Nat->Nat,HT 160 [A.d (D.lit (.int .u8 x15)),A.d (D.lit (.int .u8 x21))] [] (Zpq [] (A.agg x24)))/\
 ∀_:Nat->Nat,∃R',HT 173 [A.agg [x9,x10,x11,x12],A.agg x24] [] R'/\
 (∀v H',R' (.ret v) H'-> ∃x25:List D,v=A.agg x25/\H'=[]/\
 tB ((x25.length:Int)==4)=true/\
 I0_0 false (x25.getD 0 D0) (x25.getD 1 D0) (x25.getD 2 D0) (x25.getD 3 D0) x22 x23/\M0_0 false (x25.getD 0 D0) (x25.getD 1 D0) (x25.getD 2 D0) (x25.getD 3 D0) x22 x23<M0_0 x8 x9 x10 x11 x12 x13 x14)/\
 (∀x25v H',R' (.pan x25v) H'->H'=[]/\
 R (.pan x25v) [((Ref.up q0),[A.d (D.lit (Zco x22)),iA x23])]))/\
 (∀x21v H',R' (.pan x21v) H'-> ∃x22:List UInt8,∃x23:Int,H'=[(Ref.up (Ref.up q0),[A.d (D.lit (Zco x22)),iA x23])]/\
 R (.pan x21v) [((Ref.up q0),[A.d (D.lit (Zco x22)),iA x23])]))/\
 (tB (x18==45)=false->
 ∃x21:List D,(∀_:Nat->Nat,HT 160 [A.d (D.lit (.int .u8 x15)),A.d (D.lit (.int .u8 x15))] [] (Zpq [] (A.agg x21)))/\
 ∀_:Nat->Nat,∃R',HT 173 [A.agg [x9,x10,x11,x12],A.agg x21] [] R'/\
 (∀v H',R' (.ret v) H'-> ∃x22:List D,v=A.agg x22/\H'=[]/\
 tB ((x22.length:Int)==4)=true/\
 I0_0 false (x22.getD 0 D0) (x22.getD 1 D0) (x22.getD 2 D0) (x22.getD 3 D0) x19 x20/\M0_0 false (x22.getD 0 D0) (x22.getD 1 D0) (x22.getD 2 D0) (x22.getD 3 D0) x19 x20<M0_0 x8 x9 x10 x11 x12 x13 x14)/\
 (∀x22v H',R' (.pan x22v) H'->H'=[]/\
 R (.pan x22v) [((Ref.up q0),[A.d (D.lit (Zco x19)),iA x20])])))/\
 (∀x18v H',R' (.pan x18v) H'-> ∃x19:List UInt8,∃x20:Int,H'=[(Ref.up (Ref.up q0),[A.d (D.lit (Zco x19)),iA x20])]/\
 R (.pan x18v) [((Ref.up q0),[A.d (D.lit (Zco x19)),iA x20])]))/\
 (∀x15v H',R' (.pan x15v) H'-> ∃x16:List UInt8,∃x17:Int,H'=[(Ref.up (Ref.up q0),[A.d (D.lit (Zco x16)),iA x17])]/\
 R (.pan x15v) [((Ref.up q0),[A.d (D.lit (Zco x16)),iA x17])])))/\
 True))/\
 (∀x5v H',R' (.pan x5v) H'-> ∃x6:List UInt8,∃x7:Int,H'=[(Ref.up (Ref.up q0),[A.d (D.lit (Zco x6)),iA x7])]/\
 R (.pan x5v) [((Ref.up q0),[A.d (D.lit (Zco x6)),iA x7])])))/\
 (∀x2v H',R' (.pan x2v) H'-> ∃x3:List UInt8,∃x4:Int,H'=[(Ref.up (Ref.up q0),[A.d (D.lit (Zco x3)),iA x4])]/\
 R (.pan x2v) [((Ref.up q0),[A.d (D.lit (Zco x3)),iA x4])])):
 HT 159 [A.ptr (Ref.up q0) 0] [((Ref.up q0),[A.d (D.lit (Zco x0)),iA x1])] R:=
 walk (c:=⟨Tryz.prog,80,true,[0,2,3,4,5,6,7,18,32,46,52,75]⟩) (op:={com:=[(11,(46,5000)),(11,(6,5000)),(11,(7,5000)),(11,(52,5000)),(11,(5,5000))]}) (fn:=Tryz.f159) (args:=[.ptr (.up 0) 0]) (K:=[(.up 0,[.c (.o1 .cs (.var 0)),.c (.o1 (.ci .i64) (.var 1))])]) (nv:=2) (depth:=7) (up:=upOf [q0]) (ρ:=Zwa [.s x0,.i x1])
  rfl rfl rfl rfl rfl (by decide) (by decide) (by decide) (by decide) rfl (by simp[Zab,RRef.den,upOf]) (T_of (by kernel_rfl) h)
theorem w81{R:RT}(x0:Int)(h:∀_:Nat->Nat,∃R',HT 160 [A.d (D.lit (.int .u8 x0)),A.d (D.lit (.int .u8 x0))] [] R'/\
 (∀v H',R' (.ret v) H'-> ∃x1:List D,v=A.agg x1/\H'=[]/\
 tB ((x1.length:Int)==4)=true/\
 R (.ret (A.agg [D.lit (.int .i64 2),x1.getD 0 D0,x1.getD 1 D0,x1.getD 2 D0,x1.getD 3 D0,(D.slc ([]:List (List D)))])) [])/\
 PN R R'):
 HT 162 [A.d (D.lit (.int .u8 x0))] [] R:=
 walk (c:=⟨Tryz.prog,7,true,[0,2]⟩) (op:={}) (fn:=Tryz.f162) (args:=[.c (.o1 (.ci .u8) (.var 0))]) (K:=[]) (nv:=1) (depth:=3) (up:=upOf []) (ρ:=Zwa [.i x0])
  rfl rfl rfl rfl rfl (by decide) (by decide) (by decide) (by decide) rfl (by simp[Zab,RRef.den,upOf]) (T_of (by kernel_rfl) h)
theorem w82{R:RT}(x0:List UInt8)(x1:Int)(x2:Int)(q0:Ref)(h:tB (decide ((-9223372036854775808)<=(x1+1)))=true/\
 tB (decide ((x1+1)<=9223372036854775807))=true/\
 ∀_:Nat->Nat,∃R',HT 138 [A.ptr (.up (Ref.up q0)) 0] [(Ref.up (Ref.up q0),[A.d (D.lit (Zco x0)),iA (x1+1)])] R'/\
 (∀v H',R' (.ret v) H'-> ∃x3:Int,∃x4:List UInt8,∃x5:Int,v=A.d (D.lit (.int .u8 x3))/\H'=[(Ref.up (Ref.up q0),[A.d (D.lit (Zco x4)),iA x5])]/\
 (tB (decide ((x4.length:Int)<=x5))=true->
 ∀_:Nat->Nat,∃R',HT 128 [A.ptr (.up (Ref.up q0)) 0,(iA (x4.length:Int))] [(Ref.up (Ref.up q0),[A.d (D.lit (Zco x4)),iA x5])] R'/\
 (∀v H',R' (.ret v) H'-> ∃x6:List UInt8,∃x7:Int,v=A.tup []/\H'=[(Ref.up (Ref.up q0),[A.d (D.lit (Zco x6)),iA x7])]/\
 (tB (decide (x3<x2))=true->
 ∀_:Nat->Nat,∃R',HT 128 [A.ptr (.up (Ref.up q0)) 0,iA x7] [(Ref.up (Ref.up q0),[A.d (D.lit (Zco x6)),iA x7])] R'/\
 (∀v H',R' (.ret v) H'-> ∃x8:List UInt8,∃x9:Int,v=A.tup []/\H'=[(Ref.up (Ref.up q0),[A.d (D.lit (Zco x8)),iA x9])]/\
 tB (decide ((-9223372036854775808)<=(x9+1)))=true/\
 tB (decide ((x9+1)<=9223372036854775807))=true/\
 R (.ret (A.d (D.lit (.int .u8 x3)))) [((Ref.up q0),[A.d (D.lit (Zco x8)),iA (x9+1)])])/\
 (∀x8v H',R' (.pan x8v) H'-> ∃x9:List UInt8,∃x10:Int,H'=[(Ref.up (Ref.up q0),[A.d (D.lit (Zco x9)),iA x10])]/\
 R (.pan x8v) [((Ref.up q0),[A.d (D.lit (Zco x9)),iA x10])]))/\
 (tB (decide (x3<x2))=false->
 tB (decide ((-9223372036854775808)<=(x7+1)))=true/\
 tB (decide ((x7+1)<=9223372036854775807))=true/\
 R (.ret (A.d (D.lit (.int .u8 x3)))) [((Ref.up q0),[A.d (D.lit (Zco x6)),iA (x7+1)])]))/\
 (∀x6v H',R' (.pan x6v) H'-> ∃x7:List UInt8,∃x8:Int,H'=[(Ref.up (Ref.up q0),[A.d (D.lit (Zco x7)),iA x8])]/\
 R (.pan x6v) [((Ref.up q0),[A.d (D.lit (Zco x7)),iA x8])]))/\
 (tB (decide ((x4.length:Int)<=x5))=false->
 (tB (x3==120)=true->
 ∀_:Nat->Nat,∃R',HT 175 [A.ptr (.up (Ref.up q0)) 0,A.d (D.lit (.int .u8 x2))] [(Ref.up (Ref.up q0),[A.d (D.lit (Zco x4)),iA x5])] R'/\
 (∀v H',R' (.ret v) H'-> ∃x6:Int,∃x7:List UInt8,∃x8:Int,v=A.d (D.lit (.int .u8 x6))/\H'=[(Ref.up (Ref.up q0),[A.d (D.lit (Zco x7)),iA x8])]/\
 R (.ret (A.d (D.lit (.int .u8 x6)))) [((Ref.up q0),[A.d (D.lit (Zco x7)),iA x8])])/\
 (∀x6v H',R' (.pan x6v) H'-> ∃x7:List UInt8,∃x8:Int,H'=[(Ref.up (Ref.up q0),[A.d (D.lit (Zco x7)),iA x8])]/\
 R (.pan x6v) [((Ref.up q0),[A.d (D.lit (Zco x7)),iA x8])]))/\
 (tB (x3==120)=false->
 (tB (x3==110)=true->
 (tB (decide (10<x2))=true->
 ∀_:Nat->Nat,∃R',HT 128 [A.ptr (.up (Ref.up q0)) 0,iA x5] [(Ref.up (Ref.up q0),[A.d (D.lit (Zco x4)),iA x5])] R'/\
 (∀v H',R' (.ret v) H'-> ∃x6:List UInt8,∃x7:Int,v=A.tup []/\H'=[(Ref.up (Ref.up q0),[A.d (D.lit (Zco x6)),iA x7])]/\
 tB (decide ((-9223372036854775808)<=(x7+1)))=true/\
 tB (decide ((x7+1)<=9223372036854775807))=true/\
 R (.ret (A.d (D.lit (.int .u8 10)))) [((Ref.up q0),[A.d (D.lit (Zco x6)),iA (x7+1)])])/\
 (∀x6v H',R' (.pan x6v) H'-> ∃x7:List UInt8,∃x8:Int,H'=[(Ref.up (Ref.up q0),[A.d (D.lit (Zco x7)),iA x8])]/\
 R (.pan x6v) [((Ref.up q0),[A.d (D.lit (Zco x7)),iA x8])]))/\
 (tB (decide (10<x2))=false->
 tB (decide ((-9223372036854775808)<=(x5+1)))=true/\
 tB (decide ((x5+1)<=9223372036854775807))=true/\
 R (.ret (A.d (D.lit (.int .u8 10)))) [((Ref.up q0),[A.d (D.lit (Zco x4)),iA (x5+1)])]))/\
 (tB (x3==110)=false->
 (tB (x3==116)=true->
 (tB (decide (9<x2))=true->
 ∀_:Nat->Nat,∃R',HT 128 [A.ptr (.up (Ref.up q0)) 0,iA x5] [(Ref.up (Ref.up q0),[A.d (D.lit (Zco x4)),iA x5])] R'/\
 (∀v H',R' (.ret v) H'-> ∃x6:List UInt8,∃x7:Int,v=A.tup []/\H'=[(Ref.up (Ref.up q0),[A.d (D.lit (Zco x6)),iA x7])]/\
 tB (decide ((-9223372036854775808)<=(x7+1)))=true/\
 tB (decide ((x7+1)<=9223372036854775807))=true/\
 R (.ret (A.d (D.lit (.int .u8 9)))) [((Ref.up q0),[A.d (D.lit (Zco x6)),iA (x7+1)])])/\
 (∀x6v H',R' (.pan x6v) H'-> ∃x7:List UInt8,∃x8:Int,H'=[(Ref.up (Ref.up q0),[A.d (D.lit (Zco x7)),iA x8])]/\
 R (.pan x6v) [((Ref.up q0),[A.d (D.lit (Zco x7)),iA x8])]))/\
 (tB (decide (9<x2))=false->
 tB (decide ((-9223372036854775808)<=(x5+1)))=true/\
 tB (decide ((x5+1)<=9223372036854775807))=true/\
 R (.ret (A.d (D.lit (.int .u8 9)))) [((Ref.up q0),[A.d (D.lit (Zco x4)),iA (x5+1)])]))/\
 (tB (x3==116)=false->
 (tB (x3==114)=true->
 (tB (decide (13<x2))=true->
 ∀_:Nat->Nat,∃R',HT 128 [A.ptr (.up (Ref.up q0)) 0,iA x5] [(Ref.up (Ref.up q0),[A.d (D.lit (Zco x4)),iA x5])] R'/\
 (∀v H',R' (.ret v) H'-> ∃x6:List UInt8,∃x7:Int,v=A.tup []/\H'=[(Ref.up (Ref.up q0),[A.d (D.lit (Zco x6)),iA x7])]/\
 tB (decide ((-9223372036854775808)<=(x7+1)))=true/\
 tB (decide ((x7+1)<=9223372036854775807))=true/\
 R (.ret (A.d (D.lit (.int .u8 13)))) [((Ref.up q0),[A.d (D.lit (Zco x6)),iA (x7+1)])])/\
 (∀x6v H',R' (.pan x6v) H'-> ∃x7:List UInt8,∃x8:Int,H'=[(Ref.up (Ref.up q0),[A.d (D.lit (Zco x7)),iA x8])]/\
 R (.pan x6v) [((Ref.up q0),[A.d (D.lit (Zco x7)),iA x8])]))/\
 (tB (decide (13<x2))=false->
 tB (decide ((-9223372036854775808)<=(x5+1)))=true/\
 tB (decide ((x5+1)<=9223372036854775807))=true/\
 R (.ret (A.d (D.lit (.int .u8 13)))) [((Ref.up q0),[A.d (D.lit (Zco x4)),iA (x5+1)])]))/\
 (tB (x3==114)=false->
 ∀_:Nat->Nat,∃R',HT 164 [(A.d (D.lit (Zco ([40,41,91,93,123,125,124,42,43,63,46,92,45,94]:List UInt8)))),A.d (D.lit (.int .u8 x3))] [] R'/\
 (∀v H',R' (.ret v) H'-> ∃x6:Int,v=iA x6/\H'=[]/\
 (tB (decide (x6<0))=true->
 ∀_:Nat->Nat,∃R',HT 128 [A.ptr (.up (Ref.up q0)) 0,iA x5] [(Ref.up (Ref.up q0),[A.d (D.lit (Zco x4)),iA x5])] R'/\
 (∀v H',R' (.ret v) H'-> ∃x7:List UInt8,∃x8:Int,v=A.tup []/\H'=[(Ref.up (Ref.up q0),[A.d (D.lit (Zco x7)),iA x8])]/\
 (tB (decide (x3<x2))=true->
 ∀_:Nat->Nat,∃R',HT 128 [A.ptr (.up (Ref.up q0)) 0,iA x8] [(Ref.up (Ref.up q0),[A.d (D.lit (Zco x7)),iA x8])] R'/\
 (∀v H',R' (.ret v) H'-> ∃x9:List UInt8,∃x10:Int,v=A.tup []/\H'=[(Ref.up (Ref.up q0),[A.d (D.lit (Zco x9)),iA x10])]/\
 tB (decide ((-9223372036854775808)<=(x10+1)))=true/\
 tB (decide ((x10+1)<=9223372036854775807))=true/\
 R (.ret (A.d (D.lit (.int .u8 x3)))) [((Ref.up q0),[A.d (D.lit (Zco x9)),iA (x10+1)])])/\
 (∀x9v H',R' (.pan x9v) H'-> ∃x10:List UInt8,∃x11:Int,H'=[(Ref.up (Ref.up q0),[A.d (D.lit (Zco x10)),iA x11])]/\
 R (.pan x9v) [((Ref.up q0),[A.d (D.lit (Zco x10)),iA x11])]))/\
 (tB (decide (x3<x2))=false->
 tB (decide ((-9223372036854775808)<=(x8+1)))=true/\
 tB (decide ((x8+1)<=9223372036854775807))=true/\
 R (.ret (A.d (D.lit (.int .u8 x3)))) [((Ref.up q0),[A.d (D.lit (Zco x7)),iA (x8+1)])]))/\
 (∀x7v H',R' (.pan x7v) H'-> ∃x8:List UInt8,∃x9:Int,H'=[(Ref.up (Ref.up q0),[A.d (D.lit (Zco x8)),iA x9])]/\
 R (.pan x7v) [((Ref.up q0),[A.d (D.lit (Zco x8)),iA x9])]))/\
 (tB (decide (x6<0))=false->
 (tB (decide (x3<x2))=true->
 ∀_:Nat->Nat,∃R',HT 128 [A.ptr (.up (Ref.up q0)) 0,iA x5] [(Ref.up (Ref.up q0),[A.d (D.lit (Zco x4)),iA x5])] R'/\
 (∀v H',R' (.ret v) H'-> ∃x7:List UInt8,∃x8:Int,v=A.tup []/\H'=[(Ref.up (Ref.up q0),[A.d (D.lit (Zco x7)),iA x8])]/\
 tB (decide ((-9223372036854775808)<=(x8+1)))=true/\
 tB (decide ((x8+1)<=9223372036854775807))=true/\
 R (.ret (A.d (D.lit (.int .u8 x3)))) [((Ref.up q0),[A.d (D.lit (Zco x7)),iA (x8+1)])])/\
 (∀x7v H',R' (.pan x7v) H'-> ∃x8:List UInt8,∃x9:Int,H'=[(Ref.up (Ref.up q0),[A.d (D.lit (Zco x8)),iA x9])]/\
 R (.pan x7v) [((Ref.up q0),[A.d (D.lit (Zco x8)),iA x9])]))/\
 (tB (decide (x3<x2))=false->
 tB (decide ((-9223372036854775808)<=(x5+1)))=true/\
 tB (decide ((x5+1)<=9223372036854775807))=true/\
 R (.ret (A.d (D.lit (.int .u8 x3)))) [((Ref.up q0),[A.d (D.lit (Zco x4)),iA (x5+1)])])))/\
 (∀x6v H',R' (.pan x6v) H'->H'=[]/\
 R (.pan x6v) [((Ref.up q0),[A.d (D.lit (Zco x4)),iA x5])])))))))/\
 (∀x3v H',R' (.pan x3v) H'-> ∃x4:List UInt8,∃x5:Int,H'=[(Ref.up (Ref.up q0),[A.d (D.lit (Zco x4)),iA x5])]/\
 R (.pan x3v) [((Ref.up q0),[A.d (D.lit (Zco x4)),iA x5])])):
 HT 163 [A.ptr (Ref.up q0) 0,A.d (D.lit (.int .u8 x2))] [((Ref.up q0),[A.d (D.lit (Zco x0)),iA x1])] R:=
 walk (c:=⟨Tryz.prog,75,true,[0,1,4,5,15,33,39,42,45,48,60]⟩) (op:={}) (fn:=Tryz.f163) (args:=[.ptr (.up 0) 0,.c (.o1 (.ci .u8) (.var 2))]) (K:=[(.up 0,[.c (.o1 .cs (.var 0)),.c (.o1 (.ci .i64) (.var 1))])]) (nv:=3) (depth:=7) (up:=upOf [q0]) (ρ:=Zwa [.s x0,.i x1,.i x2])
  rfl rfl rfl rfl rfl (by decide) (by decide) (by decide) (by decide) rfl (by simp[Zab,RRef.den,upOf]) (T_of (by kernel_rfl) h)
theorem w90{R:RT}(x0:List UInt8)(x1:Int)(x2:Int)(q0:Ref)(h:∀_:Nat->Nat,∃R',HT 138 [A.ptr (.up (Ref.up q0)) 0] [(Ref.up (Ref.up q0),[A.d (D.lit (Zco x0)),iA x1])] R'/\
 (∀v H',R' (.ret v) H'-> ∃x3:Int,∃x4:List UInt8,∃x5:Int,v=A.d (D.lit (.int .u8 x3))/\H'=[(Ref.up (Ref.up q0),[A.d (D.lit (Zco x4)),iA x5])]/\
 (tB (decide ((x4.length:Int)<=x5))=true->
 ∀_:Nat->Nat,∃R',HT 128 [A.ptr (.up (Ref.up q0)) 0,(iA (x4.length:Int))] [(Ref.up (Ref.up q0),[A.d (D.lit (Zco x4)),iA x5])] R'/\
 (∀v H',R' (.ret v) H'-> ∃x6:List UInt8,∃x7:Int,v=A.tup []/\H'=[(Ref.up (Ref.up q0),[A.d (D.lit (Zco x6)),iA x7])]/\
 tB (decide ((-9223372036854775808)<=(x7+1)))=true/\
 tB (decide ((x7+1)<=9223372036854775807))=true/\
 R (.ret (A.d (D.lit (.int .u8 x3)))) [((Ref.up q0),[A.d (D.lit (Zco x6)),iA (x7+1)])])/\
 (∀x6v H',R' (.pan x6v) H'-> ∃x7:List UInt8,∃x8:Int,H'=[(Ref.up (Ref.up q0),[A.d (D.lit (Zco x7)),iA x8])]/\
 R (.pan x6v) [((Ref.up q0),[A.d (D.lit (Zco x7)),iA x8])]))/\
 (tB (decide ((x4.length:Int)<=x5))=false->
 (tB (x3==92)=true->
 ∀_:Nat->Nat,∃R',HT 163 [A.ptr (.up (Ref.up q0)) 0,A.d (D.lit (.int .u8 x2))] [(Ref.up (Ref.up q0),[A.d (D.lit (Zco x4)),iA x5])] R'/\
 (∀v H',R' (.ret v) H'-> ∃x6:Int,∃x7:List UInt8,∃x8:Int,v=A.d (D.lit (.int .u8 x6))/\H'=[(Ref.up (Ref.up q0),[A.d (D.lit (Zco x7)),iA x8])]/\
 R (.ret (A.d (D.lit (.int .u8 x6)))) [((Ref.up q0),[A.d (D.lit (Zco x7)),iA x8])])/\
 (∀x6v H',R' (.pan x6v) H'-> ∃x7:List UInt8,∃x8:Int,H'=[(Ref.up (Ref.up q0),[A.d (D.lit (Zco x7)),iA x8])]/\
 R (.pan x6v) [((Ref.up q0),[A.d (D.lit (Zco x7)),iA x8])]))/\
 (tB (x3==92)=false->
 ((!(((tB (decide (x3<32)))||(tB (decide (126<x3))))||(tB (decide (x3<x2)))))=true->
 ∀_:Nat->Nat,∃R',HT 164 [(A.d (D.lit (Zco ([40,41,91,93,123,125,124,42,43,63,46,94,45]:List UInt8)))),A.d (D.lit (.int .u8 x3))] [] R'/\
 (∀v H',R' (.ret v) H'-> ∃x6:Int,v=iA x6/\H'=[]/\
 (tB (decide (0<=x6))=true->
 ∀_:Nat->Nat,∃R',HT 128 [A.ptr (.up (Ref.up q0)) 0,iA x5] [(Ref.up (Ref.up q0),[A.d (D.lit (Zco x4)),iA x5])] R'/\
 (∀v H',R' (.ret v) H'-> ∃x7:List UInt8,∃x8:Int,v=A.tup []/\H'=[(Ref.up (Ref.up q0),[A.d (D.lit (Zco x7)),iA x8])]/\
 tB (decide ((-9223372036854775808)<=(x8+1)))=true/\
 tB (decide ((x8+1)<=9223372036854775807))=true/\
 R (.ret (A.d (D.lit (.int .u8 x3)))) [((Ref.up q0),[A.d (D.lit (Zco x7)),iA (x8+1)])])/\
 (∀x7v H',R' (.pan x7v) H'-> ∃x8:List UInt8,∃x9:Int,H'=[(Ref.up (Ref.up q0),[A.d (D.lit (Zco x8)),iA x9])]/\
 R (.pan x7v) [((Ref.up q0),[A.d (D.lit (Zco x8)),iA x9])]))/\
 (tB (decide (0<=x6))=false->
 tB (decide ((-9223372036854775808)<=(x5+1)))=true/\
 tB (decide ((x5+1)<=9223372036854775807))=true/\
 R (.ret (A.d (D.lit (.int .u8 x3)))) [((Ref.up q0),[A.d (D.lit (Zco x4)),iA (x5+1)])]))/\
 (∀x6v H',R' (.pan x6v) H'->H'=[]/\
 R (.pan x6v) [((Ref.up q0),[A.d (D.lit (Zco x4)),iA x5])]))/\
 ((!(((tB (decide (x3<32)))||(tB (decide (126<x3))))||(tB (decide (x3<x2)))))=false->
 ∀_:Nat->Nat,∃R',HT 128 [A.ptr (.up (Ref.up q0)) 0,iA x5] [(Ref.up (Ref.up q0),[A.d (D.lit (Zco x4)),iA x5])] R'/\
 (∀v H',R' (.ret v) H'-> ∃x6:List UInt8,∃x7:Int,v=A.tup []/\H'=[(Ref.up (Ref.up q0),[A.d (D.lit (Zco x6)),iA x7])]/\
 tB (decide ((-9223372036854775808)<=(x7+1)))=true/\
 tB (decide ((x7+1)<=9223372036854775807))=true/\
 R (.ret (A.d (D.lit (.int .u8 x3)))) [((Ref.up q0),[A.d (D.lit (Zco x6)),iA (x7+1)])])/\
 (∀x6v H',R' (.pan x6v) H'-> ∃x7:List UInt8,∃x8:Int,H'=[(Ref.up (Ref.up q0),[A.d (D.lit (Zco x7)),iA x8])]/\
 R (.pan x6v) [((Ref.up q0),[A.d (D.lit (Zco x7)),iA x8])])))))/\
 (∀x3v H',R' (.pan x3v) H'-> ∃x4:List UInt8,∃x5:Int,H'=[(Ref.up (Ref.up q0),[A.d (D.lit (Zco x4)),iA x5])]/\
 R (.pan x3v) [((Ref.up q0),[A.d (D.lit (Zco x4)),iA x5])])):
 HT 172 [A.ptr (Ref.up q0) 0,A.d (D.lit (.int .u8 x2))] [((Ref.up q0),[A.d (D.lit (Zco x0)),iA x1])] R:=
 walk (c:=⟨Tryz.prog,63,true,[0,1,4,5,8,26,32]⟩) (op:={}) (fn:=Tryz.f172) (args:=[.ptr (.up 0) 0,.c (.o1 (.ci .u8) (.var 2))]) (K:=[(.up 0,[.c (.o1 .cs (.var 0)),.c (.o1 (.ci .i64) (.var 1))])]) (nv:=3) (depth:=6) (up:=upOf [q0]) (ρ:=Zwa [.s x0,.i x1,.i x2])
  rfl rfl rfl rfl rfl (by decide) (by decide) (by decide) (by decide) rfl (by simp[Zab,RRef.den,upOf]) (T_of (by kernel_rfl) h)
theorem w93{R:RT}(x0:List UInt8)(x1:Int)(x2:Int)(q0:Ref)(h:∃(I0_0:Int->Int->List UInt8->Int->Prop)(M0_0:Int->Int->List UInt8->Int->Nat),I0_0 0 0 x0 x1/\
 (∀(x3:Int)(x4:Int)(x5:List UInt8)(x6:Int),I0_0 x3 x4 x5 x6->
 (tB (decide (x4<2))=true->
 tB (decide (0<=x4))=true/\
 (tB (x4==0)=true->
 tB (decide ((-9223372036854775808)<=(x6+1)))=true/\
 tB (decide ((x6+1)<=9223372036854775807))=true/\
 ∀_:Nat->Nat,∃R',HT 138 [A.ptr (.up (Ref.up q0)) 0] [(Ref.up (Ref.up q0),[A.d (D.lit (Zco x5)),iA (x6+1)])] R'/\
 (∀v H',R' (.ret v) H'-> ∃x7:Int,∃x8:List UInt8,∃x9:Int,v=A.d (D.lit (.int .u8 x7))/\H'=[(Ref.up (Ref.up q0),[A.d (D.lit (Zco x8)),iA x9])]/\
 ∀_:Nat->Nat,∃R',HT 183 [A.d (D.lit (.int .u8 x7))] [] R'/\
 (∀v H',R' (.ret v) H'-> ∃x10:Int,∃x11:Bool,v=A.tup [(false,[D.lit (.int .u8 x10)]),(false,[D.lit (.bool x11)])]/\H'=[]/\
 (((!x11)||(tB (decide ((gOr .u8 (gShl .u8 (gOr .u8 (gShl .u8 x3 4) x10) 4) 15)<x2))))=true->
 ∀_:Nat->Nat,∃R',HT 128 [A.ptr (.up (Ref.up q0)) 0,iA x9] [(Ref.up (Ref.up q0),[A.d (D.lit (Zco x8)),iA x9])] R'/\
 (∀v H',R' (.ret v) H'-> ∃x12:List UInt8,∃x13:Int,v=A.tup []/\H'=[(Ref.up (Ref.up q0),[A.d (D.lit (Zco x12)),iA x13])]/\
 tB (decide ((-9223372036854775808)<=(x4+1)))=true/\
 tB (decide ((x4+1)<=9223372036854775807))=true/\
 I0_0 (gOr .u8 (gShl .u8 x3 4) x10) (x4+1) x12 x13/\M0_0 (gOr .u8 (gShl .u8 x3 4) x10) (x4+1) x12 x13<M0_0 x3 x4 x5 x6)/\
 (∀x12v H',R' (.pan x12v) H'-> ∃x13:List UInt8,∃x14:Int,H'=[(Ref.up (Ref.up q0),[A.d (D.lit (Zco x13)),iA x14])]/\
 R (.pan x12v) [((Ref.up q0),[A.d (D.lit (Zco x13)),iA x14])]))/\
 (((!x11)||(tB (decide ((gOr .u8 (gShl .u8 (gOr .u8 (gShl .u8 x3 4) x10) 4) 15)<x2))))=false->
 tB (decide ((-9223372036854775808)<=(x4+1)))=true/\
 tB (decide ((x4+1)<=9223372036854775807))=true/\
 I0_0 (gOr .u8 (gShl .u8 x3 4) x10) (x4+1) x8 x9/\M0_0 (gOr .u8 (gShl .u8 x3 4) x10) (x4+1) x8 x9<M0_0 x3 x4 x5 x6))/\
 (∀x10v H',R' (.pan x10v) H'->H'=[]/\
 R (.pan x10v) [((Ref.up q0),[A.d (D.lit (Zco x8)),iA x9])]))/\
 (∀x7v H',R' (.pan x7v) H'-> ∃x8:List UInt8,∃x9:Int,H'=[(Ref.up (Ref.up q0),[A.d (D.lit (Zco x8)),iA x9])]/\
 R (.pan x7v) [((Ref.up q0),[A.d (D.lit (Zco x8)),iA x9])]))/\
 (tB (x4==0)=false->
 tB (x4==1)=true/\
 tB (decide ((-9223372036854775808)<=(x6+1)))=true/\
 tB (decide ((x6+1)<=9223372036854775807))=true/\
 ∀_:Nat->Nat,∃R',HT 138 [A.ptr (.up (Ref.up q0)) 0] [(Ref.up (Ref.up q0),[A.d (D.lit (Zco x5)),iA (x6+1)])] R'/\
 (∀v H',R' (.ret v) H'-> ∃x7:Int,∃x8:List UInt8,∃x9:Int,v=A.d (D.lit (.int .u8 x7))/\H'=[(Ref.up (Ref.up q0),[A.d (D.lit (Zco x8)),iA x9])]/\
 ∀_:Nat->Nat,∃R',HT 183 [A.d (D.lit (.int .u8 x7))] [] R'/\
 (∀v H',R' (.ret v) H'-> ∃x10:Int,∃x11:Bool,v=A.tup [(false,[D.lit (.int .u8 x10)]),(false,[D.lit (.bool x11)])]/\H'=[]/\
 (((!x11)||(tB (decide ((gOr .u8 (gShl .u8 x3 4) x10)<x2))))=true->
 ∀_:Nat->Nat,∃R',HT 128 [A.ptr (.up (Ref.up q0)) 0,iA x9] [(Ref.up (Ref.up q0),[A.d (D.lit (Zco x8)),iA x9])] R'/\
 (∀v H',R' (.ret v) H'-> ∃x12:List UInt8,∃x13:Int,v=A.tup []/\H'=[(Ref.up (Ref.up q0),[A.d (D.lit (Zco x12)),iA x13])]/\
 tB (decide ((-9223372036854775808)<=(x4+1)))=true/\
 tB (decide ((x4+1)<=9223372036854775807))=true/\
 I0_0 (gOr .u8 (gShl .u8 x3 4) x10) (x4+1) x12 x13/\M0_0 (gOr .u8 (gShl .u8 x3 4) x10) (x4+1) x12 x13<M0_0 x3 x4 x5 x6)/\
 (∀x12v H',R' (.pan x12v) H'-> ∃x13:List UInt8,∃x14:Int,H'=[(Ref.up (Ref.up q0),[A.d (D.lit (Zco x13)),iA x14])]/\
 R (.pan x12v) [((Ref.up q0),[A.d (D.lit (Zco x13)),iA x14])]))/\
 (((!x11)||(tB (decide ((gOr .u8 (gShl .u8 x3 4) x10)<x2))))=false->
 tB (decide ((-9223372036854775808)<=(x4+1)))=true/\
 tB (decide ((x4+1)<=9223372036854775807))=true/\
 I0_0 (gOr .u8 (gShl .u8 x3 4) x10) (x4+1) x8 x9/\M0_0 (gOr .u8 (gShl .u8 x3 4) x10) (x4+1) x8 x9<M0_0 x3 x4 x5 x6))/\
 (∀x10v H',R' (.pan x10v) H'->H'=[]/\
 R (.pan x10v) [((Ref.up q0),[A.d (D.lit (Zco x8)),iA x9])]))/\
 (∀x7v H',R' (.pan x7v) H'-> ∃x8:List UInt8,∃x9:Int,H'=[(Ref.up (Ref.up q0),[A.d (D.lit (Zco x8)),iA x9])]/\
 R (.pan x7v) [((Ref.up q0),[A.d (D.lit (Zco x8)),iA x9])])))/\
 (tB (decide (x4<2))=false->
 tB (decide ((-9223372036854775808)<=(x6+1)))=true/\
 tB (decide ((x6+1)<=9223372036854775807))=true/\
 R (.ret (A.d (D.lit (.int .u8 x3)))) [((Ref.up q0),[A.d (D.lit (Zco x5)),iA (x6+1)])]))/\
 True):
 HT 175 [A.ptr (Ref.up q0) 0,A.d (D.lit (.int .u8 x2))] [((Ref.up q0),[A.d (D.lit (Zco x0)),iA x1])] R:=
 walk (c:=⟨Tryz.prog,69,true,[0,1,4,5,7,8,9,10,11,12,53]⟩) (op:={com:=[(10,(12,5000)),(10,(7,5000)),(10,(8,5000)),(10,(9,5000)),(10,(53,5000))]}) (fn:=Tryz.f175) (args:=[.ptr (.up 0) 0,.c (.o1 (.ci .u8) (.var 2))]) (K:=[(.up 0,[.c (.o1 .cs (.var 0)),.c (.o1 (.ci .i64) (.var 1))])]) (nv:=3) (depth:=7) (up:=upOf [q0]) (ρ:=Zwa [.s x0,.i x1,.i x2])
  rfl rfl rfl rfl rfl (by decide) (by decide) (by decide) (by decide) rfl (by simp[Zab,RRef.den,upOf]) (T_of (by kernel_rfl) h)
end Go.Rx
end
section
open Go Go.Proofs Go.Ab Go.Rf
set_option maxRecDepth 1000000
set_option maxHeartbeats 2000000
set_option linter.unusedVariables false
namespace Go.Rx
theorem w50{R:RT}(x0:Int)(x1:List (List D))(h:(tB ((x1.length:Int)==1)=true->
 tB (decide (0<(x1.length:Int)))=true/\
 tB (((gAt x1 0).length:Int)==6)=true/\
 R (.ret (A.agg (gAt x1 0))) [])/\
 (tB ((x1.length:Int)==1)=false->
 R (.ret (A.agg [D.lit (.int .i64 x0),D.lit (.int .u64 0),D.lit (.int .u64 0),D.lit (.int .u64 0),D.lit (.int .u64 0),D.slc x1])) [])):
 HT 139 [iA x0,A.d (D.slc x1)] [] R:=
 walk (c:=⟨Tryz.prog,14,true,[0,1,4,7]⟩) (op:={}) (fn:=Tryz.f139) (args:=[.c (.o1 (.ci .i64) (.var 0)),.c (.o1 .cl (.var 1))]) (K:=[]) (nv:=2) (depth:=4) (up:=upOf []) (ρ:=Zwa [.i x0,.l x1])
  rfl rfl rfl rfl rfl (by decide) (by decide) (by decide) (by decide) rfl (by simp[Zab,RRef.den,upOf]) (T_of (by kernel_rfl) h)
end Go.Rx
end
section
open Go Go.Proofs Go.Ab Go.Rf
set_option maxRecDepth 1000000
set_option maxHeartbeats 2000000
set_option linter.unusedVariables false
namespace Go.Rx
theorem w19p{Rfin:Out->Prop}(R:Out->List (Ref×List A)->Prop)(hR:R=preR Tryz.prog (Zod 4 (Zv9 Tryz.f112)) 36 126 [4,2,3] [0] [(2,1),(3,2)] [(1,6),(2,2)] Rfin)(x0:List UInt8)(h:(tB (decide (1000<(x0.length:Int)))=true->
 R (.ret (A.tup [(true,[D.lit (.int .i64 0),D.lit (.int .u64 0),D.lit (.int .u64 0),D.lit (.int .u64 0),D.lit (.int .u64 0),(D.slc ([]:List (List D)))]),(true,[D.lit (.int .i64 2),D.lit (.int .i64 0)])])) [])/\
 (tB (decide (1000<(x0.length:Int)))=false->
 R (.ret (A.tup [(false,[D.lit (Zco x0)])])) [((Ref.own 4 0),[A.ptr (Ref.up (Ref.own 3 3)) 0]),((Ref.own 2 0),[iA 0,A.d (D.lit (.int .u64 0)),A.d (D.lit (.int .u64 0)),A.d (D.lit (.int .u64 0)),A.d (D.lit (.int .u64 0)),(A.zs ([]:List (List D)))]),((Ref.own 3 0),[iA 0,iA 0]),((Ref.own 12 0),[A.d (D.lit (Zco x0)),iA 0])])):
 HT 112 [A.d (D.lit (Zco x0))] [] (fun o H=>H=[]/\Rfin o):=by
 subst hR
 exact Zuw (c:=⟨Tryz.prog,36,true,[0,2,3,4,7,22,31]⟩) (op:={}) (f:=112) (F:=126) (fn:=Tryz.f112) (Fn':=Tryz.f126) (Fcode:=Zv9 Tryz.f126) (l:=Zoc 4 (Zv9 Tryz.f112)) (id:=4) (o1:=opAt (Ztb 4 (Zv9 Tryz.f112)) 0) (o2:=opAt (Ztb 4 (Zv9 Tryz.f112)) 1) (post:=Zod 4 (Zv9 Tryz.f112)) (tys:= #[]) (dt:=13) (caps:=[4,2,3]) (data:=[0]) (extra:=[.own 12]) (rl:=[.cell 2 121,.cell 3 123]) (keep:=[(2,1),(3,2)]) (kn:=[(1,6),(2,2)]) (args:=[.c (.o1 .cs (.var 0))]) (nv:=1) (depth:=6) (ρ:=Zwa [.s x0])
  rfl rfl (by kernel_rfl) rfl rfl (by decide) rfl rfl (by decide) (by kernel_rfl) (by kernel_rfl) (by kernel_rfl) (by kernel_rfl) (by kernel_rfl) (by kernel_rfl) (by decide) (by decide) (by decide) (by decide) (by decide) (by kernel_rfl) (by decide) (by decide) rfl (T_of (by kernel_rfl) h)
theorem w19q{R:RT}(x0:List UInt8)(x1:Int)(x2:Int)(x3:Int)(x4:Int)(x5:Int)(x6:Int)(x7:Int)(x8:List UInt8)(x9:Int)(q0 q1 q2 q3:Ref)(hq01:q0≠q1)(hq02:q0≠q2)(hq12:q1≠q2)(hq03:q0≠q3)(hq13:q1≠q3)(hq23:q2≠q3)(h:∀_:Nat->Nat,∃R',HT 127 [A.ptr (.up (Ref.up q3)) 0] [(Ref.up (Ref.up q3),[A.d (D.lit (Zco x8)),iA x9])] R'/\
 (∀v H',R' (.ret v) H'-> ∃x10:List D,∃x11:List UInt8,∃x12:Int,v=A.agg x10/\H'=[(Ref.up (Ref.up q3),[A.d (D.lit (Zco x11)),iA x12])]/\
 tB ((x10.length:Int)==6)=true/\
 (tB (decide (x12<(x0.length:Int)))=true->
 ∀_:Nat->Nat,∃R',HT 128 [A.ptr (.up (Ref.up q3)) 0,iA x12] [(Ref.up (Ref.up q3),[A.d (D.lit (Zco x11)),iA x12])] R'/\
 (∀v H',R' (.ret v) H'-> ∃x13:List UInt8,∃x14:Int,v=A.tup []/\H'=[(Ref.up (Ref.up q3),[A.d (D.lit (Zco x13)),iA x14])]/\
 ∀_:Nat->Nat,∃R',HT 129 [A.agg x10] [] R'/\
 (∀v H',R' (.ret v) H'-> ∃x15:Int,v=iA x15/\H'=[]/\
 (tB (x15==9)=true->
 R (.ret (A.tup [])) [((Ref.up q0),[A.ptr (Ref.up q3) 0]),((Ref.up q1),[iA 0,A.d (D.lit (.int .u64 0)),A.d (D.lit (.int .u64 0)),A.d (D.lit (.int .u64 0)),A.d (D.lit (.int .u64 0)),(A.d (D.slc ([]:List (List D))))]),((Ref.up q2),[iA 9,iA 0]),((Ref.up q3),[A.d (D.lit (Zco x13)),iA x14])])/\
 (tB (x15==9)=false->
 R (.ret (A.tup [])) [((Ref.up q0),[A.ptr (Ref.up q3) 0]),((Ref.up q1),[A.d (x10.getD 0 D0),A.d (x10.getD 1 D0),A.d (x10.getD 2 D0),A.d (x10.getD 3 D0),A.d (x10.getD 4 D0),A.d (x10.getD 5 D0)]),((Ref.up q2),[iA 0,iA 0]),((Ref.up q3),[A.d (D.lit (Zco x13)),iA x14])]))/\
 (∀x15v H',R' (.pan x15v) H'->H'=[]/\
 R (.pan x15v) [((Ref.up q0),[A.ptr (Ref.up q3) 0]),((Ref.up q1),[A.d (x10.getD 0 D0),A.d (x10.getD 1 D0),A.d (x10.getD 2 D0),A.d (x10.getD 3 D0),A.d (x10.getD 4 D0),A.d (x10.getD 5 D0)]),((Ref.up q2),[iA x6,iA x7]),((Ref.up q3),[A.d (D.lit (Zco x13)),iA x14])]))/\
 (∀x13v H',R' (.pan x13v) H'-> ∃x14:List UInt8,∃x15:Int,H'=[(Ref.up (Ref.up q3),[A.d (D.lit (Zco x14)),iA x15])]/\
 R (.pan x13v) [((Ref.up q0),[A.ptr (Ref.up q3) 0]),((Ref.up q1),[A.d (x10.getD 0 D0),A.d (x10.getD 1 D0),A.d (x10.getD 2 D0),A.d (x10.getD 3 D0),A.d (x10.getD 4 D0),A.d (x10.getD 5 D0)]),((Ref.up q2),[iA x6,iA x7]),((Ref.up q3),[A.d (D.lit (Zco x14)),iA x15])]))/\
 (tB (decide (x12<(x0.length:Int)))=false->
 ∀_:Nat->Nat,∃R',HT 129 [A.agg x10] [] R'/\
 (∀v H',R' (.ret v) H'-> ∃x13:Int,v=iA x13/\H'=[]/\
 (tB (x13==9)=true->
 R (.ret (A.tup [])) [((Ref.up q0),[A.ptr (Ref.up q3) 0]),((Ref.up q1),[iA 0,A.d (D.lit (.int .u64 0)),A.d (D.lit (.int .u64 0)),A.d (D.lit (.int .u64 0)),A.d (D.lit (.int .u64 0)),(A.d (D.slc ([]:List (List D))))]),((Ref.up q2),[iA 9,iA 0]),((Ref.up q3),[A.d (D.lit (Zco x11)),iA x12])])/\
 (tB (x13==9)=false->
 R (.ret (A.tup [])) [((Ref.up q0),[A.ptr (Ref.up q3) 0]),((Ref.up q1),[A.d (x10.getD 0 D0),A.d (x10.getD 1 D0),A.d (x10.getD 2 D0),A.d (x10.getD 3 D0),A.d (x10.getD 4 D0),A.d (x10.getD 5 D0)]),((Ref.up q2),[iA 0,iA 0]),((Ref.up q3),[A.d (D.lit (Zco x11)),iA x12])]))/\
 (∀x13v H',R' (.pan x13v) H'->H'=[]/\
 R (.pan x13v) [((Ref.up q0),[A.ptr (Ref.up q3) 0]),((Ref.up q1),[A.d (x10.getD 0 D0),A.d (x10.getD 1 D0),A.d (x10.getD 2 D0),A.d (x10.getD 3 D0),A.d (x10.getD 4 D0),A.d (x10.getD 5 D0)]),((Ref.up q2),[iA x6,iA x7]),((Ref.up q3),[A.d (D.lit (Zco x11)),iA x12])])))/\
 (∀x10v H',R' (.pan x10v) H'-> ∃x11:List UInt8,∃x12:Int,H'=[(Ref.up (Ref.up q3),[A.d (D.lit (Zco x11)),iA x12])]/\
 R (.pan x10v) [((Ref.up q0),[A.ptr (Ref.up q3) 0]),((Ref.up q1),[iA x1,A.d (D.lit (.int .u64 x2)),A.d (D.lit (.int .u64 x3)),A.d (D.lit (.int .u64 x4)),A.d (D.lit (.int .u64 x5)),(A.zs ([]:List (List D)))]),((Ref.up q2),[iA x6,iA x7]),((Ref.up q3),[A.d (D.lit (Zco x11)),iA x12])])):
 Zlj Tryz.prog (Zod 4 (Zv9 Tryz.f112)) 36 [(0,(A.d (D.lit (Zco x0)))),(4,(A.ptr (Ref.up q0) 0)),(2,(A.ptr (Ref.up q1) 0)),(3,(A.ptr (Ref.up q2) 0))] [((Ref.up q0),[A.ptr (Ref.up q3) 0]),((Ref.up q1),[iA x1,A.d (D.lit (.int .u64 x2)),A.d (D.lit (.int .u64 x3)),A.d (D.lit (.int .u64 x4)),A.d (D.lit (.int .u64 x5)),(A.zs ([]:List (List D)))]),((Ref.up q2),[iA x6,iA x7]),((Ref.up q3),[A.d (D.lit (Zco x8)),iA x9])] [(2,Ref.up q1),(3,Ref.up q2)] R:=
 Zvw (c:=⟨Tryz.prog,36,true,[0,2,3,4,7,22,31]⟩) (op:={}) (post:=Zod 4 (Zv9 Tryz.f112)) (slots:=[(0,.c (.o1 .cs (.var 0))),(4,.ptr (.up 0) 0),(2,.ptr (.up 1) 0),(3,.ptr (.up 2) 0)]) (K:=[(.up 0,[.ptr (.up 3) 0]),(.up 1,[.c (.o1 (.ci .i64) (.var 1)),.c (.o1 (.ci .u64) (.var 2)),.c (.o1 (.ci .u64) (.var 3)),.c (.o1 (.ci .u64) (.var 4)),.c (.o1 (.ci .u64) (.var 5)),.zs .lnil]),(.up 2,[.c (.o1 (.ci .i64) (.var 6)),.c (.o1 (.ci .i64) (.var 7))]),(.up 3,[.c (.o1 .cs (.var 8)),.c (.o1 (.ci .i64) (.var 9))])]) (keep:=[(2,1),(3,2)]) (nv:=10) (depth:=6) (up:=upOf [q0,q1,q2,q3]) (ρ:=Zwa [.s x0,.i x1,.i x2,.i x3,.i x4,.i x5,.i x6,.i x7,.s x8,.i x9])
  rfl (by decide) (by decide) rfl (by simp[Zab,RRef.den,upOf,hq01,hq02,hq12,hq03,hq13,hq23]) (T_of (by kernel_rfl) h)
theorem w36n{R0:List (Ref×List A)->Prop}(R:Out->List (Ref×List A)->Prop)(hR:R=fun o H=>match o with|.ret _=>R0 H|.pan _=>False)(x0:D)(x1:D)(x2:D)(x3:D)(x4:D)(x5:D)(x6:D)(x7:D)(x8:List UInt8)(x9:Int)(x10:Int)(q0 q1 q2 q3:Ref)(hq01:q0≠q1)(hq02:q0≠q2)(hq12:q1≠q2)(hq03:q0≠q3)(hq13:q1≠q3)(hq23:q2≠q3)(h:R (.ret (A.tup [])) [((Ref.up q0),[A.ptr (Ref.up q3) 0]),((Ref.up q1),[A.d x0,A.d x1,A.d x2,A.d x3,A.d x4,A.d x5]),((Ref.up q2),[A.d x6,A.d x7]),((Ref.up q3),[A.d (D.lit (Zco x8)),iA x9])]):
 Zs9 Tryz.prog 126 [A.ptr (Ref.up q0) 0,A.ptr (Ref.up q1) 0,A.ptr (Ref.up q2) 0] [((Ref.up q0),[A.ptr (Ref.up q3) 0]),((Ref.up q1),[A.d x0,A.d x1,A.d x2,A.d x3,A.d x4,A.d x5]),((Ref.up q2),[A.d x6,A.d x7]),((Ref.up q3),[A.d (D.lit (Zco x8)),iA x9])] (FrameMode.returning) (Zds (FrameMode.returning)).2 R0:=by
 subst hR
 exact Zwe (c:=⟨Tryz.prog,24,true,[0,1,2,3,4,5,8,20]⟩) (op:={}) (f:=126) (fn:=Tryz.f126) (id:=0) (o1:=opAt (Ztb 0 (Zv9 Tryz.f126)) 0) (o2:=opAt (Ztb 0 (Zv9 Tryz.f126)) 1) (rest:=Zod 0 (Zv9 Tryz.f126)) (tys:= #[]) (d6:=6) (d3:=3) (args:=[.ptr (.up 0) 0,.ptr (.up 1) 0,.ptr (.up 2) 0]) (K:=[(.up 0,[.ptr (.up 3) 0]),(.up 1,[.c (.var 0),.c (.var 1),.c (.var 2),.c (.var 3),.c (.var 4),.c (.var 5)]),(.up 2,[.c (.var 6),.c (.var 7)]),(.up 3,[.c (.o1 .cs (.var 8)),.c (.o1 (.ci .i64) (.var 9))])]) (nv:=11) (depth:=5) (up:=upOf [q0,q1,q2,q3]) (ρ:=Zwa [.d x0,.d x1,.d x2,.d x3,.d x4,.d x5,.d x6,.d x7,.s x8,.i x9,.i x10]) (e:=.val .nilIface)
  rfl rfl (by kernel_rfl) rfl rfl (by kernel_rfl) (by kernel_rfl) (by kernel_rfl) (by kernel_rfl) (by kernel_rfl) (by kernel_rfl) (by decide) (by decide) (by decide) (by decide) (by decide) rfl rfl rfl (by simp[Zab,RRef.den,upOf,hq01,hq02,hq12,hq03,hq13,hq23]) (T_of (by kernel_rfl) h)
theorem w36f{R0:List (Ref×List A)->Prop}(R:Out->List (Ref×List A)->Prop)(hR:R=fun o H=>match o with|.ret _=>R0 H|.pan _=>False)(x0:D)(x1:D)(x2:D)(x3:D)(x4:D)(x5:D)(x6:D)(x7:D)(x8:List UInt8)(x9:Int)(x10:Int)(q0 q1 q2 q3:Ref)(hq01:q0≠q1)(hq02:q0≠q2)(hq12:q1≠q2)(hq03:q0≠q3)(hq13:q1≠q3)(hq23:q2≠q3)(h:R (.ret (A.tup [])) [((Ref.up q0),[A.ptr (Ref.up q3) 0]),((Ref.up q1),[iA 0,A.d (D.lit (.int .u64 0)),A.d (D.lit (.int .u64 0)),A.d (D.lit (.int .u64 0)),A.d (D.lit (.int .u64 0)),(A.d (D.slc ([]:List (List D))))]),((Ref.up q2),[iA 8,iA x10]),((Ref.up q3),[A.d (D.lit (Zco x8)),iA x9])]):
 Zs9 Tryz.prog 126 [A.ptr (Ref.up q0) 0,A.ptr (Ref.up q1) 0,A.ptr (Ref.up q2) 0] [((Ref.up q0),[A.ptr (Ref.up q3) 0]),((Ref.up q1),[A.d x0,A.d x1,A.d x2,A.d x3,A.d x4,A.d x5]),((Ref.up q2),[A.d x6,A.d x7]),((Ref.up q3),[A.d (D.lit (Zco x8)),iA x9])] (FrameMode.panicking [{v:=dval (D.lit (.iface 135 (.agg (([D.lit (.int .i64 x10)]:List D).map dval).toArray))),recovered:=false}]) (Zds (FrameMode.panicking [{v:=dval (D.lit (.iface 135 (.agg (([D.lit (.int .i64 x10)]:List D).map dval).toArray))),recovered:=false}])).2 R0:=by
 subst hR
 exact Zwe (c:=⟨Tryz.prog,24,true,[0,1,2,3,4,5,8,20]⟩) (op:={}) (f:=126) (fn:=Tryz.f126) (id:=0) (o1:=opAt (Ztb 0 (Zv9 Tryz.f126)) 0) (o2:=opAt (Ztb 0 (Zv9 Tryz.f126)) 1) (rest:=Zod 0 (Zv9 Tryz.f126)) (tys:= #[]) (d6:=6) (d3:=3) (args:=[.ptr (.up 0) 0,.ptr (.up 1) 0,.ptr (.up 2) 0]) (K:=[(.up 0,[.ptr (.up 3) 0]),(.up 1,[.c (.var 0),.c (.var 1),.c (.var 2),.c (.var 3),.c (.var 4),.c (.var 5)]),(.up 2,[.c (.var 6),.c (.var 7)]),(.up 3,[.c (.o1 .cs (.var 8)),.c (.o1 (.ci .i64) (.var 9))])]) (nv:=11) (depth:=5) (up:=upOf [q0,q1,q2,q3]) (ρ:=Zwa [.d x0,.d x1,.d x2,.d x3,.d x4,.d x5,.d x6,.d x7,.s x8,.i x9,.i x10]) (e:=E.o1 (.mkA 135) (.o2 .rcons (.o1 (.ci .i64) (.var 10)) .rnil))
  rfl rfl (by kernel_rfl) rfl rfl (by kernel_rfl) (by kernel_rfl) (by kernel_rfl) (by kernel_rfl) (by kernel_rfl) (by kernel_rfl) (by decide) (by decide) (by decide) (by decide) (by decide) rfl rfl rfl (by simp[Zab,RRef.den,upOf,hq01,hq02,hq12,hq03,hq13,hq23]) (T_of (by kernel_rfl) h)
theorem w36z{R0:List (Ref×List A)->Prop}(R:Out->List (Ref×List A)->Prop)(hR:R=fun o H=>match o with|.ret _=>R0 H|.pan _=>False)(x0:D)(x1:D)(x2:D)(x3:D)(x4:D)(x5:D)(x6:D)(x7:D)(x8:List UInt8)(x9:Int)(x10:Int)(q0 q1 q2 q3:Ref)(hq01:q0≠q1)(hq02:q0≠q2)(hq12:q1≠q2)(hq03:q0≠q3)(hq13:q1≠q3)(hq23:q2≠q3)(h:R (.ret (A.tup [])) [((Ref.up q0),[A.ptr (Ref.up q3) 0]),((Ref.up q1),[iA 0,A.d (D.lit (.int .u64 0)),A.d (D.lit (.int .u64 0)),A.d (D.lit (.int .u64 0)),A.d (D.lit (.int .u64 0)),(A.d (D.slc ([]:List (List D))))]),((Ref.up q2),[iA 8,iA x10]),((Ref.up q3),[A.d (D.lit (Zco x8)),iA x9])]):
 Zs9 Tryz.prog 126 [A.ptr (Ref.up q0) 0,A.ptr (Ref.up q1) 0,A.ptr (Ref.up q2) 0] [((Ref.up q0),[A.ptr (Ref.up q3) 0]),((Ref.up q1),[A.d x0,A.d x1,A.d x2,A.d x3,A.d x4,(A.zs ([]:List (List D)))]),((Ref.up q2),[A.d x6,A.d x7]),((Ref.up q3),[A.d (D.lit (Zco x8)),iA x9])] (FrameMode.panicking [{v:=dval (D.lit (.iface 135 (.agg (([D.lit (.int .i64 x10)]:List D).map dval).toArray))),recovered:=false}]) (Zds (FrameMode.panicking [{v:=dval (D.lit (.iface 135 (.agg (([D.lit (.int .i64 x10)]:List D).map dval).toArray))),recovered:=false}])).2 R0:=by
 subst hR
 exact Zwe (c:=⟨Tryz.prog,24,true,[0,1,2,3,4,5,8,20]⟩) (op:={}) (f:=126) (fn:=Tryz.f126) (id:=0) (o1:=opAt (Ztb 0 (Zv9 Tryz.f126)) 0) (o2:=opAt (Ztb 0 (Zv9 Tryz.f126)) 1) (rest:=Zod 0 (Zv9 Tryz.f126)) (tys:= #[]) (d6:=6) (d3:=3) (args:=[.ptr (.up 0) 0,.ptr (.up 1) 0,.ptr (.up 2) 0]) (K:=[(.up 0,[.ptr (.up 3) 0]),(.up 1,[.c (.var 0),.c (.var 1),.c (.var 2),.c (.var 3),.c (.var 4),.zs .lnil]),(.up 2,[.c (.var 6),.c (.var 7)]),(.up 3,[.c (.o1 .cs (.var 8)),.c (.o1 (.ci .i64) (.var 9))])]) (nv:=11) (depth:=5) (up:=upOf [q0,q1,q2,q3]) (ρ:=Zwa [.d x0,.d x1,.d x2,.d x3,.d x4,.d x5,.d x6,.d x7,.s x8,.i x9,.i x10]) (e:=E.o1 (.mkA 135) (.o2 .rcons (.o1 (.ci .i64) (.var 10)) .rnil))
  rfl rfl (by kernel_rfl) rfl rfl (by kernel_rfl) (by kernel_rfl) (by kernel_rfl) (by kernel_rfl) (by kernel_rfl) (by kernel_rfl) (by decide) (by decide) (by decide) (by decide) (by decide) rfl rfl rfl (by simp[Zab,RRef.den,upOf,hq01,hq02,hq12,hq03,hq13,hq23]) (T_of (by kernel_rfl) h)
end Go.Rx
end
