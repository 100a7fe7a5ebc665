/- Part 7 of the proof: Vchk, Vstr, Vreq, Vpla, Vtop. -/
import Derived.Test.YtpcnadmaeebhbaaGreatDoorProg
import Derived.Test.YtpcnadmaeebhbaaGreatDoorJaf
set_option linter.unusedVariables false
set_option linter.unusedSimpArgs false
section
open Go Go.Proofs Go.Ab Go.Rf
set_option maxRecDepth 1000000
set_option maxHeartbeats 2000000
set_option linter.unusedVariables false
namespace Go.Sy
theorem w14{R:RT}(x0:List D)(h:∃J0_0:Prop,(tB ((x0.length:Int)==4)=true/\
 J0_0)/\
 (J0_0->
 isK .str (x0.getD 0 D0)=true/\
 ((!(tB ((dstr (x0.getD 0 D0))==([]:List UInt8))))=true->
 ∃x1:Bool,(∀_:Nat->Nat,HT 48 [A.d (D.lit (Zco (dstr (x0.getD 0 D0))))] [] (Zpq [] (bA x1)))/\
 isK .slc (x0.getD 3 D0)=true/\
 ∃x2:Bool,(∀_:Nat->Nat,HT 49 [A.d (D.slc (dlst (x0.getD 3 D0)))] [] (Zpq [] (bA x2)))/\
 ∀ν:Nat->Nat,∃R',HT 47 [A.ptr (.up (Ref.own 7 (ν 7))) 0,A.d (D.slc [[D.lit (.bool x1)],[D.lit (.bool x2)]])] [(Ref.up (Ref.own 7 (ν 7)),[bA false,bA false])] R'/\
 (∀v H',R' (.ret v) H'-> ∃x3:Bool,∃x4:Bool,v=A.tup []/\H'=[(Ref.up (Ref.own 7 (ν 7)),[bA x3,bA x4])]/\
 isK .slc (x0.getD 1 D0)=true/\
 ∃(I0_0:Int->Bool->Bool->Prop)(M0_0:Int->Bool->Bool->Nat),I0_0 0 x3 x4/\
 (∀(x5:Int)(x6:Bool)(x7:Bool),I0_0 x5 x6 x7->
 (tB (decide (x5<((dlst (x0.getD 1 D0)).length:Int)))=true->
 tB (decide (0<=x5))=true/\
 tB (((gAt (dlst (x0.getD 1 D0)) x5).length:Int)==3)=true/\
 isK .str ((gAt (dlst (x0.getD 1 D0)) x5).getD 0 D0)=true/\
 ∀_:Nat->Nat,∃R',HT 48 [A.d (D.lit (Zco (dstr ((gAt (dlst (x0.getD 1 D0)) x5).getD 0 D0))))] [] R'/\
 (∀v H',R' (.ret v) H'-> ∃x8:Bool,v=bA x8/\H'=[]/\
 ∀ν:Nat->Nat,∃R',HT 47 [A.ptr (.up (Ref.own 7 (ν 7))) 0,A.d (D.slc [[D.lit (.bool x8)]])] [(Ref.up (Ref.own 7 (ν 7)),[bA x6,bA x7])] R'/\
 (∀v H',R' (.ret v) H'-> ∃x9:Bool,∃x10:Bool,v=A.tup []/\H'=[(Ref.up (Ref.own 7 (ν 7)),[bA x9,bA x10])]/\
 oV (x5+1) (I0_0 (x5+1) x9 x10/\M0_0 (x5+1) x9 x10<M0_0 x5 x6 x7))/\
 (∀x9v H',R' (.pan x9v) H'-> ∃x10:Bool,∃x11:Bool,H'=[(Ref.up (Ref.own 7 (ν 7)),[bA x10,bA x11])]/\
 R (.pan x9v) []))/\
 PN R R')/\
 (tB (decide (x5<((dlst (x0.getD 1 D0)).length:Int)))=false->
 isK .slc (x0.getD 2 D0)=true/\
 ∀ν:Nat->Nat,∃R',HT 50 [A.ptr (.up (Ref.own 7 (ν 7))) 0,A.d (D.slc (dlst (x0.getD 2 D0))),bA true,iA 1] [(Ref.up (Ref.own 7 (ν 7)),[bA x6,bA x7])] R'/\
 (∀v H',R' (.ret v) H'-> ∃x8:Bool,∃x9:Bool,v=A.tup []/\H'=[(Ref.up (Ref.own 7 (ν 7)),[bA x8,bA x9])]/\
 ∀ν:Nat->Nat,∃R',HT 51 [A.ptr (.up (Ref.own 7 (ν 7))) 0] [(Ref.up (Ref.own 7 (ν 7)),[bA x8,bA x9])] R'/\
 (∀v H',R' (.ret v) H'-> ∃x10:Int,∃x11:Bool,∃x12:Bool,v=iA x10/\H'=[(Ref.up (Ref.own 7 (ν 7)),[bA x11,bA x12])]/\
 R (.ret (iA x10)) [])/\
 (∀x10v H',R' (.pan x10v) H'-> ∃x11:Bool,∃x12:Bool,H'=[(Ref.up (Ref.own 7 (ν 7)),[bA x11,bA x12])]/\
 R (.pan x10v) []))/\
 (∀x8v H',R' (.pan x8v) H'-> ∃x9:Bool,∃x10:Bool,H'=[(Ref.up (Ref.own 7 (ν 7)),[bA x9,bA x10])]/\
 R (.pan x8v) [])))/\
 True)/\
 (∀x3v H',R' (.pan x3v) H'-> ∃x4:Bool,∃x5:Bool,H'=[(Ref.up (Ref.own 7 (ν 7)),[bA x4,bA x5])]/\
 R (.pan x3v) []))/\
 ((!(tB ((dstr (x0.getD 0 D0))==([]:List UInt8))))=false->
 isK .slc (x0.getD 3 D0)=true/\
 ∃x1:Bool,(∀_:Nat->Nat,HT 49 [A.d (D.slc (dlst (x0.getD 3 D0)))] [] (Zpq [] (bA x1)))/\
 ∀ν:Nat->Nat,∃R',HT 47 [A.ptr (.up (Ref.own 7 (ν 7))) 0,A.d (D.slc [[D.lit (.bool true)],[D.lit (.bool x1)]])] [(Ref.up (Ref.own 7 (ν 7)),[bA false,bA false])] R'/\
 (∀v H',R' (.ret v) H'-> ∃x2:Bool,∃x3:Bool,v=A.tup []/\H'=[(Ref.up (Ref.own 7 (ν 7)),[bA x2,bA x3])]/\
 isK .slc (x0.getD 1 D0)=true/\
 ∃(I0_0:Int->Bool->Bool->Prop)(M0_0:Int->Bool->Bool->Nat),I0_0 0 x2 x3/\
 (∀(x4:Int)(x5:Bool)(x6:Bool),I0_0 x4 x5 x6->
 (tB (decide (x4<((dlst (x0.getD 1 D0)).length:Int)))=true->
 tB (decide (0<=x4))=true/\
 tB (((gAt (dlst (x0.getD 1 D0)) x4).length:Int)==3)=true/\
 isK .str ((gAt (dlst (x0.getD 1 D0)) x4).getD 0 D0)=true/\
 ∀_:Nat->Nat,∃R',HT 48 [A.d (D.lit (Zco (dstr ((gAt (dlst (x0.getD 1 D0)) x4).getD 0 D0))))] [] R'/\
 (∀v H',R' (.ret v) H'-> ∃x7:Bool,v=bA x7/\H'=[]/\
 ∀ν:Nat->Nat,∃R',HT 47 [A.ptr (.up (Ref.own 7 (ν 7))) 0,A.d (D.slc [[D.lit (.bool x7)]])] [(Ref.up (Ref.own 7 (ν 7)),[bA x5,bA x6])] R'/\
 (∀v H',R' (.ret v) H'-> ∃x8:Bool,∃x9:Bool,v=A.tup []/\H'=[(Ref.up (Ref.own 7 (ν 7)),[bA x8,bA x9])]/\
 oV (x4+1) (I0_0 (x4+1) x8 x9/\M0_0 (x4+1) x8 x9<M0_0 x4 x5 x6))/\
 (∀x8v H',R' (.pan x8v) H'-> ∃x9:Bool,∃x10:Bool,H'=[(Ref.up (Ref.own 7 (ν 7)),[bA x9,bA x10])]/\
 R (.pan x8v) []))/\
 PN R R')/\
 (tB (decide (x4<((dlst (x0.getD 1 D0)).length:Int)))=false->
 isK .slc (x0.getD 2 D0)=true/\
 ∀ν:Nat->Nat,∃R',HT 50 [A.ptr (.up (Ref.own 7 (ν 7))) 0,A.d (D.slc (dlst (x0.getD 2 D0))),bA true,iA 1] [(Ref.up (Ref.own 7 (ν 7)),[bA x5,bA x6])] R'/\
 (∀v H',R' (.ret v) H'-> ∃x7:Bool,∃x8:Bool,v=A.tup []/\H'=[(Ref.up (Ref.own 7 (ν 7)),[bA x7,bA x8])]/\
 ∀ν:Nat->Nat,∃R',HT 51 [A.ptr (.up (Ref.own 7 (ν 7))) 0] [(Ref.up (Ref.own 7 (ν 7)),[bA x7,bA x8])] R'/\
 (∀v H',R' (.ret v) H'-> ∃x9:Int,∃x10:Bool,∃x11:Bool,v=iA x9/\H'=[(Ref.up (Ref.own 7 (ν 7)),[bA x10,bA x11])]/\
 R (.ret (iA x9)) [])/\
 (∀x9v H',R' (.pan x9v) H'-> ∃x10:Bool,∃x11:Bool,H'=[(Ref.up (Ref.own 7 (ν 7)),[bA x10,bA x11])]/\
 R (.pan x9v) []))/\
 (∀x7v H',R' (.pan x7v) H'-> ∃x8:Bool,∃x9:Bool,H'=[(Ref.up (Ref.own 7 (ν 7)),[bA x8,bA x9])]/\
 R (.pan x7v) [])))/\
 True)/\
 (∀x2v H',R' (.pan x2v) H'-> ∃x3:Bool,∃x4:Bool,H'=[(Ref.up (Ref.own 7 (ν 7)),[bA x3,bA x4])]/\
 R (.pan x2v) [])))/\
 True):
 HT 14 [A.agg x0] [] R:=
 walk (c:=⟨Tryz.prog,42,true,[0,1,2,3,5,23,24,25,26]⟩) (op:={cuts:=[1],com:=[(7,(26,5000)),(7,(5,5000))]}) (fn:=Tryz.f14) (args:=[.agg (.var 0)]) (K:=[]) (nv:=1) (depth:=6) (up:=upOf []) (ρ:=Zwa [.r x0])
  rfl rfl rfl rfl rfl (by decide) (by decide) (by decide) (by decide) rfl (by simp[Zab,RRef.den,upOf]) (T_of (by kernel_rfl) h)
theorem w47{R:RT}(x0:Bool)(x1:Bool)(x2:List (List D))(q0:Ref)(h:((!x0)=true->
 ∀_:Nat->Nat,∃R',HT 92 [A.d (D.slc x2),bA false] [] R'/\
 (∀v H',R' (.ret v) H'-> ∃x3:Bool,v=bA x3/\H'=[]/\
 R (.ret (A.tup [])) [((Ref.up q0),[bA x3,bA x1])])/\
 (∀x3v H',R' (.pan x3v) H'->H'=[]/\
 R (.pan x3v) [((Ref.up q0),[bA x0,bA x1])]))/\
 ((!x0)=false->
 R (.ret (A.tup [])) [((Ref.up q0),[bA true,bA x1])])):
 HT 47 [A.ptr (Ref.up q0) 0,A.d (D.slc x2)] [((Ref.up q0),[bA x0,bA x1])] R:=
 walk (c:=⟨Tryz.prog,15,true,[0,1]⟩) (op:={}) (fn:=Tryz.f47) (args:=[.ptr (.up 0) 0,.c (.o1 .cl (.var 2))]) (K:=[(.up 0,[.c (.o1 .cb (.o1 .tb (.var 0))),.c (.o1 .cb (.o1 .tb (.var 1)))])]) (nv:=3) (depth:=4) (up:=upOf [q0]) (ρ:=Zwa [.b x0,.b x1,.l x2])
  rfl rfl rfl rfl rfl (by decide) (by decide) (by decide) (by decide) rfl (by simp[Zab,RRef.den,upOf]) (T_of (by kernel_rfl) h)
theorem w49{R:RT}(x0:List (List D))(h:∀_:Nat->Nat,∃R',HT 94 [A.d (D.slc x0),A.fn 95 []] [] R'/\
 (∀v H',R' (.ret v) H'-> ∃x1:Bool,v=bA x1/\H'=[]/\
 R (.ret (bA (!x1))) [])/\
 PN R R'):
 HT 49 [A.d (D.slc x0)] [] R:=
 walk (c:=⟨Tryz.prog,6,true,[0,2]⟩) (op:={}) (fn:=Tryz.f49) (args:=[.c (.o1 .cl (.var 0))]) (K:=[]) (nv:=1) (depth:=3) (up:=upOf []) (ρ:=Zwa [.l x0])
  rfl rfl rfl rfl rfl (by decide) (by decide) (by decide) (by decide) rfl (by simp[Zab,RRef.den,upOf]) (T_of (by kernel_rfl) h)
theorem w50{R:RT}(x0:Bool)(x1:Bool)(x2:List (List D))(x3:Bool)(x4:Int)(q0:Ref)(h:∃(I0_0:Int->Bool->Bool->Prop)(M0_0:Int->Bool->Bool->Nat),I0_0 0 x0 x1/\
 (∀(x5:Int)(x6:Bool)(x7:Bool),I0_0 x5 x6 x7->
 (tB (decide (x5<(x2.length:Int)))=true->
 tB (decide (0<=x5))=true/\
 tB (((gAt x2 x5).length:Int)==11)=true/\
 ∀_:Nat->Nat,∃R',HT 97 [A.ptr (.up (Ref.up q0)) 0,A.agg (gAt x2 x5),bA x3,iA x4] [(Ref.up (Ref.up q0),[bA x6,bA x7])] R'/\
 (∀v H',R' (.ret v) H'-> ∃x8:Bool,∃x9:Bool,v=A.tup []/\H'=[(Ref.up (Ref.up q0),[bA x8,bA x9])]/\
 oV (x5+1) (I0_0 (x5+1) x8 x9/\M0_0 (x5+1) x8 x9<M0_0 x5 x6 x7))/\
 (∀x8v H',R' (.pan x8v) H'-> ∃x9:Bool,∃x10:Bool,H'=[(Ref.up (Ref.up q0),[bA x9,bA x10])]/\
 R (.pan x8v) [((Ref.up q0),[bA x9,bA x10])]))/\
 (tB (decide (x5<(x2.length:Int)))=false->
 R (.ret (A.tup [])) [((Ref.up q0),[bA x6,bA x7])]))/\
 True):
 HT 50 [A.ptr (Ref.up q0) 0,A.d (D.slc x2),bA x3,iA x4] [((Ref.up q0),[bA x0,bA x1])] R:=
 walk (c:=⟨Tryz.prog,22,true,[0,1,2,3,9,10,11,12,13]⟩) (op:={com:=[(4,(13,5000)),(4,(9,5000))]}) (fn:=Tryz.f50) (args:=[.ptr (.up 0) 0,.c (.o1 .cl (.var 2)),.c (.o1 .cb (.o1 .tb (.var 3))),.c (.o1 (.ci .i64) (.var 4))]) (K:=[(.up 0,[.c (.o1 .cb (.o1 .tb (.var 0))),.c (.o1 .cb (.o1 .tb (.var 1)))])]) (nv:=5) (depth:=5) (up:=upOf [q0]) (ρ:=Zwa [.b x0,.b x1,.l x2,.b x3,.i x4])
  rfl rfl rfl rfl rfl (by decide) (by decide) (by decide) (by decide) rfl (by simp[Zab,RRef.den,upOf]) (T_of (by kernel_rfl) h)
theorem w51{R:RT}(x0:Bool)(x1:Bool)(q0:Ref)(h:(x0=true->
 R (.ret (iA 11)) [((Ref.up q0),[bA x0,bA x1])])/\
 (x0=false->
 (x1=true->
 R (.ret (iA 9)) [((Ref.up q0),[bA x0,bA x1])])/\
 (x1=false->
 R (.ret (iA 0)) [((Ref.up q0),[bA x0,bA x1])]))):
 HT 51 [A.ptr (Ref.up q0) 0] [((Ref.up q0),[bA x0,bA x1])] R:=
 walk (c:=⟨Tryz.prog,13,true,[0,2,3,8]⟩) (op:={}) (fn:=Tryz.f51) (args:=[.ptr (.up 0) 0]) (K:=[(.up 0,[.c (.o1 .cb (.o1 .tb (.var 0))),.c (.o1 .cb (.o1 .tb (.var 1)))])]) (nv:=2) (depth:=4) (up:=upOf [q0]) (ρ:=Zwa [.b x0,.b x1])
  rfl rfl rfl rfl rfl (by decide) (by decide) (by decide) (by decide) rfl (by simp[Zab,RRef.den,upOf]) (T_of (by kernel_rfl) h)
theorem w58{R:RT}(x0:Bool)(x1:Bool)(x2:List D)(x3:List D)(q0:Ref)(h:tB ((x2.length:Int)==9)=true/\
 tB ((x3.length:Int)==4)=true/\
 ∃J0_0:Bool->Bool->Prop,(isK (.int .i64) (x3.getD 3 D0)=true/\
 (tB (decide (16<(dint (x3.getD 3 D0))))=true->
 J0_0 true true)/\
 (tB (decide (16<(dint (x3.getD 3 D0))))=false->
 J0_0 false x1))/\
 (∀(x4:Bool)(x5:Bool),J0_0 x4 x5->
 ∀_:Nat->Nat,∃R',HT 102 [A.ptr (.up (Ref.up q0)) 0,A.agg x2,A.agg x3] [(Ref.up (Ref.up q0),[bA x0,bA x5])] R'/\
 (∀v H',R' (.ret v) H'-> ∃x6:Bool,∃x7:Bool,v=A.tup []/\H'=[(Ref.up (Ref.up q0),[bA x6,bA x7])]/\
 isK .slc (x2.getD 5 D0)=true/\
 ∃(I0_0:Int->Bool->Bool->Prop)(M0_0:Int->Bool->Bool->Nat),I0_0 0 x6 x7/\
 (∀(x8:Int)(x9:Bool)(x10:Bool),I0_0 x8 x9 x10->
 (tB (decide (x8<((dlst (x2.getD 5 D0)).length:Int)))=true->
 tB (decide (0<=x8))=true/\
 tB (((gAt (dlst (x2.getD 5 D0)) x8).length:Int)==9)=true/\
 isK (.int .i64) (x2.getD 0 D0)=true/\
 ((!(tB ((dint (x2.getD 0 D0))==16)))||(isK .bool (x3.getD 0 D0)))=true/\
 ((!(tB ((dint (x2.getD 0 D0))==14)))||(isK (.int .i64) (x2.getD 2 D0)))=true/\
 ((!((tB ((dint (x2.getD 0 D0))==14))&&(!(tB ((dint (x2.getD 2 D0))==0)))))||(tB (decide ((-9223372036854775808)<=(x8+1)))))=true/\
 ((!((tB ((dint (x2.getD 0 D0))==14))&&(!(tB ((dint (x2.getD 2 D0))==0)))))||(tB (decide ((x8+1)<=9223372036854775807))))=true/\
 isK (.int .i64) (x3.getD 3 D0)=true/\
 oV ((dint (x3.getD 3 D0))+1) (∀_:Nat->Nat,∃R',HT 58 [A.ptr (.up (Ref.up q0)) 0,A.agg (gAt (dlst (x2.getD 5 D0)) x8),(A.agg [D.lit (.bool (((tB ((dint (x2.getD 0 D0))==16))&&(dbool (x3.getD 0 D0)))||(tB ((dint (x2.getD 0 D0))==10)))),D.lit (.bool (tB ((dint (x2.getD 0 D0))==17))),(D.lit (.bool ((tB ((dint (x2.getD 0 D0))==14))&&((tB ((dint (x2.getD 2 D0))==0))||(tB (decide ((x8+1)<((dlst (x2.getD 5 D0)).length:Int)))))))),D.lit (.int .i64 ((dint (x3.getD 3 D0))+1))])] [(Ref.up (Ref.up q0),[bA x9,bA x10])] R'/\
 (∀v H',R' (.ret v) H'-> ∃x11:Bool,∃x12:Bool,v=A.tup []/\H'=[(Ref.up (Ref.up q0),[bA x11,bA x12])]/\
 oV (x8+1) (I0_0 (x8+1) x11 x12/\M0_0 (x8+1) x11 x12<M0_0 x8 x9 x10))/\
 (∀x11v H',R' (.pan x11v) H'-> ∃x12:Bool,∃x13:Bool,H'=[(Ref.up (Ref.up q0),[bA x12,bA x13])]/\
 R (.pan x11v) [((Ref.up q0),[bA x12,bA x13])])))/\
 (tB (decide (x8<((dlst (x2.getD 5 D0)).length:Int)))=false->
 isK .slc (x2.getD 6 D0)=true/\
 isK (.int .i64) (x2.getD 0 D0)=true/\
 isK (.int .i64) (x3.getD 3 D0)=true/\
 oV ((dint (x3.getD 3 D0))+1) (∀_:Nat->Nat,∃R',HT 50 [A.ptr (.up (Ref.up q0)) 0,A.d (D.slc (dlst (x2.getD 6 D0))),bA (tB ((dint (x2.getD 0 D0))==13)),iA ((dint (x3.getD 3 D0))+1)] [(Ref.up (Ref.up q0),[bA x9,bA x10])] R'/\
 (∀v H',R' (.ret v) H'-> ∃x11:Bool,∃x12:Bool,v=A.tup []/\H'=[(Ref.up (Ref.up q0),[bA x11,bA x12])]/\
 R (.ret (A.tup [])) [((Ref.up q0),[bA x11,bA x12])])/\
 (∀x11v H',R' (.pan x11v) H'-> ∃x12:Bool,∃x13:Bool,H'=[(Ref.up (Ref.up q0),[bA x12,bA x13])]/\
 R (.pan x11v) [((Ref.up q0),[bA x12,bA x13])]))))/\
 True)/\
 (∀x6v H',R' (.pan x6v) H'-> ∃x7:Bool,∃x8:Bool,H'=[(Ref.up (Ref.up q0),[bA x7,bA x8])]/\
 R (.pan x6v) [((Ref.up q0),[bA x7,bA x8])]))/\
 True):
 HT 58 [A.ptr (Ref.up q0) 0,A.agg x2,A.agg x3] [((Ref.up q0),[bA x0,bA x1])] R:=
 walk (c:=⟨Tryz.prog,75,true,[0,1,2,4,5,6,7,10,19,20,21,22]⟩) (op:={cuts:=[3],com:=[(8,(22,5000)),(8,(7,5000)),(8,(6,5000))]}) (fn:=Tryz.f58) (args:=[.ptr (.up 0) 0,.agg (.var 2),.agg (.var 3)]) (K:=[(.up 0,[.c (.o1 .cb (.o1 .tb (.var 0))),.c (.o1 .cb (.o1 .tb (.var 1)))])]) (nv:=4) (depth:=7) (up:=upOf [q0]) (ρ:=Zwa [.b x0,.b x1,.r x2,.r x3])
  rfl rfl rfl rfl rfl (by decide) (by decide) (by decide) (by decide) rfl (by simp[Zab,RRef.den,upOf]) (T_of (by kernel_rfl) h)
theorem w97{R:RT}(x0:Bool)(x1:Bool)(x2:List D)(x3:Bool)(x4:Int)(q0:Ref)(h:tB ((x2.length:Int)==11)=true/\
 ∃J0_0:Bool->Bool->Prop,((tB (decide (16<x4))=true->
 J0_0 true true)/\
 (tB (decide (16<x4))=false->
 J0_0 false x1))/\
 (∀(x5:Bool)(x6:Bool),J0_0 x5 x6->
 isK (.int .i64) (x2.getD 0 D0)=true/\
 ∀_:Nat->Nat,∃R',HT 47 [A.ptr (.up (Ref.up q0)) 0,A.d (D.slc [[D.lit (.bool ((tB (decide (1<=(dint (x2.getD 0 D0)))))&&(tB (decide ((dint (x2.getD 0 D0))<=8)))))]])] [(Ref.up (Ref.up q0),[bA x0,bA x6])] R'/\
 (∀v H',R' (.ret v) H'-> ∃x7:Bool,∃x8:Bool,v=A.tup []/\H'=[(Ref.up (Ref.up q0),[bA x7,bA x8])]/\
 isK .slc (x2.getD 8 D0)=true/\
 ∃x9:Bool,(∀_:Nat->Nat,HT 49 [A.d (D.slc (dlst (x2.getD 8 D0)))] [] (Zpq [] (bA x9)))/\
 isK .slc (x2.getD 7 D0)=true/\
 ∃x10:Bool,(∀_:Nat->Nat,HT 49 [A.d (D.slc (dlst (x2.getD 7 D0)))] [] (Zpq [] (bA x10)))/\
 isK .str (x2.getD 9 D0)=true/\
 ∃x11:Bool,(∀_:Nat->Nat,HT 49 [A.d (D.slc [[D.lit (Zco (dstr (x2.getD 9 D0)))]])] [] (Zpq [] (bA x11)))/\
 (((tB ((dint (x2.getD 0 D0))==5))||(tB ((dint (x2.getD 0 D0))==6)))||(isK .slc (x2.getD 6 D0)))=true/\
 (((tB ((dint (x2.getD 0 D0))==5))||(tB ((dint (x2.getD 0 D0))==6)))||(tB (decide ((-9223372036854775808)<=(((dlst (x2.getD 6 D0)).length:Int)+((dlst (x2.getD 7 D0)).length:Int))))))=true/\
 (((tB ((dint (x2.getD 0 D0))==5))||(tB ((dint (x2.getD 0 D0))==6)))||(tB (decide ((((dlst (x2.getD 6 D0)).length:Int)+((dlst (x2.getD 7 D0)).length:Int))<=9223372036854775807))))=true/\
 ∀_:Nat->Nat,∃R',HT 47 [A.ptr (.up (Ref.up q0)) 0,(A.d (D.slc [[D.lit (.bool x9)],[D.lit (.bool x10)],[D.lit (.bool x11)],[(D.lit (.bool (((tB ((dint (x2.getD 0 D0))==5))||(tB ((dint (x2.getD 0 D0))==6)))||(tB ((((dlst (x2.getD 6 D0)).length:Int)+((dlst (x2.getD 7 D0)).length:Int))==0)))))]]))] [(Ref.up (Ref.up q0),[bA x7,bA x8])] R'/\
 (∀v H',R' (.ret v) H'-> ∃x12:Bool,∃x13:Bool,v=A.tup []/\H'=[(Ref.up (Ref.up q0),[bA x12,bA x13])]/\
 ∃J0_0:Bool->Bool->Bool->Prop,((tB ((dint (x2.getD 0 D0))==1)=true->
 isK (.int .i64) (x2.getD 1 D0)=true/\
 ∀_:Nat->Nat,∃R',HT 47 [A.ptr (.up (Ref.up q0)) 0,A.d (D.slc [[D.lit (.bool ((tB (decide (1<=(dint (x2.getD 1 D0)))))&&(tB (decide ((dint (x2.getD 1 D0))<=3)))))]])] [(Ref.up (Ref.up q0),[bA x12,bA x13])] R'/\
 (∀v H',R' (.ret v) H'-> ∃x14:Bool,∃x15:Bool,v=A.tup []/\H'=[(Ref.up (Ref.up q0),[bA x14,bA x15])]/\
 J0_0 true x14 x15)/\
 (∀x14v H',R' (.pan x14v) H'-> ∃x15:Bool,∃x16:Bool,H'=[(Ref.up (Ref.up q0),[bA x15,bA x16])]/\
 R (.pan x14v) [((Ref.up q0),[bA x15,bA x16])]))/\
 (tB ((dint (x2.getD 0 D0))==1)=false->
 isK (.int .i64) (x2.getD 1 D0)=true/\
 ∀_:Nat->Nat,∃R',HT 47 [A.ptr (.up (Ref.up q0)) 0,A.d (D.slc [[D.lit (.bool (tB ((dint (x2.getD 1 D0))==0)))]])] [(Ref.up (Ref.up q0),[bA x12,bA x13])] R'/\
 (∀v H',R' (.ret v) H'-> ∃x14:Bool,∃x15:Bool,v=A.tup []/\H'=[(Ref.up (Ref.up q0),[bA x14,bA x15])]/\
 J0_0 false x14 x15)/\
 (∀x14v H',R' (.pan x14v) H'-> ∃x15:Bool,∃x16:Bool,H'=[(Ref.up (Ref.up q0),[bA x15,bA x16])]/\
 R (.pan x14v) [((Ref.up q0),[bA x15,bA x16])])))/\
 (∀(x14:Bool)(x15:Bool)(x16:Bool),J0_0 x14 x15 x16->
 ∃J0_0:Bool->Bool->Bool->Prop,((tB ((dint (x2.getD 0 D0))==1)=true->
 J0_0 true x15 x16)/\
 (tB ((dint (x2.getD 0 D0))==1)=false->
 (tB ((dint (x2.getD 0 D0))==2)=true->
 isK .str (x2.getD 2 D0)=true/\
 ∀_:Nat->Nat,∃R',HT 112 [A.d (D.lit (Zco (dstr (x2.getD 2 D0))))] [] R'/\
 (∀v H',R' (.ret v) H'-> ∃x17:List D,∃x18:List D,v=A.tup [(true,x17),(true,x18)]/\H'=[]/\
 tB ((x17.length:Int)==6)=true/\
 tB ((x18.length:Int)==2)=true/\
 isK (.int .i64) (x18.getD 0 D0)=true/\
 ∀_:Nat->Nat,∃R',HT 47 [A.ptr (.up (Ref.up q0)) 0,A.d (D.slc [[D.lit (.bool (tB ((dint (x18.getD 0 D0))==0)))]])] [(Ref.up (Ref.up q0),[bA x15,bA x16])] R'/\
 (∀v H',R' (.ret v) H'-> ∃x19:Bool,∃x20:Bool,v=A.tup []/\H'=[(Ref.up (Ref.up q0),[bA x19,bA x20])]/\
 J0_0 false x19 x20)/\
 (∀x19v H',R' (.pan x19v) H'-> ∃x20:Bool,∃x21:Bool,H'=[(Ref.up (Ref.up q0),[bA x20,bA x21])]/\
 R (.pan x19v) [((Ref.up q0),[bA x20,bA x21])]))/\
 (∀x17v H',R' (.pan x17v) H'->H'=[]/\
 R (.pan x17v) [((Ref.up q0),[bA x15,bA x16])]))/\
 (tB ((dint (x2.getD 0 D0))==2)=false->
 (tB ((dint (x2.getD 0 D0))==4)=true->
 isK .str (x2.getD 2 D0)=true/\
 ∀_:Nat->Nat,∃R',HT 48 [A.d (D.lit (Zco (dstr (x2.getD 2 D0))))] [] R'/\
 (∀v H',R' (.ret v) H'-> ∃x17:Bool,v=bA x17/\H'=[]/\
 ∀_:Nat->Nat,∃R',HT 47 [A.ptr (.up (Ref.up q0)) 0,A.d (D.slc [[D.lit (.bool x3)],[D.lit (.bool x17)]])] [(Ref.up (Ref.up q0),[bA x15,bA x16])] R'/\
 (∀v H',R' (.ret v) H'-> ∃x18:Bool,∃x19:Bool,v=A.tup []/\H'=[(Ref.up (Ref.up q0),[bA x18,bA x19])]/\
 J0_0 false x18 x19)/\
 (∀x18v H',R' (.pan x18v) H'-> ∃x19:Bool,∃x20:Bool,H'=[(Ref.up (Ref.up q0),[bA x19,bA x20])]/\
 R (.pan x18v) [((Ref.up q0),[bA x19,bA x20])]))/\
 (∀x17v H',R' (.pan x17v) H'->H'=[]/\
 R (.pan x17v) [((Ref.up q0),[bA x15,bA x16])]))/\
 (tB ((dint (x2.getD 0 D0))==4)=false->
 isK .str (x2.getD 2 D0)=true/\
 ∀_:Nat->Nat,∃R',HT 47 [A.ptr (.up (Ref.up q0)) 0,(A.d (D.slc [[(D.lit (.bool (tB ((dstr (x2.getD 2 D0))==([]:List UInt8)))))],[D.lit (.bool (x3||(!(tB ((dint (x2.getD 0 D0))==8)))))]]))] [(Ref.up (Ref.up q0),[bA x15,bA x16])] R'/\
 (∀v H',R' (.ret v) H'-> ∃x17:Bool,∃x18:Bool,v=A.tup []/\H'=[(Ref.up (Ref.up q0),[bA x17,bA x18])]/\
 J0_0 false x17 x18)/\
 (∀x17v H',R' (.pan x17v) H'-> ∃x18:Bool,∃x19:Bool,H'=[(Ref.up (Ref.up q0),[bA x18,bA x19])]/\
 R (.pan x17v) [((Ref.up q0),[bA x18,bA x19])])))))/\
 (∀(x17:Bool)(x18:Bool)(x19:Bool),J0_0 x17 x18 x19->
 ∃J0_0:Bool->Bool->Bool->Bool->Prop,((tB ((dint (x2.getD 0 D0))==6)=true->
 ∀_:Nat->Nat,∃R',HT 113 [A.agg [x2.getD 3 D0,x2.getD 4 D0]] [] R'/\
 (∀v H',R' (.ret v) H'-> ∃x20:Bool,v=bA x20/\H'=[]/\
 ∀_:Nat->Nat,∃R',HT 47 [A.ptr (.up (Ref.up q0)) 0,A.d (D.slc [[D.lit (.bool x20)]])] [(Ref.up (Ref.up q0),[bA x18,bA x19])] R'/\
 (∀v H',R' (.ret v) H'-> ∃x21:Bool,∃x22:Bool,v=A.tup []/\H'=[(Ref.up (Ref.up q0),[bA x21,bA x22])]/\
 J0_0 true true x21 x22)/\
 (∀x21v H',R' (.pan x21v) H'-> ∃x22:Bool,∃x23:Bool,H'=[(Ref.up (Ref.up q0),[bA x22,bA x23])]/\
 R (.pan x21v) [((Ref.up q0),[bA x22,bA x23])]))/\
 (∀x20v H',R' (.pan x20v) H'->H'=[]/\
 R (.pan x20v) [((Ref.up q0),[bA x18,bA x19])]))/\
 (tB ((dint (x2.getD 0 D0))==6)=false->
 ∀_:Nat->Nat,∃R',HT 114 [A.agg [x2.getD 3 D0,x2.getD 4 D0]] [] R'/\
 (∀v H',R' (.ret v) H'-> ∃x20:Bool,v=bA x20/\H'=[]/\
 ∀_:Nat->Nat,∃R',HT 47 [A.ptr (.up (Ref.up q0)) 0,A.d (D.slc [[D.lit (.bool x20)]])] [(Ref.up (Ref.up q0),[bA x18,bA x19])] R'/\
 (∀v H',R' (.ret v) H'-> ∃x21:Bool,∃x22:Bool,v=A.tup []/\H'=[(Ref.up (Ref.up q0),[bA x21,bA x22])]/\
 J0_0 (tB ((dint (x2.getD 0 D0))==5)) false x21 x22)/\
 (∀x21v H',R' (.pan x21v) H'-> ∃x22:Bool,∃x23:Bool,H'=[(Ref.up (Ref.up q0),[bA x22,bA x23])]/\
 R (.pan x21v) [((Ref.up q0),[bA x22,bA x23])]))/\
 (∀x20v H',R' (.pan x20v) H'->H'=[]/\
 R (.pan x20v) [((Ref.up q0),[bA x18,bA x19])])))/\
 (∀(x20:Bool)(x21:Bool)(x22:Bool)(x23:Bool),J0_0 x20 x21 x22 x23->
 ∃J0_0:Int->Bool->Prop,((tB ((dint (x2.getD 0 D0))==7)=true->
 J0_0 2 true)/\
 (tB ((dint (x2.getD 0 D0))==7)=false->
 (tB ((dint (x2.getD 0 D0))==8)=true->
 J0_0 0 false)/\
 (tB ((dint (x2.getD 0 D0))==8)=false->
 J0_0 1 false)))/\
 (∀(x24:Int)(x25:Bool),J0_0 x24 x25->
 isK .slc (x2.getD 5 D0)=true/\
 ∀_:Nat->Nat,∃R',HT 47 [A.ptr (.up (Ref.up q0)) 0,(A.d (D.slc [[(D.lit (.bool (tB (((dlst (x2.getD 5 D0)).length:Int)==x24))))]]))] [(Ref.up (Ref.up q0),[bA x22,bA x23])] R'/\
 (∀v H',R' (.ret v) H'-> ∃x26:Bool,∃x27:Bool,v=A.tup []/\H'=[(Ref.up (Ref.up q0),[bA x26,bA x27])]/\
 ∃(I0_0:Int->Bool->Bool->Prop)(M0_0:Int->Bool->Bool->Nat),I0_0 0 x26 x27/\
 (∀(x28:Int)(x29:Bool)(x30:Bool),I0_0 x28 x29 x30->
 (tB (decide (x28<((dlst (x2.getD 5 D0)).length:Int)))=true->
 tB (decide (0<=x28))=true/\
 tB (((gAt (dlst (x2.getD 5 D0)) x28).length:Int)==9)=true/\
 oV (x4+1) (∀_:Nat->Nat,∃R',HT 58 [A.ptr (.up (Ref.up q0)) 0,A.agg (gAt (dlst (x2.getD 5 D0)) x28),A.agg [D.lit (.bool ((x3&&((((tB ((dint (x2.getD 0 D0))==1))||(tB ((dint (x2.getD 0 D0))==2)))||(tB ((dint (x2.getD 0 D0))==3)))||(tB ((dint (x2.getD 0 D0))==4))))&&(tB (x28==0)))),D.lit (.bool false),D.lit (.bool false),D.lit (.int .i64 (x4+1))]] [(Ref.up (Ref.up q0),[bA x29,bA x30])] R'/\
 (∀v H',R' (.ret v) H'-> ∃x31:Bool,∃x32:Bool,v=A.tup []/\H'=[(Ref.up (Ref.up q0),[bA x31,bA x32])]/\
 oV (x28+1) (I0_0 (x28+1) x31 x32/\M0_0 (x28+1) x31 x32<M0_0 x28 x29 x30))/\
 (∀x31v H',R' (.pan x31v) H'-> ∃x32:Bool,∃x33:Bool,H'=[(Ref.up (Ref.up q0),[bA x32,bA x33])]/\
 R (.pan x31v) [((Ref.up q0),[bA x32,bA x33])])))/\
 (tB (decide (x28<((dlst (x2.getD 5 D0)).length:Int)))=false->
 isK .slc (x2.getD 6 D0)=true/\
 oV (x4+1) (∀_:Nat->Nat,∃R',HT 50 [A.ptr (.up (Ref.up q0)) 0,A.d (D.slc (dlst (x2.getD 6 D0))),bA false,iA (x4+1)] [(Ref.up (Ref.up q0),[bA x29,bA x30])] R'/\
 (∀v H',R' (.ret v) H'-> ∃x31:Bool,∃x32:Bool,v=A.tup []/\H'=[(Ref.up (Ref.up q0),[bA x31,bA x32])]/\
 R (.ret (A.tup [])) [((Ref.up q0),[bA x31,bA x32])])/\
 (∀x31v H',R' (.pan x31v) H'-> ∃x32:Bool,∃x33:Bool,H'=[(Ref.up (Ref.up q0),[bA x32,bA x33])]/\
 R (.pan x31v) [((Ref.up q0),[bA x32,bA x33])]))))/\
 True)/\
 (∀x26v H',R' (.pan x26v) H'-> ∃x27:Bool,∃x28:Bool,H'=[(Ref.up (Ref.up q0),[bA x27,bA x28])]/\
 R (.pan x26v) [((Ref.up q0),[bA x27,bA x28])]))/\
 True)/\
 True)/\
 True)/\
 True)/\
 (∀x12v H',R' (.pan x12v) H'-> ∃x13:Bool,∃x14:Bool,H'=[(Ref.up (Ref.up q0),[bA x13,bA x14])]/\
 R (.pan x12v) [((Ref.up q0),[bA x13,bA x14])]))/\
 (∀x7v H',R' (.pan x7v) H'-> ∃x8:Bool,∃x9:Bool,H'=[(Ref.up (Ref.up q0),[bA x8,bA x9])]/\
 R (.pan x7v) [((Ref.up q0),[bA x8,bA x9])]))/\
 True):
 HT 97 [A.ptr (Ref.up q0) 0,A.agg x2,bA x3,iA x4] [((Ref.up q0),[bA x0,bA x1])] R:=
 walk (c:=⟨Tryz.prog,199,true,[0,1,2,3,5,8,10,11,12,13,14,16,64,71,85,98,100,114,125,139,140,142,171,172,173,174]⟩) (op:={cuts:=[3,10,18,21,27],com:=[(33,(174,5000)),(33,(14,5000)),(33,(13,5000))]}) (fn:=Tryz.f97) (args:=[.ptr (.up 0) 0,.agg (.var 2),.c (.o1 .cb (.o1 .tb (.var 3))),.c (.o1 (.ci .i64) (.var 4))]) (K:=[(.up 0,[.c (.o1 .cb (.o1 .tb (.var 0))),.c (.o1 .cb (.o1 .tb (.var 1)))])]) (nv:=5) (depth:=8) (up:=upOf [q0]) (ρ:=Zwa [.b x0,.b x1,.r x2,.b x3,.i x4])
  rfl rfl rfl rfl rfl (by decide) (by decide) (by decide) (by decide) rfl (by simp[Zab,RRef.den,upOf]) (T_of (by kernel_rfl) h)
theorem w102{R:RT}(x0:Bool)(x1:Bool)(x2:List D)(x3:List D)(q0:Ref)(h:tB ((x2.length:Int)==9)=true/\
 tB ((x3.length:Int)==4)=true/\
 isK (.int .i64) (x2.getD 0 D0)=true/\
 ∀_:Nat->Nat,∃R',HT 47 [A.ptr (.up (Ref.up q0)) 0,A.d (D.slc [[D.lit (.bool ((tB (decide (1<=(dint (x2.getD 0 D0)))))&&(tB (decide ((dint (x2.getD 0 D0))<=22)))))]])] [(Ref.up (Ref.up q0),[bA x0,bA x1])] R'/\
 (∀v H',R' (.ret v) H'-> ∃x4:Bool,∃x5:Bool,v=A.tup []/\H'=[(Ref.up (Ref.up q0),[bA x4,bA x5])]/\
 ∀_:Nat->Nat,∃R',HT 117 [A.ptr (.up (Ref.up q0)) 0,A.agg x2] [(Ref.up (Ref.up q0),[bA x4,bA x5])] R'/\
 (∀v H',R' (.ret v) H'-> ∃x6:Bool,∃x7:Bool,v=A.tup []/\H'=[(Ref.up (Ref.up q0),[bA x6,bA x7])]/\
 ∀_:Nat->Nat,∃R',HT 118 [A.ptr (.up (Ref.up q0)) 0,A.agg x2] [(Ref.up (Ref.up q0),[bA x6,bA x7])] R'/\
 (∀v H',R' (.ret v) H'-> ∃x8:Bool,∃x9:Bool,v=A.tup []/\H'=[(Ref.up (Ref.up q0),[bA x8,bA x9])]/\
 (((tB ((dint (x2.getD 0 D0))==13))||(tB ((dint (x2.getD 0 D0))==22)))||(isK .slc (x2.getD 6 D0)))=true/\
 (((tB ((dint (x2.getD 0 D0))==13))||(tB ((dint (x2.getD 0 D0))==22)))||(isK .slc (x2.getD 7 D0)))=true/\
 (((tB ((dint (x2.getD 0 D0))==13))||(tB ((dint (x2.getD 0 D0))==22)))||(tB (decide ((-9223372036854775808)<=(((dlst (x2.getD 6 D0)).length:Int)+((dlst (x2.getD 7 D0)).length:Int))))))=true/\
 (((tB ((dint (x2.getD 0 D0))==13))||(tB ((dint (x2.getD 0 D0))==22)))||(tB (decide ((((dlst (x2.getD 6 D0)).length:Int)+((dlst (x2.getD 7 D0)).length:Int))<=9223372036854775807))))=true/\
 isK .slc (x2.getD 7 D0)=true/\
 ∃x10:Bool,(∀_:Nat->Nat,HT 49 [A.d (D.slc (dlst (x2.getD 7 D0)))] [] (Zpq [] (bA x10)))/\
 ∀_:Nat->Nat,∃R',HT 47 [A.ptr (.up (Ref.up q0)) 0,(A.d (D.slc [[(D.lit (.bool (((tB ((dint (x2.getD 0 D0))==13))||(tB ((dint (x2.getD 0 D0))==22)))||(tB ((((dlst (x2.getD 6 D0)).length:Int)+((dlst (x2.getD 7 D0)).length:Int))==0)))))],[D.lit (.bool x10)]]))] [(Ref.up (Ref.up q0),[bA x8,bA x9])] R'/\
 (∀v H',R' (.ret v) H'-> ∃x11:Bool,∃x12:Bool,v=A.tup []/\H'=[(Ref.up (Ref.up q0),[bA x11,bA x12])]/\
 ∃J0_0:Bool->Bool->Bool->Prop,((tB ((dint (x2.getD 0 D0))==10)=true->
 ∀_:Nat->Nat,∃R',HT 119 [A.ptr (.up (Ref.up q0)) 0,A.agg x2] [(Ref.up (Ref.up q0),[bA x11,bA x12])] R'/\
 (∀v H',R' (.ret v) H'-> ∃x13:Bool,∃x14:Bool,v=A.tup []/\H'=[(Ref.up (Ref.up q0),[bA x13,bA x14])]/\
 R (.ret (A.tup [])) [((Ref.up q0),[bA x13,bA x14])])/\
 (∀x13v H',R' (.pan x13v) H'-> ∃x14:Bool,∃x15:Bool,H'=[(Ref.up (Ref.up q0),[bA x14,bA x15])]/\
 R (.pan x13v) [((Ref.up q0),[bA x14,bA x15])]))/\
 (tB ((dint (x2.getD 0 D0))==10)=false->
 (tB ((dint (x2.getD 0 D0))==2)=true->
 isK (.int .i64) (x2.getD 2 D0)=true/\
 ∀_:Nat->Nat,∃R',HT 47 [A.ptr (.up (Ref.up q0)) 0,A.d (D.slc [[D.lit (.bool ((tB ((dint (x2.getD 2 D0))==0))||(tB ((dint (x2.getD 2 D0))==1))))]])] [(Ref.up (Ref.up q0),[bA x11,bA x12])] R'/\
 (∀v H',R' (.ret v) H'-> ∃x13:Bool,∃x14:Bool,v=A.tup []/\H'=[(Ref.up (Ref.up q0),[bA x13,bA x14])]/\
 J0_0 true x13 x14)/\
 (∀x13v H',R' (.pan x13v) H'-> ∃x14:Bool,∃x15:Bool,H'=[(Ref.up (Ref.up q0),[bA x14,bA x15])]/\
 R (.pan x13v) [((Ref.up q0),[bA x14,bA x15])]))/\
 (tB ((dint (x2.getD 0 D0))==2)=false->
 (tB ((dint (x2.getD 0 D0))==14)=true->
 isK (.int .i64) (x2.getD 2 D0)=true/\
 ∀_:Nat->Nat,∃R',HT 47 [A.ptr (.up (Ref.up q0)) 0,A.d (D.slc [[D.lit (.bool ((tB ((dint (x2.getD 2 D0))==0))||(tB ((dint (x2.getD 2 D0))==1))))]])] [(Ref.up (Ref.up q0),[bA x11,bA x12])] R'/\
 (∀v H',R' (.ret v) H'-> ∃x13:Bool,∃x14:Bool,v=A.tup []/\H'=[(Ref.up (Ref.up q0),[bA x13,bA x14])]/\
 J0_0 true x13 x14)/\
 (∀x13v H',R' (.pan x13v) H'-> ∃x14:Bool,∃x15:Bool,H'=[(Ref.up (Ref.up q0),[bA x14,bA x15])]/\
 R (.pan x13v) [((Ref.up q0),[bA x14,bA x15])]))/\
 (tB ((dint (x2.getD 0 D0))==14)=false->
 (tB ((dint (x2.getD 0 D0))==3)=true->
 isK (.int .i64) (x2.getD 2 D0)=true/\
 ∃x13:Bool,(∀_:Nat->Nat,HT 120 [iA (dint (x2.getD 2 D0))] [] (Zpq [] (bA x13)))/\
 ∀_:Nat->Nat,∃R',HT 47 [A.ptr (.up (Ref.up q0)) 0,A.d (D.slc [[D.lit (.bool (tB (decide (0<=(dint (x2.getD 2 D0))))))],[D.lit (.bool x13)]])] [(Ref.up (Ref.up q0),[bA x11,bA x12])] R'/\
 (∀v H',R' (.ret v) H'-> ∃x14:Bool,∃x15:Bool,v=A.tup []/\H'=[(Ref.up (Ref.up q0),[bA x14,bA x15])]/\
 J0_0 false x14 x15)/\
 (∀x14v H',R' (.pan x14v) H'-> ∃x15:Bool,∃x16:Bool,H'=[(Ref.up (Ref.up q0),[bA x15,bA x16])]/\
 R (.pan x14v) [((Ref.up q0),[bA x15,bA x16])]))/\
 (tB ((dint (x2.getD 0 D0))==3)=false->
 isK (.int .i64) (x2.getD 2 D0)=true/\
 ∀_:Nat->Nat,∃R',HT 47 [A.ptr (.up (Ref.up q0)) 0,A.d (D.slc [[D.lit (.bool (tB ((dint (x2.getD 2 D0))==0)))]])] [(Ref.up (Ref.up q0),[bA x11,bA x12])] R'/\
 (∀v H',R' (.ret v) H'-> ∃x13:Bool,∃x14:Bool,v=A.tup []/\H'=[(Ref.up (Ref.up q0),[bA x13,bA x14])]/\
 J0_0 false x13 x14)/\
 (∀x13v H',R' (.pan x13v) H'-> ∃x14:Bool,∃x15:Bool,H'=[(Ref.up (Ref.up q0),[bA x14,bA x15])]/\
 R (.pan x13v) [((Ref.up q0),[bA x14,bA x15])]))))))/\
 (∀(x13:Bool)(x14:Bool)(x15:Bool),J0_0 x13 x14 x15->
 ∃J0_0:Bool->Bool->Bool->Prop,((tB ((dint (x2.getD 0 D0))==15)=true->
 ∀_:Nat->Nat,∃R',HT 113 [A.agg [x2.getD 3 D0,x2.getD 4 D0]] [] R'/\
 (∀v H',R' (.ret v) H'-> ∃x16:Bool,v=bA x16/\H'=[]/\
 ∀_:Nat->Nat,∃R',HT 47 [A.ptr (.up (Ref.up q0)) 0,A.d (D.slc [[D.lit (.bool x16)]])] [(Ref.up (Ref.up q0),[bA x14,bA x15])] R'/\
 (∀v H',R' (.ret v) H'-> ∃x17:Bool,∃x18:Bool,v=A.tup []/\H'=[(Ref.up (Ref.up q0),[bA x17,bA x18])]/\
 J0_0 true x17 x18)/\
 (∀x17v H',R' (.pan x17v) H'-> ∃x18:Bool,∃x19:Bool,H'=[(Ref.up (Ref.up q0),[bA x18,bA x19])]/\
 R (.pan x17v) [((Ref.up q0),[bA x18,bA x19])]))/\
 (∀x16v H',R' (.pan x16v) H'->H'=[]/\
 R (.pan x16v) [((Ref.up q0),[bA x14,bA x15])]))/\
 (tB ((dint (x2.getD 0 D0))==15)=false->
 ∀_:Nat->Nat,∃R',HT 114 [A.agg [x2.getD 3 D0,x2.getD 4 D0]] [] R'/\
 (∀v H',R' (.ret v) H'-> ∃x16:Bool,v=bA x16/\H'=[]/\
 ∀_:Nat->Nat,∃R',HT 47 [A.ptr (.up (Ref.up q0)) 0,A.d (D.slc [[D.lit (.bool x16)]])] [(Ref.up (Ref.up q0),[bA x14,bA x15])] R'/\
 (∀v H',R' (.ret v) H'-> ∃x17:Bool,∃x18:Bool,v=A.tup []/\H'=[(Ref.up (Ref.up q0),[bA x17,bA x18])]/\
 J0_0 false x17 x18)/\
 (∀x17v H',R' (.pan x17v) H'-> ∃x18:Bool,∃x19:Bool,H'=[(Ref.up (Ref.up q0),[bA x18,bA x19])]/\
 R (.pan x17v) [((Ref.up q0),[bA x18,bA x19])]))/\
 (∀x16v H',R' (.pan x16v) H'->H'=[]/\
 R (.pan x16v) [((Ref.up q0),[bA x14,bA x15])])))/\
 (∀(x16:Bool)(x17:Bool)(x18:Bool),J0_0 x16 x17 x18->
 isK .bool (x3.getD 1 D0)=true/\
 isK .bool (x3.getD 2 D0)=true/\
 ∀_:Nat->Nat,∃R',HT 47 [A.ptr (.up (Ref.up q0)) 0,A.d (D.slc [[D.lit (.bool ((dbool (x3.getD 1 D0))||(!(tB ((dint (x2.getD 0 D0))==18)))))],[D.lit (.bool ((dbool (x3.getD 2 D0))||(!(tB ((dint (x2.getD 0 D0))==15)))))]])] [(Ref.up (Ref.up q0),[bA x17,bA x18])] R'/\
 (∀v H',R' (.ret v) H'-> ∃x19:Bool,∃x20:Bool,v=A.tup []/\H'=[(Ref.up (Ref.up q0),[bA x19,bA x20])]/\
 isK .bool (x3.getD 0 D0)=true/\
 ∀_:Nat->Nat,∃R',HT 47 [A.ptr (.up (Ref.up q0)) 0,A.d (D.slc [[D.lit (.bool ((dbool (x3.getD 0 D0))||(!(tB ((dint (x2.getD 0 D0))==13)))))],[D.lit (.bool ((!(dbool (x3.getD 0 D0)))||(!(tB ((dint (x2.getD 0 D0))==22)))))]])] [(Ref.up (Ref.up q0),[bA x19,bA x20])] R'/\
 (∀v H',R' (.ret v) H'-> ∃x21:Bool,∃x22:Bool,v=A.tup []/\H'=[(Ref.up (Ref.up q0),[bA x21,bA x22])]/\
 R (.ret (A.tup [])) [((Ref.up q0),[bA x21,bA x22])])/\
 (∀x21v H',R' (.pan x21v) H'-> ∃x22:Bool,∃x23:Bool,H'=[(Ref.up (Ref.up q0),[bA x22,bA x23])]/\
 R (.pan x21v) [((Ref.up q0),[bA x22,bA x23])]))/\
 (∀x19v H',R' (.pan x19v) H'-> ∃x20:Bool,∃x21:Bool,H'=[(Ref.up (Ref.up q0),[bA x20,bA x21])]/\
 R (.pan x19v) [((Ref.up q0),[bA x20,bA x21])]))/\
 True)/\
 True)/\
 (∀x11v H',R' (.pan x11v) H'-> ∃x12:Bool,∃x13:Bool,H'=[(Ref.up (Ref.up q0),[bA x12,bA x13])]/\
 R (.pan x11v) [((Ref.up q0),[bA x12,bA x13])]))/\
 (∀x8v H',R' (.pan x8v) H'-> ∃x9:Bool,∃x10:Bool,H'=[(Ref.up (Ref.up q0),[bA x9,bA x10])]/\
 R (.pan x8v) [((Ref.up q0),[bA x9,bA x10])]))/\
 (∀x6v H',R' (.pan x6v) H'-> ∃x7:Bool,∃x8:Bool,H'=[(Ref.up (Ref.up q0),[bA x7,bA x8])]/\
 R (.pan x6v) [((Ref.up q0),[bA x7,bA x8])]))/\
 (∀x4v H',R' (.pan x4v) H'-> ∃x5:Bool,∃x6:Bool,H'=[(Ref.up (Ref.up q0),[bA x5,bA x6])]/\
 R (.pan x4v) [((Ref.up q0),[bA x5,bA x6])])):
 HT 102 [A.ptr (Ref.up q0) 0,A.agg x2,A.agg x3] [((Ref.up q0),[bA x0,bA x1])] R:=
 walk (c:=⟨Tryz.prog,137,true,[0,1,2,4,5,6,50,57,62,76,89]⟩) (op:={cuts:=[15,18]}) (fn:=Tryz.f102) (args:=[.ptr (.up 0) 0,.agg (.var 2),.agg (.var 3)]) (K:=[(.up 0,[.c (.o1 .cb (.o1 .tb (.var 0))),.c (.o1 .cb (.o1 .tb (.var 1)))])]) (nv:=4) (depth:=8) (up:=upOf [q0]) (ρ:=Zwa [.b x0,.b x1,.r x2,.r x3])
  rfl rfl rfl rfl rfl (by decide) (by decide) (by decide) (by decide) rfl (by simp[Zab,RRef.den,upOf]) (T_of (by kernel_rfl) h)
theorem w113{R:RT}(x0:List D)(h:tB ((x0.length:Int)==2)=true/\
 isK .str (x0.getD 0 D0)=true/\
 ∀_:Nat->Nat,∃R',HT 48 [A.d (D.lit (Zco (dstr (x0.getD 0 D0))))] [] R'/\
 (∀v H',R' (.ret v) H'-> ∃x1:Bool,v=bA x1/\H'=[]/\
 ((!x1)||(isK .str (x0.getD 1 D0)))=true/\
 (x1=true->
 ∀_:Nat->Nat,∃R',HT 48 [A.d (D.lit (Zco (dstr (x0.getD 1 D0))))] [] R'/\
 (∀v H',R' (.ret v) H'-> ∃x2:Bool,v=bA x2/\H'=[]/\
 ((!x2)||(isK .str (x0.getD 1 D0)))=true/\
 R (.ret (bA (x2&&(!(tB ((dstr (x0.getD 0 D0))==(dstr (x0.getD 1 D0)))))))) [])/\
 PN R R')/\
 (x1=false->
 R (.ret (bA false)) []))/\
 PN R R'):
 HT 113 [A.agg x0] [] R:=
 walk (c:=⟨Tryz.prog,18,true,[0,1,2]⟩) (op:={}) (fn:=Tryz.f113) (args:=[.agg (.var 0)]) (K:=[]) (nv:=1) (depth:=5) (up:=upOf []) (ρ:=Zwa [.r x0])
  rfl rfl rfl rfl rfl (by decide) (by decide) (by decide) (by decide) rfl (by simp[Zab,RRef.den,upOf]) (T_of (by kernel_rfl) h)
theorem w114{R:RT}(x0:List D)(h:tB ((x0.length:Int)==2)=true/\
 isK .str (x0.getD 0 D0)=true/\
 isK .str (x0.getD 1 D0)=true/\
 R (.ret (bA ((tB ((dstr (x0.getD 0 D0))==([]:List UInt8)))&&(tB ((dstr (x0.getD 1 D0))==([]:List UInt8)))))) []):
 HT 114 [A.agg x0] [] R:=
 walk (c:=⟨Tryz.prog,6,true,[0,1,2]⟩) (op:={}) (fn:=Tryz.f114) (args:=[.agg (.var 0)]) (K:=[]) (nv:=1) (depth:=3) (up:=upOf []) (ρ:=Zwa [.r x0])
  rfl rfl rfl rfl rfl (by decide) (by decide) (by decide) (by decide) rfl (by simp[Zab,RRef.den,upOf]) (T_of (by kernel_rfl) h)
theorem w117{R:RT}(x0:Bool)(x1:Bool)(x2:List D)(q0:Ref)(h:tB ((x2.length:Int)==9)=true/\
 isK .slc (x2.getD 5 D0)=true/\
 isK (.int .i64) (x2.getD 0 D0)=true/\
 (tB ((dint (x2.getD 0 D0))==10)=true->
 R (.ret (A.tup [])) [((Ref.up q0),[bA x0,bA x1])])/\
 (tB ((dint (x2.getD 0 D0))==10)=false->
 (tB ((dint (x2.getD 0 D0))==21)=true->
 R (.ret (A.tup [])) [((Ref.up q0),[bA x0,bA x1])])/\
 (tB ((dint (x2.getD 0 D0))==21)=false->
 (tB ((dint (x2.getD 0 D0))==5)=true->
 ∀_:Nat->Nat,∃R',HT 47 [A.ptr (.up (Ref.up q0)) 0,(A.d (D.slc [[(D.lit (.bool (tB (decide (1<=((dlst (x2.getD 5 D0)).length:Int))))))]]))] [(Ref.up (Ref.up q0),[bA x0,bA x1])] R'/\
 (∀v H',R' (.ret v) H'-> ∃x3:Bool,∃x4:Bool,v=A.tup []/\H'=[(Ref.up (Ref.up q0),[bA x3,bA x4])]/\
 R (.ret (A.tup [])) [((Ref.up q0),[bA x3,bA x4])])/\
 (∀x3v H',R' (.pan x3v) H'-> ∃x4:Bool,∃x5:Bool,H'=[(Ref.up (Ref.up q0),[bA x4,bA x5])]/\
 R (.pan x3v) [((Ref.up q0),[bA x4,bA x5])]))/\
 (tB ((dint (x2.getD 0 D0))==5)=false->
 (tB ((dint (x2.getD 0 D0))==9)=true->
 ∀_:Nat->Nat,∃R',HT 47 [A.ptr (.up (Ref.up q0)) 0,(A.d (D.slc [[(D.lit (.bool (tB (((dlst (x2.getD 5 D0)).length:Int)==1))))]]))] [(Ref.up (Ref.up q0),[bA x0,bA x1])] R'/\
 (∀v H',R' (.ret v) H'-> ∃x3:Bool,∃x4:Bool,v=A.tup []/\H'=[(Ref.up (Ref.up q0),[bA x3,bA x4])]/\
 R (.ret (A.tup [])) [((Ref.up q0),[bA x3,bA x4])])/\
 (∀x3v H',R' (.pan x3v) H'-> ∃x4:Bool,∃x5:Bool,H'=[(Ref.up (Ref.up q0),[bA x4,bA x5])]/\
 R (.pan x3v) [((Ref.up q0),[bA x4,bA x5])]))/\
 (tB ((dint (x2.getD 0 D0))==9)=false->
 (tB ((dint (x2.getD 0 D0))==11)=true->
 ∀_:Nat->Nat,∃R',HT 47 [A.ptr (.up (Ref.up q0)) 0,(A.d (D.slc [[(D.lit (.bool (tB (((dlst (x2.getD 5 D0)).length:Int)==1))))]]))] [(Ref.up (Ref.up q0),[bA x0,bA x1])] R'/\
 (∀v H',R' (.ret v) H'-> ∃x3:Bool,∃x4:Bool,v=A.tup []/\H'=[(Ref.up (Ref.up q0),[bA x3,bA x4])]/\
 R (.ret (A.tup [])) [((Ref.up q0),[bA x3,bA x4])])/\
 (∀x3v H',R' (.pan x3v) H'-> ∃x4:Bool,∃x5:Bool,H'=[(Ref.up (Ref.up q0),[bA x4,bA x5])]/\
 R (.pan x3v) [((Ref.up q0),[bA x4,bA x5])]))/\
 (tB ((dint (x2.getD 0 D0))==11)=false->
 (tB ((dint (x2.getD 0 D0))==18)=true->
 ∀_:Nat->Nat,∃R',HT 47 [A.ptr (.up (Ref.up q0)) 0,(A.d (D.slc [[(D.lit (.bool (tB (((dlst (x2.getD 5 D0)).length:Int)==1))))]]))] [(Ref.up (Ref.up q0),[bA x0,bA x1])] R'/\
 (∀v H',R' (.ret v) H'-> ∃x3:Bool,∃x4:Bool,v=A.tup []/\H'=[(Ref.up (Ref.up q0),[bA x3,bA x4])]/\
 R (.ret (A.tup [])) [((Ref.up q0),[bA x3,bA x4])])/\
 (∀x3v H',R' (.pan x3v) H'-> ∃x4:Bool,∃x5:Bool,H'=[(Ref.up (Ref.up q0),[bA x4,bA x5])]/\
 R (.pan x3v) [((Ref.up q0),[bA x4,bA x5])]))/\
 (tB ((dint (x2.getD 0 D0))==18)=false->
 (tB ((dint (x2.getD 0 D0))==19)=true->
 ∀_:Nat->Nat,∃R',HT 47 [A.ptr (.up (Ref.up q0)) 0,(A.d (D.slc [[(D.lit (.bool (tB (((dlst (x2.getD 5 D0)).length:Int)==1))))]]))] [(Ref.up (Ref.up q0),[bA x0,bA x1])] R'/\
 (∀v H',R' (.ret v) H'-> ∃x3:Bool,∃x4:Bool,v=A.tup []/\H'=[(Ref.up (Ref.up q0),[bA x3,bA x4])]/\
 R (.ret (A.tup [])) [((Ref.up q0),[bA x3,bA x4])])/\
 (∀x3v H',R' (.pan x3v) H'-> ∃x4:Bool,∃x5:Bool,H'=[(Ref.up (Ref.up q0),[bA x4,bA x5])]/\
 R (.pan x3v) [((Ref.up q0),[bA x4,bA x5])]))/\
 (tB ((dint (x2.getD 0 D0))==19)=false->
 (tB ((dint (x2.getD 0 D0))==12)=true->
 ∀_:Nat->Nat,∃R',HT 47 [A.ptr (.up (Ref.up q0)) 0,(A.d (D.slc [[(D.lit (.bool (tB (((dlst (x2.getD 5 D0)).length:Int)==2))))]]))] [(Ref.up (Ref.up q0),[bA x0,bA x1])] R'/\
 (∀v H',R' (.ret v) H'-> ∃x3:Bool,∃x4:Bool,v=A.tup []/\H'=[(Ref.up (Ref.up q0),[bA x3,bA x4])]/\
 R (.ret (A.tup [])) [((Ref.up q0),[bA x3,bA x4])])/\
 (∀x3v H',R' (.pan x3v) H'-> ∃x4:Bool,∃x5:Bool,H'=[(Ref.up (Ref.up q0),[bA x4,bA x5])]/\
 R (.pan x3v) [((Ref.up q0),[bA x4,bA x5])]))/\
 (tB ((dint (x2.getD 0 D0))==12)=false->
 (tB ((dint (x2.getD 0 D0))==16)=true->
 ∀_:Nat->Nat,∃R',HT 47 [A.ptr (.up (Ref.up q0)) 0,(A.d (D.slc [[(D.lit (.bool (tB (((dlst (x2.getD 5 D0)).length:Int)==2))))]]))] [(Ref.up (Ref.up q0),[bA x0,bA x1])] R'/\
 (∀v H',R' (.ret v) H'-> ∃x3:Bool,∃x4:Bool,v=A.tup []/\H'=[(Ref.up (Ref.up q0),[bA x3,bA x4])]/\
 R (.ret (A.tup [])) [((Ref.up q0),[bA x3,bA x4])])/\
 (∀x3v H',R' (.pan x3v) H'-> ∃x4:Bool,∃x5:Bool,H'=[(Ref.up (Ref.up q0),[bA x4,bA x5])]/\
 R (.pan x3v) [((Ref.up q0),[bA x4,bA x5])]))/\
 (tB ((dint (x2.getD 0 D0))==16)=false->
 (tB ((dint (x2.getD 0 D0))==20)=true->
 ∀_:Nat->Nat,∃R',HT 47 [A.ptr (.up (Ref.up q0)) 0,(A.d (D.slc [[(D.lit (.bool (tB (((dlst (x2.getD 5 D0)).length:Int)==2))))]]))] [(Ref.up (Ref.up q0),[bA x0,bA x1])] R'/\
 (∀v H',R' (.ret v) H'-> ∃x3:Bool,∃x4:Bool,v=A.tup []/\H'=[(Ref.up (Ref.up q0),[bA x3,bA x4])]/\
 R (.ret (A.tup [])) [((Ref.up q0),[bA x3,bA x4])])/\
 (∀x3v H',R' (.pan x3v) H'-> ∃x4:Bool,∃x5:Bool,H'=[(Ref.up (Ref.up q0),[bA x4,bA x5])]/\
 R (.pan x3v) [((Ref.up q0),[bA x4,bA x5])]))/\
 (tB ((dint (x2.getD 0 D0))==20)=false->
 (tB ((dint (x2.getD 0 D0))==15)=true->
 ∀_:Nat->Nat,∃R',HT 47 [A.ptr (.up (Ref.up q0)) 0,(A.d (D.slc [[(D.lit (.bool ((tB (((dlst (x2.getD 5 D0)).length:Int)==2))||(tB (((dlst (x2.getD 5 D0)).length:Int)==3)))))]]))] [(Ref.up (Ref.up q0),[bA x0,bA x1])] R'/\
 (∀v H',R' (.ret v) H'-> ∃x3:Bool,∃x4:Bool,v=A.tup []/\H'=[(Ref.up (Ref.up q0),[bA x3,bA x4])]/\
 R (.ret (A.tup [])) [((Ref.up q0),[bA x3,bA x4])])/\
 (∀x3v H',R' (.pan x3v) H'-> ∃x4:Bool,∃x5:Bool,H'=[(Ref.up (Ref.up q0),[bA x4,bA x5])]/\
 R (.pan x3v) [((Ref.up q0),[bA x4,bA x5])]))/\
 (tB ((dint (x2.getD 0 D0))==15)=false->
 (tB ((dint (x2.getD 0 D0))==17)=true->
 ∀_:Nat->Nat,∃R',HT 47 [A.ptr (.up (Ref.up q0)) 0,(A.d (D.slc [[(D.lit (.bool (tB (decide (2<=((dlst (x2.getD 5 D0)).length:Int))))))]]))] [(Ref.up (Ref.up q0),[bA x0,bA x1])] R'/\
 (∀v H',R' (.ret v) H'-> ∃x3:Bool,∃x4:Bool,v=A.tup []/\H'=[(Ref.up (Ref.up q0),[bA x3,bA x4])]/\
 R (.ret (A.tup [])) [((Ref.up q0),[bA x3,bA x4])])/\
 (∀x3v H',R' (.pan x3v) H'-> ∃x4:Bool,∃x5:Bool,H'=[(Ref.up (Ref.up q0),[bA x4,bA x5])]/\
 R (.pan x3v) [((Ref.up q0),[bA x4,bA x5])]))/\
 (tB ((dint (x2.getD 0 D0))==17)=false->
 (tB ((dint (x2.getD 0 D0))==14)=true->
 isK (.int .i64) (x2.getD 2 D0)=true/\
 ∀_:Nat->Nat,∃R',HT 47 [A.ptr (.up (Ref.up q0)) 0,(A.d (D.slc [[(D.lit (.bool (tB (decide ((gAnd .i64 (dint (x2.getD 2 D0)) 1)<=((dlst (x2.getD 5 D0)).length:Int))))))]]))] [(Ref.up (Ref.up q0),[bA x0,bA x1])] R'/\
 (∀v H',R' (.ret v) H'-> ∃x3:Bool,∃x4:Bool,v=A.tup []/\H'=[(Ref.up (Ref.up q0),[bA x3,bA x4])]/\
 R (.ret (A.tup [])) [((Ref.up q0),[bA x3,bA x4])])/\
 (∀x3v H',R' (.pan x3v) H'-> ∃x4:Bool,∃x5:Bool,H'=[(Ref.up (Ref.up q0),[bA x4,bA x5])]/\
 R (.pan x3v) [((Ref.up q0),[bA x4,bA x5])]))/\
 (tB ((dint (x2.getD 0 D0))==14)=false->
 ∀_:Nat->Nat,∃R',HT 47 [A.ptr (.up (Ref.up q0)) 0,(A.d (D.slc [[(D.lit (.bool (tB (((dlst (x2.getD 5 D0)).length:Int)==0))))]]))] [(Ref.up (Ref.up q0),[bA x0,bA x1])] R'/\
 (∀v H',R' (.ret v) H'-> ∃x3:Bool,∃x4:Bool,v=A.tup []/\H'=[(Ref.up (Ref.up q0),[bA x3,bA x4])]/\
 R (.ret (A.tup [])) [((Ref.up q0),[bA x3,bA x4])])/\
 (∀x3v H',R' (.pan x3v) H'-> ∃x4:Bool,∃x5:Bool,H'=[(Ref.up (Ref.up q0),[bA x4,bA x5])]/\
 R (.pan x3v) [((Ref.up q0),[bA x4,bA x5])]))))))))))))))):
 HT 117 [A.ptr (Ref.up q0) 0,A.agg x2] [((Ref.up q0),[bA x0,bA x1])] R:=
 walk (c:=⟨Tryz.prog,72,true,[0,1,3,4,9,15,18,25,35,44,55,62]⟩) (op:={}) (fn:=Tryz.f117) (args:=[.ptr (.up 0) 0,.agg (.var 2)]) (K:=[(.up 0,[.c (.o1 .cb (.o1 .tb (.var 0))),.c (.o1 .cb (.o1 .tb (.var 1)))])]) (nv:=3) (depth:=7) (up:=upOf [q0]) (ρ:=Zwa [.b x0,.b x1,.r x2])
  rfl rfl rfl rfl rfl (by decide) (by decide) (by decide) (by decide) rfl (by simp[Zab,RRef.den,upOf]) (T_of (by kernel_rfl) h)
theorem w118{R:RT}(x0:Bool)(x1:Bool)(x2:List D)(q0:Ref)(h:tB ((x2.length:Int)==9)=true/\
 isK (.int .i64) (x2.getD 0 D0)=true/\
 (tB ((dint (x2.getD 0 D0))==10)=true->
 R (.ret (A.tup [])) [((Ref.up q0),[bA x0,bA x1])])/\
 (tB ((dint (x2.getD 0 D0))==10)=false->
 (tB ((dint (x2.getD 0 D0))==4)=true->
 R (.ret (A.tup [])) [((Ref.up q0),[bA x0,bA x1])])/\
 (tB ((dint (x2.getD 0 D0))==4)=false->
 (tB ((dint (x2.getD 0 D0))==11)=true->
 R (.ret (A.tup [])) [((Ref.up q0),[bA x0,bA x1])])/\
 (tB ((dint (x2.getD 0 D0))==11)=false->
 (tB ((dint (x2.getD 0 D0))==8)=true->
 isK .str (x2.getD 1 D0)=true/\
 ∀_:Nat->Nat,∃R',HT 132 [A.d (D.lit (Zco (dstr (x2.getD 1 D0)))),(A.d (D.lit (Zco ([110,117,108,108,32,98,111,111,108,32,105,110,116,32,110,117,109,98,101,114,32,115,116,114,105,110,103]:List UInt8))))] [] R'/\
 (∀v H',R' (.ret v) H'-> ∃x3:Bool,v=bA x3/\H'=[]/\
 ∀_:Nat->Nat,∃R',HT 47 [A.ptr (.up (Ref.up q0)) 0,A.d (D.slc [[D.lit (.bool x3)]])] [(Ref.up (Ref.up q0),[bA x0,bA x1])] R'/\
 (∀v H',R' (.ret v) H'-> ∃x4:Bool,∃x5:Bool,v=A.tup []/\H'=[(Ref.up (Ref.up q0),[bA x4,bA x5])]/\
 R (.ret (A.tup [])) [((Ref.up q0),[bA x4,bA x5])])/\
 (∀x4v H',R' (.pan x4v) H'-> ∃x5:Bool,∃x6:Bool,H'=[(Ref.up (Ref.up q0),[bA x5,bA x6])]/\
 R (.pan x4v) [((Ref.up q0),[bA x5,bA x6])]))/\
 (∀x3v H',R' (.pan x3v) H'->H'=[]/\
 R (.pan x3v) [((Ref.up q0),[bA x0,bA x1])]))/\
 (tB ((dint (x2.getD 0 D0))==8)=false->
 (tB ((dint (x2.getD 0 D0))==9)=true->
 isK .str (x2.getD 1 D0)=true/\
 ∀_:Nat->Nat,∃R',HT 132 [A.d (D.lit (Zco (dstr (x2.getD 1 D0)))),(A.d (D.lit (Zco ([60,32,60,61,32,62,32,62,61,32,33,61,32,61,126,32,33,126]:List UInt8))))] [] R'/\
 (∀v H',R' (.ret v) H'-> ∃x3:Bool,v=bA x3/\H'=[]/\
 ∀_:Nat->Nat,∃R',HT 47 [A.ptr (.up (Ref.up q0)) 0,A.d (D.slc [[D.lit (.bool x3)]])] [(Ref.up (Ref.up q0),[bA x0,bA x1])] R'/\
 (∀v H',R' (.ret v) H'-> ∃x4:Bool,∃x5:Bool,v=A.tup []/\H'=[(Ref.up (Ref.up q0),[bA x4,bA x5])]/\
 R (.ret (A.tup [])) [((Ref.up q0),[bA x4,bA x5])])/\
 (∀x4v H',R' (.pan x4v) H'-> ∃x5:Bool,∃x6:Bool,H'=[(Ref.up (Ref.up q0),[bA x5,bA x6])]/\
 R (.pan x4v) [((Ref.up q0),[bA x5,bA x6])]))/\
 (∀x3v H',R' (.pan x3v) H'->H'=[]/\
 R (.pan x3v) [((Ref.up q0),[bA x0,bA x1])]))/\
 (tB ((dint (x2.getD 0 D0))==9)=false->
 (tB ((dint (x2.getD 0 D0))==19)=true->
 isK .str (x2.getD 1 D0)=true/\
 ∀_:Nat->Nat,∃R',HT 132 [A.d (D.lit (Zco (dstr (x2.getD 1 D0)))),(A.d (D.lit (Zco ([45,32,33]:List UInt8))))] [] R'/\
 (∀v H',R' (.ret v) H'-> ∃x3:Bool,v=bA x3/\H'=[]/\
 ∀_:Nat->Nat,∃R',HT 47 [A.ptr (.up (Ref.up q0)) 0,A.d (D.slc [[D.lit (.bool x3)]])] [(Ref.up (Ref.up q0),[bA x0,bA x1])] R'/\
 (∀v H',R' (.ret v) H'-> ∃x4:Bool,∃x5:Bool,v=A.tup []/\H'=[(Ref.up (Ref.up q0),[bA x4,bA x5])]/\
 R (.ret (A.tup [])) [((Ref.up q0),[bA x4,bA x5])])/\
 (∀x4v H',R' (.pan x4v) H'-> ∃x5:Bool,∃x6:Bool,H'=[(Ref.up (Ref.up q0),[bA x5,bA x6])]/\
 R (.pan x4v) [((Ref.up q0),[bA x5,bA x6])]))/\
 (∀x3v H',R' (.pan x3v) H'->H'=[]/\
 R (.pan x3v) [((Ref.up q0),[bA x0,bA x1])]))/\
 (tB ((dint (x2.getD 0 D0))==19)=false->
 (tB ((dint (x2.getD 0 D0))==20)=true->
 isK .str (x2.getD 1 D0)=true/\
 ∀_:Nat->Nat,∃R',HT 132 [A.d (D.lit (Zco (dstr (x2.getD 1 D0)))),(A.d (D.lit (Zco ([43,32,45,32,42,32,47,32,37,32,61,61,32,33,61,32,60,32,60,61,32,62,32,62,61,32,38,38,32,124,124]:List UInt8))))] [] R'/\
 (∀v H',R' (.ret v) H'-> ∃x3:Bool,v=bA x3/\H'=[]/\
 ∀_:Nat->Nat,∃R',HT 47 [A.ptr (.up (Ref.up q0)) 0,A.d (D.slc [[D.lit (.bool x3)]])] [(Ref.up (Ref.up q0),[bA x0,bA x1])] R'/\
 (∀v H',R' (.ret v) H'-> ∃x4:Bool,∃x5:Bool,v=A.tup []/\H'=[(Ref.up (Ref.up q0),[bA x4,bA x5])]/\
 R (.ret (A.tup [])) [((Ref.up q0),[bA x4,bA x5])])/\
 (∀x4v H',R' (.pan x4v) H'-> ∃x5:Bool,∃x6:Bool,H'=[(Ref.up (Ref.up q0),[bA x5,bA x6])]/\
 R (.pan x4v) [((Ref.up q0),[bA x5,bA x6])]))/\
 (∀x3v H',R' (.pan x3v) H'->H'=[]/\
 R (.pan x3v) [((Ref.up q0),[bA x0,bA x1])]))/\
 (tB ((dint (x2.getD 0 D0))==20)=false->
 (tB ((dint (x2.getD 0 D0))==21)=true->
 isK .str (x2.getD 1 D0)=true/\
 ∀_:Nat->Nat,∃R',HT 48 [A.d (D.lit (Zco (dstr (x2.getD 1 D0))))] [] R'/\
 (∀v H',R' (.ret v) H'-> ∃x3:Bool,v=bA x3/\H'=[]/\
 ∀_:Nat->Nat,∃R',HT 47 [A.ptr (.up (Ref.up q0)) 0,A.d (D.slc [[D.lit (.bool x3)]])] [(Ref.up (Ref.up q0),[bA x0,bA x1])] R'/\
 (∀v H',R' (.ret v) H'-> ∃x4:Bool,∃x5:Bool,v=A.tup []/\H'=[(Ref.up (Ref.up q0),[bA x4,bA x5])]/\
 R (.ret (A.tup [])) [((Ref.up q0),[bA x4,bA x5])])/\
 (∀x4v H',R' (.pan x4v) H'-> ∃x5:Bool,∃x6:Bool,H'=[(Ref.up (Ref.up q0),[bA x5,bA x6])]/\
 R (.pan x4v) [((Ref.up q0),[bA x5,bA x6])]))/\
 (∀x3v H',R' (.pan x3v) H'->H'=[]/\
 R (.pan x3v) [((Ref.up q0),[bA x0,bA x1])]))/\
 (tB ((dint (x2.getD 0 D0))==21)=false->
 isK .str (x2.getD 1 D0)=true/\
 ∀_:Nat->Nat,∃R',HT 47 [A.ptr (.up (Ref.up q0)) 0,(A.d (D.slc [[(D.lit (.bool (tB ((dstr (x2.getD 1 D0))==([]:List UInt8)))))]]))] [(Ref.up (Ref.up q0),[bA x0,bA x1])] R'/\
 (∀v H',R' (.ret v) H'-> ∃x3:Bool,∃x4:Bool,v=A.tup []/\H'=[(Ref.up (Ref.up q0),[bA x3,bA x4])]/\
 R (.ret (A.tup [])) [((Ref.up q0),[bA x3,bA x4])])/\
 (∀x3v H',R' (.pan x3v) H'-> ∃x4:Bool,∃x5:Bool,H'=[(Ref.up (Ref.up q0),[bA x4,bA x5])]/\
 R (.pan x3v) [((Ref.up q0),[bA x4,bA x5])])))))))))):
 HT 118 [A.ptr (Ref.up q0) 0,A.agg x2] [((Ref.up q0),[bA x0,bA x1])] R:=
 walk (c:=⟨Tryz.prog,56,true,[0,1,3,5,12,16,24,32,40,48]⟩) (op:={}) (fn:=Tryz.f118) (args:=[.ptr (.up 0) 0,.agg (.var 2)]) (K:=[(.up 0,[.c (.o1 .cb (.o1 .tb (.var 0))),.c (.o1 .cb (.o1 .tb (.var 1)))])]) (nv:=3) (depth:=6) (up:=upOf [q0]) (ρ:=Zwa [.b x0,.b x1,.r x2])
  rfl rfl rfl rfl rfl (by decide) (by decide) (by decide) (by decide) rfl (by simp[Zab,RRef.den,upOf]) (T_of (by kernel_rfl) h)
theorem w119{R:RT}(x0:Bool)(x1:Bool)(x2:List D)(q0:Ref)(h:tB ((x2.length:Int)==9)=true/\
 isK .str (x2.getD 1 D0)=true/\
 ∀_:Nat->Nat,∃R',HT 48 [A.d (D.lit (Zco (dstr (x2.getD 1 D0))))] [] R'/\
 (∀v H',R' (.ret v) H'-> ∃x3:Bool,v=bA x3/\H'=[]/\
 ∀_:Nat->Nat,∃R',HT 47 [A.ptr (.up (Ref.up q0)) 0,A.d (D.slc [[D.lit (.bool x3)]])] [(Ref.up (Ref.up q0),[bA x0,bA x1])] R'/\
 (∀v H',R' (.ret v) H'-> ∃x4:Bool,∃x5:Bool,v=A.tup []/\H'=[(Ref.up (Ref.up q0),[bA x4,bA x5])]/\
 isK .str (x2.getD 3 D0)=true/\
 (tB ((dstr (x2.getD 3 D0))==([]:List UInt8))=true->
 ∃x6:Bool,(∀_:Nat->Nat,HT 114 [A.agg [x2.getD 3 D0,x2.getD 4 D0]] [] (Zpq [] (bA x6)))/\
 isK (.int .i64) (x2.getD 2 D0)=true/\
 isK .slc (x2.getD 5 D0)=true/\
 ∀_:Nat->Nat,∃R',HT 47 [A.ptr (.up (Ref.up q0)) 0,(A.d (D.slc [[D.lit (.bool x6)],[D.lit (.bool (tB ((dint (x2.getD 2 D0))==0)))],[(D.lit (.bool (tB (((dlst (x2.getD 5 D0)).length:Int)==0))))]]))] [(Ref.up (Ref.up q0),[bA x4,bA x5])] R'/\
 (∀v H',R' (.ret v) H'-> ∃x7:Bool,∃x8:Bool,v=A.tup []/\H'=[(Ref.up (Ref.up q0),[bA x7,bA x8])]/\
 R (.ret (A.tup [])) [((Ref.up q0),[bA x7,bA x8])])/\
 (∀x7v H',R' (.pan x7v) H'-> ∃x8:Bool,∃x9:Bool,H'=[(Ref.up (Ref.up q0),[bA x8,bA x9])]/\
 R (.pan x7v) [((Ref.up q0),[bA x8,bA x9])]))/\
 (tB ((dstr (x2.getD 3 D0))==([]:List UInt8))=false->
 (tB ((dstr (x2.getD 3 D0))==([108,101,116]:List UInt8))=true->
 isK .slc (x2.getD 5 D0)=true/\
 isK .str (x2.getD 4 D0)=true/\
 isK (.int .i64) (x2.getD 2 D0)=true/\
 ∀_:Nat->Nat,∃R',HT 47 [A.ptr (.up (Ref.up q0)) 0,(A.d (D.slc [[(D.lit (.bool (tB (((dlst (x2.getD 5 D0)).length:Int)==1))))],[(D.lit (.bool (tB ((dstr (x2.getD 4 D0))==([]:List UInt8)))))],[D.lit (.bool (tB (decide (0<=(dint (x2.getD 2 D0))))))]]))] [(Ref.up (Ref.up q0),[bA x4,bA x5])] R'/\
 (∀v H',R' (.ret v) H'-> ∃x6:Bool,∃x7:Bool,v=A.tup []/\H'=[(Ref.up (Ref.up q0),[bA x6,bA x7])]/\
 R (.ret (A.tup [])) [((Ref.up q0),[bA x6,bA x7])])/\
 (∀x6v H',R' (.pan x6v) H'-> ∃x7:Bool,∃x8:Bool,H'=[(Ref.up (Ref.up q0),[bA x7,bA x8])]/\
 R (.pan x6v) [((Ref.up q0),[bA x7,bA x8])]))/\
 (tB ((dstr (x2.getD 3 D0))==([108,101,116]:List UInt8))=false->
 (tB ((dstr (x2.getD 3 D0))==([102,105,101,108,100]:List UInt8))=true->
 isK .slc (x2.getD 5 D0)=true/\
 isK .str (x2.getD 4 D0)=true/\
 isK (.int .i64) (x2.getD 2 D0)=true/\
 ∀_:Nat->Nat,∃R',HT 47 [A.ptr (.up (Ref.up q0)) 0,(A.d (D.slc [[(D.lit (.bool (tB (((dlst (x2.getD 5 D0)).length:Int)==0))))],[(D.lit (.bool (tB ((dstr (x2.getD 4 D0))==([]:List UInt8)))))],[D.lit (.bool (tB (decide (0<=(dint (x2.getD 2 D0))))))]]))] [(Ref.up (Ref.up q0),[bA x4,bA x5])] R'/\
 (∀v H',R' (.ret v) H'-> ∃x6:Bool,∃x7:Bool,v=A.tup []/\H'=[(Ref.up (Ref.up q0),[bA x6,bA x7])]/\
 R (.ret (A.tup [])) [((Ref.up q0),[bA x6,bA x7])])/\
 (∀x6v H',R' (.pan x6v) H'-> ∃x7:Bool,∃x8:Bool,H'=[(Ref.up (Ref.up q0),[bA x7,bA x8])]/\
 R (.pan x6v) [((Ref.up q0),[bA x7,bA x8])]))/\
 (tB ((dstr (x2.getD 3 D0))==([102,105,101,108,100]:List UInt8))=false->
 (tB ((dstr (x2.getD 3 D0))==([108,111,111,112]:List UInt8))=true->
 isK .slc (x2.getD 5 D0)=true/\
 isK .str (x2.getD 4 D0)=true/\
 isK (.int .i64) (x2.getD 2 D0)=true/\
 ∀_:Nat->Nat,∃R',HT 47 [A.ptr (.up (Ref.up q0)) 0,(A.d (D.slc [[(D.lit (.bool (tB (((dlst (x2.getD 5 D0)).length:Int)==0))))],[(D.lit (.bool (tB ((dstr (x2.getD 4 D0))==([]:List UInt8)))))],[D.lit (.bool (tB (decide (0<=(dint (x2.getD 2 D0))))))]]))] [(Ref.up (Ref.up q0),[bA x4,bA x5])] R'/\
 (∀v H',R' (.ret v) H'-> ∃x6:Bool,∃x7:Bool,v=A.tup []/\H'=[(Ref.up (Ref.up q0),[bA x6,bA x7])]/\
 R (.ret (A.tup [])) [((Ref.up q0),[bA x6,bA x7])])/\
 (∀x6v H',R' (.pan x6v) H'-> ∃x7:Bool,∃x8:Bool,H'=[(Ref.up (Ref.up q0),[bA x7,bA x8])]/\
 R (.pan x6v) [((Ref.up q0),[bA x7,bA x8])]))/\
 (tB ((dstr (x2.getD 3 D0))==([108,111,111,112]:List UInt8))=false->
 (tB ((dstr (x2.getD 3 D0))==([112,97,99,107,97,103,101]:List UInt8))=true->
 isK .slc (x2.getD 5 D0)=true/\
 isK .str (x2.getD 4 D0)=true/\
 isK (.int .i64) (x2.getD 2 D0)=true/\
 ∀_:Nat->Nat,∃R',HT 47 [A.ptr (.up (Ref.up q0)) 0,(A.d (D.slc [[(D.lit (.bool (tB (((dlst (x2.getD 5 D0)).length:Int)==0))))],[(D.lit (.bool (tB ((dstr (x2.getD 4 D0))==([]:List UInt8)))))],[D.lit (.bool (tB (decide (0<=(dint (x2.getD 2 D0))))))]]))] [(Ref.up (Ref.up q0),[bA x4,bA x5])] R'/\
 (∀v H',R' (.ret v) H'-> ∃x6:Bool,∃x7:Bool,v=A.tup []/\H'=[(Ref.up (Ref.up q0),[bA x6,bA x7])]/\
 R (.ret (A.tup [])) [((Ref.up q0),[bA x6,bA x7])])/\
 (∀x6v H',R' (.pan x6v) H'-> ∃x7:Bool,∃x8:Bool,H'=[(Ref.up (Ref.up q0),[bA x7,bA x8])]/\
 R (.pan x6v) [((Ref.up q0),[bA x7,bA x8])]))/\
 (tB ((dstr (x2.getD 3 D0))==([112,97,99,107,97,103,101]:List UInt8))=false->
 (tB ((dstr (x2.getD 3 D0))==([117,110,107,110,111,119,110]:List UInt8))=true->
 isK .slc (x2.getD 5 D0)=true/\
 isK .str (x2.getD 4 D0)=true/\
 isK (.int .i64) (x2.getD 2 D0)=true/\
 ∀_:Nat->Nat,∃R',HT 47 [A.ptr (.up (Ref.up q0)) 0,(A.d (D.slc [[(D.lit (.bool (tB (((dlst (x2.getD 5 D0)).length:Int)==0))))],[(D.lit (.bool (tB ((dstr (x2.getD 4 D0))==([]:List UInt8)))))],[D.lit (.bool (tB (decide (0<=(dint (x2.getD 2 D0))))))]]))] [(Ref.up (Ref.up q0),[bA x4,bA x5])] R'/\
 (∀v H',R' (.ret v) H'-> ∃x6:Bool,∃x7:Bool,v=A.tup []/\H'=[(Ref.up (Ref.up q0),[bA x6,bA x7])]/\
 R (.ret (A.tup [])) [((Ref.up q0),[bA x6,bA x7])])/\
 (∀x6v H',R' (.pan x6v) H'-> ∃x7:Bool,∃x8:Bool,H'=[(Ref.up (Ref.up q0),[bA x7,bA x8])]/\
 R (.pan x6v) [((Ref.up q0),[bA x7,bA x8])]))/\
 (tB ((dstr (x2.getD 3 D0))==([117,110,107,110,111,119,110]:List UInt8))=false->
 ∀_:Nat->Nat,∃R',HT 47 [A.ptr (.up (Ref.up q0)) 0,A.d (D.slc [[D.lit (.bool false)]])] [(Ref.up (Ref.up q0),[bA x4,bA x5])] R'/\
 (∀v H',R' (.ret v) H'-> ∃x6:Bool,∃x7:Bool,v=A.tup []/\H'=[(Ref.up (Ref.up q0),[bA x6,bA x7])]/\
 R (.ret (A.tup [])) [((Ref.up q0),[bA x6,bA x7])])/\
 (∀x6v H',R' (.pan x6v) H'-> ∃x7:Bool,∃x8:Bool,H'=[(Ref.up (Ref.up q0),[bA x7,bA x8])]/\
 R (.pan x6v) [((Ref.up q0),[bA x7,bA x8])]))))))))/\
 (∀x4v H',R' (.pan x4v) H'-> ∃x5:Bool,∃x6:Bool,H'=[(Ref.up (Ref.up q0),[bA x5,bA x6])]/\
 R (.pan x4v) [((Ref.up q0),[bA x5,bA x6])]))/\
 (∀x3v H',R' (.pan x3v) H'->H'=[]/\
 R (.pan x3v) [((Ref.up q0),[bA x0,bA x1])])):
 HT 119 [A.ptr (Ref.up q0) 0,A.agg x2] [((Ref.up q0),[bA x0,bA x1])] R:=
 walk (c:=⟨Tryz.prog,66,true,[0,1,3,12,16,31,47]⟩) (op:={}) (fn:=Tryz.f119) (args:=[.ptr (.up 0) 0,.agg (.var 2)]) (K:=[(.up 0,[.c (.o1 .cb (.o1 .tb (.var 0))),.c (.o1 .cb (.o1 .tb (.var 1)))])]) (nv:=3) (depth:=7) (up:=upOf [q0]) (ρ:=Zwa [.b x0,.b x1,.r x2])
  rfl rfl rfl rfl rfl (by decide) (by decide) (by decide) (by decide) rfl (by simp[Zab,RRef.den,upOf]) (T_of (by kernel_rfl) h)
theorem w132{R:RT}(x0:List UInt8)(x1:List UInt8)(h:((!(tB (x0==([]:List UInt8))))=true->
 ∀_:Nat->Nat,∃R',HT 145 [A.d (D.lit (Zco x1)),(A.d (D.lit (Zco ([32]:List UInt8))))] [] R'/\
 (∀v H',R' (.ret v) H'-> ∃x2:List (List D),v=A.d (D.slc x2)/\H'=[]/\
 ∀_:Nat->Nat,∃R',HT 71 [A.d (D.slc x2),A.d (D.lit (Zco x0))] [] R'/\
 (∀v H',R' (.ret v) H'-> ∃x3:Bool,v=bA x3/\H'=[]/\
 R (.ret (bA x3)) [])/\
 PN R R')/\
 PN R R')/\
 ((!(tB (x0==([]:List UInt8))))=false->
 R (.ret (bA false)) [])):
 HT 132 [A.d (D.lit (Zco x0)),A.d (D.lit (Zco x1))] [] R:=
 walk (c:=⟨Tryz.prog,13,true,[0,1,4]⟩) (op:={}) (fn:=Tryz.f132) (args:=[.c (.o1 .cs (.var 0)),.c (.o1 .cs (.var 1))]) (K:=[]) (nv:=2) (depth:=4) (up:=upOf []) (ρ:=Zwa [.s x0,.s x1])
  rfl rfl rfl rfl rfl (by decide) (by decide) (by decide) (by decide) rfl (by simp[Zab,RRef.den,upOf]) (T_of (by kernel_rfl) h)
theorem w48{R:RT}(x0:List UInt8)(h:((!(tB (decide (32<(x0.length:Int)))))=true->
 ∀_:Nat->Nat,∃R',HT 71 [(A.d (D.slc [[(D.lit (Zco ([110,117,108,108]:List UInt8)))],[(D.lit (Zco ([116,114,117,101]:List UInt8)))],[(D.lit (Zco ([102,97,108,115,101]:List UInt8)))],[(D.lit (Zco ([98,111,111,108]:List UInt8)))],[(D.lit (Zco ([105,110,116]:List UInt8)))],[(D.lit (Zco ([110,117,109,98,101,114]:List UInt8)))],[(D.lit (Zco ([115,116,114,105,110,103]:List UInt8)))],[(D.lit (Zco ([108,101,116]:List UInt8)))],[(D.lit (Zco ([105,102]:List UInt8)))],[(D.lit (Zco ([102,111,114]:List UInt8)))],[(D.lit (Zco ([105,110]:List UInt8)))],[(D.lit (Zco ([112,97,99,107,97,103,101]:List UInt8)))],[(D.lit (Zco ([105,109,112,111,114,116]:List UInt8)))]])),A.d (D.lit (Zco x0))] [] R'/\
 (∀v H',R' (.ret v) H'-> ∃x1:Bool,v=bA x1/\H'=[]/\
 (x1=true->
 R (.ret (bA false)) [])/\
 (x1=false->
 ((!(tB (decide (0<(x0.length:Int)))))||(tB (decide (0<(x0.length:Int)))))=true/\
 ((!((tB (decide (0<(x0.length:Int))))&&(!(tB ((Zwc x0 0)==35)))))||(tB (decide (0<(x0.length:Int)))))=true/\
 (((tB (decide (0<(x0.length:Int))))&&((tB ((Zwc x0 0)==35))||(tB ((Zwc x0 0)==95))))=true->
 tB (decide (1<=(x0.length:Int)))=true/\
 tB (decide ((x0.length:Int)<=(x0.length:Int)))=true/\
 ((tB (((gSub x0 1 (x0.length:Int)).length:Int)==0))||(tB (decide (0<((gSub x0 1 (x0.length:Int)).length:Int)))))=true/\
 ((!(tB (((gSub x0 1 (x0.length:Int)).length:Int)==0)))=true->
 ∀_:Nat->Nat,∃R',HT 93 [(A.d (D.lit (.int .u8 (Zwc (gSub x0 1 (x0.length:Int)) 0))))] [] R'/\
 (∀v H',R' (.ret v) H'-> ∃x2:Bool,v=bA x2/\H'=[]/\
 ((!x2)=true->
 R (.ret (bA false)) [])/\
 ((!x2)=false->
 ∃(I0_0:Int->Prop)(M0_0:Int->Nat),I0_0 0/\
 (∀(x3:Int),I0_0 x3->
 (tB (decide (x3<((gSub x0 1 (x0.length:Int)).length:Int)))=true->
 tB (decide (0<=x3))=true/\
 ∀_:Nat->Nat,∃R',HT 93 [(A.d (D.lit (.int .u8 (Zwc (gSub x0 1 (x0.length:Int)) x3))))] [] R'/\
 (∀v H',R' (.ret v) H'-> ∃x4:Bool,v=bA x4/\H'=[]/\
 ((((!x4)&&(!(tB ((Zwc (gSub x0 1 (x0.length:Int)) x3)==95))))&&((tB (decide ((Zwc (gSub x0 1 (x0.length:Int)) x3)<48)))||(tB (decide (57<(Zwc (gSub x0 1 (x0.length:Int)) x3))))))=true->
 R (.ret (bA false)) [])/\
 ((((!x4)&&(!(tB ((Zwc (gSub x0 1 (x0.length:Int)) x3)==95))))&&((tB (decide ((Zwc (gSub x0 1 (x0.length:Int)) x3)<48)))||(tB (decide (57<(Zwc (gSub x0 1 (x0.length:Int)) x3))))))=false->
 oV (x3+1) (I0_0 (x3+1)/\M0_0 (x3+1)<M0_0 x3)))/\
 PN R R')/\
 (tB (decide (x3<((gSub x0 1 (x0.length:Int)).length:Int)))=false->
 R (.ret (bA true)) []))/\
 True))/\
 PN R R')/\
 ((!(tB (((gSub x0 1 (x0.length:Int)).length:Int)==0)))=false->
 R (.ret (bA false)) []))/\
 (((tB (decide (0<(x0.length:Int))))&&((tB ((Zwc x0 0)==35))||(tB ((Zwc x0 0)==95))))=false->
 ((tB ((x0.length:Int)==0))||(tB (decide (0<(x0.length:Int)))))=true/\
 ((!(tB ((x0.length:Int)==0)))=true->
 ∀_:Nat->Nat,∃R',HT 93 [A.d (D.lit (.int .u8 (Zwc x0 0)))] [] R'/\
 (∀v H',R' (.ret v) H'-> ∃x2:Bool,v=bA x2/\H'=[]/\
 ((!x2)=true->
 R (.ret (bA false)) [])/\
 ((!x2)=false->
 ∃(I0_0:Int->Prop)(M0_0:Int->Nat),I0_0 0/\
 (∀(x3:Int),I0_0 x3->
 (tB (decide (x3<(x0.length:Int)))=true->
 tB (decide (0<=x3))=true/\
 ∀_:Nat->Nat,∃R',HT 93 [A.d (D.lit (.int .u8 (Zwc x0 x3)))] [] R'/\
 (∀v H',R' (.ret v) H'-> ∃x4:Bool,v=bA x4/\H'=[]/\
 ((((!x4)&&(!(tB ((Zwc x0 x3)==95))))&&((tB (decide ((Zwc x0 x3)<48)))||(tB (decide (57<(Zwc x0 x3))))))=true->
 R (.ret (bA false)) [])/\
 ((((!x4)&&(!(tB ((Zwc x0 x3)==95))))&&((tB (decide ((Zwc x0 x3)<48)))||(tB (decide (57<(Zwc x0 x3))))))=false->
 oV (x3+1) (I0_0 (x3+1)/\M0_0 (x3+1)<M0_0 x3)))/\
 PN R R')/\
 (tB (decide (x3<(x0.length:Int)))=false->
 R (.ret (bA true)) []))/\
 True))/\
 PN R R')/\
 ((!(tB ((x0.length:Int)==0)))=false->
 R (.ret (bA false)) []))))/\
 PN R R')/\
 ((!(tB (decide (32<(x0.length:Int)))))=false->
 R (.ret (bA false)) [])):
 HT 48 [A.d (D.lit (Zco x0))] [] R:=
 walk (c:=⟨Tryz.prog,67,true,[0,2,3,4,13,26,37,39,40,41,65]⟩) (op:={com:=[(13,(41,5000)),(13,(4,5000)),(13,(65,5000)),(13,(2,5000))]}) (fn:=Tryz.f48) (args:=[.c (.o1 .cs (.var 0))]) (K:=[]) (nv:=1) (depth:=7) (up:=upOf []) (ρ:=Zwa [.s x0])
  rfl rfl rfl rfl rfl (by decide) (by decide) (by decide) (by decide) rfl (by simp[Zab,RRef.den,upOf]) (T_of (by kernel_rfl) h)
theorem w93{R:RT}(x0:Int)(h:R (.ret (bA (((tB (decide (97<=x0)))&&(tB (decide (x0<=122))))||((tB (decide (65<=x0)))&&(tB (decide (x0<=90))))))) []):
 HT 93 [A.d (D.lit (.int .u8 x0))] [] R:=
 walk (c:=⟨Tryz.prog,17,true,[0,2]⟩) (op:={}) (fn:=Tryz.f93) (args:=[.c (.o1 (.ci .u8) (.var 0))]) (K:=[]) (nv:=1) (depth:=5) (up:=upOf []) (ρ:=Zwa [.i x0])
  rfl rfl rfl rfl rfl (by decide) (by decide) (by decide) (by decide) rfl (by simp[Zab,RRef.den,upOf]) (T_of (by kernel_rfl) h)
theorem w92{R:RT}(x0:List (List D))(x1:Bool)(h:∀_:Nat->Nat,∃R',HT 109 [A.d (D.slc x0),bA x1] [] R'/\
 (∀v H',R' (.ret v) H'-> ∃x2:Int,v=iA x2/\H'=[]/\
 R (.ret (bA (tB (decide (0<=x2))))) [])/\
 PN R R'):
 HT 92 [A.d (D.slc x0),bA x1] [] R:=
 walk (c:=⟨Tryz.prog,9,true,[0,1,4]⟩) (op:={}) (fn:=Tryz.f92) (args:=[.c (.o1 .cl (.var 0)),.c (.o1 .cb (.o1 .tb (.var 1)))]) (K:=[]) (nv:=2) (depth:=4) (up:=upOf []) (ρ:=Zwa [.l x0,.b x1])
  rfl rfl rfl rfl rfl (by decide) (by decide) (by decide) (by decide) rfl (by simp[Zab,RRef.den,upOf]) (T_of (by kernel_rfl) h)
theorem w109{R:RT}(x0:List (List D))(x1:Bool)(h:∃(I0_0:Int->Prop)(M0_0:Int->Nat),I0_0 0/\
 (∀(x2:Int),I0_0 x2->
 (tB (decide (x2<(x0.length:Int)))=true->
 tB (decide (0<=x2))=true/\
 tB (((gAt x0 x2).length:Int)==1)=true/\
 isK .bool ((gAt x0 x2).getD 0 D0)=true/\
 ((x1==(dbool ((gAt x0 x2).getD 0 D0)))=true->
 R (.ret (iA x2)) [])/\
 ((x1==(dbool ((gAt x0 x2).getD 0 D0)))=false->
 oV (x2+1) (I0_0 (x2+1)/\M0_0 (x2+1)<M0_0 x2)))/\
 (tB (decide (x2<(x0.length:Int)))=false->
 R (.ret (iA (-1))) []))/\
 True):
 HT 109 [A.d (D.slc x0),bA x1] [] R:=
 walk (c:=⟨Tryz.prog,19,true,[0,1,4,5,7,8,9,16]⟩) (op:={com:=[(6,(9,5000)),(6,(5,5000)),(6,(16,5000)),(6,(4,5000))]}) (fn:=Tryz.f109) (args:=[.c (.o1 .cl (.var 0)),.c (.o1 .cb (.o1 .tb (.var 1)))]) (K:=[]) (nv:=2) (depth:=5) (up:=upOf []) (ρ:=Zwa [.l x0,.b x1])
  rfl rfl rfl rfl rfl (by decide) (by decide) (by decide) (by decide) rfl (by simp[Zab,RRef.den,upOf]) (T_of (by kernel_rfl) h)
theorem w94{R:RT}(x0:List (List D))(h:∀_:Nat->Nat,∃R',HT 110 [A.d (D.slc x0),A.fn 95 []] [] R'/\
 (∀v H',R' (.ret v) H'-> ∃x1:Int,v=iA x1/\H'=[]/\
 R (.ret (bA (tB (decide (0<=x1))))) [])/\
 PN R R'):
 HT 94 [A.d (D.slc x0),A.fn 95 []] [] R:=
 walk (c:=⟨Tryz.prog,9,true,[0,1,4]⟩) (op:={}) (fn:=Tryz.f94) (args:=[.c (.o1 .cl (.var 0)),.fn 95 []]) (K:=[]) (nv:=1) (depth:=4) (up:=upOf []) (ρ:=Zwa [.l x0])
  rfl rfl rfl rfl rfl (by decide) (by decide) (by decide) (by decide) rfl (by simp[Zab,RRef.den,upOf]) (T_of (by kernel_rfl) h)
theorem w110{R:RT}(x0:List (List D))(h:∃(I0_0:Int->Prop)(M0_0:Int->Nat),I0_0 0/\
 (∀(x1:Int),I0_0 x1->
 (tB (decide (x1<(x0.length:Int)))=true->
 tB (decide (0<=x1))=true/\
 tB (((gAt x0 x1).length:Int)==1)=true/\
 isK .str ((gAt x0 x1).getD 0 D0)=true/\
 ∀_:Nat->Nat,∃R',HT 95 [A.d (D.lit (Zco (dstr ((gAt x0 x1).getD 0 D0))))] [] R'/\
 (∀v H',R' (.ret v) H'-> ∃x2:Bool,v=bA x2/\H'=[]/\
 (x2=true->
 R (.ret (iA x1)) [])/\
 (x2=false->
 oV (x1+1) (I0_0 (x1+1)/\M0_0 (x1+1)<M0_0 x1)))/\
 PN R R')/\
 (tB (decide (x1<(x0.length:Int)))=false->
 R (.ret (iA (-1))) []))/\
 True):
 HT 110 [A.d (D.slc x0),A.fn 95 []] [] R:=
 walk (c:=⟨Tryz.prog,19,true,[0,1,4,5,7,8,9,16]⟩) (op:={com:=[(6,(9,5000)),(6,(5,5000)),(6,(16,5000)),(6,(4,5000))]}) (fn:=Tryz.f110) (args:=[.c (.o1 .cl (.var 0)),.fn 95 []]) (K:=[]) (nv:=1) (depth:=5) (up:=upOf []) (ρ:=Zwa [.l x0])
  rfl rfl rfl rfl rfl (by decide) (by decide) (by decide) (by decide) rfl (by simp[Zab,RRef.den,upOf]) (T_of (by kernel_rfl) h)
theorem w95{R:RT}(x0:List UInt8)(h:∀_:Nat->Nat,∃R',HT 96 [A.d (D.lit (Zco x0)),(A.d (D.lit (Zco ([10]:List UInt8))))] [] R'/\
 (∀v H',R' (.ret v) H'-> ∃x1:Bool,v=bA x1/\H'=[]/\
 R (.ret (bA x1)) [])/\
 PN R R'):
 HT 95 [A.d (D.lit (Zco x0))] [] R:=
 walk (c:=⟨Tryz.prog,5,true,[0,2]⟩) (op:={}) (fn:=Tryz.f95) (args:=[.c (.o1 .cs (.var 0))]) (K:=[]) (nv:=1) (depth:=3) (up:=upOf []) (ρ:=Zwa [.s x0])
  rfl rfl rfl rfl rfl (by decide) (by decide) (by decide) (by decide) rfl (by simp[Zab,RRef.den,upOf]) (T_of (by kernel_rfl) h)
theorem w96{R:RT}(x0:List UInt8)(x1:List UInt8)(h:∀_:Nat->Nat,∃R',HT 111 [A.d (D.lit (Zco x0)),A.d (D.lit (Zco x1))] [] R'/\
 (∀v H',R' (.ret v) H'-> ∃x2:Int,v=iA x2/\H'=[]/\
 R (.ret (bA (tB (decide (0<=x2))))) [])/\
 PN R R'):
 HT 96 [A.d (D.lit (Zco x0)),A.d (D.lit (Zco x1))] [] R:=
 walk (c:=⟨Tryz.prog,9,true,[0,1,4]⟩) (op:={}) (fn:=Tryz.f96) (args:=[.c (.o1 .cs (.var 0)),.c (.o1 .cs (.var 1))]) (K:=[]) (nv:=2) (depth:=4) (up:=upOf []) (ρ:=Zwa [.s x0,.s x1])
  rfl rfl rfl rfl rfl (by decide) (by decide) (by decide) (by decide) rfl (by simp[Zab,RRef.den,upOf]) (T_of (by kernel_rfl) h)
theorem w120{R:RT}(x0:Int)(h:R (.ret (bA ((tB (decide ((-1000000000000000)<=x0)))&&(tB (decide (x0<=1000000000000000)))))) []):
 HT 120 [iA x0] [] R:=
 walk (c:=⟨Tryz.prog,9,true,[0,2]⟩) (op:={}) (fn:=Tryz.f120) (args:=[.c (.o1 (.ci .i64) (.var 0))]) (K:=[]) (nv:=1) (depth:=4) (up:=upOf []) (ρ:=Zwa [.i x0])
  rfl rfl rfl rfl rfl (by decide) (by decide) (by decide) (by decide) rfl (by simp[Zab,RRef.den,upOf]) (T_of (by kernel_rfl) h)
end Go.Sy
end
section
open Go Go.Proofs Go.Ab Go.Rf
set_option maxRecDepth 1000000
set_option maxHeartbeats 2000000
set_option linter.unusedVariables false
namespace Go.Sy
theorem Ykv{R:RT}(x0:List UInt8)(h:∀_:Nat->Nat,∃R',HT 125 [A.d (D.lit (Zco x0)),(A.d (D.lit (Zco ([10]:List UInt8))))] [] R'/\
 (∀v H',R' (.ret v) H'-> ∃x1:Int,v=iA x1/\H'=[]/\
 R (.ret (iA x1)) [])/\
 PN R R'):
 HT 111 [A.d (D.lit (Zco x0)),(A.d (D.lit (Zco ([10]:List UInt8))))] [] R:=
 walk (c:=⟨Tryz.prog,8,true,[0,1,4]⟩) (op:={}) (fn:=Tryz.f111) (args:=[.c (.o1 .cs (.var 0)),.c (.o1 .cs (.str [10]))]) (K:=[]) (nv:=1) (depth:=4) (up:=upOf []) (ρ:=Zwa [.s x0])
  rfl rfl rfl rfl rfl (by decide) (by decide) (by decide) (by decide) rfl (by simp[Zab,RRef.den,upOf]) (T_of (by kernel_rfl) h)
theorem Ykw{R:RT}(x0:List UInt8)(h:(tB (([10]:List UInt8)==x0)=true->
 R (.ret (iA 0)) [])/\
 (tB (([10]:List UInt8)==x0)=false->
 ∀_:Nat->Nat,∃R',HT 133 [A.d (D.lit (Zco x0)),A.d (D.lit (.int .u8 10))] [] R'/\
 (∀v H',R' (.ret v) H'-> ∃x1:Int,v=iA x1/\H'=[]/\
 R (.ret (iA x1)) [])/\
 PN R R')):
 HT 125 [A.d (D.lit (Zco x0)),(A.d (D.lit (Zco ([10]:List UInt8))))] [] R:=
 walk (c:=⟨Tryz.prog,143,true,[0,1,4,5,6,7,8,9,10,11,12,13,16,24,31,36,59,64,73,93,107,114,132,139]⟩) (op:={com:=[(15,(59,5000)),(15,(64,5000)),(15,(11,5000)),(15,(73,5000)),(15,(4,5000)),(15,(93,5000)),(15,(107,5000)),(15,(12,5000)),(15,(114,5000)),(15,(132,5000)),(15,(13,5000)),(15,(139,5000))]}) (fn:=Tryz.f125) (args:=[.c (.o1 .cs (.var 0)),.c (.o1 .cs (.str [10]))]) (K:=[]) (nv:=1) (depth:=8) (up:=upOf []) (ρ:=Zwa [.s x0])
  rfl rfl rfl rfl rfl (by decide) (by decide) (by decide) (by decide) rfl (by simp[Zab,RRef.den,upOf]) (T_of (by kernel_rfl) h)
end Go.Sy
end
section
open Go Go.Proofs Go.Ab Go.Rf
set_option maxRecDepth 1000000
set_option maxHeartbeats 2000000
set_option linter.unusedVariables false
namespace Go.Sy
theorem w20{R:RT}(x0:List D)(x1:List D)(h:tB ((x0.length:Int)==4)=true/\
 tB ((x1.length:Int)==4)=true/\
 isK .str (x0.getD 0 D0)=true/\
 isK .str (x1.getD 0 D0)=true/\
 ((!(tB ((dstr (x0.getD 0 D0))==(dstr (x1.getD 0 D0)))))||(isK .slc (x0.getD 1 D0)))=true/\
 ((!(tB ((dstr (x0.getD 0 D0))==(dstr (x1.getD 0 D0)))))||(isK .slc (x1.getD 1 D0)))=true/\
 (((!(tB ((dstr (x0.getD 0 D0))==(dstr (x1.getD 0 D0)))))||(!(tB (((dlst (x0.getD 1 D0)).length:Int)==((dlst (x1.getD 1 D0)).length:Int)))))||(isK .slc (x0.getD 3 D0)))=true/\
 (((!(tB ((dstr (x0.getD 0 D0))==(dstr (x1.getD 0 D0)))))||(!(tB (((dlst (x0.getD 1 D0)).length:Int)==((dlst (x1.getD 1 D0)).length:Int)))))||(isK .slc (x1.getD 3 D0)))=true/\
 ((!((!(tB ((dstr (x0.getD 0 D0))==(dstr (x1.getD 0 D0)))))||(!(tB (((dlst (x0.getD 1 D0)).length:Int)==((dlst (x1.getD 1 D0)).length:Int))))))=true->
 ∀_:Nat->Nat,∃R',HT 23 [A.d (D.slc (dlst (x0.getD 3 D0))),A.d (D.slc (dlst (x1.getD 3 D0)))] [] R'/\
 (∀v H',R' (.ret v) H'-> ∃x2:Bool,v=bA x2/\H'=[]/\
 ((!x2)=true->
 R (.ret (bA false)) [])/\
 ((!x2)=false->
 isK .slc (x0.getD 1 D0)=true/\
 ∃(I0_0:Int->Prop)(M0_0:Int->Nat),I0_0 0/\
 (∀(x3:Int),I0_0 x3->
 (tB (decide (x3<((dlst (x0.getD 1 D0)).length:Int)))=true->
 tB (decide (0<=x3))=true/\
 tB (((gAt (dlst (x0.getD 1 D0)) x3).length:Int)==3)=true/\
 tB (decide (0<=((gAt (dlst (x0.getD 1 D0)) x3).length:Int)))=true/\
 isK .str ((gAt (dlst (x0.getD 1 D0)) x3).getD 0 D0)=true/\
 isK .slc (x1.getD 1 D0)=true/\
 tB (decide (x3<((dlst (x1.getD 1 D0)).length:Int)))=true/\
 tB (((gAt (dlst (x1.getD 1 D0)) x3).length:Int)==3)=true/\
 tB (decide (0<=((gAt (dlst (x1.getD 1 D0)) x3).length:Int)))=true/\
 isK .str ((gAt (dlst (x1.getD 1 D0)) x3).getD 0 D0)=true/\
 ((!(tB ((dstr ((gAt (dlst (x0.getD 1 D0)) x3).getD 0 D0))==(dstr ((gAt (dlst (x1.getD 1 D0)) x3).getD 0 D0)))))||(tB (decide (1<=((gAt (dlst (x0.getD 1 D0)) x3).length:Int)))))=true/\
 ((!(tB ((dstr ((gAt (dlst (x0.getD 1 D0)) x3).getD 0 D0))==(dstr ((gAt (dlst (x1.getD 1 D0)) x3).getD 0 D0)))))||(isK .str ((gAt (dlst (x0.getD 1 D0)) x3).getD 1 D0)))=true/\
 ((!(tB ((dstr ((gAt (dlst (x0.getD 1 D0)) x3).getD 0 D0))==(dstr ((gAt (dlst (x1.getD 1 D0)) x3).getD 0 D0)))))||(tB (decide (1<=((gAt (dlst (x1.getD 1 D0)) x3).length:Int)))))=true/\
 ((!(tB ((dstr ((gAt (dlst (x0.getD 1 D0)) x3).getD 0 D0))==(dstr ((gAt (dlst (x1.getD 1 D0)) x3).getD 0 D0)))))||(isK .str ((gAt (dlst (x1.getD 1 D0)) x3).getD 1 D0)))=true/\
 (((!(tB ((dstr ((gAt (dlst (x0.getD 1 D0)) x3).getD 0 D0))==(dstr ((gAt (dlst (x1.getD 1 D0)) x3).getD 0 D0)))))||(!(tB ((dstr ((gAt (dlst (x0.getD 1 D0)) x3).getD 1 D0))==(dstr ((gAt (dlst (x1.getD 1 D0)) x3).getD 1 D0))))))=true->
 R (.ret (bA false)) [])/\
 (((!(tB ((dstr ((gAt (dlst (x0.getD 1 D0)) x3).getD 0 D0))==(dstr ((gAt (dlst (x1.getD 1 D0)) x3).getD 0 D0)))))||(!(tB ((dstr ((gAt (dlst (x0.getD 1 D0)) x3).getD 1 D0))==(dstr ((gAt (dlst (x1.getD 1 D0)) x3).getD 1 D0))))))=false->
 oV (x3+1) (I0_0 (x3+1)/\M0_0 (x3+1)<M0_0 x3)))/\
 (tB (decide (x3<((dlst (x0.getD 1 D0)).length:Int)))=false->
 isK .slc (x0.getD 2 D0)=true/\
 isK .slc (x1.getD 2 D0)=true/\
 ∀_:Nat->Nat,∃R',HT 66 [A.d (D.slc (dlst (x0.getD 2 D0))),A.d (D.slc (dlst (x1.getD 2 D0)))] [] R'/\
 (∀v H',R' (.ret v) H'-> ∃x4:Bool,v=bA x4/\H'=[]/\
 R (.ret (bA x4)) [])/\
 PN R R'))/\
 True))/\
 PN R R')/\
 ((!((!(tB ((dstr (x0.getD 0 D0))==(dstr (x1.getD 0 D0)))))||(!(tB (((dlst (x0.getD 1 D0)).length:Int)==((dlst (x1.getD 1 D0)).length:Int))))))=false->
 R (.ret (bA false)) [])):
 HT 20 [A.agg x0,A.agg x1] [] R:=
 walk (c:=⟨Tryz.prog,68,true,[0,1,2,3,4,5,27,30,31,32,61]⟩) (op:={com:=[(8,(32,5000)),(8,(5,5000)),(8,(61,5000)),(8,(4,5000))]}) (fn:=Tryz.f20) (args:=[.agg (.var 0),.agg (.var 1)]) (K:=[]) (nv:=2) (depth:=7) (up:=upOf []) (ρ:=Zwa [.r x0,.r x1])
  rfl rfl rfl rfl rfl (by decide) (by decide) (by decide) (by decide) rfl (by simp[Zab,RRef.den,upOf]) (T_of (by kernel_rfl) h)
theorem w22{R:RT}(x0:List D)(x1:List D)(h:tB ((x0.length:Int)==9)=true/\
 tB ((x1.length:Int)==9)=true/\
 isK (.int .i64) (x0.getD 0 D0)=true/\
 isK (.int .i64) (x1.getD 0 D0)=true/\
 ((!(tB ((dint (x0.getD 0 D0))==(dint (x1.getD 0 D0)))))||(isK .str (x0.getD 1 D0)))=true/\
 ((!(tB ((dint (x0.getD 0 D0))==(dint (x1.getD 0 D0)))))||(isK .str (x1.getD 1 D0)))=true/\
 (((!(tB ((dint (x0.getD 0 D0))==(dint (x1.getD 0 D0)))))||(!(tB ((dstr (x0.getD 1 D0))==(dstr (x1.getD 1 D0))))))||(isK (.int .i64) (x0.getD 2 D0)))=true/\
 (((!(tB ((dint (x0.getD 0 D0))==(dint (x1.getD 0 D0)))))||(!(tB ((dstr (x0.getD 1 D0))==(dstr (x1.getD 1 D0))))))||(isK (.int .i64) (x1.getD 2 D0)))=true/\
 ((((!(tB ((dint (x0.getD 0 D0))==(dint (x1.getD 0 D0)))))||(!(tB ((dstr (x0.getD 1 D0))==(dstr (x1.getD 1 D0))))))||(!(tB ((dint (x0.getD 2 D0))==(dint (x1.getD 2 D0))))))||(isK .str (x0.getD 3 D0)))=true/\
 ((((!(tB ((dint (x0.getD 0 D0))==(dint (x1.getD 0 D0)))))||(!(tB ((dstr (x0.getD 1 D0))==(dstr (x1.getD 1 D0))))))||(!(tB ((dint (x0.getD 2 D0))==(dint (x1.getD 2 D0))))))||(isK .str (x1.getD 3 D0)))=true/\
 ((((!(tB ((dint (x0.getD 0 D0))==(dint (x1.getD 0 D0)))))||(!(tB ((dstr (x0.getD 1 D0))==(dstr (x1.getD 1 D0))))))||(!(tB ((dint (x0.getD 2 D0))==(dint (x1.getD 2 D0))))))||(isK .str (x0.getD 4 D0)))=true/\
 ((((!(tB ((dint (x0.getD 0 D0))==(dint (x1.getD 0 D0)))))||(!(tB ((dstr (x0.getD 1 D0))==(dstr (x1.getD 1 D0))))))||(!(tB ((dint (x0.getD 2 D0))==(dint (x1.getD 2 D0))))))||(isK .str (x1.getD 4 D0)))=true/\
 (((((!(tB ((dint (x0.getD 0 D0))==(dint (x1.getD 0 D0)))))||(!(tB ((dstr (x0.getD 1 D0))==(dstr (x1.getD 1 D0))))))||(!(tB ((dint (x0.getD 2 D0))==(dint (x1.getD 2 D0))))))||(!((tB ((dstr (x0.getD 3 D0))==(dstr (x1.getD 3 D0))))&&(tB ((dstr (x0.getD 4 D0))==(dstr (x1.getD 4 D0)))))))||(isK .slc (x0.getD 5 D0)))=true/\
 (((((!(tB ((dint (x0.getD 0 D0))==(dint (x1.getD 0 D0)))))||(!(tB ((dstr (x0.getD 1 D0))==(dstr (x1.getD 1 D0))))))||(!(tB ((dint (x0.getD 2 D0))==(dint (x1.getD 2 D0))))))||(!((tB ((dstr (x0.getD 3 D0))==(dstr (x1.getD 3 D0))))&&(tB ((dstr (x0.getD 4 D0))==(dstr (x1.getD 4 D0)))))))||(isK .slc (x1.getD 5 D0)))=true/\
 ((((((!(tB ((dint (x0.getD 0 D0))==(dint (x1.getD 0 D0)))))||(!(tB ((dstr (x0.getD 1 D0))==(dstr (x1.getD 1 D0))))))||(!(tB ((dint (x0.getD 2 D0))==(dint (x1.getD 2 D0))))))||(!((tB ((dstr (x0.getD 3 D0))==(dstr (x1.getD 3 D0))))&&(tB ((dstr (x0.getD 4 D0))==(dstr (x1.getD 4 D0)))))))||(!(tB (((dlst (x0.getD 5 D0)).length:Int)==((dlst (x1.getD 5 D0)).length:Int)))))||(isK .slc (x0.getD 7 D0)))=true/\
 ((((((!(tB ((dint (x0.getD 0 D0))==(dint (x1.getD 0 D0)))))||(!(tB ((dstr (x0.getD 1 D0))==(dstr (x1.getD 1 D0))))))||(!(tB ((dint (x0.getD 2 D0))==(dint (x1.getD 2 D0))))))||(!((tB ((dstr (x0.getD 3 D0))==(dstr (x1.getD 3 D0))))&&(tB ((dstr (x0.getD 4 D0))==(dstr (x1.getD 4 D0)))))))||(!(tB (((dlst (x0.getD 5 D0)).length:Int)==((dlst (x1.getD 5 D0)).length:Int)))))||(isK .slc (x1.getD 7 D0)))=true/\
 ((!(((((!(tB ((dint (x0.getD 0 D0))==(dint (x1.getD 0 D0)))))||(!(tB ((dstr (x0.getD 1 D0))==(dstr (x1.getD 1 D0))))))||(!(tB ((dint (x0.getD 2 D0))==(dint (x1.getD 2 D0))))))||(!((tB ((dstr (x0.getD 3 D0))==(dstr (x1.getD 3 D0))))&&(tB ((dstr (x0.getD 4 D0))==(dstr (x1.getD 4 D0)))))))||(!(tB (((dlst (x0.getD 5 D0)).length:Int)==((dlst (x1.getD 5 D0)).length:Int))))))=true->
 ∀_:Nat->Nat,∃R',HT 23 [A.d (D.slc (dlst (x0.getD 7 D0))),A.d (D.slc (dlst (x1.getD 7 D0)))] [] R'/\
 (∀v H',R' (.ret v) H'-> ∃x2:Bool,v=bA x2/\H'=[]/\
 ((!x2)=true->
 R (.ret (bA false)) [])/\
 ((!x2)=false->
 isK .slc (x0.getD 5 D0)=true/\
 ∃(I0_0:Int->Prop)(M0_0:Int->Nat),I0_0 0/\
 (∀(x3:Int),I0_0 x3->
 (tB (decide (x3<((dlst (x0.getD 5 D0)).length:Int)))=true->
 tB (decide (0<=x3))=true/\
 tB (((gAt (dlst (x0.getD 5 D0)) x3).length:Int)==9)=true/\
 isK .slc (x1.getD 5 D0)=true/\
 tB (decide (x3<((dlst (x1.getD 5 D0)).length:Int)))=true/\
 tB (((gAt (dlst (x1.getD 5 D0)) x3).length:Int)==9)=true/\
 ∀_:Nat->Nat,∃R',HT 22 [A.agg (gAt (dlst (x0.getD 5 D0)) x3),A.agg (gAt (dlst (x1.getD 5 D0)) x3)] [] R'/\
 (∀v H',R' (.ret v) H'-> ∃x4:Bool,v=bA x4/\H'=[]/\
 ((!x4)=true->
 R (.ret (bA false)) [])/\
 ((!x4)=false->
 oV (x3+1) (I0_0 (x3+1)/\M0_0 (x3+1)<M0_0 x3)))/\
 PN R R')/\
 (tB (decide (x3<((dlst (x0.getD 5 D0)).length:Int)))=false->
 isK .slc (x0.getD 6 D0)=true/\
 isK .slc (x1.getD 6 D0)=true/\
 ∀_:Nat->Nat,∃R',HT 66 [A.d (D.slc (dlst (x0.getD 6 D0))),A.d (D.slc (dlst (x1.getD 6 D0)))] [] R'/\
 (∀v H',R' (.ret v) H'-> ∃x4:Bool,v=bA x4/\H'=[]/\
 R (.ret (bA x4)) [])/\
 PN R R'))/\
 True))/\
 PN R R')/\
 ((!(((((!(tB ((dint (x0.getD 0 D0))==(dint (x1.getD 0 D0)))))||(!(tB ((dstr (x0.getD 1 D0))==(dstr (x1.getD 1 D0))))))||(!(tB ((dint (x0.getD 2 D0))==(dint (x1.getD 2 D0))))))||(!((tB ((dstr (x0.getD 3 D0))==(dstr (x1.getD 3 D0))))&&(tB ((dstr (x0.getD 4 D0))==(dstr (x1.getD 4 D0)))))))||(!(tB (((dlst (x0.getD 5 D0)).length:Int)==((dlst (x1.getD 5 D0)).length:Int))))))=false->
 R (.ret (bA false)) [])):
 HT 22 [A.agg x0,A.agg x1] [] R:=
 walk (c:=⟨Tryz.prog,73,true,[0,1,2,3,4,5,48,51,52,53,66]⟩) (op:={com:=[(8,(53,5000)),(8,(5,5000)),(8,(66,5000)),(8,(4,5000))]}) (fn:=Tryz.f22) (args:=[.agg (.var 0),.agg (.var 1)]) (K:=[]) (nv:=2) (depth:=7) (up:=upOf []) (ρ:=Zwa [.r x0,.r x1])
  rfl rfl rfl rfl rfl (by decide) (by decide) (by decide) (by decide) rfl (by simp[Zab,RRef.den,upOf]) (T_of (by kernel_rfl) h)
theorem w66{R:RT}(x0:List (List D))(x1:List (List D))(h:((!(tB ((x0.length:Int)==(x1.length:Int))))=true->
 R (.ret (bA false)) [])/\
 ((!(tB ((x0.length:Int)==(x1.length:Int))))=false->
 ∃(I0_0:Int->Prop)(M0_0:Int->Nat),I0_0 0/\
 (∀(x2:Int),I0_0 x2->
 (tB (decide (x2<(x0.length:Int)))=true->
 tB (decide (0<=x2))=true/\
 tB (decide (x2<(x1.length:Int)))=true/\
 tB (((gAt x1 x2).length:Int)==11)=true/\
 tB (((gAt x0 x2).length:Int)==11)=true/\
 isK (.int .i64) ((gAt x0 x2).getD 0 D0)=true/\
 isK (.int .i64) ((gAt x1 x2).getD 0 D0)=true/\
 ((!(tB ((dint ((gAt x0 x2).getD 0 D0))==(dint ((gAt x1 x2).getD 0 D0)))))||(isK (.int .i64) ((gAt x0 x2).getD 1 D0)))=true/\
 ((!(tB ((dint ((gAt x0 x2).getD 0 D0))==(dint ((gAt x1 x2).getD 0 D0)))))||(isK (.int .i64) ((gAt x1 x2).getD 1 D0)))=true/\
 (((!(tB ((dint ((gAt x0 x2).getD 0 D0))==(dint ((gAt x1 x2).getD 0 D0)))))||(!(tB ((dint ((gAt x0 x2).getD 1 D0))==(dint ((gAt x1 x2).getD 1 D0))))))||(isK .str ((gAt x0 x2).getD 2 D0)))=true/\
 (((!(tB ((dint ((gAt x0 x2).getD 0 D0))==(dint ((gAt x1 x2).getD 0 D0)))))||(!(tB ((dint ((gAt x0 x2).getD 1 D0))==(dint ((gAt x1 x2).getD 1 D0))))))||(isK .str ((gAt x1 x2).getD 2 D0)))=true/\
 ((((!(tB ((dint ((gAt x0 x2).getD 0 D0))==(dint ((gAt x1 x2).getD 0 D0)))))||(!(tB ((dint ((gAt x0 x2).getD 1 D0))==(dint ((gAt x1 x2).getD 1 D0))))))||(!(tB ((dstr ((gAt x0 x2).getD 2 D0))==(dstr ((gAt x1 x2).getD 2 D0))))))||(isK .str ((gAt x0 x2).getD 3 D0)))=true/\
 ((((!(tB ((dint ((gAt x0 x2).getD 0 D0))==(dint ((gAt x1 x2).getD 0 D0)))))||(!(tB ((dint ((gAt x0 x2).getD 1 D0))==(dint ((gAt x1 x2).getD 1 D0))))))||(!(tB ((dstr ((gAt x0 x2).getD 2 D0))==(dstr ((gAt x1 x2).getD 2 D0))))))||(isK .str ((gAt x1 x2).getD 3 D0)))=true/\
 ((((!(tB ((dint ((gAt x0 x2).getD 0 D0))==(dint ((gAt x1 x2).getD 0 D0)))))||(!(tB ((dint ((gAt x0 x2).getD 1 D0))==(dint ((gAt x1 x2).getD 1 D0))))))||(!(tB ((dstr ((gAt x0 x2).getD 2 D0))==(dstr ((gAt x1 x2).getD 2 D0))))))||(isK .str ((gAt x0 x2).getD 4 D0)))=true/\
 ((((!(tB ((dint ((gAt x0 x2).getD 0 D0))==(dint ((gAt x1 x2).getD 0 D0)))))||(!(tB ((dint ((gAt x0 x2).getD 1 D0))==(dint ((gAt x1 x2).getD 1 D0))))))||(!(tB ((dstr ((gAt x0 x2).getD 2 D0))==(dstr ((gAt x1 x2).getD 2 D0))))))||(isK .str ((gAt x1 x2).getD 4 D0)))=true/\
 (((((!(tB ((dint ((gAt x0 x2).getD 0 D0))==(dint ((gAt x1 x2).getD 0 D0)))))||(!(tB ((dint ((gAt x0 x2).getD 1 D0))==(dint ((gAt x1 x2).getD 1 D0))))))||(!(tB ((dstr ((gAt x0 x2).getD 2 D0))==(dstr ((gAt x1 x2).getD 2 D0))))))||(!((tB ((dstr ((gAt x0 x2).getD 3 D0))==(dstr ((gAt x1 x2).getD 3 D0))))&&(tB ((dstr ((gAt x0 x2).getD 4 D0))==(dstr ((gAt x1 x2).getD 4 D0)))))))||(isK .str ((gAt x0 x2).getD 9 D0)))=true/\
 (((((!(tB ((dint ((gAt x0 x2).getD 0 D0))==(dint ((gAt x1 x2).getD 0 D0)))))||(!(tB ((dint ((gAt x0 x2).getD 1 D0))==(dint ((gAt x1 x2).getD 1 D0))))))||(!(tB ((dstr ((gAt x0 x2).getD 2 D0))==(dstr ((gAt x1 x2).getD 2 D0))))))||(!((tB ((dstr ((gAt x0 x2).getD 3 D0))==(dstr ((gAt x1 x2).getD 3 D0))))&&(tB ((dstr ((gAt x0 x2).getD 4 D0))==(dstr ((gAt x1 x2).getD 4 D0)))))))||(isK .str ((gAt x1 x2).getD 9 D0)))=true/\
 ((((((!(tB ((dint ((gAt x0 x2).getD 0 D0))==(dint ((gAt x1 x2).getD 0 D0)))))||(!(tB ((dint ((gAt x0 x2).getD 1 D0))==(dint ((gAt x1 x2).getD 1 D0))))))||(!(tB ((dstr ((gAt x0 x2).getD 2 D0))==(dstr ((gAt x1 x2).getD 2 D0))))))||(!((tB ((dstr ((gAt x0 x2).getD 3 D0))==(dstr ((gAt x1 x2).getD 3 D0))))&&(tB ((dstr ((gAt x0 x2).getD 4 D0))==(dstr ((gAt x1 x2).getD 4 D0)))))))||(!(tB ((dstr ((gAt x0 x2).getD 9 D0))==(dstr ((gAt x1 x2).getD 9 D0))))))||(isK .slc ((gAt x0 x2).getD 5 D0)))=true/\
 ((((((!(tB ((dint ((gAt x0 x2).getD 0 D0))==(dint ((gAt x1 x2).getD 0 D0)))))||(!(tB ((dint ((gAt x0 x2).getD 1 D0))==(dint ((gAt x1 x2).getD 1 D0))))))||(!(tB ((dstr ((gAt x0 x2).getD 2 D0))==(dstr ((gAt x1 x2).getD 2 D0))))))||(!((tB ((dstr ((gAt x0 x2).getD 3 D0))==(dstr ((gAt x1 x2).getD 3 D0))))&&(tB ((dstr ((gAt x0 x2).getD 4 D0))==(dstr ((gAt x1 x2).getD 4 D0)))))))||(!(tB ((dstr ((gAt x0 x2).getD 9 D0))==(dstr ((gAt x1 x2).getD 9 D0))))))||(isK .slc ((gAt x1 x2).getD 5 D0)))=true/\
 (((((((!(tB ((dint ((gAt x0 x2).getD 0 D0))==(dint ((gAt x1 x2).getD 0 D0)))))||(!(tB ((dint ((gAt x0 x2).getD 1 D0))==(dint ((gAt x1 x2).getD 1 D0))))))||(!(tB ((dstr ((gAt x0 x2).getD 2 D0))==(dstr ((gAt x1 x2).getD 2 D0))))))||(!((tB ((dstr ((gAt x0 x2).getD 3 D0))==(dstr ((gAt x1 x2).getD 3 D0))))&&(tB ((dstr ((gAt x0 x2).getD 4 D0))==(dstr ((gAt x1 x2).getD 4 D0)))))))||(!(tB ((dstr ((gAt x0 x2).getD 9 D0))==(dstr ((gAt x1 x2).getD 9 D0))))))||(!(tB (((dlst ((gAt x0 x2).getD 5 D0)).length:Int)==((dlst ((gAt x1 x2).getD 5 D0)).length:Int)))))=true->
 R (.ret (bA false)) [])/\
 (((((((!(tB ((dint ((gAt x0 x2).getD 0 D0))==(dint ((gAt x1 x2).getD 0 D0)))))||(!(tB ((dint ((gAt x0 x2).getD 1 D0))==(dint ((gAt x1 x2).getD 1 D0))))))||(!(tB ((dstr ((gAt x0 x2).getD 2 D0))==(dstr ((gAt x1 x2).getD 2 D0))))))||(!((tB ((dstr ((gAt x0 x2).getD 3 D0))==(dstr ((gAt x1 x2).getD 3 D0))))&&(tB ((dstr ((gAt x0 x2).getD 4 D0))==(dstr ((gAt x1 x2).getD 4 D0)))))))||(!(tB ((dstr ((gAt x0 x2).getD 9 D0))==(dstr ((gAt x1 x2).getD 9 D0))))))||(!(tB (((dlst ((gAt x0 x2).getD 5 D0)).length:Int)==((dlst ((gAt x1 x2).getD 5 D0)).length:Int)))))=false->
 isK .slc ((gAt x0 x2).getD 8 D0)=true/\
 isK .slc ((gAt x1 x2).getD 8 D0)=true/\
 ∀_:Nat->Nat,∃R',HT 23 [A.d (D.slc (dlst ((gAt x0 x2).getD 8 D0))),A.d (D.slc (dlst ((gAt x1 x2).getD 8 D0)))] [] R'/\
 (∀v H',R' (.ret v) H'-> ∃x3:Bool,v=bA x3/\H'=[]/\
 ((!x3)||(isK .slc ((gAt x0 x2).getD 7 D0)))=true/\
 ((!x3)||(isK .slc ((gAt x1 x2).getD 7 D0)))=true/\
 (x3=true->
 ∀_:Nat->Nat,∃R',HT 23 [A.d (D.slc (dlst ((gAt x0 x2).getD 7 D0))),A.d (D.slc (dlst ((gAt x1 x2).getD 7 D0)))] [] R'/\
 (∀v H',R' (.ret v) H'-> ∃x4:Bool,v=bA x4/\H'=[]/\
 ((!x4)||(isK .slc ((gAt x0 x2).getD 6 D0)))=true/\
 ((!x4)||(isK .slc ((gAt x1 x2).getD 6 D0)))=true/\
 (x4=true->
 ∀_:Nat->Nat,∃R',HT 66 [A.d (D.slc (dlst ((gAt x0 x2).getD 6 D0))),A.d (D.slc (dlst ((gAt x1 x2).getD 6 D0)))] [] R'/\
 (∀v H',R' (.ret v) H'-> ∃x5:Bool,v=bA x5/\H'=[]/\
 ((!x5)=true->
 R (.ret (bA false)) [])/\
 ((!x5)=false->
 isK .slc ((gAt x0 x2).getD 5 D0)=true/\
 ∃(I1_0:Int->Prop)(M1_0:Int->Nat),I1_0 0/\
 (∀(x6:Int),I1_0 x6->
 (tB (decide (x6<((dlst ((gAt x0 x2).getD 5 D0)).length:Int)))=true->
 tB (decide (0<=x6))=true/\
 tB (((gAt (dlst ((gAt x0 x2).getD 5 D0)) x6).length:Int)==9)=true/\
 isK .slc ((gAt x1 x2).getD 5 D0)=true/\
 tB (decide (x6<((dlst ((gAt x1 x2).getD 5 D0)).length:Int)))=true/\
 tB (((gAt (dlst ((gAt x1 x2).getD 5 D0)) x6).length:Int)==9)=true/\
 ∀_:Nat->Nat,∃R',HT 22 [A.agg (gAt (dlst ((gAt x0 x2).getD 5 D0)) x6),A.agg (gAt (dlst ((gAt x1 x2).getD 5 D0)) x6)] [] R'/\
 (∀v H',R' (.ret v) H'-> ∃x7:Bool,v=bA x7/\H'=[]/\
 ((!x7)=true->
 R (.ret (bA false)) [])/\
 ((!x7)=false->
 oV (x6+1) (I1_0 (x6+1)/\M1_0 (x6+1)<M1_0 x6)))/\
 PN R R')/\
 (tB (decide (x6<((dlst ((gAt x0 x2).getD 5 D0)).length:Int)))=false->
 oV (x2+1) (I0_0 (x2+1)/\M0_0 (x2+1)<M0_0 x2)))/\
 True))/\
 PN R R')/\
 (x4=false->
 R (.ret (bA false)) []))/\
 PN R R')/\
 (x3=false->
 R (.ret (bA false)) []))/\
 PN R R'))/\
 (tB (decide (x2<(x0.length:Int)))=false->
 R (.ret (bA true)) []))/\
 True)):
 HT 66 [A.d (D.slc x0),A.d (D.slc x1)] [] R:=
 walk (c:=⟨Tryz.prog,111,true,[0,1,4,5,6,7,8,13,15,16,17,68,90,93,94,95,108]⟩) (op:={lat:=[6],com:=[(17,(17,5000)),(17,(5,5000)),(17,(6,5000)),(17,(7,5000)),(17,(68,5000)),(17,(4,5000)),(17,(90,5000)),(17,(93,5000)),(17,(94,5000)),(17,(95,5000)),(17,(8,5000)),(17,(108,5000)),(16,(95,5000)),(16,(8,5000)),(16,(108,5000)),(16,(4,5000))]}) (fn:=Tryz.f66) (args:=[.c (.o1 .cl (.var 0)),.c (.o1 .cl (.var 1))]) (K:=[]) (nv:=2) (depth:=7) (up:=upOf []) (ρ:=Zwa [.l x0,.l x1])
  rfl rfl rfl rfl rfl (by decide) (by decide) (by decide) (by decide) rfl (by simp[Zab,RRef.den,upOf]) (T_of (by kernel_rfl) h)
end Go.Sy
end
section
open Go Go.Proofs Go.Ab Go.Rf
set_option maxRecDepth 1000000
set_option maxHeartbeats 2000000
set_option linter.unusedVariables false
namespace Go.Sy
theorem w30{R:RT}(x0:List D)(x1:List D)(h:tB ((x0.length:Int)==4)=true/\
 tB ((x1.length:Int)==4)=true/\
 ∀_:Nat->Nat,∃R',HT 20 [A.agg x0,A.agg x1] [] R'/\
 (∀v H',R' (.ret v) H'-> ∃x2:Bool,v=bA x2/\H'=[]/\
 ((!x2)=true->
 R (.ret (bA false)) [])/\
 ((!x2)=false->
 isK .slc (x0.getD 1 D0)=true/\
 ∃(I0_0:Int->Prop)(M0_0:Int->Nat),I0_0 0/\
 (∀(x3:Int),I0_0 x3->
 (tB (decide (x3<((dlst (x0.getD 1 D0)).length:Int)))=true->
 tB (decide (0<=x3))=true/\
 tB (((gAt (dlst (x0.getD 1 D0)) x3).length:Int)==3)=true/\
 isK .slc (x1.getD 1 D0)=true/\
 tB (decide (x3<((dlst (x1.getD 1 D0)).length:Int)))=true/\
 tB (((gAt (dlst (x1.getD 1 D0)) x3).length:Int)==3)=true/\
 isK .str ((gAt (dlst (x0.getD 1 D0)) x3).getD 0 D0)=true/\
 isK .str ((gAt (dlst (x1.getD 1 D0)) x3).getD 0 D0)=true/\
 isK .str ((gAt (dlst (x0.getD 1 D0)) x3).getD 1 D0)=true/\
 isK .str ((gAt (dlst (x1.getD 1 D0)) x3).getD 1 D0)=true/\
 isK (.int .i64) ((gAt (dlst (x0.getD 1 D0)) x3).getD 2 D0)=true/\
 isK (.int .i64) ((gAt (dlst (x1.getD 1 D0)) x3).getD 2 D0)=true/\
 ((!((tB ((dstr ((gAt (dlst (x0.getD 1 D0)) x3).getD 0 D0))==(dstr ((gAt (dlst (x1.getD 1 D0)) x3).getD 0 D0))))&&((tB ((dstr ((gAt (dlst (x0.getD 1 D0)) x3).getD 1 D0))==(dstr ((gAt (dlst (x1.getD 1 D0)) x3).getD 1 D0))))&&(tB ((dint ((gAt (dlst (x0.getD 1 D0)) x3).getD 2 D0))==(dint ((gAt (dlst (x1.getD 1 D0)) x3).getD 2 D0)))))))=true->
 R (.ret (bA false)) [])/\
 ((!((tB ((dstr ((gAt (dlst (x0.getD 1 D0)) x3).getD 0 D0))==(dstr ((gAt (dlst (x1.getD 1 D0)) x3).getD 0 D0))))&&((tB ((dstr ((gAt (dlst (x0.getD 1 D0)) x3).getD 1 D0))==(dstr ((gAt (dlst (x1.getD 1 D0)) x3).getD 1 D0))))&&(tB ((dint ((gAt (dlst (x0.getD 1 D0)) x3).getD 2 D0))==(dint ((gAt (dlst (x1.getD 1 D0)) x3).getD 2 D0)))))))=false->
 oV (x3+1) (I0_0 (x3+1)/\M0_0 (x3+1)<M0_0 x3)))/\
 (tB (decide (x3<((dlst (x0.getD 1 D0)).length:Int)))=false->
 isK .slc (x0.getD 2 D0)=true/\
 isK .slc (x1.getD 2 D0)=true/\
 ∀_:Nat->Nat,∃R',HT 84 [A.d (D.slc (dlst (x0.getD 2 D0))),A.d (D.slc (dlst (x1.getD 2 D0)))] [] R'/\
 (∀v H',R' (.ret v) H'-> ∃x4:Bool,v=bA x4/\H'=[]/\
 R (.ret (bA x4)) [])/\
 PN R R'))/\
 True))/\
 PN R R'):
 HT 30 [A.agg x0,A.agg x1] [] R:=
 walk (c:=⟨Tryz.prog,33,true,[0,1,2,3,4,5,9,12,13,14,26]⟩) (op:={com:=[(8,(14,5000)),(8,(5,5000)),(8,(26,5000)),(8,(4,5000))]}) (fn:=Tryz.f30) (args:=[.agg (.var 0),.agg (.var 1)]) (K:=[]) (nv:=2) (depth:=6) (up:=upOf []) (ρ:=Zwa [.r x0,.r x1])
  rfl rfl rfl rfl rfl (by decide) (by decide) (by decide) (by decide) rfl (by simp[Zab,RRef.den,upOf]) (T_of (by kernel_rfl) h)
theorem w84{R:RT}(x0:List (List D))(x1:List (List D))(h:∃(I0_0:Int->Prop)(M0_0:Int->Nat),I0_0 0/\
 (∀(x2:Int),I0_0 x2->
 (tB (decide (x2<(x0.length:Int)))=true->
 tB (decide (0<=x2))=true/\
 tB (((gAt x0 x2).length:Int)==11)=true/\
 tB (decide (10<=((gAt x0 x2).length:Int)))=true/\
 isK (.int .i64) ((gAt x0 x2).getD 10 D0)=true/\
 tB (decide (x2<(x1.length:Int)))=true/\
 tB (((gAt x1 x2).length:Int)==11)=true/\
 tB (decide (10<=((gAt x1 x2).length:Int)))=true/\
 isK (.int .i64) ((gAt x1 x2).getD 10 D0)=true/\
 ((!(tB ((dint ((gAt x0 x2).getD 10 D0))==(dint ((gAt x1 x2).getD 10 D0)))))||(tB (decide (6<=((gAt x0 x2).length:Int)))))=true/\
 ((!(tB ((dint ((gAt x0 x2).getD 10 D0))==(dint ((gAt x1 x2).getD 10 D0)))))||(isK .slc ((gAt x0 x2).getD 6 D0)))=true/\
 ((!(tB ((dint ((gAt x0 x2).getD 10 D0))==(dint ((gAt x1 x2).getD 10 D0)))))||(tB (decide (6<=((gAt x1 x2).length:Int)))))=true/\
 ((!(tB ((dint ((gAt x0 x2).getD 10 D0))==(dint ((gAt x1 x2).getD 10 D0)))))||(isK .slc ((gAt x1 x2).getD 6 D0)))=true/\
 (tB ((dint ((gAt x0 x2).getD 10 D0))==(dint ((gAt x1 x2).getD 10 D0)))=true->
 ∀_:Nat->Nat,∃R',HT 84 [A.d (D.slc (dlst ((gAt x0 x2).getD 6 D0))),A.d (D.slc (dlst ((gAt x1 x2).getD 6 D0)))] [] R'/\
 (∀v H',R' (.ret v) H'-> ∃x3:Bool,v=bA x3/\H'=[]/\
 ((!x3)=true->
 R (.ret (bA false)) [])/\
 ((!x3)=false->
 tB (decide (5<=((gAt x0 x2).length:Int)))=true/\
 isK .slc ((gAt x0 x2).getD 5 D0)=true/\
 ∃(I1_0:Int->Prop)(M1_0:Int->Nat),I1_0 0/\
 (∀(x4:Int),I1_0 x4->
 (tB (decide (x4<((dlst ((gAt x0 x2).getD 5 D0)).length:Int)))=true->
 tB (decide (0<=x4))=true/\
 tB (((gAt (dlst ((gAt x0 x2).getD 5 D0)) x4).length:Int)==9)=true/\
 tB (decide (5<=((gAt x1 x2).length:Int)))=true/\
 isK .slc ((gAt x1 x2).getD 5 D0)=true/\
 tB (decide (x4<((dlst ((gAt x1 x2).getD 5 D0)).length:Int)))=true/\
 tB (((gAt (dlst ((gAt x1 x2).getD 5 D0)) x4).length:Int)==9)=true/\
 ∀_:Nat->Nat,∃R',HT 89 [A.agg (gAt (dlst ((gAt x0 x2).getD 5 D0)) x4),A.agg (gAt (dlst ((gAt x1 x2).getD 5 D0)) x4)] [] R'/\
 (∀v H',R' (.ret v) H'-> ∃x5:Bool,v=bA x5/\H'=[]/\
 ((!x5)=true->
 R (.ret (bA false)) [])/\
 ((!x5)=false->
 oV (x4+1) (I1_0 (x4+1)/\M1_0 (x4+1)<M1_0 x4)))/\
 PN R R')/\
 (tB (decide (x4<((dlst ((gAt x0 x2).getD 5 D0)).length:Int)))=false->
 oV (x2+1) (I0_0 (x2+1)/\M0_0 (x2+1)<M0_0 x2)))/\
 True))/\
 PN R R')/\
 (tB ((dint ((gAt x0 x2).getD 10 D0))==(dint ((gAt x1 x2).getD 10 D0)))=false->
 R (.ret (bA false)) []))/\
 (tB (decide (x2<(x0.length:Int)))=false->
 R (.ret (bA true)) []))/\
 True):
 HT 84 [A.d (D.slc x0),A.d (D.slc x1)] [] R:=
 walk (c:=⟨Tryz.prog,66,true,[0,1,4,5,6,8,9,10,36,42,43,44,63]⟩) (op:={com:=[(12,(10,5000)),(12,(5,5000)),(12,(36,5000)),(12,(4,5000)),(12,(42,5000)),(12,(43,5000)),(12,(44,5000)),(12,(6,5000)),(12,(63,5000)),(11,(44,5000)),(11,(6,5000)),(11,(63,5000)),(11,(4,5000))]}) (fn:=Tryz.f84) (args:=[.c (.o1 .cl (.var 0)),.c (.o1 .cl (.var 1))]) (K:=[]) (nv:=2) (depth:=7) (up:=upOf []) (ρ:=Zwa [.l x0,.l x1])
  rfl rfl rfl rfl rfl (by decide) (by decide) (by decide) (by decide) rfl (by simp[Zab,RRef.den,upOf]) (T_of (by kernel_rfl) h)
theorem w89{R:RT}(x0:List D)(x1:List D)(h:tB ((x0.length:Int)==9)=true/\
 tB ((x1.length:Int)==9)=true/\
 isK .slc (x0.getD 5 D0)=true/\
 ∃(I0_0:Int->Prop)(M0_0:Int->Nat),I0_0 0/\
 (∀(x2:Int),I0_0 x2->
 (tB (decide (x2<((dlst (x0.getD 5 D0)).length:Int)))=true->
 tB (decide (0<=x2))=true/\
 tB (((gAt (dlst (x0.getD 5 D0)) x2).length:Int)==9)=true/\
 isK .slc (x1.getD 5 D0)=true/\
 tB (decide (x2<((dlst (x1.getD 5 D0)).length:Int)))=true/\
 tB (((gAt (dlst (x1.getD 5 D0)) x2).length:Int)==9)=true/\
 ∀_:Nat->Nat,∃R',HT 89 [A.agg (gAt (dlst (x0.getD 5 D0)) x2),A.agg (gAt (dlst (x1.getD 5 D0)) x2)] [] R'/\
 (∀v H',R' (.ret v) H'-> ∃x3:Bool,v=bA x3/\H'=[]/\
 ((!x3)=true->
 R (.ret (bA false)) [])/\
 ((!x3)=false->
 oV (x2+1) (I0_0 (x2+1)/\M0_0 (x2+1)<M0_0 x2)))/\
 PN R R')/\
 (tB (decide (x2<((dlst (x0.getD 5 D0)).length:Int)))=false->
 isK (.int .i64) (x0.getD 8 D0)=true/\
 isK (.int .i64) (x1.getD 8 D0)=true/\
 ((!(tB ((dint (x0.getD 8 D0))==(dint (x1.getD 8 D0)))))||(isK .slc (x0.getD 6 D0)))=true/\
 ((!(tB ((dint (x0.getD 8 D0))==(dint (x1.getD 8 D0)))))||(isK .slc (x1.getD 6 D0)))=true/\
 (tB ((dint (x0.getD 8 D0))==(dint (x1.getD 8 D0)))=true->
 ∀_:Nat->Nat,∃R',HT 84 [A.d (D.slc (dlst (x0.getD 6 D0))),A.d (D.slc (dlst (x1.getD 6 D0)))] [] R'/\
 (∀v H',R' (.ret v) H'-> ∃x3:Bool,v=bA x3/\H'=[]/\
 R (.ret (bA x3)) [])/\
 PN R R')/\
 (tB ((dint (x0.getD 8 D0))==(dint (x1.getD 8 D0)))=false->
 R (.ret (bA false)) [])))/\
 True):
 HT 89 [A.agg x0,A.agg x1] [] R:=
 walk (c:=⟨Tryz.prog,37,true,[0,1,2,3,4,5,8,9,10,23]⟩) (op:={com:=[(6,(10,5000)),(6,(5,5000)),(6,(23,5000)),(6,(4,5000))]}) (fn:=Tryz.f89) (args:=[.agg (.var 0),.agg (.var 1)]) (K:=[]) (nv:=2) (depth:=6) (up:=upOf []) (ρ:=Zwa [.r x0,.r x1])
  rfl rfl rfl rfl rfl (by decide) (by decide) (by decide) (by decide) rfl (by simp[Zab,RRef.den,upOf]) (T_of (by kernel_rfl) h)
end Go.Sy
end
section
open Go Go.Proofs Go.Ab Go.Rf
set_option maxRecDepth 1000000
set_option maxHeartbeats 2000000
set_option linter.unusedVariables false
namespace Go.Sy
theorem w8{R:RT}(x0:List D)(x1:List D)(x2:List D)(h:tB ((x0.length:Int)==4)=true/\
 tB ((x1.length:Int)==4)=true/\
 tB ((x2.length:Int)==4)=true/\
 ∀_:Nat->Nat,∃R',HT 12 [A.agg x0] [] R'/\
 (∀v H',R' (.ret v) H'-> ∃x3:Bool,v=bA x3/\H'=[]/\
 (x3=true->
 ∀_:Nat->Nat,∃R',HT 12 [A.agg x1] [] R'/\
 (∀v H',R' (.ret v) H'-> ∃x4:Bool,v=bA x4/\H'=[]/\
 (x4=true->
 ∀_:Nat->Nat,∃R',HT 12 [A.agg x2] [] R'/\
 (∀v H',R' (.ret v) H'-> ∃x5:Bool,v=bA x5/\H'=[]/\
 ((!x5)=true->
 ∀_:Nat->Nat,∃R',HT 13 [] [] R'/\
 (∀v H',R' (.ret v) H'-> ∃x6:Bool,v=bA x6/\H'=[]/\
 R (.ret (bA x6)) [])/\
 PN R R')/\
 ((!x5)=false->
 ∃x6:Bool,(∀_:Nat->Nat,HT 19 [A.agg x0,A.agg x1] [] (Zpq [] (bA x6)))/\
 ∃x7:Bool,(∀_:Nat->Nat,HT 19 [A.agg x1,A.agg x2] [] (Zpq [] (bA x7)))/\
 ∀_:Nat->Nat,∃R',HT 19 [A.agg x0,A.agg x2] [] R'/\
 (∀v H',R' (.ret v) H'-> ∃x8:Bool,v=bA x8/\H'=[]/\
 ∃x9:Bool,(∀_:Nat->Nat,HT 19 [A.agg x0,A.agg x0] [] (Zpq [] (bA x9)))/\
 (x9=true->
 ∃x10:Bool,(∀_:Nat->Nat,HT 19 [A.agg x1,A.agg x0] [] (Zpq [] (bA x10)))/\
 ((!((!(x6==x10))||((x6&&x7)&&(!x8))))=true->
 ∃x11:List D,(∀_:Nat->Nat,HT 28 [A.agg x0] [] (Zpq [] (A.agg x11)))/\
 ∃x12:List D,(∀_:Nat->Nat,HT 28 [A.agg x1] [] (Zpq [] (A.agg x12)))/\
 ∃x13:Bool,(∀_:Nat->Nat,HT 30 [A.agg x11,A.agg x12] [] (Zpq [] (bA x13)))/\
 ((!(x6==x13))=true->
 R (.ret (bA false)) [])/\
 ((!(x6==x13))=false->
 (x6=true->
 ∃x14:Int,(∀_:Nat->Nat,HT 14 [A.agg x0] [] (Zpq [] (iA x14)))/\
 ∃x15:Int,(∀_:Nat->Nat,HT 14 [A.agg x1] [] (Zpq [] (iA x15)))/\
 (tB (x14==x15)=true->
 ∃x16:List (List D),(∀_:Nat->Nat,HT 31 [A.agg x0] [] (Zpq [] (A.d (D.slc x16))))/\
 ∃x17:List (List D),(∀_:Nat->Nat,HT 31 [A.agg x1] [] (Zpq [] (A.d (D.slc x17))))/\
 ∃x18:Bool,(∀_:Nat->Nat,HT 23 [A.d (D.slc x16),A.d (D.slc x17)] [] (Zpq [] (bA x18)))/\
 (x18=true->
 ∃x19:List D,(∀_:Nat->Nat,HT 29 [A.agg x0] [] (Zpq [] (A.agg x19)))/\
 ∀_:Nat->Nat,∃R',HT 29 [A.agg x1] [] R'/\
 (∀v H',R' (.ret v) H'-> ∃x20:List D,v=A.agg x20/\H'=[]/\
 ∀_:Nat->Nat,∃R',HT 19 [A.agg x19,A.agg x20] [] R'/\
 (∀v H',R' (.ret v) H'-> ∃x21:Bool,v=bA x21/\H'=[]/\
 (x21=true->
 ∀_:Nat->Nat,∃R',HT 13 [] [] R'/\
 (∀v H',R' (.ret v) H'-> ∃x22:Bool,v=bA x22/\H'=[]/\
 R (.ret (bA x22)) [])/\
 PN R R')/\
 (x21=false->
 R (.ret (bA false)) []))/\
 PN R R')/\
 PN R R')/\
 (x18=false->
 R (.ret (bA false)) []))/\
 (tB (x14==x15)=false->
 R (.ret (bA false)) []))/\
 (x6=false->
 ∀_:Nat->Nat,∃R',HT 13 [] [] R'/\
 (∀v H',R' (.ret v) H'-> ∃x14:Bool,v=bA x14/\H'=[]/\
 R (.ret (bA x14)) [])/\
 PN R R')))/\
 ((!((!(x6==x10))||((x6&&x7)&&(!x8))))=false->
 R (.ret (bA false)) []))/\
 (x9=false->
 R (.ret (bA false)) []))/\
 PN R R'))/\
 PN R R')/\
 (x4=false->
 ∀_:Nat->Nat,∃R',HT 13 [] [] R'/\
 (∀v H',R' (.ret v) H'-> ∃x5:Bool,v=bA x5/\H'=[]/\
 R (.ret (bA x5)) [])/\
 PN R R'))/\
 PN R R')/\
 (x3=false->
 ∀_:Nat->Nat,∃R',HT 13 [] [] R'/\
 (∀v H',R' (.ret v) H'-> ∃x4:Bool,v=bA x4/\H'=[]/\
 R (.ret (bA x4)) [])/\
 PN R R'))/\
 PN R R'):
 HT 8 [A.agg x0,A.agg x1,A.agg x2] [] R:=
 walk (c:=⟨Tryz.prog,89,true,[0,1,2,3,4,5,6,7,8,9,22,62]⟩) (op:={}) (fn:=Tryz.f8) (args:=[.agg (.var 0),.agg (.var 1),.agg (.var 2)]) (K:=[]) (nv:=3) (depth:=7) (up:=upOf []) (ρ:=Zwa [.r x0,.r x1,.r x2])
  rfl rfl rfl rfl rfl (by decide) (by decide) (by decide) (by decide) rfl (by simp[Zab,RRef.den,upOf]) (T_of (by kernel_rfl) h)
end Go.Sy
end
