/- Part 7 of the proof: Xref, Vrk, Vtop. -/
import Derived.Test.YtpcnadmaeebhbaaGreatDoorProg
import Derived.Test.YtpcnadmaeebhbaaGreatDoorJaf
set_option linter.unusedVariables false
set_option linter.unusedSimpArgs false
section
open Go Go.Proofs Go.Ab Go.Rf
set_option maxRecDepth 1000000
set_option maxHeartbeats 2000000
set_option linter.unusedVariables false
namespace Go.Rx
theorem w39{R:RT}(x0:List UInt8)(x1:Int)(x2:Bool)(q0:Ref)(h:∀_:Nat->Nat,∃R',HT 141 [A.ptr (.up (Ref.up q0)) 0] [(Ref.up (Ref.up q0),[A.d (D.lit (Zco x0)),iA x1,bA x2])] R'/\
 (∀v H',R' (.ret v) H'-> ∃x3:List D,∃x4:List UInt8,∃x5:Int,∃x6:Bool,v=A.agg x3/\H'=[(Ref.up (Ref.up q0),[A.d (D.lit (Zco x4)),iA x5,bA x6])]/\
 tB ((x3.length:Int)==6)=true/\
 ∃(I0_0:List (List D)->List UInt8->Int->Bool->Prop)(M0_0:List (List D)->List UInt8->Int->Bool->Nat),I0_0 [x3] x4 x5 x6/\
 (∀(x7:List (List D))(x8:List UInt8)(x9:Int)(x10:Bool),I0_0 x7 x8 x9 x10->
 ∀_:Nat->Nat,∃R',HT 142 [A.ptr (.up (Ref.up q0)) 0,A.d (D.lit (.int .u8 124))] [(Ref.up (Ref.up q0),[A.d (D.lit (Zco x8)),iA x9,bA x10])] R'/\
 (∀v H',R' (.ret v) H'-> ∃x11:Bool,∃x12:List UInt8,∃x13:Int,∃x14:Bool,v=bA x11/\H'=[(Ref.up (Ref.up q0),[A.d (D.lit (Zco x12)),iA x13,bA x14])]/\
 (x11=true->
 ∀_:Nat->Nat,∃R',HT 141 [A.ptr (.up (Ref.up q0)) 0] [(Ref.up (Ref.up q0),[A.d (D.lit (Zco x12)),iA x13,bA x14])] R'/\
 (∀v H',R' (.ret v) H'-> ∃x15:List D,∃x16:List UInt8,∃x17:Int,∃x18:Bool,v=A.agg x15/\H'=[(Ref.up (Ref.up q0),[A.d (D.lit (Zco x16)),iA x17,bA x18])]/\
 tB ((x15.length:Int)==6)=true/\
 (Zwd 6 [x15])=true/\
 tB (decide ((((x7.length:Int)+([x15].length:Int))*64)<=140737488355328))=true/\
 tB (decide (((x7.length:Int)+([x15].length:Int))<=1099511627776))=true/\
 I0_0 (x7++[x15]) x16 x17 x18/\M0_0 (x7++[x15]) x16 x17 x18<M0_0 x7 x8 x9 x10)/\
 (∀x15v H',R' (.pan x15v) H'-> ∃x16:List UInt8,∃x17:Int,∃x18:Bool,H'=[(Ref.up (Ref.up q0),[A.d (D.lit (Zco x16)),iA x17,bA x18])]/\
 R (.pan x15v) [((Ref.up q0),[A.d (D.lit (Zco x16)),iA x17,bA x18])]))/\
 (x11=false->
 ∀_:Nat->Nat,∃R',HT 143 [iA 4,A.d (D.slc x7)] [] R'/\
 (∀v H',R' (.ret v) H'-> ∃x15:List D,v=A.agg x15/\H'=[]/\
 tB ((x15.length:Int)==6)=true/\
 R (.ret (A.agg x15)) [((Ref.up q0),[A.d (D.lit (Zco x12)),iA x13,bA x14])])/\
 (∀x15v H',R' (.pan x15v) H'->H'=[]/\
 R (.pan x15v) [((Ref.up q0),[A.d (D.lit (Zco x12)),iA x13,bA x14])])))/\
 (∀x11v H',R' (.pan x11v) H'-> ∃x12:List UInt8,∃x13:Int,∃x14:Bool,H'=[(Ref.up (Ref.up q0),[A.d (D.lit (Zco x12)),iA x13,bA x14])]/\
 R (.pan x11v) [((Ref.up q0),[A.d (D.lit (Zco x12)),iA x13,bA x14])]))/\
 True)/\
 (∀x3v H',R' (.pan x3v) H'-> ∃x4:List UInt8,∃x5:Int,∃x6:Bool,H'=[(Ref.up (Ref.up q0),[A.d (D.lit (Zco x4)),iA x5,bA x6])]/\
 R (.pan x3v) [((Ref.up q0),[A.d (D.lit (Zco x4)),iA x5,bA x6])])):
 HT 130 [A.ptr (Ref.up q0) 0] [((Ref.up q0),[A.d (D.lit (Zco x0)),iA x1,bA x2])] R:=
 walk (c:=⟨Tryz.prog,16,true,[0,2,3,8]⟩) (op:={com:=[(2,(8,5000))]}) (fn:=Tryz.f130) (args:=[.ptr (.up 0) 0]) (K:=[(.up 0,[.c (.o1 .cs (.var 0)),.c (.o1 (.ci .i64) (.var 1)),.c (.o1 .cb (.o1 .tb (.var 2)))])]) (nv:=3) (depth:=5) (up:=upOf [q0]) (ρ:=Zwa [.s x0,.i x1,.b x2])
  rfl rfl rfl rfl rfl (by decide) (by decide) (by decide) (by decide) rfl (by simp[Zab,RRef.den,upOf]) (T_of (by kernel_rfl) h)
theorem w51{R:RT}(x0:List UInt8)(x1:Int)(x2:Bool)(q0:Ref)(h:∀_:Nat->Nat,∃R',HT 150 [A.ptr (.up (Ref.up q0)) 0] [(Ref.up (Ref.up q0),[A.d (D.lit (Zco x0)),iA x1,bA x2])] R'/\
 (∀v H',R' (.ret v) H'-> ∃x3:List D,∃x4:List UInt8,∃x5:Int,∃x6:Bool,v=A.agg x3/\H'=[(Ref.up (Ref.up q0),[A.d (D.lit (Zco x4)),iA x5,bA x6])]/\
 tB ((x3.length:Int)==6)=true/\
 ∃(I0_0:List (List D)->List UInt8->Int->Bool->Prop)(M0_0:List (List D)->List UInt8->Int->Bool->Nat),I0_0 [x3] x4 x5 x6/\
 (∀(x7:List (List D))(x8:List UInt8)(x9:Int)(x10:Bool),I0_0 x7 x8 x9 x10->
 ∃x11:Bool,(∀_:Nat->Nat,HT 151 [A.ptr (.up (Ref.up q0)) 0] [(Ref.up (Ref.up q0),[A.d (D.lit (Zco x8)),iA x9,bA x10])] (Zpq [(Ref.up (Ref.up q0),[A.d (D.lit (Zco x8)),iA x9,bA x10])] (bA x11)))/\
 ((!x11)||(tB (decide (0<=x9))))=true/\
 ((!x11)||(tB (decide (x9<(x8.length:Int)))))=true/\
 ((!(x11&&(!(tB ((Zwc x8 x9)==124)))))||(tB (decide (0<=x9))))=true/\
 ((!(x11&&(!(tB ((Zwc x8 x9)==124)))))||(tB (decide (x9<(x8.length:Int)))))=true/\
 (((x11&&(!(tB ((Zwc x8 x9)==124))))&&(!(tB ((Zwc x8 x9)==41))))=true->
 ∀_:Nat->Nat,∃R',HT 150 [A.ptr (.up (Ref.up q0)) 0] [(Ref.up (Ref.up q0),[A.d (D.lit (Zco x8)),iA x9,bA x10])] R'/\
 (∀v H',R' (.ret v) H'-> ∃x12:List D,∃x13:List UInt8,∃x14:Int,∃x15:Bool,v=A.agg x12/\H'=[(Ref.up (Ref.up q0),[A.d (D.lit (Zco x13)),iA x14,bA x15])]/\
 tB ((x12.length:Int)==6)=true/\
 (Zwd 6 [x12])=true/\
 tB (decide ((((x7.length:Int)+([x12].length:Int))*64)<=140737488355328))=true/\
 tB (decide (((x7.length:Int)+([x12].length:Int))<=1099511627776))=true/\
 I0_0 (x7++[x12]) x13 x14 x15/\M0_0 (x7++[x12]) x13 x14 x15<M0_0 x7 x8 x9 x10)/\
 (∀x12v H',R' (.pan x12v) H'-> ∃x13:List UInt8,∃x14:Int,∃x15:Bool,H'=[(Ref.up (Ref.up q0),[A.d (D.lit (Zco x13)),iA x14,bA x15])]/\
 R (.pan x12v) [((Ref.up q0),[A.d (D.lit (Zco x13)),iA x14,bA x15])]))/\
 (((x11&&(!(tB ((Zwc x8 x9)==124))))&&(!(tB ((Zwc x8 x9)==41))))=false->
 ∀_:Nat->Nat,∃R',HT 143 [iA 3,A.d (D.slc x7)] [] R'/\
 (∀v H',R' (.ret v) H'-> ∃x12:List D,v=A.agg x12/\H'=[]/\
 tB ((x12.length:Int)==6)=true/\
 R (.ret (A.agg x12)) [((Ref.up q0),[A.d (D.lit (Zco x8)),iA x9,bA x10])])/\
 (∀x12v H',R' (.pan x12v) H'->H'=[]/\
 R (.pan x12v) [((Ref.up q0),[A.d (D.lit (Zco x8)),iA x9,bA x10])])))/\
 True)/\
 (∀x3v H',R' (.pan x3v) H'-> ∃x4:List UInt8,∃x5:Int,∃x6:Bool,H'=[(Ref.up (Ref.up q0),[A.d (D.lit (Zco x4)),iA x5,bA x6])]/\
 R (.pan x3v) [((Ref.up q0),[A.d (D.lit (Zco x4)),iA x5,bA x6])])):
 HT 141 [A.ptr (Ref.up q0) 0] [((Ref.up q0),[A.d (D.lit (Zco x0)),iA x1,bA x2])] R:=
 walk (c:=⟨Tryz.prog,40,true,[0,2,3,32]⟩) (op:={com:=[(2,(32,5000))]}) (fn:=Tryz.f141) (args:=[.ptr (.up 0) 0]) (K:=[(.up 0,[.c (.o1 .cs (.var 0)),.c (.o1 (.ci .i64) (.var 1)),.c (.o1 .cb (.o1 .tb (.var 2)))])]) (nv:=3) (depth:=6) (up:=upOf [q0]) (ρ:=Zwa [.s x0,.i x1,.b x2])
  rfl rfl rfl rfl rfl (by decide) (by decide) (by decide) (by decide) rfl (by simp[Zab,RRef.den,upOf]) (T_of (by kernel_rfl) h)
theorem w52{R:RT}(x0:List UInt8)(x1:Int)(x2:Bool)(x3:Int)(q0:Ref)(h:((x2||(tB (decide ((x0.length:Int)<=x1))))||(tB (decide (0<=x1))))=true/\
 ((x2||(tB (decide ((x0.length:Int)<=x1))))||(tB (decide (x1<(x0.length:Int)))))=true/\
 (((x2||(tB (decide ((x0.length:Int)<=x1))))||(!(tB ((Zwc x0 x1)==x3))))=true->
 R (.ret (bA false)) [((Ref.up q0),[A.d (D.lit (Zco x0)),iA x1,bA x2])])/\
 (((x2||(tB (decide ((x0.length:Int)<=x1))))||(!(tB ((Zwc x0 x1)==x3))))=false->
 tB (decide ((-9223372036854775808)<=(x1+1)))=true/\
 tB (decide ((x1+1)<=9223372036854775807))=true/\
 R (.ret (bA true)) [((Ref.up q0),[A.d (D.lit (Zco x0)),iA (x1+1),bA x2])])):
 HT 142 [A.ptr (Ref.up q0) 0,A.d (D.lit (.int .u8 x3))] [((Ref.up q0),[A.d (D.lit (Zco x0)),iA x1,bA x2])] R:=
 walk (c:=⟨Tryz.prog,42,true,[0,1,4,33]⟩) (op:={}) (fn:=Tryz.f142) (args:=[.ptr (.up 0) 0,.c (.o1 (.ci .u8) (.var 3))]) (K:=[(.up 0,[.c (.o1 .cs (.var 0)),.c (.o1 (.ci .i64) (.var 1)),.c (.o1 .cb (.o1 .tb (.var 2)))])]) (nv:=4) (depth:=6) (up:=upOf [q0]) (ρ:=Zwa [.s x0,.i x1,.b x2,.i x3])
  rfl rfl rfl rfl rfl (by decide) (by decide) (by decide) (by decide) rfl (by simp[Zab,RRef.den,upOf]) (T_of (by kernel_rfl) h)
theorem w53{R:RT}(x0:Int)(x1:List (List D))(h:(tB ((x1.length:Int)==1)=true->
 tB (decide (0<(x1.length:Int)))=true/\
 tB (((gAt x1 0).length:Int)==6)=true/\
 R (.ret (A.agg (gAt x1 0))) [])/\
 (tB ((x1.length:Int)==1)=false->
 R (.ret (A.agg [D.lit (.int .i64 x0),D.lit (.int .u64 0),D.lit (.int .u64 0),D.lit (.int .u64 0),D.lit (.int .u64 0),D.slc x1])) [])):
 HT 143 [iA x0,A.d (D.slc x1)] [] R:=
 walk (c:=⟨Tryz.prog,14,true,[0,1,4,7]⟩) (op:={}) (fn:=Tryz.f143) (args:=[.c (.o1 (.ci .i64) (.var 0)),.c (.o1 .cl (.var 1))]) (K:=[]) (nv:=2) (depth:=4) (up:=upOf []) (ρ:=Zwa [.i x0,.l x1])
  rfl rfl rfl rfl rfl (by decide) (by decide) (by decide) (by decide) rfl (by simp[Zab,RRef.den,upOf]) (T_of (by kernel_rfl) h)
theorem w66{R:RT}(x0:List UInt8)(x1:Int)(x2:Bool)(q0:Ref)(h:∀_:Nat->Nat,∃R',HT 155 [A.ptr (.up (Ref.up q0)) 0] [(Ref.up (Ref.up q0),[A.d (D.lit (Zco x0)),iA x1,bA x2])] R'/\
 (∀v H',R' (.ret v) H'-> ∃x3:List D,∃x4:List UInt8,∃x5:Int,∃x6:Bool,v=A.agg x3/\H'=[(Ref.up (Ref.up q0),[A.d (D.lit (Zco x4)),iA x5,bA x6])]/\
 tB ((x3.length:Int)==6)=true/\
 ∃(I0_0:D->D->D->D->D->D->List UInt8->Int->Bool->Prop)(M0_0:D->D->D->D->D->D->List UInt8->Int->Bool->Nat),I0_0 (x3.getD 0 D0) (x3.getD 1 D0) (x3.getD 2 D0) (x3.getD 3 D0) (x3.getD 4 D0) (x3.getD 5 D0) x4 x5 x6/\
 (∀(x7:D)(x8:D)(x9:D)(x10:D)(x11:D)(x12:D)(x13:List UInt8)(x14:Int)(x15:Bool),I0_0 x7 x8 x9 x10 x11 x12 x13 x14 x15->
 ((!x15)=true->
 ∀_:Nat->Nat,∃R',HT 142 [A.ptr (.up (Ref.up q0)) 0,A.d (D.lit (.int .u8 42))] [(Ref.up (Ref.up q0),[A.d (D.lit (Zco x13)),iA x14,bA x15])] R'/\
 (∀v H',R' (.ret v) H'-> ∃x16:Bool,∃x17:List UInt8,∃x18:Int,∃x19:Bool,v=bA x16/\H'=[(Ref.up (Ref.up q0),[A.d (D.lit (Zco x17)),iA x18,bA x19])]/\
 (x16=true->
 I0_0 (D.lit (.int .i64 5)) (D.lit (.int .u64 0)) (D.lit (.int .u64 0)) (D.lit (.int .u64 0)) (D.lit (.int .u64 0)) (D.slc [[x7,x8,x9,x10,x11,x12]]) x17 x18 x19/\M0_0 (D.lit (.int .i64 5)) (D.lit (.int .u64 0)) (D.lit (.int .u64 0)) (D.lit (.int .u64 0)) (D.lit (.int .u64 0)) (D.slc [[x7,x8,x9,x10,x11,x12]]) x17 x18 x19<M0_0 x7 x8 x9 x10 x11 x12 x13 x14 x15)/\
 (x16=false->
 ∀_:Nat->Nat,∃R',HT 142 [A.ptr (.up (Ref.up q0)) 0,A.d (D.lit (.int .u8 43))] [(Ref.up (Ref.up q0),[A.d (D.lit (Zco x17)),iA x18,bA x19])] R'/\
 (∀v H',R' (.ret v) H'-> ∃x20:Bool,∃x21:List UInt8,∃x22:Int,∃x23:Bool,v=bA x20/\H'=[(Ref.up (Ref.up q0),[A.d (D.lit (Zco x21)),iA x22,bA x23])]/\
 (x20=true->
 I0_0 (D.lit (.int .i64 3)) (D.lit (.int .u64 0)) (D.lit (.int .u64 0)) (D.lit (.int .u64 0)) (D.lit (.int .u64 0)) (D.slc [[x7,x8,x9,x10,x11,x12],[D.lit (.int .i64 5),D.lit (.int .u64 0),D.lit (.int .u64 0),D.lit (.int .u64 0),D.lit (.int .u64 0),D.slc [[x7,x8,x9,x10,x11,x12]]]]) x21 x22 x23/\M0_0 (D.lit (.int .i64 3)) (D.lit (.int .u64 0)) (D.lit (.int .u64 0)) (D.lit (.int .u64 0)) (D.lit (.int .u64 0)) (D.slc [[x7,x8,x9,x10,x11,x12],[D.lit (.int .i64 5),D.lit (.int .u64 0),D.lit (.int .u64 0),D.lit (.int .u64 0),D.lit (.int .u64 0),D.slc [[x7,x8,x9,x10,x11,x12]]]]) x21 x22 x23<M0_0 x7 x8 x9 x10 x11 x12 x13 x14 x15)/\
 (x20=false->
 ∀_:Nat->Nat,∃R',HT 142 [A.ptr (.up (Ref.up q0)) 0,A.d (D.lit (.int .u8 63))] [(Ref.up (Ref.up q0),[A.d (D.lit (Zco x21)),iA x22,bA x23])] R'/\
 (∀v H',R' (.ret v) H'-> ∃x24:Bool,∃x25:List UInt8,∃x26:Int,∃x27:Bool,v=bA x24/\H'=[(Ref.up (Ref.up q0),[A.d (D.lit (Zco x25)),iA x26,bA x27])]/\
 (x24=true->
 I0_0 (D.lit (.int .i64 4)) (D.lit (.int .u64 0)) (D.lit (.int .u64 0)) (D.lit (.int .u64 0)) (D.lit (.int .u64 0)) (D.slc [[x7,x8,x9,x10,x11,x12],[D.lit (.int .i64 1),D.lit (.int .u64 0),D.lit (.int .u64 0),D.lit (.int .u64 0),D.lit (.int .u64 0),(D.slc ([]:List (List D)))]]) x25 x26 x27/\M0_0 (D.lit (.int .i64 4)) (D.lit (.int .u64 0)) (D.lit (.int .u64 0)) (D.lit (.int .u64 0)) (D.lit (.int .u64 0)) (D.slc [[x7,x8,x9,x10,x11,x12],[D.lit (.int .i64 1),D.lit (.int .u64 0),D.lit (.int .u64 0),D.lit (.int .u64 0),D.lit (.int .u64 0),(D.slc ([]:List (List D)))]]) x25 x26 x27<M0_0 x7 x8 x9 x10 x11 x12 x13 x14 x15)/\
 (x24=false->
 R (.ret (A.agg [x7,x8,x9,x10,x11,x12])) [((Ref.up q0),[A.d (D.lit (Zco x25)),iA x26,bA x27])]))/\
 (∀x24v H',R' (.pan x24v) H'-> ∃x25:List UInt8,∃x26:Int,∃x27:Bool,H'=[(Ref.up (Ref.up q0),[A.d (D.lit (Zco x25)),iA x26,bA x27])]/\
 R (.pan x24v) [((Ref.up q0),[A.d (D.lit (Zco x25)),iA x26,bA x27])])))/\
 (∀x20v H',R' (.pan x20v) H'-> ∃x21:List UInt8,∃x22:Int,∃x23:Bool,H'=[(Ref.up (Ref.up q0),[A.d (D.lit (Zco x21)),iA x22,bA x23])]/\
 R (.pan x20v) [((Ref.up q0),[A.d (D.lit (Zco x21)),iA x22,bA x23])])))/\
 (∀x16v H',R' (.pan x16v) H'-> ∃x17:List UInt8,∃x18:Int,∃x19:Bool,H'=[(Ref.up (Ref.up q0),[A.d (D.lit (Zco x17)),iA x18,bA x19])]/\
 R (.pan x16v) [((Ref.up q0),[A.d (D.lit (Zco x17)),iA x18,bA x19])]))/\
 ((!x15)=false->
 R (.ret (A.agg [x7,x8,x9,x10,x11,x12])) [((Ref.up q0),[A.d (D.lit (Zco x13)),iA x14,bA x15])]))/\
 True)/\
 (∀x3v H',R' (.pan x3v) H'-> ∃x4:List UInt8,∃x5:Int,∃x6:Bool,H'=[(Ref.up (Ref.up q0),[A.d (D.lit (Zco x4)),iA x5,bA x6])]/\
 R (.pan x3v) [((Ref.up q0),[A.d (D.lit (Zco x4)),iA x5,bA x6])])):
 HT 150 [A.ptr (Ref.up q0) 0] [((Ref.up q0),[A.d (D.lit (Zco x0)),iA x1,bA x2])] R:=
 walk (c:=⟨Tryz.prog,35,true,[0,2,3,10,12,18,27]⟩) (op:={com:=[(2,(10,5000)),(2,(12,5000)),(2,(18,5000)),(2,(27,5000))]}) (fn:=Tryz.f150) (args:=[.ptr (.up 0) 0]) (K:=[(.up 0,[.c (.o1 .cs (.var 0)),.c (.o1 (.ci .i64) (.var 1)),.c (.o1 .cb (.o1 .tb (.var 2)))])]) (nv:=3) (depth:=6) (up:=upOf [q0]) (ρ:=Zwa [.s x0,.i x1,.b x2])
  rfl rfl rfl rfl rfl (by decide) (by decide) (by decide) (by decide) rfl (by simp[Zab,RRef.den,upOf]) (T_of (by kernel_rfl) h)
theorem w67{R:RT}(x0:List UInt8)(x1:Int)(x2:Bool)(q0:Ref)(h:R (.ret (bA ((!x2)&&(tB (decide (x1<(x0.length:Int))))))) [((Ref.up q0),[A.d (D.lit (Zco x0)),iA x1,bA x2])]):
 HT 151 [A.ptr (Ref.up q0) 0] [((Ref.up q0),[A.d (D.lit (Zco x0)),iA x1,bA x2])] R:=
 walk (c:=⟨Tryz.prog,20,true,[0,2]⟩) (op:={}) (fn:=Tryz.f151) (args:=[.ptr (.up 0) 0]) (K:=[(.up 0,[.c (.o1 .cs (.var 0)),.c (.o1 (.ci .i64) (.var 1)),.c (.o1 .cb (.o1 .tb (.var 2)))])]) (nv:=3) (depth:=5) (up:=upOf [q0]) (ρ:=Zwa [.s x0,.i x1,.b x2])
  rfl rfl rfl rfl rfl (by decide) (by decide) (by decide) (by decide) rfl (by simp[Zab,RRef.den,upOf]) (T_of (by kernel_rfl) h)
theorem w74{R:RT}(x0:List UInt8)(x1:Int)(x2:Bool)(q0:Ref)(h:∀_:Nat->Nat,∃R',HT 142 [A.ptr (.up (Ref.up q0)) 0,A.d (D.lit (.int .u8 92))] [(Ref.up (Ref.up q0),[A.d (D.lit (Zco x0)),iA x1,bA x2])] R'/\
 (∀v H',R' (.ret v) H'-> ∃x3:Bool,∃x4:List UInt8,∃x5:Int,∃x6:Bool,v=bA x3/\H'=[(Ref.up (Ref.up q0),[A.d (D.lit (Zco x4)),iA x5,bA x6])]/\
 (x3=true->
 ∀_:Nat->Nat,∃R',HT 165 [A.ptr (.up (Ref.up q0)) 0] [(Ref.up (Ref.up q0),[A.d (D.lit (Zco x4)),iA x5,bA x6])] R'/\
 (∀v H',R' (.ret v) H'-> ∃x7:List D,∃x8:List UInt8,∃x9:Int,∃x10:Bool,v=A.agg x7/\H'=[(Ref.up (Ref.up q0),[A.d (D.lit (Zco x8)),iA x9,bA x10])]/\
 tB ((x7.length:Int)==6)=true/\
 R (.ret (A.agg x7)) [((Ref.up q0),[A.d (D.lit (Zco x8)),iA x9,bA x10])])/\
 (∀x7v H',R' (.pan x7v) H'-> ∃x8:List UInt8,∃x9:Int,∃x10:Bool,H'=[(Ref.up (Ref.up q0),[A.d (D.lit (Zco x8)),iA x9,bA x10])]/\
 R (.pan x7v) [((Ref.up q0),[A.d (D.lit (Zco x8)),iA x9,bA x10])]))/\
 (x3=false->
 ∀_:Nat->Nat,∃R',HT 142 [A.ptr (.up (Ref.up q0)) 0,A.d (D.lit (.int .u8 46))] [(Ref.up (Ref.up q0),[A.d (D.lit (Zco x4)),iA x5,bA x6])] R'/\
 (∀v H',R' (.ret v) H'-> ∃x7:Bool,∃x8:List UInt8,∃x9:Int,∃x10:Bool,v=bA x7/\H'=[(Ref.up (Ref.up q0),[A.d (D.lit (Zco x8)),iA x9,bA x10])]/\
 (x7=true->
 ∀_:Nat->Nat,∃R',HT 166 [iA 0,iA 255] [] R'/\
 (∀v H',R' (.ret v) H'-> ∃x11:List D,v=A.agg x11/\H'=[]/\
 tB ((x11.length:Int)==4)=true/\
 R (.ret (A.agg [D.lit (.int .i64 2),x11.getD 0 D0,x11.getD 1 D0,x11.getD 2 D0,x11.getD 3 D0,(D.slc ([]:List (List D)))])) [((Ref.up q0),[A.d (D.lit (Zco x8)),iA x9,bA x10])])/\
 (∀x11v H',R' (.pan x11v) H'->H'=[]/\
 R (.pan x11v) [((Ref.up q0),[A.d (D.lit (Zco x8)),iA x9,bA x10])]))/\
 (x7=false->
 ∀_:Nat->Nat,∃R',HT 142 [A.ptr (.up (Ref.up q0)) 0,A.d (D.lit (.int .u8 91))] [(Ref.up (Ref.up q0),[A.d (D.lit (Zco x8)),iA x9,bA x10])] R'/\
 (∀v H',R' (.ret v) H'-> ∃x11:Bool,∃x12:List UInt8,∃x13:Int,∃x14:Bool,v=bA x11/\H'=[(Ref.up (Ref.up q0),[A.d (D.lit (Zco x12)),iA x13,bA x14])]/\
 (x11=true->
 ∀_:Nat->Nat,∃R',HT 167 [A.ptr (.up (Ref.up q0)) 0] [(Ref.up (Ref.up q0),[A.d (D.lit (Zco x12)),iA x13,bA x14])] R'/\
 (∀v H',R' (.ret v) H'-> ∃x15:List D,∃x16:List UInt8,∃x17:Int,∃x18:Bool,v=A.agg x15/\H'=[(Ref.up (Ref.up q0),[A.d (D.lit (Zco x16)),iA x17,bA x18])]/\
 tB ((x15.length:Int)==6)=true/\
 R (.ret (A.agg x15)) [((Ref.up q0),[A.d (D.lit (Zco x16)),iA x17,bA x18])])/\
 (∀x15v H',R' (.pan x15v) H'-> ∃x16:List UInt8,∃x17:Int,∃x18:Bool,H'=[(Ref.up (Ref.up q0),[A.d (D.lit (Zco x16)),iA x17,bA x18])]/\
 R (.pan x15v) [((Ref.up q0),[A.d (D.lit (Zco x16)),iA x17,bA x18])]))/\
 (x11=false->
 ∀_:Nat->Nat,∃R',HT 142 [A.ptr (.up (Ref.up q0)) 0,A.d (D.lit (.int .u8 40))] [(Ref.up (Ref.up q0),[A.d (D.lit (Zco x12)),iA x13,bA x14])] R'/\
 (∀v H',R' (.ret v) H'-> ∃x15:Bool,∃x16:List UInt8,∃x17:Int,∃x18:Bool,v=bA x15/\H'=[(Ref.up (Ref.up q0),[A.d (D.lit (Zco x16)),iA x17,bA x18])]/\
 (x15=true->
 ∀_:Nat->Nat,∃R',HT 142 [A.ptr (.up (Ref.up q0)) 0,A.d (D.lit (.int .u8 41))] [(Ref.up (Ref.up q0),[A.d (D.lit (Zco x16)),iA x17,bA x18])] R'/\
 (∀v H',R' (.ret v) H'-> ∃x19:Bool,∃x20:List UInt8,∃x21:Int,∃x22:Bool,v=bA x19/\H'=[(Ref.up (Ref.up q0),[A.d (D.lit (Zco x20)),iA x21,bA x22])]/\
 (x19=true->
 R (.ret (A.agg [D.lit (.int .i64 1),D.lit (.int .u64 0),D.lit (.int .u64 0),D.lit (.int .u64 0),D.lit (.int .u64 0),(D.slc ([]:List (List D)))])) [((Ref.up q0),[A.d (D.lit (Zco x20)),iA x21,bA x22])])/\
 (x19=false->
 ∀_:Nat->Nat,∃R',HT 130 [A.ptr (.up (Ref.up q0)) 0] [(Ref.up (Ref.up q0),[A.d (D.lit (Zco x20)),iA x21,bA x22])] R'/\
 (∀v H',R' (.ret v) H'-> ∃x23:List D,∃x24:List UInt8,∃x25:Int,∃x26:Bool,v=A.agg x23/\H'=[(Ref.up (Ref.up q0),[A.d (D.lit (Zco x24)),iA x25,bA x26])]/\
 tB ((x23.length:Int)==6)=true/\
 ∀_:Nat->Nat,∃R',HT 142 [A.ptr (.up (Ref.up q0)) 0,A.d (D.lit (.int .u8 41))] [(Ref.up (Ref.up q0),[A.d (D.lit (Zco x24)),iA x25,bA x26])] R'/\
 (∀v H',R' (.ret v) H'-> ∃x27:Bool,∃x28:List UInt8,∃x29:Int,∃x30:Bool,v=bA x27/\H'=[(Ref.up (Ref.up q0),[A.d (D.lit (Zco x28)),iA x29,bA x30])]/\
 ((!x27)=true->
 R (.ret (A.agg x23)) [((Ref.up q0),[A.d (D.lit (Zco x28)),iA x29,bA true])])/\
 ((!x27)=false->
 R (.ret (A.agg x23)) [((Ref.up q0),[A.d (D.lit (Zco x28)),iA x29,bA x30])]))/\
 (∀x27v H',R' (.pan x27v) H'-> ∃x28:List UInt8,∃x29:Int,∃x30:Bool,H'=[(Ref.up (Ref.up q0),[A.d (D.lit (Zco x28)),iA x29,bA x30])]/\
 R (.pan x27v) [((Ref.up q0),[A.d (D.lit (Zco x28)),iA x29,bA x30])]))/\
 (∀x23v H',R' (.pan x23v) H'-> ∃x24:List UInt8,∃x25:Int,∃x26:Bool,H'=[(Ref.up (Ref.up q0),[A.d (D.lit (Zco x24)),iA x25,bA x26])]/\
 R (.pan x23v) [((Ref.up q0),[A.d (D.lit (Zco x24)),iA x25,bA x26])])))/\
 (∀x19v H',R' (.pan x19v) H'-> ∃x20:List UInt8,∃x21:Int,∃x22:Bool,H'=[(Ref.up (Ref.up q0),[A.d (D.lit (Zco x20)),iA x21,bA x22])]/\
 R (.pan x19v) [((Ref.up q0),[A.d (D.lit (Zco x20)),iA x21,bA x22])]))/\
 (x15=false->
 ∃x19:Bool,(∀_:Nat->Nat,HT 151 [A.ptr (.up (Ref.up q0)) 0] [(Ref.up (Ref.up q0),[A.d (D.lit (Zco x16)),iA x17,bA x18])] (Zpq [(Ref.up (Ref.up q0),[A.d (D.lit (Zco x16)),iA x17,bA x18])] (bA x19)))/\
 ((!x19)||(tB (decide (0<=x17))))=true/\
 ((!x19)||(tB (decide (x17<(x16.length:Int)))))=true/\
 (((!x19)||(tB (decide ((Zwc x16 x17)<32))))||(tB (decide (0<=x17))))=true/\
 (((!x19)||(tB (decide ((Zwc x16 x17)<32))))||(tB (decide (x17<(x16.length:Int)))))=true/\
 ((((!x19)||(tB (decide ((Zwc x16 x17)<32))))||(tB (decide (126<(Zwc x16 x17)))))||(tB (decide (0<=x17))))=true/\
 ((((!x19)||(tB (decide ((Zwc x16 x17)<32))))||(tB (decide (126<(Zwc x16 x17)))))||(tB (decide (x17<(x16.length:Int)))))=true/\
 ((!(((!x19)||(tB (decide ((Zwc x16 x17)<32))))||(tB (decide (126<(Zwc x16 x17))))))=true->
 ∀_:Nat->Nat,∃R',HT 168 [A.d (D.lit (.int .u8 (Zwc x16 x17)))] [] R'/\
 (∀v H',R' (.ret v) H'-> ∃x20:Bool,v=bA x20/\H'=[]/\
 (x20=true->
 R (.ret (A.agg [D.lit (.int .i64 0),D.lit (.int .u64 0),D.lit (.int .u64 0),D.lit (.int .u64 0),D.lit (.int .u64 0),(D.slc ([]:List (List D)))])) [((Ref.up q0),[A.d (D.lit (Zco x16)),iA x17,bA true])])/\
 (x20=false->
 tB (decide ((-9223372036854775808)<=(x17+1)))=true/\
 tB (decide ((x17+1)<=9223372036854775807))=true/\
 tB (decide ((-9223372036854775808)<=((x17+1)-1)))=true/\
 tB (decide (((x17+1)-1)<=9223372036854775807))=true/\
 tB (decide (0<=((x17+1)-1)))=true/\
 tB (decide (((x17+1)-1)<(x16.length:Int)))=true/\
 tB (decide ((-9223372036854775808)<=(Zwc x16 ((x17+1)-1))))=true/\
 tB (decide ((Zwc x16 ((x17+1)-1))<=9223372036854775807))=true/\
 ∀_:Nat->Nat,∃R',HT 166 [iA (Zwc x16 ((x17+1)-1)),iA (Zwc x16 ((x17+1)-1))] [] R'/\
 (∀v H',R' (.ret v) H'-> ∃x21:List D,v=A.agg x21/\H'=[]/\
 tB ((x21.length:Int)==4)=true/\
 R (.ret (A.agg [D.lit (.int .i64 2),x21.getD 0 D0,x21.getD 1 D0,x21.getD 2 D0,x21.getD 3 D0,(D.slc ([]:List (List D)))])) [((Ref.up q0),[A.d (D.lit (Zco x16)),iA (x17+1),bA x18])])/\
 (∀x21v H',R' (.pan x21v) H'->H'=[]/\
 R (.pan x21v) [((Ref.up q0),[A.d (D.lit (Zco x16)),iA (x17+1),bA x18])])))/\
 (∀x20v H',R' (.pan x20v) H'->H'=[]/\
 R (.pan x20v) [((Ref.up q0),[A.d (D.lit (Zco x16)),iA x17,bA x18])]))/\
 ((!(((!x19)||(tB (decide ((Zwc x16 x17)<32))))||(tB (decide (126<(Zwc x16 x17))))))=false->
 R (.ret (A.agg [D.lit (.int .i64 0),D.lit (.int .u64 0),D.lit (.int .u64 0),D.lit (.int .u64 0),D.lit (.int .u64 0),(D.slc ([]:List (List D)))])) [((Ref.up q0),[A.d (D.lit (Zco x16)),iA x17,bA true])])))/\
 (∀x15v H',R' (.pan x15v) H'-> ∃x16:List UInt8,∃x17:Int,∃x18:Bool,H'=[(Ref.up (Ref.up q0),[A.d (D.lit (Zco x16)),iA x17,bA x18])]/\
 R (.pan x15v) [((Ref.up q0),[A.d (D.lit (Zco x16)),iA x17,bA x18])])))/\
 (∀x11v H',R' (.pan x11v) H'-> ∃x12:List UInt8,∃x13:Int,∃x14:Bool,H'=[(Ref.up (Ref.up q0),[A.d (D.lit (Zco x12)),iA x13,bA x14])]/\
 R (.pan x11v) [((Ref.up q0),[A.d (D.lit (Zco x12)),iA x13,bA x14])])))/\
 (∀x7v H',R' (.pan x7v) H'-> ∃x8:List UInt8,∃x9:Int,∃x10:Bool,H'=[(Ref.up (Ref.up q0),[A.d (D.lit (Zco x8)),iA x9,bA x10])]/\
 R (.pan x7v) [((Ref.up q0),[A.d (D.lit (Zco x8)),iA x9,bA x10])])))/\
 (∀x3v H',R' (.pan x3v) H'-> ∃x4:List UInt8,∃x5:Int,∃x6:Bool,H'=[(Ref.up (Ref.up q0),[A.d (D.lit (Zco x4)),iA x5,bA x6])]/\
 R (.pan x3v) [((Ref.up q0),[A.d (D.lit (Zco x4)),iA x5,bA x6])])):
 HT 155 [A.ptr (Ref.up q0) 0] [((Ref.up q0),[A.d (D.lit (Zco x0)),iA x1,bA x2])] R:=
 walk (c:=⟨Tryz.prog,101,true,[0,2,3,4,5,10,15,20,24,30,73]⟩) (op:={}) (fn:=Tryz.f155) (args:=[.ptr (.up 0) 0]) (K:=[(.up 0,[.c (.o1 .cs (.var 0)),.c (.o1 (.ci .i64) (.var 1)),.c (.o1 .cb (.o1 .tb (.var 2)))])]) (nv:=3) (depth:=7) (up:=upOf [q0]) (ρ:=Zwa [.s x0,.i x1,.b x2])
  rfl rfl rfl rfl rfl (by decide) (by decide) (by decide) (by decide) rfl (by simp[Zab,RRef.den,upOf]) (T_of (by kernel_rfl) h)
theorem w84{R:RT}(x0:List UInt8)(x1:Int)(x2:Bool)(q0:Ref)(h:∀_:Nat->Nat,∃R',HT 142 [A.ptr (.up (Ref.up q0)) 0,A.d (D.lit (.int .u8 120))] [(Ref.up (Ref.up q0),[A.d (D.lit (Zco x0)),iA x1,bA x2])] R'/\
 (∀v H',R' (.ret v) H'-> ∃x3:Bool,∃x4:List UInt8,∃x5:Int,∃x6:Bool,v=bA x3/\H'=[(Ref.up (Ref.up q0),[A.d (D.lit (Zco x4)),iA x5,bA x6])]/\
 (x3=true->
 ∀_:Nat->Nat,∃R',HT 176 [A.ptr (.up (Ref.up q0)) 0,iA 0] [(Ref.up (Ref.up q0),[A.d (D.lit (Zco x4)),iA x5,bA x6])] R'/\
 (∀v H',R' (.ret v) H'-> ∃x7:Int,∃x8:List UInt8,∃x9:Int,∃x10:Bool,v=iA x7/\H'=[(Ref.up (Ref.up q0),[A.d (D.lit (Zco x8)),iA x9,bA x10])]/\
 ∀_:Nat->Nat,∃R',HT 166 [iA x7,iA x7] [] R'/\
 (∀v H',R' (.ret v) H'-> ∃x11:List D,v=A.agg x11/\H'=[]/\
 tB ((x11.length:Int)==4)=true/\
 R (.ret (A.agg [D.lit (.int .i64 2),x11.getD 0 D0,x11.getD 1 D0,x11.getD 2 D0,x11.getD 3 D0,(D.slc ([]:List (List D)))])) [((Ref.up q0),[A.d (D.lit (Zco x8)),iA x9,bA x10])])/\
 (∀x11v H',R' (.pan x11v) H'->H'=[]/\
 R (.pan x11v) [((Ref.up q0),[A.d (D.lit (Zco x8)),iA x9,bA x10])]))/\
 (∀x7v H',R' (.pan x7v) H'-> ∃x8:List UInt8,∃x9:Int,∃x10:Bool,H'=[(Ref.up (Ref.up q0),[A.d (D.lit (Zco x8)),iA x9,bA x10])]/\
 R (.pan x7v) [((Ref.up q0),[A.d (D.lit (Zco x8)),iA x9,bA x10])]))/\
 (x3=false->
 ∀_:Nat->Nat,∃R',HT 151 [A.ptr (.up (Ref.up q0)) 0] [(Ref.up (Ref.up q0),[A.d (D.lit (Zco x4)),iA x5,bA x6])] R'/\
 (∀v H',R' (.ret v) H'-> ∃x7:Bool,∃x8:List UInt8,∃x9:Int,∃x10:Bool,v=bA x7/\H'=[(Ref.up (Ref.up q0),[A.d (D.lit (Zco x8)),iA x9,bA x10])]/\
 (x7=true->
 tB (decide (0<=x9))=true/\
 tB (decide (x9<(x8.length:Int)))=true/\
 ∀_:Nat->Nat,∃R',HT 177 [A.d (D.lit (.int .u8 (Zwc x8 x9)))] [] R'/\
 (∀v H',R' (.ret v) H'-> ∃x11:List D,∃x12:Bool,v=A.tup [(true,x11),(false,[D.lit (.bool x12)])]/\H'=[]/\
 tB ((x11.length:Int)==4)=true/\
 ∀_:Nat->Nat,∃R',HT 178 [A.d (D.lit (.int .u8 (Zwc x8 x9)))] [] R'/\
 (∀v H',R' (.ret v) H'-> ∃x13:Int,v=iA x13/\H'=[]/\
 (tB (decide (0<=x13))=true->
 ∀_:Nat->Nat,∃R',HT 166 [iA x13,iA x13] [] R'/\
 (∀v H',R' (.ret v) H'-> ∃x14:List D,v=A.agg x14/\H'=[]/\
 tB ((x14.length:Int)==4)=true/\
 ∀_:Nat->Nat,∃R',HT 168 [A.d (D.lit (.int .u8 (Zwc x8 x9)))] [] R'/\
 (∀v H',R' (.ret v) H'-> ∃x15:Bool,v=bA x15/\H'=[]/\
 (((x15||(tB ((Zwc x8 x9)==94)))||(tB ((Zwc x8 x9)==45)))=true->
 tB (decide ((-9223372036854775808)<=(Zwc x8 x9)))=true/\
 tB (decide ((Zwc x8 x9)<=9223372036854775807))=true/\
 ∀_:Nat->Nat,∃R',HT 166 [iA (Zwc x8 x9),iA (Zwc x8 x9)] [] R'/\
 (∀v H',R' (.ret v) H'-> ∃x16:List D,v=A.agg x16/\H'=[]/\
 tB ((x16.length:Int)==4)=true/\
 tB (decide ((-9223372036854775808)<=(x9+1)))=true/\
 tB (decide ((x9+1)<=9223372036854775807))=true/\
 R (.ret (A.agg [D.lit (.int .i64 2),x16.getD 0 D0,x16.getD 1 D0,x16.getD 2 D0,x16.getD 3 D0,(D.slc ([]:List (List D)))])) [((Ref.up q0),[A.d (D.lit (Zco x8)),iA (x9+1),bA x10])])/\
 (∀x16v H',R' (.pan x16v) H'->H'=[]/\
 R (.pan x16v) [((Ref.up q0),[A.d (D.lit (Zco x8)),iA x9,bA x10])]))/\
 (((x15||(tB ((Zwc x8 x9)==94)))||(tB ((Zwc x8 x9)==45)))=false->
 tB (decide ((-9223372036854775808)<=(x9+1)))=true/\
 tB (decide ((x9+1)<=9223372036854775807))=true/\
 R (.ret (A.agg [D.lit (.int .i64 2),x14.getD 0 D0,x14.getD 1 D0,x14.getD 2 D0,x14.getD 3 D0,(D.slc ([]:List (List D)))])) [((Ref.up q0),[A.d (D.lit (Zco x8)),iA (x9+1),bA x10])]))/\
 (∀x15v H',R' (.pan x15v) H'->H'=[]/\
 R (.pan x15v) [((Ref.up q0),[A.d (D.lit (Zco x8)),iA x9,bA x10])]))/\
 (∀x14v H',R' (.pan x14v) H'->H'=[]/\
 R (.pan x14v) [((Ref.up q0),[A.d (D.lit (Zco x8)),iA x9,bA x10])]))/\
 (tB (decide (0<=x13))=false->
 ∀_:Nat->Nat,∃R',HT 168 [A.d (D.lit (.int .u8 (Zwc x8 x9)))] [] R'/\
 (∀v H',R' (.ret v) H'-> ∃x14:Bool,v=bA x14/\H'=[]/\
 (((x14||(tB ((Zwc x8 x9)==94)))||(tB ((Zwc x8 x9)==45)))=true->
 tB (decide ((-9223372036854775808)<=(Zwc x8 x9)))=true/\
 tB (decide ((Zwc x8 x9)<=9223372036854775807))=true/\
 ∀_:Nat->Nat,∃R',HT 166 [iA (Zwc x8 x9),iA (Zwc x8 x9)] [] R'/\
 (∀v H',R' (.ret v) H'-> ∃x15:List D,v=A.agg x15/\H'=[]/\
 tB ((x15.length:Int)==4)=true/\
 tB (decide ((-9223372036854775808)<=(x9+1)))=true/\
 tB (decide ((x9+1)<=9223372036854775807))=true/\
 R (.ret (A.agg [D.lit (.int .i64 2),x15.getD 0 D0,x15.getD 1 D0,x15.getD 2 D0,x15.getD 3 D0,(D.slc ([]:List (List D)))])) [((Ref.up q0),[A.d (D.lit (Zco x8)),iA (x9+1),bA x10])])/\
 (∀x15v H',R' (.pan x15v) H'->H'=[]/\
 R (.pan x15v) [((Ref.up q0),[A.d (D.lit (Zco x8)),iA x9,bA x10])]))/\
 (((x14||(tB ((Zwc x8 x9)==94)))||(tB ((Zwc x8 x9)==45)))=false->
 (x12=true->
 tB (decide ((-9223372036854775808)<=(x9+1)))=true/\
 tB (decide ((x9+1)<=9223372036854775807))=true/\
 R (.ret (A.agg [D.lit (.int .i64 2),x11.getD 0 D0,x11.getD 1 D0,x11.getD 2 D0,x11.getD 3 D0,(D.slc ([]:List (List D)))])) [((Ref.up q0),[A.d (D.lit (Zco x8)),iA (x9+1),bA x10])])/\
 (x12=false->
 R (.ret (A.agg [D.lit (.int .i64 0),D.lit (.int .u64 0),D.lit (.int .u64 0),D.lit (.int .u64 0),D.lit (.int .u64 0),(D.slc ([]:List (List D)))])) [((Ref.up q0),[A.d (D.lit (Zco x8)),iA x9,bA true])])))/\
 (∀x14v H',R' (.pan x14v) H'->H'=[]/\
 R (.pan x14v) [((Ref.up q0),[A.d (D.lit (Zco x8)),iA x9,bA x10])])))/\
 (∀x13v H',R' (.pan x13v) H'->H'=[]/\
 R (.pan x13v) [((Ref.up q0),[A.d (D.lit (Zco x8)),iA x9,bA x10])]))/\
 (∀x11v H',R' (.pan x11v) H'->H'=[]/\
 R (.pan x11v) [((Ref.up q0),[A.d (D.lit (Zco x8)),iA x9,bA x10])]))/\
 (x7=false->
 R (.ret (A.agg [D.lit (.int .i64 0),D.lit (.int .u64 0),D.lit (.int .u64 0),D.lit (.int .u64 0),D.lit (.int .u64 0),(D.slc ([]:List (List D)))])) [((Ref.up q0),[A.d (D.lit (Zco x8)),iA x9,bA true])]))/\
 (∀x7v H',R' (.pan x7v) H'-> ∃x8:List UInt8,∃x9:Int,∃x10:Bool,H'=[(Ref.up (Ref.up q0),[A.d (D.lit (Zco x8)),iA x9,bA x10])]/\
 R (.pan x7v) [((Ref.up q0),[A.d (D.lit (Zco x8)),iA x9,bA x10])])))/\
 (∀x3v H',R' (.pan x3v) H'-> ∃x4:List UInt8,∃x5:Int,∃x6:Bool,H'=[(Ref.up (Ref.up q0),[A.d (D.lit (Zco x4)),iA x5,bA x6])]/\
 R (.pan x3v) [((Ref.up q0),[A.d (D.lit (Zco x4)),iA x5,bA x6])])):
 HT 165 [A.ptr (Ref.up q0) 0] [((Ref.up q0),[A.d (D.lit (Zco x0)),iA x1,bA x2])] R:=
 walk (c:=⟨Tryz.prog,69,true,[0,2,3,4,5,6,7,9,17,35,48,54]⟩) (op:={}) (fn:=Tryz.f165) (args:=[.ptr (.up 0) 0]) (K:=[(.up 0,[.c (.o1 .cs (.var 0)),.c (.o1 (.ci .i64) (.var 1)),.c (.o1 .cb (.o1 .tb (.var 2)))])]) (nv:=3) (depth:=7) (up:=upOf [q0]) (ρ:=Zwa [.s x0,.i x1,.b x2])
  rfl rfl rfl rfl rfl (by decide) (by decide) (by decide) (by decide) rfl (by simp[Zab,RRef.den,upOf]) (T_of (by kernel_rfl) h)
theorem w86{R:RT}(x0:List UInt8)(x1:Int)(x2:Bool)(q0:Ref)(h:∀_:Nat->Nat,∃R',HT 142 [A.ptr (.up (Ref.up q0)) 0,A.d (D.lit (.int .u8 93))] [(Ref.up (Ref.up q0),[A.d (D.lit (Zco x0)),iA x1,bA x2])] R'/\
 (∀v H',R' (.ret v) H'-> ∃x3:Bool,∃x4:List UInt8,∃x5:Int,∃x6:Bool,v=bA x3/\H'=[(Ref.up (Ref.up q0),[A.d (D.lit (Zco x4)),iA x5,bA x6])]/\
 (x3=true->
 R (.ret (A.agg [D.lit (.int .i64 0),D.lit (.int .u64 0),D.lit (.int .u64 0),D.lit (.int .u64 0),D.lit (.int .u64 0),(D.slc ([]:List (List D)))])) [((Ref.up q0),[A.d (D.lit (Zco x4)),iA x5,bA x6])])/\
 (x3=false->
 ∀_:Nat->Nat,∃R',HT 142 [A.ptr (.up (Ref.up q0)) 0,A.d (D.lit (.int .u8 94))] [(Ref.up (Ref.up q0),[A.d (D.lit (Zco x4)),iA x5,bA x6])] R'/\
 (∀v H',R' (.ret v) H'-> ∃x7:Bool,∃x8:List UInt8,∃x9:Int,∃x10:Bool,v=bA x7/\H'=[(Ref.up (Ref.up q0),[A.d (D.lit (Zco x8)),iA x9,bA x10])]/\
 ∃(I0_0:D->D->D->D->List UInt8->Int->Bool->Prop)(M0_0:D->D->D->D->List UInt8->Int->Bool->Nat),I0_0 (D.lit (.int .u64 0)) (D.lit (.int .u64 0)) (D.lit (.int .u64 0)) (D.lit (.int .u64 0)) x8 x9 x10/\
 (∀(x11:D)(x12:D)(x13:D)(x14:D)(x15:List UInt8)(x16:Int)(x17:Bool),I0_0 x11 x12 x13 x14 x15 x16 x17->
 ((!x17)=true->
 ∀_:Nat->Nat,∃R',HT 179 [A.ptr (.up (Ref.up q0)) 0,iA 0] [(Ref.up (Ref.up q0),[A.d (D.lit (Zco x15)),iA x16,bA x17])] R'/\
 (∀v H',R' (.ret v) H'-> ∃x18:Int,∃x19:List UInt8,∃x20:Int,∃x21:Bool,v=iA x18/\H'=[(Ref.up (Ref.up q0),[A.d (D.lit (Zco x19)),iA x20,bA x21])]/\
 ∀_:Nat->Nat,∃R',HT 142 [A.ptr (.up (Ref.up q0)) 0,A.d (D.lit (.int .u8 45))] [(Ref.up (Ref.up q0),[A.d (D.lit (Zco x19)),iA x20,bA x21])] R'/\
 (∀v H',R' (.ret v) H'-> ∃x22:Bool,∃x23:List UInt8,∃x24:Int,∃x25:Bool,v=bA x22/\H'=[(Ref.up (Ref.up q0),[A.d (D.lit (Zco x23)),iA x24,bA x25])]/\
 (x22=true->
 ∀_:Nat->Nat,∃R',HT 179 [A.ptr (.up (Ref.up q0)) 0,iA x18] [(Ref.up (Ref.up q0),[A.d (D.lit (Zco x23)),iA x24,bA x25])] R'/\
 (∀v H',R' (.ret v) H'-> ∃x26:Int,∃x27:List UInt8,∃x28:Int,∃x29:Bool,v=iA x26/\H'=[(Ref.up (Ref.up q0),[A.d (D.lit (Zco x27)),iA x28,bA x29])]/\
 ((!x29)=true->
 ∃x30:List D,(∀_:Nat->Nat,HT 166 [iA x18,iA x26] [] (Zpq [] (A.agg x30)))/\
 ∀_:Nat->Nat,∃R',HT 180 [A.agg [x11,x12,x13,x14],A.agg x30] [] R'/\
 (∀v H',R' (.ret v) H'-> ∃x31:List D,v=A.agg x31/\H'=[]/\
 tB ((x31.length:Int)==4)=true/\
 ∀_:Nat->Nat,∃R',HT 142 [A.ptr (.up (Ref.up q0)) 0,A.d (D.lit (.int .u8 93))] [(Ref.up (Ref.up q0),[A.d (D.lit (Zco x27)),iA x28,bA x29])] R'/\
 (∀v H',R' (.ret v) H'-> ∃x32:Bool,∃x33:List UInt8,∃x34:Int,∃x35:Bool,v=bA x32/\H'=[(Ref.up (Ref.up q0),[A.d (D.lit (Zco x33)),iA x34,bA x35])]/\
 (x32=true->
 (x7=true->
 ∀_:Nat->Nat,∃R',HT 181 [A.agg x31] [] R'/\
 (∀v H',R' (.ret v) H'-> ∃x36:List D,v=A.agg x36/\H'=[]/\
 tB ((x36.length:Int)==4)=true/\
 R (.ret (A.agg [D.lit (.int .i64 2),x36.getD 0 D0,x36.getD 1 D0,x36.getD 2 D0,x36.getD 3 D0,(D.slc ([]:List (List D)))])) [((Ref.up q0),[A.d (D.lit (Zco x33)),iA x34,bA x35])])/\
 (∀x36v H',R' (.pan x36v) H'->H'=[]/\
 R (.pan x36v) [((Ref.up q0),[A.d (D.lit (Zco x33)),iA x34,bA x35])]))/\
 (x7=false->
 R (.ret (A.agg [D.lit (.int .i64 2),x31.getD 0 D0,x31.getD 1 D0,x31.getD 2 D0,x31.getD 3 D0,(D.slc ([]:List (List D)))])) [((Ref.up q0),[A.d (D.lit (Zco x33)),iA x34,bA x35])]))/\
 (x32=false->
 I0_0 (x31.getD 0 D0) (x31.getD 1 D0) (x31.getD 2 D0) (x31.getD 3 D0) x33 x34 x35/\M0_0 (x31.getD 0 D0) (x31.getD 1 D0) (x31.getD 2 D0) (x31.getD 3 D0) x33 x34 x35<M0_0 x11 x12 x13 x14 x15 x16 x17))/\
 (∀x32v H',R' (.pan x32v) H'-> ∃x33:List UInt8,∃x34:Int,∃x35:Bool,H'=[(Ref.up (Ref.up q0),[A.d (D.lit (Zco x33)),iA x34,bA x35])]/\
 R (.pan x32v) [((Ref.up q0),[A.d (D.lit (Zco x33)),iA x34,bA x35])]))/\
 (∀x31v H',R' (.pan x31v) H'->H'=[]/\
 R (.pan x31v) [((Ref.up q0),[A.d (D.lit (Zco x27)),iA x28,bA x29])]))/\
 ((!x29)=false->
 ∀_:Nat->Nat,∃R',HT 142 [A.ptr (.up (Ref.up q0)) 0,A.d (D.lit (.int .u8 93))] [(Ref.up (Ref.up q0),[A.d (D.lit (Zco x27)),iA x28,bA x29])] R'/\
 (∀v H',R' (.ret v) H'-> ∃x30:Bool,∃x31:List UInt8,∃x32:Int,∃x33:Bool,v=bA x30/\H'=[(Ref.up (Ref.up q0),[A.d (D.lit (Zco x31)),iA x32,bA x33])]/\
 (x30=true->
 (x7=true->
 ∀_:Nat->Nat,∃R',HT 181 [A.agg [x11,x12,x13,x14]] [] R'/\
 (∀v H',R' (.ret v) H'-> ∃x34:List D,v=A.agg x34/\H'=[]/\
 tB ((x34.length:Int)==4)=true/\
 R (.ret (A.agg [D.lit (.int .i64 2),x34.getD 0 D0,x34.getD 1 D0,x34.getD 2 D0,x34.getD 3 D0,(D.slc ([]:List (List D)))])) [((Ref.up q0),[A.d (D.lit (Zco x31)),iA x32,bA x33])])/\
 (∀x34v H',R' (.pan x34v) H'->H'=[]/\
 R (.pan x34v) [((Ref.up q0),[A.d (D.lit (Zco x31)),iA x32,bA x33])]))/\
 (x7=false->
 R (.ret (A.agg [D.lit (.int .i64 2),x11,x12,x13,x14,(D.slc ([]:List (List D)))])) [((Ref.up q0),[A.d (D.lit (Zco x31)),iA x32,bA x33])]))/\
 (x30=false->
 I0_0 x11 x12 x13 x14 x31 x32 x33/\M0_0 x11 x12 x13 x14 x31 x32 x33<M0_0 x11 x12 x13 x14 x15 x16 x17))/\
 (∀x30v H',R' (.pan x30v) H'-> ∃x31:List UInt8,∃x32:Int,∃x33:Bool,H'=[(Ref.up (Ref.up q0),[A.d (D.lit (Zco x31)),iA x32,bA x33])]/\
 R (.pan x30v) [((Ref.up q0),[A.d (D.lit (Zco x31)),iA x32,bA x33])])))/\
 (∀x26v H',R' (.pan x26v) H'-> ∃x27:List UInt8,∃x28:Int,∃x29:Bool,H'=[(Ref.up (Ref.up q0),[A.d (D.lit (Zco x27)),iA x28,bA x29])]/\
 R (.pan x26v) [((Ref.up q0),[A.d (D.lit (Zco x27)),iA x28,bA x29])]))/\
 (x22=false->
 ((!x25)=true->
 ∃x26:List D,(∀_:Nat->Nat,HT 166 [iA x18,iA x18] [] (Zpq [] (A.agg x26)))/\
 ∀_:Nat->Nat,∃R',HT 180 [A.agg [x11,x12,x13,x14],A.agg x26] [] R'/\
 (∀v H',R' (.ret v) H'-> ∃x27:List D,v=A.agg x27/\H'=[]/\
 tB ((x27.length:Int)==4)=true/\
 ∀_:Nat->Nat,∃R',HT 142 [A.ptr (.up (Ref.up q0)) 0,A.d (D.lit (.int .u8 93))] [(Ref.up (Ref.up q0),[A.d (D.lit (Zco x23)),iA x24,bA x25])] R'/\
 (∀v H',R' (.ret v) H'-> ∃x28:Bool,∃x29:List UInt8,∃x30:Int,∃x31:Bool,v=bA x28/\H'=[(Ref.up (Ref.up q0),[A.d (D.lit (Zco x29)),iA x30,bA x31])]/\
 (x28=true->
 (x7=true->
 ∀_:Nat->Nat,∃R',HT 181 [A.agg x27] [] R'/\
 (∀v H',R' (.ret v) H'-> ∃x32:List D,v=A.agg x32/\H'=[]/\
 tB ((x32.length:Int)==4)=true/\
 R (.ret (A.agg [D.lit (.int .i64 2),x32.getD 0 D0,x32.getD 1 D0,x32.getD 2 D0,x32.getD 3 D0,(D.slc ([]:List (List D)))])) [((Ref.up q0),[A.d (D.lit (Zco x29)),iA x30,bA x31])])/\
 (∀x32v H',R' (.pan x32v) H'->H'=[]/\
 R (.pan x32v) [((Ref.up q0),[A.d (D.lit (Zco x29)),iA x30,bA x31])]))/\
 (x7=false->
 R (.ret (A.agg [D.lit (.int .i64 2),x27.getD 0 D0,x27.getD 1 D0,x27.getD 2 D0,x27.getD 3 D0,(D.slc ([]:List (List D)))])) [((Ref.up q0),[A.d (D.lit (Zco x29)),iA x30,bA x31])]))/\
 (x28=false->
 I0_0 (x27.getD 0 D0) (x27.getD 1 D0) (x27.getD 2 D0) (x27.getD 3 D0) x29 x30 x31/\M0_0 (x27.getD 0 D0) (x27.getD 1 D0) (x27.getD 2 D0) (x27.getD 3 D0) x29 x30 x31<M0_0 x11 x12 x13 x14 x15 x16 x17))/\
 (∀x28v H',R' (.pan x28v) H'-> ∃x29:List UInt8,∃x30:Int,∃x31:Bool,H'=[(Ref.up (Ref.up q0),[A.d (D.lit (Zco x29)),iA x30,bA x31])]/\
 R (.pan x28v) [((Ref.up q0),[A.d (D.lit (Zco x29)),iA x30,bA x31])]))/\
 (∀x27v H',R' (.pan x27v) H'->H'=[]/\
 R (.pan x27v) [((Ref.up q0),[A.d (D.lit (Zco x23)),iA x24,bA x25])]))/\
 ((!x25)=false->
 ∀_:Nat->Nat,∃R',HT 142 [A.ptr (.up (Ref.up q0)) 0,A.d (D.lit (.int .u8 93))] [(Ref.up (Ref.up q0),[A.d (D.lit (Zco x23)),iA x24,bA x25])] R'/\
 (∀v H',R' (.ret v) H'-> ∃x26:Bool,∃x27:List UInt8,∃x28:Int,∃x29:Bool,v=bA x26/\H'=[(Ref.up (Ref.up q0),[A.d (D.lit (Zco x27)),iA x28,bA x29])]/\
 (x26=true->
 (x7=true->
 ∀_:Nat->Nat,∃R',HT 181 [A.agg [x11,x12,x13,x14]] [] R'/\
 (∀v H',R' (.ret v) H'-> ∃x30:List D,v=A.agg x30/\H'=[]/\
 tB ((x30.length:Int)==4)=true/\
 R (.ret (A.agg [D.lit (.int .i64 2),x30.getD 0 D0,x30.getD 1 D0,x30.getD 2 D0,x30.getD 3 D0,(D.slc ([]:List (List D)))])) [((Ref.up q0),[A.d (D.lit (Zco x27)),iA x28,bA x29])])/\
 (∀x30v H',R' (.pan x30v) H'->H'=[]/\
 R (.pan x30v) [((Ref.up q0),[A.d (D.lit (Zco x27)),iA x28,bA x29])]))/\
 (x7=false->
 R (.ret (A.agg [D.lit (.int .i64 2),x11,x12,x13,x14,(D.slc ([]:List (List D)))])) [((Ref.up q0),[A.d (D.lit (Zco x27)),iA x28,bA x29])]))/\
 (x26=false->
 I0_0 x11 x12 x13 x14 x27 x28 x29/\M0_0 x11 x12 x13 x14 x27 x28 x29<M0_0 x11 x12 x13 x14 x15 x16 x17))/\
 (∀x26v H',R' (.pan x26v) H'-> ∃x27:List UInt8,∃x28:Int,∃x29:Bool,H'=[(Ref.up (Ref.up q0),[A.d (D.lit (Zco x27)),iA x28,bA x29])]/\
 R (.pan x26v) [((Ref.up q0),[A.d (D.lit (Zco x27)),iA x28,bA x29])]))))/\
 (∀x22v H',R' (.pan x22v) H'-> ∃x23:List UInt8,∃x24:Int,∃x25:Bool,H'=[(Ref.up (Ref.up q0),[A.d (D.lit (Zco x23)),iA x24,bA x25])]/\
 R (.pan x22v) [((Ref.up q0),[A.d (D.lit (Zco x23)),iA x24,bA x25])]))/\
 (∀x18v H',R' (.pan x18v) H'-> ∃x19:List UInt8,∃x20:Int,∃x21:Bool,H'=[(Ref.up (Ref.up q0),[A.d (D.lit (Zco x19)),iA x20,bA x21])]/\
 R (.pan x18v) [((Ref.up q0),[A.d (D.lit (Zco x19)),iA x20,bA x21])]))/\
 ((!x17)=false->
 (x7=true->
 ∀_:Nat->Nat,∃R',HT 181 [A.agg [x11,x12,x13,x14]] [] R'/\
 (∀v H',R' (.ret v) H'-> ∃x18:List D,v=A.agg x18/\H'=[]/\
 tB ((x18.length:Int)==4)=true/\
 R (.ret (A.agg [D.lit (.int .i64 2),x18.getD 0 D0,x18.getD 1 D0,x18.getD 2 D0,x18.getD 3 D0,(D.slc ([]:List (List D)))])) [((Ref.up q0),[A.d (D.lit (Zco x15)),iA x16,bA x17])])/\
 (∀x18v H',R' (.pan x18v) H'->H'=[]/\
 R (.pan x18v) [((Ref.up q0),[A.d (D.lit (Zco x15)),iA x16,bA x17])]))/\
 (x7=false->
 R (.ret (A.agg [D.lit (.int .i64 2),x11,x12,x13,x14,(D.slc ([]:List (List D)))])) [((Ref.up q0),[A.d (D.lit (Zco x15)),iA x16,bA x17])])))/\
 True)/\
 (∀x7v H',R' (.pan x7v) H'-> ∃x8:List UInt8,∃x9:Int,∃x10:Bool,H'=[(Ref.up (Ref.up q0),[A.d (D.lit (Zco x8)),iA x9,bA x10])]/\
 R (.pan x7v) [((Ref.up q0),[A.d (D.lit (Zco x8)),iA x9,bA x10])])))/\
 (∀x3v H',R' (.pan x3v) H'-> ∃x4:List UInt8,∃x5:Int,∃x6:Bool,H'=[(Ref.up (Ref.up q0),[A.d (D.lit (Zco x4)),iA x5,bA x6])]/\
 R (.pan x3v) [((Ref.up q0),[A.d (D.lit (Zco x4)),iA x5,bA x6])])):
 HT 167 [A.ptr (Ref.up q0) 0] [((Ref.up q0),[A.d (D.lit (Zco x0)),iA x1,bA x2])] R:=
 walk (c:=⟨Tryz.prog,42,true,[0,2,3,4,5,6,8,16,21,29,36,37]⟩) (op:={com:=[(5,(16,5000)),(5,(5,5000)),(5,(6,5000)),(5,(21,5000)),(5,(29,5000)),(5,(36,5000))]}) (fn:=Tryz.f167) (args:=[.ptr (.up 0) 0]) (K:=[(.up 0,[.c (.o1 .cs (.var 0)),.c (.o1 (.ci .i64) (.var 1)),.c (.o1 .cb (.o1 .tb (.var 2)))])]) (nv:=3) (depth:=6) (up:=upOf [q0]) (ρ:=Zwa [.s x0,.i x1,.b x2])
  rfl rfl rfl rfl rfl (by decide) (by decide) (by decide) (by decide) rfl (by simp[Zab,RRef.den,upOf]) (T_of (by kernel_rfl) h)
theorem w95{R:RT}(x0:List UInt8)(x1:Int)(x2:Bool)(x3:Int)(q0:Ref)(h:∃x4:Bool,(∀_:Nat->Nat,HT 151 [A.ptr (.up (Ref.up q0)) 0] [(Ref.up (Ref.up q0),[A.d (D.lit (Zco x0)),iA x1,bA x2])] (Zpq [(Ref.up (Ref.up q0),[A.d (D.lit (Zco x0)),iA x1,bA x2])] (bA x4)))/\
 ((!x4)||(tB (decide (0<=x1))))=true/\
 ((!x4)||(tB (decide (x1<(x0.length:Int)))))=true/\
 (x4=true->
 ∃x5:Int,(∀_:Nat->Nat,HT 184 [A.d (D.lit (.int .u8 (Zwc x0 x1)))] [] (Zpq [] (iA x5)))/\
 ((tB (decide (x5<0)))||(tB (decide (0<=x1))))=true/\
 ((tB (decide (x5<0)))||(tB (decide (x1<(x0.length:Int)))))=true/\
 ((!(tB (decide (x5<0))))=true->
 ∃x6:Int,(∀_:Nat->Nat,HT 184 [A.d (D.lit (.int .u8 (Zwc x0 x1)))] [] (Zpq [] (iA x6)))/\
 tB (decide ((-9223372036854775808)<=(x6*16)))=true/\
 tB (decide ((x6*16)<=9223372036854775807))=true/\
 tB (decide ((-9223372036854775808)<=((x6*16)+15)))=true/\
 tB (decide (((x6*16)+15)<=9223372036854775807))=true/\
 (tB (decide (((x6*16)+15)<x3))=true->
 R (.ret (iA 0)) [((Ref.up q0),[A.d (D.lit (Zco x0)),iA x1,bA true])])/\
 (tB (decide (((x6*16)+15)<x3))=false->
 tB (decide (0<=x1))=true/\
 tB (decide (x1<(x0.length:Int)))=true/\
 ∀_:Nat->Nat,∃R',HT 184 [A.d (D.lit (.int .u8 (Zwc x0 x1)))] [] R'/\
 (∀v H',R' (.ret v) H'-> ∃x7:Int,v=iA x7/\H'=[]/\
 tB (decide ((-9223372036854775808)<=(x7*16)))=true/\
 tB (decide ((x7*16)<=9223372036854775807))=true/\
 tB (decide ((-9223372036854775808)<=(x1+1)))=true/\
 tB (decide ((x1+1)<=9223372036854775807))=true/\
 ∃x8:Bool,(∀_:Nat->Nat,HT 151 [A.ptr (.up (Ref.up q0)) 0] [(Ref.up (Ref.up q0),[A.d (D.lit (Zco x0)),iA (x1+1),bA x2])] (Zpq [(Ref.up (Ref.up q0),[A.d (D.lit (Zco x0)),iA (x1+1),bA x2])] (bA x8)))/\
 ((!x8)||(tB (decide (0<=(x1+1)))))=true/\
 ((!x8)||(tB (decide ((x1+1)<(x0.length:Int)))))=true/\
 (x8=true->
 ∃x9:Int,(∀_:Nat->Nat,HT 184 [A.d (D.lit (.int .u8 (Zwc x0 (x1+1))))] [] (Zpq [] (iA x9)))/\
 ((tB (decide (x9<0)))||(tB (decide (0<=(x1+1)))))=true/\
 ((tB (decide (x9<0)))||(tB (decide ((x1+1)<(x0.length:Int)))))=true/\
 ((!(tB (decide (x9<0))))=true->
 ∃x10:Int,(∀_:Nat->Nat,HT 184 [A.d (D.lit (.int .u8 (Zwc x0 (x1+1))))] [] (Zpq [] (iA x10)))/\
 tB (decide ((-9223372036854775808)<=((x7*16)+x10)))=true/\
 tB (decide (((x7*16)+x10)<=9223372036854775807))=true/\
 (tB (decide (((x7*16)+x10)<x3))=true->
 R (.ret (iA 0)) [((Ref.up q0),[A.d (D.lit (Zco x0)),iA (x1+1),bA true])])/\
 (tB (decide (((x7*16)+x10)<x3))=false->
 tB (decide ((-9223372036854775808)<=((x1+1)+1)))=true/\
 tB (decide (((x1+1)+1)<=9223372036854775807))=true/\
 tB (decide ((-9223372036854775808)<=(((x1+1)+1)-1)))=true/\
 tB (decide ((((x1+1)+1)-1)<=9223372036854775807))=true/\
 tB (decide (0<=(((x1+1)+1)-1)))=true/\
 tB (decide ((((x1+1)+1)-1)<(x0.length:Int)))=true/\
 ∃x11:Int,(∀_:Nat->Nat,HT 184 [A.d (D.lit (.int .u8 (Zwc x0 (((x1+1)+1)-1))))] [] (Zpq [] (iA x11)))/\
 tB (decide ((-9223372036854775808)<=((x7*16)+x11)))=true/\
 tB (decide (((x7*16)+x11)<=9223372036854775807))=true/\
 R (.ret (iA ((x7*16)+x11))) [((Ref.up q0),[A.d (D.lit (Zco x0)),iA ((x1+1)+1),bA x2])]))/\
 ((!(tB (decide (x9<0))))=false->
 R (.ret (iA 0)) [((Ref.up q0),[A.d (D.lit (Zco x0)),iA (x1+1),bA true])]))/\
 (x8=false->
 R (.ret (iA 0)) [((Ref.up q0),[A.d (D.lit (Zco x0)),iA (x1+1),bA true])]))/\
 (∀x7v H',R' (.pan x7v) H'->H'=[]/\
 R (.pan x7v) [((Ref.up q0),[A.d (D.lit (Zco x0)),iA x1,bA x2])])))/\
 ((!(tB (decide (x5<0))))=false->
 R (.ret (iA 0)) [((Ref.up q0),[A.d (D.lit (Zco x0)),iA x1,bA true])]))/\
 (x4=false->
 R (.ret (iA 0)) [((Ref.up q0),[A.d (D.lit (Zco x0)),iA x1,bA true])])):
 HT 176 [A.ptr (Ref.up q0) 0,iA x3] [((Ref.up q0),[A.d (D.lit (Zco x0)),iA x1,bA x2])] R:=
 walk (c:=⟨Tryz.prog,116,true,[0,1,4,5,37,91]⟩) (op:={}) (fn:=Tryz.f176) (args:=[.ptr (.up 0) 0,.c (.o1 (.ci .i64) (.var 3))]) (K:=[(.up 0,[.c (.o1 .cs (.var 0)),.c (.o1 (.ci .i64) (.var 1)),.c (.o1 .cb (.o1 .tb (.var 2)))])]) (nv:=4) (depth:=7) (up:=upOf [q0]) (ρ:=Zwa [.s x0,.i x1,.b x2,.i x3])
  rfl rfl rfl rfl rfl (by decide) (by decide) (by decide) (by decide) rfl (by simp[Zab,RRef.den,upOf]) (T_of (by kernel_rfl) h)
theorem w98{R:RT}(x0:List UInt8)(x1:Int)(x2:Bool)(x3:Int)(q0:Ref)(h:∀_:Nat->Nat,∃R',HT 142 [A.ptr (.up (Ref.up q0)) 0,A.d (D.lit (.int .u8 92))] [(Ref.up (Ref.up q0),[A.d (D.lit (Zco x0)),iA x1,bA x2])] R'/\
 (∀v H',R' (.ret v) H'-> ∃x4:Bool,∃x5:List UInt8,∃x6:Int,∃x7:Bool,v=bA x4/\H'=[(Ref.up (Ref.up q0),[A.d (D.lit (Zco x5)),iA x6,bA x7])]/\
 (x4=true->
 ∀_:Nat->Nat,∃R',HT 142 [A.ptr (.up (Ref.up q0)) 0,A.d (D.lit (.int .u8 120))] [(Ref.up (Ref.up q0),[A.d (D.lit (Zco x5)),iA x6,bA x7])] R'/\
 (∀v H',R' (.ret v) H'-> ∃x8:Bool,∃x9:List UInt8,∃x10:Int,∃x11:Bool,v=bA x8/\H'=[(Ref.up (Ref.up q0),[A.d (D.lit (Zco x9)),iA x10,bA x11])]/\
 (x8=true->
 ∀_:Nat->Nat,∃R',HT 176 [A.ptr (.up (Ref.up q0)) 0,iA x3] [(Ref.up (Ref.up q0),[A.d (D.lit (Zco x9)),iA x10,bA x11])] R'/\
 (∀v H',R' (.ret v) H'-> ∃x12:Int,∃x13:List UInt8,∃x14:Int,∃x15:Bool,v=iA x12/\H'=[(Ref.up (Ref.up q0),[A.d (D.lit (Zco x13)),iA x14,bA x15])]/\
 R (.ret (iA x12)) [((Ref.up q0),[A.d (D.lit (Zco x13)),iA x14,bA x15])])/\
 (∀x12v H',R' (.pan x12v) H'-> ∃x13:List UInt8,∃x14:Int,∃x15:Bool,H'=[(Ref.up (Ref.up q0),[A.d (D.lit (Zco x13)),iA x14,bA x15])]/\
 R (.pan x12v) [((Ref.up q0),[A.d (D.lit (Zco x13)),iA x14,bA x15])]))/\
 (x8=false->
 ∀_:Nat->Nat,∃R',HT 151 [A.ptr (.up (Ref.up q0)) 0] [(Ref.up (Ref.up q0),[A.d (D.lit (Zco x9)),iA x10,bA x11])] R'/\
 (∀v H',R' (.ret v) H'-> ∃x12:Bool,∃x13:List UInt8,∃x14:Int,∃x15:Bool,v=bA x12/\H'=[(Ref.up (Ref.up q0),[A.d (D.lit (Zco x13)),iA x14,bA x15])]/\
 (x12=true->
 tB (decide (0<=x14))=true/\
 tB (decide (x14<(x13.length:Int)))=true/\
 ∀_:Nat->Nat,∃R',HT 178 [A.d (D.lit (.int .u8 (Zwc x13 x14)))] [] R'/\
 (∀v H',R' (.ret v) H'-> ∃x16:Int,v=iA x16/\H'=[]/\
 ∀_:Nat->Nat,∃R',HT 168 [A.d (D.lit (.int .u8 (Zwc x13 x14)))] [] R'/\
 (∀v H',R' (.ret v) H'-> ∃x17:Bool,v=bA x17/\H'=[]/\
 (((x17||(tB ((Zwc x13 x14)==94)))||(tB ((Zwc x13 x14)==45)))=true->
 tB (decide ((-9223372036854775808)<=(Zwc x13 x14)))=true/\
 tB (decide ((Zwc x13 x14)<=9223372036854775807))=true/\
 (tB (decide (x3<=(Zwc x13 x14)))=true->
 tB (decide ((-9223372036854775808)<=(x14+1)))=true/\
 tB (decide ((x14+1)<=9223372036854775807))=true/\
 R (.ret (iA (Zwc x13 x14))) [((Ref.up q0),[A.d (D.lit (Zco x13)),iA (x14+1),bA x15])])/\
 (tB (decide (x3<=(Zwc x13 x14)))=false->
 R (.ret (iA 0)) [((Ref.up q0),[A.d (D.lit (Zco x13)),iA x14,bA true])]))/\
 (((x17||(tB ((Zwc x13 x14)==94)))||(tB ((Zwc x13 x14)==45)))=false->
 (tB (decide (x3<=x16))=true->
 tB (decide ((-9223372036854775808)<=(x14+1)))=true/\
 tB (decide ((x14+1)<=9223372036854775807))=true/\
 R (.ret (iA x16)) [((Ref.up q0),[A.d (D.lit (Zco x13)),iA (x14+1),bA x15])])/\
 (tB (decide (x3<=x16))=false->
 R (.ret (iA 0)) [((Ref.up q0),[A.d (D.lit (Zco x13)),iA x14,bA true])])))/\
 (∀x17v H',R' (.pan x17v) H'->H'=[]/\
 R (.pan x17v) [((Ref.up q0),[A.d (D.lit (Zco x13)),iA x14,bA x15])]))/\
 (∀x16v H',R' (.pan x16v) H'->H'=[]/\
 R (.pan x16v) [((Ref.up q0),[A.d (D.lit (Zco x13)),iA x14,bA x15])]))/\
 (x12=false->
 R (.ret (iA 0)) [((Ref.up q0),[A.d (D.lit (Zco x13)),iA x14,bA true])]))/\
 (∀x12v H',R' (.pan x12v) H'-> ∃x13:List UInt8,∃x14:Int,∃x15:Bool,H'=[(Ref.up (Ref.up q0),[A.d (D.lit (Zco x13)),iA x14,bA x15])]/\
 R (.pan x12v) [((Ref.up q0),[A.d (D.lit (Zco x13)),iA x14,bA x15])])))/\
 (∀x8v H',R' (.pan x8v) H'-> ∃x9:List UInt8,∃x10:Int,∃x11:Bool,H'=[(Ref.up (Ref.up q0),[A.d (D.lit (Zco x9)),iA x10,bA x11])]/\
 R (.pan x8v) [((Ref.up q0),[A.d (D.lit (Zco x9)),iA x10,bA x11])]))/\
 (x4=false->
 ∀_:Nat->Nat,∃R',HT 151 [A.ptr (.up (Ref.up q0)) 0] [(Ref.up (Ref.up q0),[A.d (D.lit (Zco x5)),iA x6,bA x7])] R'/\
 (∀v H',R' (.ret v) H'-> ∃x8:Bool,∃x9:List UInt8,∃x10:Int,∃x11:Bool,v=bA x8/\H'=[(Ref.up (Ref.up q0),[A.d (D.lit (Zco x9)),iA x10,bA x11])]/\
 ((!x8)=true->
 R (.ret (iA 0)) [((Ref.up q0),[A.d (D.lit (Zco x9)),iA x10,bA true])])/\
 ((!x8)=false->
 tB (decide (0<=x10))=true/\
 tB (decide (x10<(x9.length:Int)))=true/\
 ((!((tB (decide ((Zwc x9 x10)<32)))||(tB (decide (126<(Zwc x9 x10))))))=true->
 ∀_:Nat->Nat,∃R',HT 168 [A.d (D.lit (.int .u8 (Zwc x9 x10)))] [] R'/\
 (∀v H',R' (.ret v) H'-> ∃x12:Bool,v=bA x12/\H'=[]/\
 (((x12||(tB ((Zwc x9 x10)==94)))||(tB ((Zwc x9 x10)==45)))||(tB (decide ((-9223372036854775808)<=(Zwc x9 x10)))))=true/\
 (((x12||(tB ((Zwc x9 x10)==94)))||(tB ((Zwc x9 x10)==45)))||(tB (decide ((Zwc x9 x10)<=9223372036854775807))))=true/\
 ((((x12||(tB ((Zwc x9 x10)==94)))||(tB ((Zwc x9 x10)==45)))||(tB (decide ((Zwc x9 x10)<x3))))=true->
 R (.ret (iA 0)) [((Ref.up q0),[A.d (D.lit (Zco x9)),iA x10,bA true])])/\
 ((((x12||(tB ((Zwc x9 x10)==94)))||(tB ((Zwc x9 x10)==45)))||(tB (decide ((Zwc x9 x10)<x3))))=false->
 tB (decide ((-9223372036854775808)<=(x10+1)))=true/\
 tB (decide ((x10+1)<=9223372036854775807))=true/\
 tB (decide ((-9223372036854775808)<=(Zwc x9 x10)))=true/\
 tB (decide ((Zwc x9 x10)<=9223372036854775807))=true/\
 R (.ret (iA (Zwc x9 x10))) [((Ref.up q0),[A.d (D.lit (Zco x9)),iA (x10+1),bA x11])]))/\
 (∀x12v H',R' (.pan x12v) H'->H'=[]/\
 R (.pan x12v) [((Ref.up q0),[A.d (D.lit (Zco x9)),iA x10,bA x11])]))/\
 ((!((tB (decide ((Zwc x9 x10)<32)))||(tB (decide (126<(Zwc x9 x10))))))=false->
 R (.ret (iA 0)) [((Ref.up q0),[A.d (D.lit (Zco x9)),iA x10,bA true])])))/\
 (∀x8v H',R' (.pan x8v) H'-> ∃x9:List UInt8,∃x10:Int,∃x11:Bool,H'=[(Ref.up (Ref.up q0),[A.d (D.lit (Zco x9)),iA x10,bA x11])]/\
 R (.pan x8v) [((Ref.up q0),[A.d (D.lit (Zco x9)),iA x10,bA x11])])))/\
 (∀x4v H',R' (.pan x4v) H'-> ∃x5:List UInt8,∃x6:Int,∃x7:Bool,H'=[(Ref.up (Ref.up q0),[A.d (D.lit (Zco x5)),iA x6,bA x7])]/\
 R (.pan x4v) [((Ref.up q0),[A.d (D.lit (Zco x5)),iA x6,bA x7])])):
 HT 179 [A.ptr (Ref.up q0) 0,iA x3] [((Ref.up q0),[A.d (D.lit (Zco x0)),iA x1,bA x2])] R:=
 walk (c:=⟨Tryz.prog,107,true,[0,1,4,5,6,7,9,11,16,37,42,57,93]⟩) (op:={}) (fn:=Tryz.f179) (args:=[.ptr (.up 0) 0,.c (.o1 (.ci .i64) (.var 3))]) (K:=[(.up 0,[.c (.o1 .cs (.var 0)),.c (.o1 (.ci .i64) (.var 1)),.c (.o1 .cb (.o1 .tb (.var 2)))])]) (nv:=4) (depth:=7) (up:=upOf [q0]) (ρ:=Zwa [.s x0,.i x1,.b x2,.i x3])
  rfl rfl rfl rfl rfl (by decide) (by decide) (by decide) (by decide) rfl (by simp[Zab,RRef.den,upOf]) (T_of (by kernel_rfl) h)
theorem w20{R:RT}(x0:List UInt8)(h:(tB (decide (1000<(x0.length:Int)))=true->
 R (.ret (A.tup [(true,[D.lit (.int .i64 0),D.lit (.int .u64 0),D.lit (.int .u64 0),D.lit (.int .u64 0),D.lit (.int .u64 0),(D.slc ([]:List (List D)))]),(true,[D.lit (.int .i64 2),D.lit (.int .i64 0)])])) [])/\
 (tB (decide (1000<(x0.length:Int)))=false->
 ∀ν:Nat->Nat,∃R',HT 130 [A.ptr (.up (Ref.own 13 (ν 13))) 0] [(Ref.up (Ref.own 13 (ν 13)),[A.d (D.lit (Zco x0)),iA 0,bA false])] R'/\
 (∀v H',R' (.ret v) H'-> ∃x1:List D,∃x2:List UInt8,∃x3:Int,∃x4:Bool,v=A.agg x1/\H'=[(Ref.up (Ref.own 13 (ν 13)),[A.d (D.lit (Zco x2)),iA x3,bA x4])]/\
 tB ((x1.length:Int)==6)=true/\
 ((x4||(tB (decide (x3<(x0.length:Int)))))=true->
 R (.ret (A.tup [(true,[D.lit (.int .i64 0),D.lit (.int .u64 0),D.lit (.int .u64 0),D.lit (.int .u64 0),D.lit (.int .u64 0),(D.slc ([]:List (List D)))]),(true,[D.lit (.int .i64 8),D.lit (.int .i64 x3)])])) [])/\
 ((x4||(tB (decide (x3<(x0.length:Int)))))=false->
 ∀_:Nat->Nat,∃R',HT 131 [A.agg x1] [] R'/\
 (∀v H',R' (.ret v) H'-> ∃x5:Int,v=iA x5/\H'=[]/\
 (tB (x5==9)=true->
 R (.ret (A.tup [(true,[D.lit (.int .i64 0),D.lit (.int .u64 0),D.lit (.int .u64 0),D.lit (.int .u64 0),D.lit (.int .u64 0),(D.slc ([]:List (List D)))]),(true,[D.lit (.int .i64 9),D.lit (.int .i64 0)])])) [])/\
 (tB (x5==9)=false->
 R (.ret (A.tup [(true,x1),(true,[D.lit (.int .i64 0),D.lit (.int .i64 0)])])) []))/\
 PN R R'))/\
 (∀x1v H',R' (.pan x1v) H'-> ∃x2:List UInt8,∃x3:Int,∃x4:Bool,H'=[(Ref.up (Ref.own 13 (ν 13)),[A.d (D.lit (Zco x2)),iA x3,bA x4])]/\
 R (.pan x1v) []))):
 HT 116 [A.d (D.lit (Zco x0))] [] R:=
 walk (c:=⟨Tryz.prog,42,true,[0,2,3,4,5,8,28,37]⟩) (op:={lat:=[6]}) (fn:=Tryz.f116) (args:=[.c (.o1 .cs (.var 0))]) (K:=[]) (nv:=1) (depth:=6) (up:=upOf []) (ρ:=Zwa [.s x0])
  rfl rfl rfl rfl rfl (by decide) (by decide) (by decide) (by decide) rfl (by simp[Zab,RRef.den,upOf]) (T_of (by kernel_rfl) h)
end Go.Rx
end
section
open Go Go.Proofs Go.Ab Go.Rf
set_option maxRecDepth 1000000
set_option maxHeartbeats 2000000
set_option linter.unusedVariables false
namespace Go.Sy
theorem w18{R:RT}(x0:List D)(h:tB ((x0.length:Int)==9)=true/\
 ∃x1:Bool,(∀_:Nat->Nat,HT 59 [A.agg x0,bA true,bA false,bA false] [] (Zpq [] (bA x1)))/\
 ∀_:Nat->Nat,∃R',HT 60 [A.agg x0] [] R'/\
 (∀v H',R' (.ret v) H'-> ∃x2:Int,v=iA x2/\H'=[]/\
 ∀_:Nat->Nat,∃R',HT 55 [bA x1,iA x2] [] R'/\
 (∀v H',R' (.ret v) H'-> ∃x3:Int,v=iA x3/\H'=[]/\
 R (.ret (iA x3)) [])/\
 PN R R')/\
 PN R R'):
 HT 18 [A.agg x0] [] R:=
 walk (c:=⟨Tryz.prog,8,true,[0,1,2]⟩) (op:={}) (fn:=Tryz.f18) (args:=[.agg (.var 0)]) (K:=[]) (nv:=1) (depth:=4) (up:=upOf []) (ρ:=Zwa [.r x0])
  rfl rfl rfl rfl rfl (by decide) (by decide) (by decide) (by decide) rfl (by simp[Zab,RRef.den,upOf]) (T_of (by kernel_rfl) h)
theorem w52{R:RT}(x0:List UInt8)(h:(((tB (decide ((x0.length:Int)<1)))||(tB (decide (32<(x0.length:Int)))))=true->
 R (.ret (bA false)) [])/\
 (((tB (decide ((x0.length:Int)<1)))||(tB (decide (32<(x0.length:Int)))))=false->
 ∀_:Nat->Nat,∃R',HT 98 [] [] R'/\
 (∀v H',R' (.ret v) H'-> ∃x1:List (List D),v=A.d (D.slc x1)/\H'=[]/\
 ∃(I0_0:Int->Prop)(M0_0:Int->Nat),I0_0 0/\
 (∀(x2:Int),I0_0 x2->
 (tB (decide (x2<(x1.length:Int)))=true->
 tB (decide (0<=x2))=true/\
 tB (((gAt x1 x2).length:Int)==1)=true/\
 isK .str ((gAt x1 x2).getD 0 D0)=true/\
 (tB (x0==(dstr ((gAt x1 x2).getD 0 D0)))=true->
 R (.ret (bA false)) [])/\
 (tB (x0==(dstr ((gAt x1 x2).getD 0 D0)))=false->
 oV (x2+1) (I0_0 (x2+1)/\M0_0 (x2+1)<M0_0 x2)))/\
 (tB (decide (x2<(x1.length:Int)))=false->
 tB (decide (0<(x0.length:Int)))=true/\
 (((tB ((Zwc x0 0)==35))||(tB ((Zwc x0 0)==95)))=true->
 ((tB (decide ((x0.length:Int)<=1)))||(tB (decide (1<(x0.length:Int)))))=true/\
 ((!(tB (decide ((x0.length:Int)<=1))))=true->
 ∀_:Nat->Nat,∃R',HT 99 [A.d (D.lit (.int .u8 (Zwc x0 1)))] [] R'/\
 (∀v H',R' (.ret v) H'-> ∃x3:Bool,v=bA x3/\H'=[]/\
 ((!x3)=true->
 R (.ret (bA false)) [])/\
 ((!x3)=false->
 ∃(I1_0:Int->Prop)(M1_0:Int->Nat),I1_0 1/\
 (∀(x4:Int),I1_0 x4->
 (tB (decide (x4<(x0.length:Int)))=true->
 tB (decide (0<=x4))=true/\
 ∀_:Nat->Nat,∃R',HT 99 [A.d (D.lit (.int .u8 (Zwc x0 x4)))] [] R'/\
 (∀v H',R' (.ret v) H'-> ∃x5:Bool,v=bA x5/\H'=[]/\
 ((!x5)=true->
 ∀_:Nat->Nat,∃R',HT 100 [A.d (D.lit (.int .u8 (Zwc x0 x4)))] [] R'/\
 (∀v H',R' (.ret v) H'-> ∃x6:Bool,v=bA x6/\H'=[]/\
 (((!x6)&&(!(tB ((Zwc x0 x4)==95))))=true->
 R (.ret (bA false)) [])/\
 (((!x6)&&(!(tB ((Zwc x0 x4)==95))))=false->
 oV (x4+1) (I1_0 (x4+1)/\M1_0 (x4+1)<M1_0 x4)))/\
 PN R R')/\
 ((!x5)=false->
 oV (x4+1) (I1_0 (x4+1)/\M1_0 (x4+1)<M1_0 x4)))/\
 PN R R')/\
 (tB (decide (x4<(x0.length:Int)))=false->
 R (.ret (bA true)) []))/\
 True))/\
 PN R R')/\
 ((!(tB (decide ((x0.length:Int)<=1))))=false->
 R (.ret (bA false)) []))/\
 (((tB ((Zwc x0 0)==35))||(tB ((Zwc x0 0)==95)))=false->
 ((!(tB (decide ((x0.length:Int)<=0))))=true->
 ∀_:Nat->Nat,∃R',HT 99 [A.d (D.lit (.int .u8 (Zwc x0 0)))] [] R'/\
 (∀v H',R' (.ret v) H'-> ∃x3:Bool,v=bA x3/\H'=[]/\
 ((!x3)=true->
 R (.ret (bA false)) [])/\
 ((!x3)=false->
 ∃(I1_0:Int->Prop)(M1_0:Int->Nat),I1_0 0/\
 (∀(x4:Int),I1_0 x4->
 (tB (decide (x4<(x0.length:Int)))=true->
 tB (decide (0<=x4))=true/\
 ∀_:Nat->Nat,∃R',HT 99 [A.d (D.lit (.int .u8 (Zwc x0 x4)))] [] R'/\
 (∀v H',R' (.ret v) H'-> ∃x5:Bool,v=bA x5/\H'=[]/\
 ((!x5)=true->
 ∀_:Nat->Nat,∃R',HT 100 [A.d (D.lit (.int .u8 (Zwc x0 x4)))] [] R'/\
 (∀v H',R' (.ret v) H'-> ∃x6:Bool,v=bA x6/\H'=[]/\
 (((!x6)&&(!(tB ((Zwc x0 x4)==95))))=true->
 R (.ret (bA false)) [])/\
 (((!x6)&&(!(tB ((Zwc x0 x4)==95))))=false->
 oV (x4+1) (I1_0 (x4+1)/\M1_0 (x4+1)<M1_0 x4)))/\
 PN R R')/\
 ((!x5)=false->
 oV (x4+1) (I1_0 (x4+1)/\M1_0 (x4+1)<M1_0 x4)))/\
 PN R R')/\
 (tB (decide (x4<(x0.length:Int)))=false->
 R (.ret (bA true)) []))/\
 True))/\
 PN R R')/\
 ((!(tB (decide ((x0.length:Int)<=0))))=false->
 R (.ret (bA false)) []))))/\
 True)/\
 PN R R')):
 HT 52 [A.d (D.lit (Zco x0))] [] R:=
 walk (c:=⟨Tryz.prog,69,true,[0,2,4,5,6,14,15,16,17,18,23,32,43,48,68]⟩) (op:={com:=[(8,(18,5000)),(8,(4,5000)),(8,(23,5000)),(8,(2,5000)),(16,(48,5000)),(16,(68,5000)),(16,(2,5000))]}) (fn:=Tryz.f52) (args:=[.c (.o1 .cs (.var 0))]) (K:=[]) (nv:=1) (depth:=7) (up:=upOf []) (ρ:=Zwa [.s x0])
  rfl rfl rfl rfl rfl (by decide) (by decide) (by decide) (by decide) rfl (by simp[Zab,RRef.den,upOf]) (T_of (by kernel_rfl) h)
theorem w53{R:RT}(x0:List (List D))(h:∃(I0_0:Int->Prop)(M0_0:Int->Nat),I0_0 0/\
 (∀(x1:Int),I0_0 x1->
 (tB (decide (x1<(x0.length:Int)))=true->
 tB (decide (0<=x1))=true/\
 tB (((gAt x0 x1).length:Int)==1)=true/\
 isK .str ((gAt x0 x1).getD 0 D0)=true/\
 ∃(I1_0:Int->Prop)(M1_0:Int->Nat),I1_0 0/\
 (∀(x2:Int),I1_0 x2->
 (tB (decide (x2<((dstr ((gAt x0 x1).getD 0 D0)).length:Int)))=true->
 tB (decide (0<=x2))=true/\
 (tB ((Zwc (dstr ((gAt x0 x1).getD 0 D0)) x2)==10)=true->
 R (.ret (bA true)) [])/\
 (tB ((Zwc (dstr ((gAt x0 x1).getD 0 D0)) x2)==10)=false->
 oV (x2+1) (I1_0 (x2+1)/\M1_0 (x2+1)<M1_0 x2)))/\
 (tB (decide (x2<((dstr ((gAt x0 x1).getD 0 D0)).length:Int)))=false->
 oV (x1+1) (I0_0 (x1+1)/\M0_0 (x1+1)<M0_0 x1)))/\
 True)/\
 (tB (decide (x1<(x0.length:Int)))=false->
 R (.ret (bA false)) []))/\
 True):
 HT 53 [A.d (D.slc x0)] [] R:=
 walk (c:=⟨Tryz.prog,23,true,[0,2,4,5,6,7,8,9,15,21]⟩) (op:={com:=[(9,(9,5000)),(9,(4,5000)),(9,(5,5000)),(9,(15,5000)),(9,(21,5000)),(9,(2,5000)),(6,(15,5000)),(6,(21,5000)),(6,(2,5000))]}) (fn:=Tryz.f53) (args:=[.c (.o1 .cl (.var 0))]) (K:=[]) (nv:=1) (depth:=5) (up:=upOf []) (ρ:=Zwa [.l x0])
  rfl rfl rfl rfl rfl (by decide) (by decide) (by decide) (by decide) rfl (by simp[Zab,RRef.den,upOf]) (T_of (by kernel_rfl) h)
theorem w54{R:RT}(x0:List (List D))(x1:Bool)(h:∃(I0_0:Int->Prop)(M0_0:Int->Nat),I0_0 0/\
 (∀(x2:Int),I0_0 x2->
 (tB (decide (x2<(x0.length:Int)))=true->
 tB (decide (0<=x2))=true/\
 tB (((gAt x0 x2).length:Int)==11)=true/\
 ∀_:Nat->Nat,∃R',HT 101 [A.agg (gAt x0 x2)] [] R'/\
 (∀v H',R' (.ret v) H'-> ∃x3:Bool,v=bA x3/\H'=[]/\
 ((!(x3&&(!x1)))||(isK (.int .i64) ((gAt x0 x2).getD 0 D0)))=true/\
 ((!((x3&&(!x1))&&(!(tB ((dint ((gAt x0 x2).getD 0 D0))==4)))))||(isK (.int .i64) ((gAt x0 x2).getD 0 D0)))=true/\
 (((!x3)||((!x1)&&((tB ((dint ((gAt x0 x2).getD 0 D0))==4))||(tB ((dint ((gAt x0 x2).getD 0 D0))==8)))))||(isK .slc ((gAt x0 x2).getD 6 D0)))=true/\
 ((!((!x3)||((!x1)&&((tB ((dint ((gAt x0 x2).getD 0 D0))==4))||(tB ((dint ((gAt x0 x2).getD 0 D0))==8))))))=true->
 ∀_:Nat->Nat,∃R',HT 54 [A.d (D.slc (dlst ((gAt x0 x2).getD 6 D0))),bA false] [] R'/\
 (∀v H',R' (.ret v) H'-> ∃x4:Bool,v=bA x4/\H'=[]/\
 ((!x4)=true->
 R (.ret (bA false)) [])/\
 ((!x4)=false->
 ((!x1)||(isK (.int .i64) ((gAt x0 x2).getD 0 D0)))=true/\
 ((!(x1&&(!(tB ((dint ((gAt x0 x2).getD 0 D0))==1)))))||(isK (.int .i64) ((gAt x0 x2).getD 0 D0)))=true/\
 ((!(x1&&(!((tB ((dint ((gAt x0 x2).getD 0 D0))==1))||(tB ((dint ((gAt x0 x2).getD 0 D0))==2))))))||(isK (.int .i64) ((gAt x0 x2).getD 0 D0)))=true/\
 ((!(x1&&(!(((tB ((dint ((gAt x0 x2).getD 0 D0))==1))||(tB ((dint ((gAt x0 x2).getD 0 D0))==2)))||(tB ((dint ((gAt x0 x2).getD 0 D0))==3))))))||(isK (.int .i64) ((gAt x0 x2).getD 0 D0)))=true/\
 isK .slc ((gAt x0 x2).getD 5 D0)=true/\
 ∃(I1_0:Int->Prop)(M1_0:Int->Nat),I1_0 0/\
 (∀(x5:Int),I1_0 x5->
 (tB (decide (x5<((dlst ((gAt x0 x2).getD 5 D0)).length:Int)))=true->
 tB (decide (0<=x5))=true/\
 tB (((gAt (dlst ((gAt x0 x2).getD 5 D0)) x5).length:Int)==9)=true/\
 ∀_:Nat->Nat,∃R',HT 59 [A.agg (gAt (dlst ((gAt x0 x2).getD 5 D0)) x5),bA (x1&&((((tB ((dint ((gAt x0 x2).getD 0 D0))==1))||(tB ((dint ((gAt x0 x2).getD 0 D0))==2)))||(tB ((dint ((gAt x0 x2).getD 0 D0))==3)))||(tB ((dint ((gAt x0 x2).getD 0 D0))==4)))),bA false,bA false] [] R'/\
 (∀v H',R' (.ret v) H'-> ∃x6:Bool,v=bA x6/\H'=[]/\
 ((!x6)=true->
 R (.ret (bA false)) [])/\
 ((!x6)=false->
 oV (x5+1) (I1_0 (x5+1)/\M1_0 (x5+1)<M1_0 x5)))/\
 PN R R')/\
 (tB (decide (x5<((dlst ((gAt x0 x2).getD 5 D0)).length:Int)))=false->
 oV (x2+1) (I0_0 (x2+1)/\M0_0 (x2+1)<M0_0 x2)))/\
 True))/\
 PN R R')/\
 ((!((!x3)||((!x1)&&((tB ((dint ((gAt x0 x2).getD 0 D0))==4))||(tB ((dint ((gAt x0 x2).getD 0 D0))==8))))))=false->
 R (.ret (bA false)) []))/\
 PN R R')/\
 (tB (decide (x2<(x0.length:Int)))=false->
 R (.ret (bA true)) []))/\
 True):
 HT 54 [A.d (D.slc x0),bA x1] [] R:=
 walk (c:=⟨Tryz.prog,73,true,[0,1,4,6,7,9,10,11,12,13,38,61,62,63,64,70]⟩) (op:={com:=[(13,(13,5000)),(13,(6,5000)),(13,(38,5000)),(13,(4,5000)),(13,(7,5000)),(13,(61,5000)),(13,(62,5000)),(13,(63,5000)),(13,(64,5000)),(13,(9,5000)),(13,(70,5000)),(12,(64,5000)),(12,(9,5000)),(12,(70,5000)),(12,(4,5000))]}) (fn:=Tryz.f54) (args:=[.c (.o1 .cl (.var 0)),.c (.o1 .cb (.o1 .tb (.var 1)))]) (K:=[]) (nv:=2) (depth:=7) (up:=upOf []) (ρ:=Zwa [.l x0,.b x1])
  rfl rfl rfl rfl rfl (by decide) (by decide) (by decide) (by decide) rfl (by simp[Zab,RRef.den,upOf]) (T_of (by kernel_rfl) h)
theorem w55{R:RT}(x0:Bool)(x1:Int)(h:((!x0)=true->
 R (.ret (iA 11)) [])/\
 ((!x0)=false->
 (tB (decide (16<x1))=true->
 R (.ret (iA 9)) [])/\
 (tB (decide (16<x1))=false->
 R (.ret (iA 0)) []))):
 HT 55 [bA x0,iA x1] [] R:=
 walk (c:=⟨Tryz.prog,9,true,[0,1,4,6,8]⟩) (op:={}) (fn:=Tryz.f55) (args:=[.c (.o1 .cb (.o1 .tb (.var 0))),.c (.o1 (.ci .i64) (.var 1))]) (K:=[]) (nv:=2) (depth:=4) (up:=upOf []) (ρ:=Zwa [.b x0,.i x1])
  rfl rfl rfl rfl rfl (by decide) (by decide) (by decide) (by decide) rfl (by simp[Zab,RRef.den,upOf]) (T_of (by kernel_rfl) h)
theorem w56{R:RT}(x0:List (List D))(h:∃(I0_0:Int->Int->Prop)(M0_0:Int->Int->Nat),I0_0 0 0/\
 (∀(x1:Int)(x2:Int),I0_0 x1 x2->
 (tB (decide (x2<(x0.length:Int)))=true->
 tB (decide (0<=x2))=true/\
 tB (((gAt x0 x2).length:Int)==11)=true/\
 isK .slc ((gAt x0 x2).getD 6 D0)=true/\
 ∀_:Nat->Nat,∃R',HT 56 [A.d (D.slc (dlst ((gAt x0 x2).getD 6 D0)))] [] R'/\
 (∀v H',R' (.ret v) H'-> ∃x3:Int,v=iA x3/\H'=[]/\
 isK .slc ((gAt x0 x2).getD 5 D0)=true/\
 ∃(I1_0:Int->Int->Prop)(M1_0:Int->Int->Nat),I1_0 x3 0/\
 (∀(x4:Int)(x5:Int),I1_0 x4 x5->
 (tB (decide (x5<((dlst ((gAt x0 x2).getD 5 D0)).length:Int)))=true->
 tB (decide (0<=x5))=true/\
 tB (((gAt (dlst ((gAt x0 x2).getD 5 D0)) x5).length:Int)==9)=true/\
 ∀_:Nat->Nat,∃R',HT 60 [A.agg (gAt (dlst ((gAt x0 x2).getD 5 D0)) x5)] [] R'/\
 (∀v H',R' (.ret v) H'-> ∃x6:Int,v=iA x6/\H'=[]/\
 oV (x5+1) (I1_0 (gMax x4 x6) (x5+1)/\M1_0 (gMax x4 x6) (x5+1)<M1_0 x4 x5))/\
 PN R R')/\
 (tB (decide (x5<((dlst ((gAt x0 x2).getD 5 D0)).length:Int)))=false->
 oV (x4+1) (oV (x2+1) (I0_0 (gMax x1 (x4+1)) (x2+1)/\M0_0 (gMax x1 (x4+1)) (x2+1)<M0_0 x1 x2))))/\
 True)/\
 PN R R')/\
 (tB (decide (x2<(x0.length:Int)))=false->
 R (.ret (iA x1)) []))/\
 True):
 HT 56 [A.d (D.slc x0)] [] R:=
 walk (c:=⟨Tryz.prog,36,true,[0,2,3,5,6,8,9,10,11,12,19,20,21,22]⟩) (op:={com:=[(12,(12,5000)),(12,(5,5000)),(12,(6,5000)),(12,(19,5000)),(12,(20,5000)),(12,(21,5000)),(12,(22,5000)),(12,(8,5000)),(10,(22,5000)),(10,(8,5000))]}) (fn:=Tryz.f56) (args:=[.c (.o1 .cl (.var 0))]) (K:=[]) (nv:=1) (depth:=6) (up:=upOf []) (ρ:=Zwa [.l x0])
  rfl rfl rfl rfl rfl (by decide) (by decide) (by decide) (by decide) rfl (by simp[Zab,RRef.den,upOf]) (T_of (by kernel_rfl) h)
theorem w59{R:RT}(x0:List D)(x1:Bool)(x2:Bool)(x3:Bool)(h:tB ((x0.length:Int)==9)=true/\
 ∀_:Nat->Nat,∃R',HT 103 [A.agg x0] [] R'/\
 (∀v H',R' (.ret v) H'-> ∃x4:Bool,v=bA x4/\H'=[]/\
 ((!x4)||(isK (.int .i64) (x0.getD 0 D0)))=true/\
 (((!x4)||((tB ((dint (x0.getD 0 D0))==18))&&(!x2)))||(isK (.int .i64) (x0.getD 0 D0)))=true/\
 ((((!x4)||((tB ((dint (x0.getD 0 D0))==18))&&(!x2)))||((tB ((dint (x0.getD 0 D0))==15))&&(!x3)))||(isK (.int .i64) (x0.getD 0 D0)))=true/\
 (((((!x4)||((tB ((dint (x0.getD 0 D0))==18))&&(!x2)))||((tB ((dint (x0.getD 0 D0))==15))&&(!x3)))||((tB ((dint (x0.getD 0 D0))==13))&&(!x1)))||(isK (.int .i64) (x0.getD 0 D0)))=true/\
 ((((((!x4)||((tB ((dint (x0.getD 0 D0))==18))&&(!x2)))||((tB ((dint (x0.getD 0 D0))==15))&&(!x3)))||((tB ((dint (x0.getD 0 D0))==13))&&(!x1)))||((tB ((dint (x0.getD 0 D0))==22))&&x1))=true->
 R (.ret (bA false)) [])/\
 ((((((!x4)||((tB ((dint (x0.getD 0 D0))==18))&&(!x2)))||((tB ((dint (x0.getD 0 D0))==15))&&(!x3)))||((tB ((dint (x0.getD 0 D0))==13))&&(!x1)))||((tB ((dint (x0.getD 0 D0))==22))&&x1))=false->
 isK .slc (x0.getD 5 D0)=true/\
 ∃(I0_0:Int->Prop)(M0_0:Int->Nat),I0_0 0/\
 (∀(x5:Int),I0_0 x5->
 (tB (decide (x5<((dlst (x0.getD 5 D0)).length:Int)))=true->
 tB (decide (0<=x5))=true/\
 tB (((gAt (dlst (x0.getD 5 D0)) x5).length:Int)==9)=true/\
 isK (.int .i64) (x0.getD 0 D0)=true/\
 ((!(tB ((dint (x0.getD 0 D0))==14)))||(isK (.int .i64) (x0.getD 2 D0)))=true/\
 ((!((tB ((dint (x0.getD 0 D0))==14))&&(!(tB ((dint (x0.getD 2 D0))==0)))))||(tB (decide ((-9223372036854775808)<=(x5+1)))))=true/\
 ((!((tB ((dint (x0.getD 0 D0))==14))&&(!(tB ((dint (x0.getD 2 D0))==0)))))||(tB (decide ((x5+1)<=9223372036854775807))))=true/\
 ∀_:Nat->Nat,∃R',HT 59 [A.agg (gAt (dlst (x0.getD 5 D0)) x5),bA (((tB ((dint (x0.getD 0 D0))==16))&&x1)||(tB ((dint (x0.getD 0 D0))==10))),bA (tB ((dint (x0.getD 0 D0))==17)),(bA ((tB ((dint (x0.getD 0 D0))==14))&&((tB ((dint (x0.getD 2 D0))==0))||(tB (decide ((x5+1)<((dlst (x0.getD 5 D0)).length:Int)))))))] [] R'/\
 (∀v H',R' (.ret v) H'-> ∃x6:Bool,v=bA x6/\H'=[]/\
 ((!x6)=true->
 R (.ret (bA false)) [])/\
 ((!x6)=false->
 oV (x5+1) (I0_0 (x5+1)/\M0_0 (x5+1)<M0_0 x5)))/\
 PN R R')/\
 (tB (decide (x5<((dlst (x0.getD 5 D0)).length:Int)))=false->
 isK .slc (x0.getD 6 D0)=true/\
 isK (.int .i64) (x0.getD 0 D0)=true/\
 ∀_:Nat->Nat,∃R',HT 54 [A.d (D.slc (dlst (x0.getD 6 D0))),bA (tB ((dint (x0.getD 0 D0))==13))] [] R'/\
 (∀v H',R' (.ret v) H'-> ∃x6:Bool,v=bA x6/\H'=[]/\
 R (.ret (bA x6)) [])/\
 PN R R'))/\
 True))/\
 PN R R'):
 HT 59 [A.agg x0,bA x1,bA x2,bA x3] [] R:=
 walk (c:=⟨Tryz.prog,101,true,[0,1,2,3,4,8,9,10,11,12,50,52,53,54,55,93]⟩) (op:={com:=[(10,(55,5000)),(10,(10,5000)),(10,(9,5000)),(10,(11,5000)),(10,(12,5000)),(10,(93,5000)),(10,(8,5000))]}) (fn:=Tryz.f59) (args:=[.agg (.var 0),.c (.o1 .cb (.o1 .tb (.var 1))),.c (.o1 .cb (.o1 .tb (.var 2))),.c (.o1 .cb (.o1 .tb (.var 3)))]) (K:=[]) (nv:=4) (depth:=7) (up:=upOf []) (ρ:=Zwa [.r x0,.b x1,.b x2,.b x3])
  rfl rfl rfl rfl rfl (by decide) (by decide) (by decide) (by decide) rfl (by simp[Zab,RRef.den,upOf]) (T_of (by kernel_rfl) h)
theorem w60{R:RT}(x0:List D)(h:tB ((x0.length:Int)==9)=true/\
 isK .slc (x0.getD 6 D0)=true/\
 ∀_:Nat->Nat,∃R',HT 56 [A.d (D.slc (dlst (x0.getD 6 D0)))] [] R'/\
 (∀v H',R' (.ret v) H'-> ∃x1:Int,v=iA x1/\H'=[]/\
 isK .slc (x0.getD 5 D0)=true/\
 ∃(I0_0:Int->Int->Prop)(M0_0:Int->Int->Nat),I0_0 x1 0/\
 (∀(x2:Int)(x3:Int),I0_0 x2 x3->
 (tB (decide (x3<((dlst (x0.getD 5 D0)).length:Int)))=true->
 tB (decide (0<=x3))=true/\
 tB (((gAt (dlst (x0.getD 5 D0)) x3).length:Int)==9)=true/\
 ∀_:Nat->Nat,∃R',HT 60 [A.agg (gAt (dlst (x0.getD 5 D0)) x3)] [] R'/\
 (∀v H',R' (.ret v) H'-> ∃x4:Int,v=iA x4/\H'=[]/\
 oV (x3+1) (I0_0 (gMax x2 x4) (x3+1)/\M0_0 (gMax x2 x4) (x3+1)<M0_0 x2 x3))/\
 PN R R')/\
 (tB (decide (x3<((dlst (x0.getD 5 D0)).length:Int)))=false->
 oV (x2+1) (R (.ret (iA (x2+1))) [])))/\
 True)/\
 PN R R'):
 HT 60 [A.agg x0] [] R:=
 walk (c:=⟨Tryz.prog,23,true,[0,1,2,3,5,10,11,12,13]⟩) (op:={com:=[(6,(13,5000)),(6,(5,5000))]}) (fn:=Tryz.f60) (args:=[.agg (.var 0)]) (K:=[]) (nv:=1) (depth:=5) (up:=upOf []) (ρ:=Zwa [.r x0])
  rfl rfl rfl rfl rfl (by decide) (by decide) (by decide) (by decide) rfl (by simp[Zab,RRef.den,upOf]) (T_of (by kernel_rfl) h)
theorem w98{R:RT}(h:R (.ret (A.own 1 [[(D.lit (Zco ([110,117,108,108]:List UInt8)))],[(D.lit (Zco ([116,114,117,101]:List UInt8)))],[(D.lit (Zco ([102,97,108,115,101]:List UInt8)))],[(D.lit (Zco ([98,111,111,108]:List UInt8)))],[(D.lit (Zco ([105,110,116]:List UInt8)))],[(D.lit (Zco ([110,117,109,98,101,114]:List UInt8)))],[(D.lit (Zco ([115,116,114,105,110,103]:List UInt8)))],[(D.lit (Zco ([108,101,116]:List UInt8)))],[(D.lit (Zco ([105,102]:List UInt8)))],[(D.lit (Zco ([102,111,114]:List UInt8)))],[(D.lit (Zco ([105,110]:List UInt8)))],[(D.lit (Zco ([112,97,99,107,97,103,101]:List UInt8)))],[(D.lit (Zco ([105,109,112,111,114,116]:List UInt8)))]] ([]:List (List D)))) []):
 HT 98 [] [] R:=
 walk (c:=⟨Tryz.prog,2,true,[0]⟩) (op:={}) (fn:=Tryz.f98) (args:=[]) (K:=[]) (nv:=0) (depth:=2) (up:=upOf []) (ρ:=Zwa [])
  rfl rfl rfl rfl rfl (by decide) (by decide) (by decide) (by decide) rfl (by simp[Zab,RRef.den,upOf]) (T_of (by kernel_rfl) h)
theorem w99{R:RT}(x0:Int)(h:R (.ret (bA (((tB (decide (97<=x0)))&&(tB (decide (x0<=122))))||((tB (decide (65<=x0)))&&(tB (decide (x0<=90))))))) []):
 HT 99 [A.d (D.lit (.int .u8 x0))] [] R:=
 walk (c:=⟨Tryz.prog,17,true,[0,2]⟩) (op:={}) (fn:=Tryz.f99) (args:=[.c (.o1 (.ci .u8) (.var 0))]) (K:=[]) (nv:=1) (depth:=5) (up:=upOf []) (ρ:=Zwa [.i x0])
  rfl rfl rfl rfl rfl (by decide) (by decide) (by decide) (by decide) rfl (by simp[Zab,RRef.den,upOf]) (T_of (by kernel_rfl) h)
theorem w100{R:RT}(x0:Int)(h:R (.ret (bA ((tB (decide (48<=x0)))&&(tB (decide (x0<=57)))))) []):
 HT 100 [A.d (D.lit (.int .u8 x0))] [] R:=
 walk (c:=⟨Tryz.prog,9,true,[0,2]⟩) (op:={}) (fn:=Tryz.f100) (args:=[.c (.o1 (.ci .u8) (.var 0))]) (K:=[]) (nv:=1) (depth:=4) (up:=upOf []) (ρ:=Zwa [.i x0])
  rfl rfl rfl rfl rfl (by decide) (by decide) (by decide) (by decide) rfl (by simp[Zab,RRef.den,upOf]) (T_of (by kernel_rfl) h)
theorem w101{R:RT}(x0:List D)(h:tB ((x0.length:Int)==11)=true/\
 isK (.int .i64) (x0.getD 0 D0)=true/\
 (((tB (decide ((dint (x0.getD 0 D0))<1)))||(tB (decide (8<(dint (x0.getD 0 D0))))))||(isK .slc (x0.getD 8 D0)))=true/\
 ((!((tB (decide ((dint (x0.getD 0 D0))<1)))||(tB (decide (8<(dint (x0.getD 0 D0)))))))=true->
 ∀_:Nat->Nat,∃R',HT 53 [A.d (D.slc (dlst (x0.getD 8 D0)))] [] R'/\
 (∀v H',R' (.ret v) H'-> ∃x1:Bool,v=bA x1/\H'=[]/\
 (x1||(isK .str (x0.getD 9 D0)))=true/\
 ((!x1)=true->
 ∀_:Nat->Nat,∃R',HT 53 [A.d (D.slc [[D.lit (Zco (dstr (x0.getD 9 D0)))]])] [] R'/\
 (∀v H',R' (.ret v) H'-> ∃x2:Bool,v=bA x2/\H'=[]/\
 (x2||(isK .slc (x0.getD 7 D0)))=true/\
 ((!x2)=true->
 ∀_:Nat->Nat,∃R',HT 53 [A.d (D.slc (dlst (x0.getD 7 D0)))] [] R'/\
 (∀v H',R' (.ret v) H'-> ∃x3:Bool,v=bA x3/\H'=[]/\
 (x3=true->
 R (.ret (bA false)) [])/\
 (x3=false->
 (tB ((dint (x0.getD 0 D0))==7)=true->
 (tB ((dint (x0.getD 0 D0))==8)=true->
 isK .slc (x0.getD 5 D0)=true/\
 ((!((tB (((dlst (x0.getD 5 D0)).length:Int)==0))&&(tB ((dint (x0.getD 0 D0))==1))))||(isK (.int .i64) (x0.getD 1 D0)))=true/\
 ((!(((tB (((dlst (x0.getD 5 D0)).length:Int)==0))&&(tB ((dint (x0.getD 0 D0))==1)))&&(!(tB (decide ((dint (x0.getD 1 D0))<1))))))||(isK (.int .i64) (x0.getD 1 D0)))=true/\
 ((!((!((!(tB (((dlst (x0.getD 5 D0)).length:Int)==0)))||((tB ((dint (x0.getD 0 D0))==1))&&((tB (decide ((dint (x0.getD 1 D0))<1)))||(tB (decide (3<(dint (x0.getD 1 D0)))))))))&&(!(tB ((dint (x0.getD 0 D0))==1)))))||(isK (.int .i64) (x0.getD 1 D0)))=true/\
 ((((!(tB (((dlst (x0.getD 5 D0)).length:Int)==0)))||((tB ((dint (x0.getD 0 D0))==1))&&((tB (decide ((dint (x0.getD 1 D0))<1)))||(tB (decide (3<(dint (x0.getD 1 D0))))))))||((!(tB ((dint (x0.getD 0 D0))==1)))&&(!(tB ((dint (x0.getD 1 D0))==0)))))=true->
 R (.ret (bA false)) [])/\
 ((((!(tB (((dlst (x0.getD 5 D0)).length:Int)==0)))||((tB ((dint (x0.getD 0 D0))==1))&&((tB (decide ((dint (x0.getD 1 D0))<1)))||(tB (decide (3<(dint (x0.getD 1 D0))))))))||((!(tB ((dint (x0.getD 0 D0))==1)))&&(!(tB ((dint (x0.getD 1 D0))==0)))))=false->
 ((!((!(tB ((dint (x0.getD 0 D0))==5)))&&(!(tB ((dint (x0.getD 0 D0))==6)))))||(isK .slc (x0.getD 6 D0)))=true/\
 ((!(((!(tB ((dint (x0.getD 0 D0))==5)))&&(!(tB ((dint (x0.getD 0 D0))==6))))&&(!(tB (decide (0<((dlst (x0.getD 6 D0)).length:Int)))))))||(isK .slc (x0.getD 7 D0)))=true/\
 ((((!(tB ((dint (x0.getD 0 D0))==5)))&&(!(tB ((dint (x0.getD 0 D0))==6))))&&((tB (decide (0<((dlst (x0.getD 6 D0)).length:Int))))||(tB (decide (0<((dlst (x0.getD 7 D0)).length:Int))))))=true->
 R (.ret (bA false)) [])/\
 ((((!(tB ((dint (x0.getD 0 D0))==5)))&&(!(tB ((dint (x0.getD 0 D0))==6))))&&((tB (decide (0<((dlst (x0.getD 6 D0)).length:Int))))||(tB (decide (0<((dlst (x0.getD 7 D0)).length:Int))))))=false->
 (tB ((dint (x0.getD 0 D0))==6)=true->
 ∀_:Nat->Nat,∃R',HT 115 [A.agg [x0.getD 3 D0,x0.getD 4 D0]] [] R'/\
 (∀v H',R' (.ret v) H'-> ∃x4:Bool,v=bA x4/\H'=[]/\
 ((!(x4&&(!(tB ((dint (x0.getD 0 D0))==6)))))||(isK .str (x0.getD 3 D0)))=true/\
 ((!((x4&&(!(tB ((dint (x0.getD 0 D0))==6))))&&(tB ((dstr (x0.getD 3 D0))==([]:List UInt8)))))||(isK .str (x0.getD 4 D0)))=true/\
 (((!x4)||((!(tB ((dint (x0.getD 0 D0))==6)))&&((!(tB ((dstr (x0.getD 3 D0))==([]:List UInt8))))||(!(tB ((dstr (x0.getD 4 D0))==([]:List UInt8)))))))=true->
 R (.ret (bA false)) [])/\
 (((!x4)||((!(tB ((dint (x0.getD 0 D0))==6)))&&((!(tB ((dstr (x0.getD 3 D0))==([]:List UInt8))))||(!(tB ((dstr (x0.getD 4 D0))==([]:List UInt8)))))))=false->
 (tB ((dint (x0.getD 0 D0))==1)=true->
 R (.ret (bA true)) [])/\
 (tB ((dint (x0.getD 0 D0))==1)=false->
 (tB ((dint (x0.getD 0 D0))==2)=true->
 isK .str (x0.getD 2 D0)=true/\
 ∀_:Nat->Nat,∃R',HT 116 [A.d (D.lit (Zco (dstr (x0.getD 2 D0))))] [] R'/\
 (∀v H',R' (.ret v) H'-> ∃x5:List D,∃x6:List D,v=A.tup [(true,x5),(true,x6)]/\H'=[]/\
 tB ((x5.length:Int)==6)=true/\
 tB ((x6.length:Int)==2)=true/\
 isK (.int .i64) (x6.getD 0 D0)=true/\
 R (.ret (bA (tB ((dint (x6.getD 0 D0))==0)))) [])/\
 PN R R')/\
 (tB ((dint (x0.getD 0 D0))==2)=false->
 (tB ((dint (x0.getD 0 D0))==4)=true->
 isK .str (x0.getD 2 D0)=true/\
 ∀_:Nat->Nat,∃R',HT 52 [A.d (D.lit (Zco (dstr (x0.getD 2 D0))))] [] R'/\
 (∀v H',R' (.ret v) H'-> ∃x5:Bool,v=bA x5/\H'=[]/\
 R (.ret (bA x5)) [])/\
 PN R R')/\
 (tB ((dint (x0.getD 0 D0))==4)=false->
 isK .str (x0.getD 2 D0)=true/\
 R (.ret (bA (tB ((dstr (x0.getD 2 D0))==([]:List UInt8))))) [])))))/\
 PN R R')/\
 (tB ((dint (x0.getD 0 D0))==6)=false->
 isK .str (x0.getD 3 D0)=true/\
 ((!(tB ((dstr (x0.getD 3 D0))==([]:List UInt8))))||(isK .str (x0.getD 4 D0)))=true/\
 (((!(tB ((dint (x0.getD 0 D0))==6)))&&((!(tB ((dstr (x0.getD 3 D0))==([]:List UInt8))))||(!(tB ((dstr (x0.getD 4 D0))==([]:List UInt8))))))=true->
 R (.ret (bA false)) [])/\
 (((!(tB ((dint (x0.getD 0 D0))==6)))&&((!(tB ((dstr (x0.getD 3 D0))==([]:List UInt8))))||(!(tB ((dstr (x0.getD 4 D0))==([]:List UInt8))))))=false->
 (tB ((dint (x0.getD 0 D0))==1)=true->
 R (.ret (bA true)) [])/\
 (tB ((dint (x0.getD 0 D0))==1)=false->
 (tB ((dint (x0.getD 0 D0))==2)=true->
 isK .str (x0.getD 2 D0)=true/\
 ∀_:Nat->Nat,∃R',HT 116 [A.d (D.lit (Zco (dstr (x0.getD 2 D0))))] [] R'/\
 (∀v H',R' (.ret v) H'-> ∃x4:List D,∃x5:List D,v=A.tup [(true,x4),(true,x5)]/\H'=[]/\
 tB ((x4.length:Int)==6)=true/\
 tB ((x5.length:Int)==2)=true/\
 isK (.int .i64) (x5.getD 0 D0)=true/\
 R (.ret (bA (tB ((dint (x5.getD 0 D0))==0)))) [])/\
 PN R R')/\
 (tB ((dint (x0.getD 0 D0))==2)=false->
 (tB ((dint (x0.getD 0 D0))==4)=true->
 isK .str (x0.getD 2 D0)=true/\
 ∀_:Nat->Nat,∃R',HT 52 [A.d (D.lit (Zco (dstr (x0.getD 2 D0))))] [] R'/\
 (∀v H',R' (.ret v) H'-> ∃x4:Bool,v=bA x4/\H'=[]/\
 R (.ret (bA x4)) [])/\
 PN R R')/\
 (tB ((dint (x0.getD 0 D0))==4)=false->
 isK .str (x0.getD 2 D0)=true/\
 R (.ret (bA (tB ((dstr (x0.getD 2 D0))==([]:List UInt8))))) []))))))))/\
 (tB ((dint (x0.getD 0 D0))==8)=false->
 isK .slc (x0.getD 5 D0)=true/\
 ((!((tB (((dlst (x0.getD 5 D0)).length:Int)==2))&&(tB ((dint (x0.getD 0 D0))==1))))||(isK (.int .i64) (x0.getD 1 D0)))=true/\
 ((!(((tB (((dlst (x0.getD 5 D0)).length:Int)==2))&&(tB ((dint (x0.getD 0 D0))==1)))&&(!(tB (decide ((dint (x0.getD 1 D0))<1))))))||(isK (.int .i64) (x0.getD 1 D0)))=true/\
 ((!((!((!(tB (((dlst (x0.getD 5 D0)).length:Int)==2)))||((tB ((dint (x0.getD 0 D0))==1))&&((tB (decide ((dint (x0.getD 1 D0))<1)))||(tB (decide (3<(dint (x0.getD 1 D0)))))))))&&(!(tB ((dint (x0.getD 0 D0))==1)))))||(isK (.int .i64) (x0.getD 1 D0)))=true/\
 ((((!(tB (((dlst (x0.getD 5 D0)).length:Int)==2)))||((tB ((dint (x0.getD 0 D0))==1))&&((tB (decide ((dint (x0.getD 1 D0))<1)))||(tB (decide (3<(dint (x0.getD 1 D0))))))))||((!(tB ((dint (x0.getD 0 D0))==1)))&&(!(tB ((dint (x0.getD 1 D0))==0)))))=true->
 R (.ret (bA false)) [])/\
 ((((!(tB (((dlst (x0.getD 5 D0)).length:Int)==2)))||((tB ((dint (x0.getD 0 D0))==1))&&((tB (decide ((dint (x0.getD 1 D0))<1)))||(tB (decide (3<(dint (x0.getD 1 D0))))))))||((!(tB ((dint (x0.getD 0 D0))==1)))&&(!(tB ((dint (x0.getD 1 D0))==0)))))=false->
 ((!((!(tB ((dint (x0.getD 0 D0))==5)))&&(!(tB ((dint (x0.getD 0 D0))==6)))))||(isK .slc (x0.getD 6 D0)))=true/\
 ((!(((!(tB ((dint (x0.getD 0 D0))==5)))&&(!(tB ((dint (x0.getD 0 D0))==6))))&&(!(tB (decide (0<((dlst (x0.getD 6 D0)).length:Int)))))))||(isK .slc (x0.getD 7 D0)))=true/\
 ((((!(tB ((dint (x0.getD 0 D0))==5)))&&(!(tB ((dint (x0.getD 0 D0))==6))))&&((tB (decide (0<((dlst (x0.getD 6 D0)).length:Int))))||(tB (decide (0<((dlst (x0.getD 7 D0)).length:Int))))))=true->
 R (.ret (bA false)) [])/\
 ((((!(tB ((dint (x0.getD 0 D0))==5)))&&(!(tB ((dint (x0.getD 0 D0))==6))))&&((tB (decide (0<((dlst (x0.getD 6 D0)).length:Int))))||(tB (decide (0<((dlst (x0.getD 7 D0)).length:Int))))))=false->
 (tB ((dint (x0.getD 0 D0))==6)=true->
 ∀_:Nat->Nat,∃R',HT 115 [A.agg [x0.getD 3 D0,x0.getD 4 D0]] [] R'/\
 (∀v H',R' (.ret v) H'-> ∃x4:Bool,v=bA x4/\H'=[]/\
 ((!(x4&&(!(tB ((dint (x0.getD 0 D0))==6)))))||(isK .str (x0.getD 3 D0)))=true/\
 ((!((x4&&(!(tB ((dint (x0.getD 0 D0))==6))))&&(tB ((dstr (x0.getD 3 D0))==([]:List UInt8)))))||(isK .str (x0.getD 4 D0)))=true/\
 (((!x4)||((!(tB ((dint (x0.getD 0 D0))==6)))&&((!(tB ((dstr (x0.getD 3 D0))==([]:List UInt8))))||(!(tB ((dstr (x0.getD 4 D0))==([]:List UInt8)))))))=true->
 R (.ret (bA false)) [])/\
 (((!x4)||((!(tB ((dint (x0.getD 0 D0))==6)))&&((!(tB ((dstr (x0.getD 3 D0))==([]:List UInt8))))||(!(tB ((dstr (x0.getD 4 D0))==([]:List UInt8)))))))=false->
 (tB ((dint (x0.getD 0 D0))==1)=true->
 R (.ret (bA true)) [])/\
 (tB ((dint (x0.getD 0 D0))==1)=false->
 (tB ((dint (x0.getD 0 D0))==2)=true->
 isK .str (x0.getD 2 D0)=true/\
 ∀_:Nat->Nat,∃R',HT 116 [A.d (D.lit (Zco (dstr (x0.getD 2 D0))))] [] R'/\
 (∀v H',R' (.ret v) H'-> ∃x5:List D,∃x6:List D,v=A.tup [(true,x5),(true,x6)]/\H'=[]/\
 tB ((x5.length:Int)==6)=true/\
 tB ((x6.length:Int)==2)=true/\
 isK (.int .i64) (x6.getD 0 D0)=true/\
 R (.ret (bA (tB ((dint (x6.getD 0 D0))==0)))) [])/\
 PN R R')/\
 (tB ((dint (x0.getD 0 D0))==2)=false->
 (tB ((dint (x0.getD 0 D0))==4)=true->
 isK .str (x0.getD 2 D0)=true/\
 ∀_:Nat->Nat,∃R',HT 52 [A.d (D.lit (Zco (dstr (x0.getD 2 D0))))] [] R'/\
 (∀v H',R' (.ret v) H'-> ∃x5:Bool,v=bA x5/\H'=[]/\
 R (.ret (bA x5)) [])/\
 PN R R')/\
 (tB ((dint (x0.getD 0 D0))==4)=false->
 isK .str (x0.getD 2 D0)=true/\
 R (.ret (bA (tB ((dstr (x0.getD 2 D0))==([]:List UInt8))))) [])))))/\
 PN R R')/\
 (tB ((dint (x0.getD 0 D0))==6)=false->
 isK .str (x0.getD 3 D0)=true/\
 ((!(tB ((dstr (x0.getD 3 D0))==([]:List UInt8))))||(isK .str (x0.getD 4 D0)))=true/\
 (((!(tB ((dint (x0.getD 0 D0))==6)))&&((!(tB ((dstr (x0.getD 3 D0))==([]:List UInt8))))||(!(tB ((dstr (x0.getD 4 D0))==([]:List UInt8))))))=true->
 R (.ret (bA false)) [])/\
 (((!(tB ((dint (x0.getD 0 D0))==6)))&&((!(tB ((dstr (x0.getD 3 D0))==([]:List UInt8))))||(!(tB ((dstr (x0.getD 4 D0))==([]:List UInt8))))))=false->
 (tB ((dint (x0.getD 0 D0))==1)=true->
 R (.ret (bA true)) [])/\
 (tB ((dint (x0.getD 0 D0))==1)=false->
 (tB ((dint (x0.getD 0 D0))==2)=true->
 isK .str (x0.getD 2 D0)=true/\
 ∀_:Nat->Nat,∃R',HT 116 [A.d (D.lit (Zco (dstr (x0.getD 2 D0))))] [] R'/\
 (∀v H',R' (.ret v) H'-> ∃x4:List D,∃x5:List D,v=A.tup [(true,x4),(true,x5)]/\H'=[]/\
 tB ((x4.length:Int)==6)=true/\
 tB ((x5.length:Int)==2)=true/\
 isK (.int .i64) (x5.getD 0 D0)=true/\
 R (.ret (bA (tB ((dint (x5.getD 0 D0))==0)))) [])/\
 PN R R')/\
 (tB ((dint (x0.getD 0 D0))==2)=false->
 (tB ((dint (x0.getD 0 D0))==4)=true->
 isK .str (x0.getD 2 D0)=true/\
 ∀_:Nat->Nat,∃R',HT 52 [A.d (D.lit (Zco (dstr (x0.getD 2 D0))))] [] R'/\
 (∀v H',R' (.ret v) H'-> ∃x4:Bool,v=bA x4/\H'=[]/\
 R (.ret (bA x4)) [])/\
 PN R R')/\
 (tB ((dint (x0.getD 0 D0))==4)=false->
 isK .str (x0.getD 2 D0)=true/\
 R (.ret (bA (tB ((dstr (x0.getD 2 D0))==([]:List UInt8))))) [])))))))))/\
 (tB ((dint (x0.getD 0 D0))==7)=false->
 (tB ((dint (x0.getD 0 D0))==8)=true->
 isK .slc (x0.getD 5 D0)=true/\
 ((!((tB (((dlst (x0.getD 5 D0)).length:Int)==0))&&(tB ((dint (x0.getD 0 D0))==1))))||(isK (.int .i64) (x0.getD 1 D0)))=true/\
 ((!(((tB (((dlst (x0.getD 5 D0)).length:Int)==0))&&(tB ((dint (x0.getD 0 D0))==1)))&&(!(tB (decide ((dint (x0.getD 1 D0))<1))))))||(isK (.int .i64) (x0.getD 1 D0)))=true/\
 ((!((!((!(tB (((dlst (x0.getD 5 D0)).length:Int)==0)))||((tB ((dint (x0.getD 0 D0))==1))&&((tB (decide ((dint (x0.getD 1 D0))<1)))||(tB (decide (3<(dint (x0.getD 1 D0)))))))))&&(!(tB ((dint (x0.getD 0 D0))==1)))))||(isK (.int .i64) (x0.getD 1 D0)))=true/\
 ((((!(tB (((dlst (x0.getD 5 D0)).length:Int)==0)))||((tB ((dint (x0.getD 0 D0))==1))&&((tB (decide ((dint (x0.getD 1 D0))<1)))||(tB (decide (3<(dint (x0.getD 1 D0))))))))||((!(tB ((dint (x0.getD 0 D0))==1)))&&(!(tB ((dint (x0.getD 1 D0))==0)))))=true->
 R (.ret (bA false)) [])/\
 ((((!(tB (((dlst (x0.getD 5 D0)).length:Int)==0)))||((tB ((dint (x0.getD 0 D0))==1))&&((tB (decide ((dint (x0.getD 1 D0))<1)))||(tB (decide (3<(dint (x0.getD 1 D0))))))))||((!(tB ((dint (x0.getD 0 D0))==1)))&&(!(tB ((dint (x0.getD 1 D0))==0)))))=false->
 ((!((!(tB ((dint (x0.getD 0 D0))==5)))&&(!(tB ((dint (x0.getD 0 D0))==6)))))||(isK .slc (x0.getD 6 D0)))=true/\
 ((!(((!(tB ((dint (x0.getD 0 D0))==5)))&&(!(tB ((dint (x0.getD 0 D0))==6))))&&(!(tB (decide (0<((dlst (x0.getD 6 D0)).length:Int)))))))||(isK .slc (x0.getD 7 D0)))=true/\
 ((((!(tB ((dint (x0.getD 0 D0))==5)))&&(!(tB ((dint (x0.getD 0 D0))==6))))&&((tB (decide (0<((dlst (x0.getD 6 D0)).length:Int))))||(tB (decide (0<((dlst (x0.getD 7 D0)).length:Int))))))=true->
 R (.ret (bA false)) [])/\
 ((((!(tB ((dint (x0.getD 0 D0))==5)))&&(!(tB ((dint (x0.getD 0 D0))==6))))&&((tB (decide (0<((dlst (x0.getD 6 D0)).length:Int))))||(tB (decide (0<((dlst (x0.getD 7 D0)).length:Int))))))=false->
 (tB ((dint (x0.getD 0 D0))==6)=true->
 ∀_:Nat->Nat,∃R',HT 115 [A.agg [x0.getD 3 D0,x0.getD 4 D0]] [] R'/\
 (∀v H',R' (.ret v) H'-> ∃x4:Bool,v=bA x4/\H'=[]/\
 ((!(x4&&(!(tB ((dint (x0.getD 0 D0))==6)))))||(isK .str (x0.getD 3 D0)))=true/\
 ((!((x4&&(!(tB ((dint (x0.getD 0 D0))==6))))&&(tB ((dstr (x0.getD 3 D0))==([]:List UInt8)))))||(isK .str (x0.getD 4 D0)))=true/\
 (((!x4)||((!(tB ((dint (x0.getD 0 D0))==6)))&&((!(tB ((dstr (x0.getD 3 D0))==([]:List UInt8))))||(!(tB ((dstr (x0.getD 4 D0))==([]:List UInt8)))))))=true->
 R (.ret (bA false)) [])/\
 (((!x4)||((!(tB ((dint (x0.getD 0 D0))==6)))&&((!(tB ((dstr (x0.getD 3 D0))==([]:List UInt8))))||(!(tB ((dstr (x0.getD 4 D0))==([]:List UInt8)))))))=false->
 (tB ((dint (x0.getD 0 D0))==1)=true->
 R (.ret (bA true)) [])/\
 (tB ((dint (x0.getD 0 D0))==1)=false->
 (tB ((dint (x0.getD 0 D0))==2)=true->
 isK .str (x0.getD 2 D0)=true/\
 ∀_:Nat->Nat,∃R',HT 116 [A.d (D.lit (Zco (dstr (x0.getD 2 D0))))] [] R'/\
 (∀v H',R' (.ret v) H'-> ∃x5:List D,∃x6:List D,v=A.tup [(true,x5),(true,x6)]/\H'=[]/\
 tB ((x5.length:Int)==6)=true/\
 tB ((x6.length:Int)==2)=true/\
 isK (.int .i64) (x6.getD 0 D0)=true/\
 R (.ret (bA (tB ((dint (x6.getD 0 D0))==0)))) [])/\
 PN R R')/\
 (tB ((dint (x0.getD 0 D0))==2)=false->
 (tB ((dint (x0.getD 0 D0))==4)=true->
 isK .str (x0.getD 2 D0)=true/\
 ∀_:Nat->Nat,∃R',HT 52 [A.d (D.lit (Zco (dstr (x0.getD 2 D0))))] [] R'/\
 (∀v H',R' (.ret v) H'-> ∃x5:Bool,v=bA x5/\H'=[]/\
 R (.ret (bA x5)) [])/\
 PN R R')/\
 (tB ((dint (x0.getD 0 D0))==4)=false->
 isK .str (x0.getD 2 D0)=true/\
 R (.ret (bA (tB ((dstr (x0.getD 2 D0))==([]:List UInt8))))) [])))))/\
 PN R R')/\
 (tB ((dint (x0.getD 0 D0))==6)=false->
 isK .str (x0.getD 3 D0)=true/\
 ((!(tB ((dstr (x0.getD 3 D0))==([]:List UInt8))))||(isK .str (x0.getD 4 D0)))=true/\
 (((!(tB ((dint (x0.getD 0 D0))==6)))&&((!(tB ((dstr (x0.getD 3 D0))==([]:List UInt8))))||(!(tB ((dstr (x0.getD 4 D0))==([]:List UInt8))))))=true->
 R (.ret (bA false)) [])/\
 (((!(tB ((dint (x0.getD 0 D0))==6)))&&((!(tB ((dstr (x0.getD 3 D0))==([]:List UInt8))))||(!(tB ((dstr (x0.getD 4 D0))==([]:List UInt8))))))=false->
 (tB ((dint (x0.getD 0 D0))==1)=true->
 R (.ret (bA true)) [])/\
 (tB ((dint (x0.getD 0 D0))==1)=false->
 (tB ((dint (x0.getD 0 D0))==2)=true->
 isK .str (x0.getD 2 D0)=true/\
 ∀_:Nat->Nat,∃R',HT 116 [A.d (D.lit (Zco (dstr (x0.getD 2 D0))))] [] R'/\
 (∀v H',R' (.ret v) H'-> ∃x4:List D,∃x5:List D,v=A.tup [(true,x4),(true,x5)]/\H'=[]/\
 tB ((x4.length:Int)==6)=true/\
 tB ((x5.length:Int)==2)=true/\
 isK (.int .i64) (x5.getD 0 D0)=true/\
 R (.ret (bA (tB ((dint (x5.getD 0 D0))==0)))) [])/\
 PN R R')/\
 (tB ((dint (x0.getD 0 D0))==2)=false->
 (tB ((dint (x0.getD 0 D0))==4)=true->
 isK .str (x0.getD 2 D0)=true/\
 ∀_:Nat->Nat,∃R',HT 52 [A.d (D.lit (Zco (dstr (x0.getD 2 D0))))] [] R'/\
 (∀v H',R' (.ret v) H'-> ∃x4:Bool,v=bA x4/\H'=[]/\
 R (.ret (bA x4)) [])/\
 PN R R')/\
 (tB ((dint (x0.getD 0 D0))==4)=false->
 isK .str (x0.getD 2 D0)=true/\
 R (.ret (bA (tB ((dstr (x0.getD 2 D0))==([]:List UInt8))))) []))))))))/\
 (tB ((dint (x0.getD 0 D0))==8)=false->
 isK .slc (x0.getD 5 D0)=true/\
 ((!((tB (((dlst (x0.getD 5 D0)).length:Int)==1))&&(tB ((dint (x0.getD 0 D0))==1))))||(isK (.int .i64) (x0.getD 1 D0)))=true/\
 ((!(((tB (((dlst (x0.getD 5 D0)).length:Int)==1))&&(tB ((dint (x0.getD 0 D0))==1)))&&(!(tB (decide ((dint (x0.getD 1 D0))<1))))))||(isK (.int .i64) (x0.getD 1 D0)))=true/\
 ((!((!((!(tB (((dlst (x0.getD 5 D0)).length:Int)==1)))||((tB ((dint (x0.getD 0 D0))==1))&&((tB (decide ((dint (x0.getD 1 D0))<1)))||(tB (decide (3<(dint (x0.getD 1 D0)))))))))&&(!(tB ((dint (x0.getD 0 D0))==1)))))||(isK (.int .i64) (x0.getD 1 D0)))=true/\
 ((((!(tB (((dlst (x0.getD 5 D0)).length:Int)==1)))||((tB ((dint (x0.getD 0 D0))==1))&&((tB (decide ((dint (x0.getD 1 D0))<1)))||(tB (decide (3<(dint (x0.getD 1 D0))))))))||((!(tB ((dint (x0.getD 0 D0))==1)))&&(!(tB ((dint (x0.getD 1 D0))==0)))))=true->
 R (.ret (bA false)) [])/\
 ((((!(tB (((dlst (x0.getD 5 D0)).length:Int)==1)))||((tB ((dint (x0.getD 0 D0))==1))&&((tB (decide ((dint (x0.getD 1 D0))<1)))||(tB (decide (3<(dint (x0.getD 1 D0))))))))||((!(tB ((dint (x0.getD 0 D0))==1)))&&(!(tB ((dint (x0.getD 1 D0))==0)))))=false->
 ((!((!(tB ((dint (x0.getD 0 D0))==5)))&&(!(tB ((dint (x0.getD 0 D0))==6)))))||(isK .slc (x0.getD 6 D0)))=true/\
 ((!(((!(tB ((dint (x0.getD 0 D0))==5)))&&(!(tB ((dint (x0.getD 0 D0))==6))))&&(!(tB (decide (0<((dlst (x0.getD 6 D0)).length:Int)))))))||(isK .slc (x0.getD 7 D0)))=true/\
 ((((!(tB ((dint (x0.getD 0 D0))==5)))&&(!(tB ((dint (x0.getD 0 D0))==6))))&&((tB (decide (0<((dlst (x0.getD 6 D0)).length:Int))))||(tB (decide (0<((dlst (x0.getD 7 D0)).length:Int))))))=true->
 R (.ret (bA false)) [])/\
 ((((!(tB ((dint (x0.getD 0 D0))==5)))&&(!(tB ((dint (x0.getD 0 D0))==6))))&&((tB (decide (0<((dlst (x0.getD 6 D0)).length:Int))))||(tB (decide (0<((dlst (x0.getD 7 D0)).length:Int))))))=false->
 (tB ((dint (x0.getD 0 D0))==6)=true->
 ∀_:Nat->Nat,∃R',HT 115 [A.agg [x0.getD 3 D0,x0.getD 4 D0]] [] R'/\
 (∀v H',R' (.ret v) H'-> ∃x4:Bool,v=bA x4/\H'=[]/\
 ((!(x4&&(!(tB ((dint (x0.getD 0 D0))==6)))))||(isK .str (x0.getD 3 D0)))=true/\
 ((!((x4&&(!(tB ((dint (x0.getD 0 D0))==6))))&&(tB ((dstr (x0.getD 3 D0))==([]:List UInt8)))))||(isK .str (x0.getD 4 D0)))=true/\
 (((!x4)||((!(tB ((dint (x0.getD 0 D0))==6)))&&((!(tB ((dstr (x0.getD 3 D0))==([]:List UInt8))))||(!(tB ((dstr (x0.getD 4 D0))==([]:List UInt8)))))))=true->
 R (.ret (bA false)) [])/\
 (((!x4)||((!(tB ((dint (x0.getD 0 D0))==6)))&&((!(tB ((dstr (x0.getD 3 D0))==([]:List UInt8))))||(!(tB ((dstr (x0.getD 4 D0))==([]:List UInt8)))))))=false->
 (tB ((dint (x0.getD 0 D0))==1)=true->
 R (.ret (bA true)) [])/\
 (tB ((dint (x0.getD 0 D0))==1)=false->
 (tB ((dint (x0.getD 0 D0))==2)=true->
 isK .str (x0.getD 2 D0)=true/\
 ∀_:Nat->Nat,∃R',HT 116 [A.d (D.lit (Zco (dstr (x0.getD 2 D0))))] [] R'/\
 (∀v H',R' (.ret v) H'-> ∃x5:List D,∃x6:List D,v=A.tup [(true,x5),(true,x6)]/\H'=[]/\
 tB ((x5.length:Int)==6)=true/\
 tB ((x6.length:Int)==2)=true/\
 isK (.int .i64) (x6.getD 0 D0)=true/\
 R (.ret (bA (tB ((dint (x6.getD 0 D0))==0)))) [])/\
 PN R R')/\
 (tB ((dint (x0.getD 0 D0))==2)=false->
 (tB ((dint (x0.getD 0 D0))==4)=true->
 isK .str (x0.getD 2 D0)=true/\
 ∀_:Nat->Nat,∃R',HT 52 [A.d (D.lit (Zco (dstr (x0.getD 2 D0))))] [] R'/\
 (∀v H',R' (.ret v) H'-> ∃x5:Bool,v=bA x5/\H'=[]/\
 R (.ret (bA x5)) [])/\
 PN R R')/\
 (tB ((dint (x0.getD 0 D0))==4)=false->
 isK .str (x0.getD 2 D0)=true/\
 R (.ret (bA (tB ((dstr (x0.getD 2 D0))==([]:List UInt8))))) [])))))/\
 PN R R')/\
 (tB ((dint (x0.getD 0 D0))==6)=false->
 isK .str (x0.getD 3 D0)=true/\
 ((!(tB ((dstr (x0.getD 3 D0))==([]:List UInt8))))||(isK .str (x0.getD 4 D0)))=true/\
 (((!(tB ((dint (x0.getD 0 D0))==6)))&&((!(tB ((dstr (x0.getD 3 D0))==([]:List UInt8))))||(!(tB ((dstr (x0.getD 4 D0))==([]:List UInt8))))))=true->
 R (.ret (bA false)) [])/\
 (((!(tB ((dint (x0.getD 0 D0))==6)))&&((!(tB ((dstr (x0.getD 3 D0))==([]:List UInt8))))||(!(tB ((dstr (x0.getD 4 D0))==([]:List UInt8))))))=false->
 (tB ((dint (x0.getD 0 D0))==1)=true->
 R (.ret (bA true)) [])/\
 (tB ((dint (x0.getD 0 D0))==1)=false->
 (tB ((dint (x0.getD 0 D0))==2)=true->
 isK .str (x0.getD 2 D0)=true/\
 ∀_:Nat->Nat,∃R',HT 116 [A.d (D.lit (Zco (dstr (x0.getD 2 D0))))] [] R'/\
 (∀v H',R' (.ret v) H'-> ∃x4:List D,∃x5:List D,v=A.tup [(true,x4),(true,x5)]/\H'=[]/\
 tB ((x4.length:Int)==6)=true/\
 tB ((x5.length:Int)==2)=true/\
 isK (.int .i64) (x5.getD 0 D0)=true/\
 R (.ret (bA (tB ((dint (x5.getD 0 D0))==0)))) [])/\
 PN R R')/\
 (tB ((dint (x0.getD 0 D0))==2)=false->
 (tB ((dint (x0.getD 0 D0))==4)=true->
 isK .str (x0.getD 2 D0)=true/\
 ∀_:Nat->Nat,∃R',HT 52 [A.d (D.lit (Zco (dstr (x0.getD 2 D0))))] [] R'/\
 (∀v H',R' (.ret v) H'-> ∃x4:Bool,v=bA x4/\H'=[]/\
 R (.ret (bA x4)) [])/\
 PN R R')/\
 (tB ((dint (x0.getD 0 D0))==4)=false->
 isK .str (x0.getD 2 D0)=true/\
 R (.ret (bA (tB ((dstr (x0.getD 2 D0))==([]:List UInt8))))) [])))))))))))/\
 PN R R')/\
 ((!x2)=false->
 R (.ret (bA false)) []))/\
 PN R R')/\
 ((!x1)=false->
 R (.ret (bA false)) []))/\
 PN R R')/\
 ((!((tB (decide ((dint (x0.getD 0 D0))<1)))||(tB (decide (8<(dint (x0.getD 0 D0)))))))=false->
 R (.ret (bA false)) [])):
 HT 101 [A.agg x0] [] R:=
 walk (c:=⟨Tryz.prog,135,true,[0,1,2,3,5,29,32,35,65,85,111,113,114,116,127]⟩) (op:={}) (fn:=Tryz.f101) (args:=[.agg (.var 0)]) (K:=[]) (nv:=1) (depth:=8) (up:=upOf []) (ρ:=Zwa [.r x0])
  rfl rfl rfl rfl rfl (by decide) (by decide) (by decide) (by decide) rfl (by simp[Zab,RRef.den,upOf]) (T_of (by kernel_rfl) h)
theorem w103{R:RT}(x0:List D)(h:tB ((x0.length:Int)==9)=true/\
 isK (.int .i64) (x0.getD 0 D0)=true/\
 ((!((tB (decide ((dint (x0.getD 0 D0))<1)))||(tB (decide (22<(dint (x0.getD 0 D0)))))))=true->
 ∀_:Nat->Nat,∃R',HT 121 [A.agg x0] [] R'/\
 (∀v H',R' (.ret v) H'-> ∃x1:Bool,v=bA x1/\H'=[]/\
 ((!x1)||(isK .slc (x0.getD 7 D0)))=true/\
 (x1=true->
 ∀_:Nat->Nat,∃R',HT 53 [A.d (D.slc (dlst (x0.getD 7 D0)))] [] R'/\
 (∀v H',R' (.ret v) H'-> ∃x2:Bool,v=bA x2/\H'=[]/\
 (x2=true->
 R (.ret (bA false)) [])/\
 (x2=false->
 (((tB ((dint (x0.getD 0 D0))==13))||(tB ((dint (x0.getD 0 D0))==22)))||(isK .slc (x0.getD 6 D0)))=true/\
 ((!((!((tB ((dint (x0.getD 0 D0))==13))||(tB ((dint (x0.getD 0 D0))==22))))&&(!(tB (decide (0<((dlst (x0.getD 6 D0)).length:Int)))))))||(isK .slc (x0.getD 7 D0)))=true/\
 (((!((tB ((dint (x0.getD 0 D0))==13))||(tB ((dint (x0.getD 0 D0))==22))))&&((tB (decide (0<((dlst (x0.getD 6 D0)).length:Int))))||(tB (decide (0<((dlst (x0.getD 7 D0)).length:Int))))))=true->
 R (.ret (bA false)) [])/\
 (((!((tB ((dint (x0.getD 0 D0))==13))||(tB ((dint (x0.getD 0 D0))==22))))&&((tB (decide (0<((dlst (x0.getD 6 D0)).length:Int))))||(tB (decide (0<((dlst (x0.getD 7 D0)).length:Int))))))=false->
 (tB ((dint (x0.getD 0 D0))==10)=true->
 ∀_:Nat->Nat,∃R',HT 122 [A.agg x0] [] R'/\
 (∀v H',R' (.ret v) H'-> ∃x3:Bool,v=bA x3/\H'=[]/\
 R (.ret (bA x3)) [])/\
 PN R R')/\
 (tB ((dint (x0.getD 0 D0))==10)=false->
 ∀_:Nat->Nat,∃R',HT 123 [iA (dint (x0.getD 0 D0))] [] R'/\
 (∀v H',R' (.ret v) H'-> ∃x3:Int,∃x4:Int,v=A.tup [(false,[D.lit (.int .i64 x3)]),(false,[D.lit (.int .i64 x4)])]/\H'=[]/\
 isK .slc (x0.getD 5 D0)=true/\
 ((!((tB (decide (((dlst (x0.getD 5 D0)).length:Int)<x3)))||(tB (decide (x4<((dlst (x0.getD 5 D0)).length:Int))))))=true->
 ∀_:Nat->Nat,∃R',HT 124 [A.agg x0] [] R'/\
 (∀v H',R' (.ret v) H'-> ∃x5:Bool,v=bA x5/\H'=[]/\
 ((!x5)=true->
 R (.ret (bA false)) [])/\
 ((!x5)=false->
 (tB ((dint (x0.getD 0 D0))==15)=true->
 ∀_:Nat->Nat,∃R',HT 115 [A.agg [x0.getD 3 D0,x0.getD 4 D0]] [] R'/\
 (∀v H',R' (.ret v) H'-> ∃x6:Bool,v=bA x6/\H'=[]/\
 R (.ret (bA x6)) [])/\
 PN R R')/\
 (tB ((dint (x0.getD 0 D0))==15)=false->
 isK .str (x0.getD 3 D0)=true/\
 ((!(tB ((dstr (x0.getD 3 D0))==([]:List UInt8))))||(isK .str (x0.getD 4 D0)))=true/\
 R (.ret (bA ((tB ((dstr (x0.getD 3 D0))==([]:List UInt8)))&&(tB ((dstr (x0.getD 4 D0))==([]:List UInt8)))))) [])))/\
 PN R R')/\
 ((!((tB (decide (((dlst (x0.getD 5 D0)).length:Int)<x3)))||(tB (decide (x4<((dlst (x0.getD 5 D0)).length:Int))))))=false->
 R (.ret (bA false)) []))/\
 PN R R'))))/\
 PN R R')/\
 (x1=false->
 R (.ret (bA false)) []))/\
 PN R R')/\
 ((!((tB (decide ((dint (x0.getD 0 D0))<1)))||(tB (decide (22<(dint (x0.getD 0 D0)))))))=false->
 R (.ret (bA false)) [])):
 HT 103 [A.agg x0] [] R:=
 walk (c:=⟨Tryz.prog,90,true,[0,1,2,3,4,5,23,45,48,73,76]⟩) (op:={}) (fn:=Tryz.f103) (args:=[.agg (.var 0)]) (K:=[]) (nv:=1) (depth:=7) (up:=upOf []) (ρ:=Zwa [.r x0])
  rfl rfl rfl rfl rfl (by decide) (by decide) (by decide) (by decide) rfl (by simp[Zab,RRef.den,upOf]) (T_of (by kernel_rfl) h)
theorem w115{R:RT}(x0:List D)(h:tB ((x0.length:Int)==2)=true/\
 isK .str (x0.getD 0 D0)=true/\
 ∀_:Nat->Nat,∃R',HT 52 [A.d (D.lit (Zco (dstr (x0.getD 0 D0))))] [] R'/\
 (∀v H',R' (.ret v) H'-> ∃x1:Bool,v=bA x1/\H'=[]/\
 ((!x1)||(isK .str (x0.getD 1 D0)))=true/\
 (x1=true->
 ∀_:Nat->Nat,∃R',HT 52 [A.d (D.lit (Zco (dstr (x0.getD 1 D0))))] [] R'/\
 (∀v H',R' (.ret v) H'-> ∃x2:Bool,v=bA x2/\H'=[]/\
 ((!x2)||(isK .str (x0.getD 1 D0)))=true/\
 R (.ret (bA (x2&&(!(tB ((dstr (x0.getD 0 D0))==(dstr (x0.getD 1 D0)))))))) [])/\
 PN R R')/\
 (x1=false->
 R (.ret (bA false)) []))/\
 PN R R'):
 HT 115 [A.agg x0] [] R:=
 walk (c:=⟨Tryz.prog,18,true,[0,1,2]⟩) (op:={}) (fn:=Tryz.f115) (args:=[.agg (.var 0)]) (K:=[]) (nv:=1) (depth:=5) (up:=upOf []) (ρ:=Zwa [.r x0])
  rfl rfl rfl rfl rfl (by decide) (by decide) (by decide) (by decide) rfl (by simp[Zab,RRef.den,upOf]) (T_of (by kernel_rfl) h)
theorem w121{R:RT}(x0:List D)(h:tB ((x0.length:Int)==9)=true/\
 isK (.int .i64) (x0.getD 0 D0)=true/\
 (tB ((dint (x0.getD 0 D0))==4)=true->
 R (.ret (bA true)) [])/\
 (tB ((dint (x0.getD 0 D0))==4)=false->
 (tB ((dint (x0.getD 0 D0))==11)=true->
 R (.ret (bA true)) [])/\
 (tB ((dint (x0.getD 0 D0))==11)=false->
 (tB ((dint (x0.getD 0 D0))==8)=true->
 isK .str (x0.getD 1 D0)=true/\
 ∀_:Nat->Nat,∃R',HT 34 [A.d (D.lit (Zco (dstr (x0.getD 1 D0)))),(A.d (D.slc [[(D.lit (Zco ([110,117,108,108]:List UInt8)))],[(D.lit (Zco ([98,111,111,108]:List UInt8)))],[(D.lit (Zco ([105,110,116]:List UInt8)))],[(D.lit (Zco ([110,117,109,98,101,114]:List UInt8)))],[(D.lit (Zco ([115,116,114,105,110,103]:List UInt8)))]]))] [] R'/\
 (∀v H',R' (.ret v) H'-> ∃x1:Bool,v=bA x1/\H'=[]/\
 R (.ret (bA x1)) [])/\
 PN R R')/\
 (tB ((dint (x0.getD 0 D0))==8)=false->
 (tB ((dint (x0.getD 0 D0))==9)=true->
 isK .str (x0.getD 1 D0)=true/\
 ∀_:Nat->Nat,∃R',HT 34 [A.d (D.lit (Zco (dstr (x0.getD 1 D0)))),(A.d (D.slc [[(D.lit (Zco ([60]:List UInt8)))],[(D.lit (Zco ([60,61]:List UInt8)))],[(D.lit (Zco ([62]:List UInt8)))],[(D.lit (Zco ([62,61]:List UInt8)))],[(D.lit (Zco ([33,61]:List UInt8)))],[(D.lit (Zco ([61,126]:List UInt8)))],[(D.lit (Zco ([33,126]:List UInt8)))]]))] [] R'/\
 (∀v H',R' (.ret v) H'-> ∃x1:Bool,v=bA x1/\H'=[]/\
 R (.ret (bA x1)) [])/\
 PN R R')/\
 (tB ((dint (x0.getD 0 D0))==9)=false->
 (tB ((dint (x0.getD 0 D0))==19)=true->
 isK .str (x0.getD 1 D0)=true/\
 ∀_:Nat->Nat,∃R',HT 34 [A.d (D.lit (Zco (dstr (x0.getD 1 D0)))),(A.d (D.slc [[(D.lit (Zco ([45]:List UInt8)))],[(D.lit (Zco ([33]:List UInt8)))]]))] [] R'/\
 (∀v H',R' (.ret v) H'-> ∃x1:Bool,v=bA x1/\H'=[]/\
 R (.ret (bA x1)) [])/\
 PN R R')/\
 (tB ((dint (x0.getD 0 D0))==19)=false->
 (tB ((dint (x0.getD 0 D0))==20)=true->
 isK .str (x0.getD 1 D0)=true/\
 ∀_:Nat->Nat,∃R',HT 34 [A.d (D.lit (Zco (dstr (x0.getD 1 D0)))),(A.d (D.slc [[(D.lit (Zco ([43]:List UInt8)))],[(D.lit (Zco ([45]:List UInt8)))],[(D.lit (Zco ([42]:List UInt8)))],[(D.lit (Zco ([47]:List UInt8)))],[(D.lit (Zco ([37]:List UInt8)))],[(D.lit (Zco ([61,61]:List UInt8)))],[(D.lit (Zco ([33,61]:List UInt8)))],[(D.lit (Zco ([60]:List UInt8)))],[(D.lit (Zco ([60,61]:List UInt8)))],[(D.lit (Zco ([62]:List UInt8)))],[(D.lit (Zco ([62,61]:List UInt8)))],[(D.lit (Zco ([38,38]:List UInt8)))],[(D.lit (Zco ([124,124]:List UInt8)))]]))] [] R'/\
 (∀v H',R' (.ret v) H'-> ∃x1:Bool,v=bA x1/\H'=[]/\
 R (.ret (bA x1)) [])/\
 PN R R')/\
 (tB ((dint (x0.getD 0 D0))==20)=false->
 (tB ((dint (x0.getD 0 D0))==10)=true->
 isK .str (x0.getD 1 D0)=true/\
 ∀_:Nat->Nat,∃R',HT 52 [A.d (D.lit (Zco (dstr (x0.getD 1 D0))))] [] R'/\
 (∀v H',R' (.ret v) H'-> ∃x1:Bool,v=bA x1/\H'=[]/\
 R (.ret (bA x1)) [])/\
 PN R R')/\
 (tB ((dint (x0.getD 0 D0))==10)=false->
 (tB ((dint (x0.getD 0 D0))==21)=true->
 isK .str (x0.getD 1 D0)=true/\
 ∀_:Nat->Nat,∃R',HT 52 [A.d (D.lit (Zco (dstr (x0.getD 1 D0))))] [] R'/\
 (∀v H',R' (.ret v) H'-> ∃x1:Bool,v=bA x1/\H'=[]/\
 R (.ret (bA x1)) [])/\
 PN R R')/\
 (tB ((dint (x0.getD 0 D0))==21)=false->
 isK .str (x0.getD 1 D0)=true/\
 R (.ret (bA (tB ((dstr (x0.getD 1 D0))==([]:List UInt8))))) []))))))))):
 HT 121 [A.agg x0] [] R:=
 walk (c:=⟨Tryz.prog,41,true,[0,1,2,4,5,8,14,20,26,32]⟩) (op:={}) (fn:=Tryz.f121) (args:=[.agg (.var 0)]) (K:=[]) (nv:=1) (depth:=6) (up:=upOf []) (ρ:=Zwa [.r x0])
  rfl rfl rfl rfl rfl (by decide) (by decide) (by decide) (by decide) rfl (by simp[Zab,RRef.den,upOf]) (T_of (by kernel_rfl) h)
theorem w122{R:RT}(x0:List D)(h:tB ((x0.length:Int)==9)=true/\
 isK .str (x0.getD 3 D0)=true/\
 (tB ((dstr (x0.getD 3 D0))==([]:List UInt8))=true->
 isK .str (x0.getD 4 D0)=true/\
 ((!(tB ((dstr (x0.getD 4 D0))==([]:List UInt8))))||(isK (.int .i64) (x0.getD 2 D0)))=true/\
 ((!((tB ((dstr (x0.getD 4 D0))==([]:List UInt8)))&&(tB ((dint (x0.getD 2 D0))==0))))||(isK .slc (x0.getD 5 D0)))=true/\
 R (.ret (bA (((tB ((dstr (x0.getD 4 D0))==([]:List UInt8)))&&(tB ((dint (x0.getD 2 D0))==0)))&&(tB (((dlst (x0.getD 5 D0)).length:Int)==0))))) [])/\
 (tB ((dstr (x0.getD 3 D0))==([]:List UInt8))=false->
 (tB ((dstr (x0.getD 3 D0))==([108,101,116]:List UInt8))=true->
 ∀_:Nat->Nat,∃R',HT 34 [A.d (D.lit (Zco (dstr (x0.getD 3 D0)))),(A.d (D.slc [[(D.lit (Zco ([102,105,101,108,100]:List UInt8)))],[(D.lit (Zco ([108,101,116]:List UInt8)))],[(D.lit (Zco ([108,111,111,112]:List UInt8)))],[(D.lit (Zco ([112,97,99,107,97,103,101]:List UInt8)))],[(D.lit (Zco ([117,110,107,110,111,119,110]:List UInt8)))]]))] [] R'/\
 (∀v H',R' (.ret v) H'-> ∃x1:Bool,v=bA x1/\H'=[]/\
 ((!x1)||(isK .str (x0.getD 4 D0)))=true/\
 ((!(x1&&(tB ((dstr (x0.getD 4 D0))==([]:List UInt8)))))||(isK (.int .i64) (x0.getD 2 D0)))=true/\
 ((!((x1&&(tB ((dstr (x0.getD 4 D0))==([]:List UInt8))))&&(tB (decide (0<=(dint (x0.getD 2 D0)))))))||(isK .slc (x0.getD 5 D0)))=true/\
 R (.ret (bA (((x1&&(tB ((dstr (x0.getD 4 D0))==([]:List UInt8))))&&(tB (decide (0<=(dint (x0.getD 2 D0))))))&&(tB (((dlst (x0.getD 5 D0)).length:Int)==1))))) [])/\
 PN R R')/\
 (tB ((dstr (x0.getD 3 D0))==([108,101,116]:List UInt8))=false->
 ∀_:Nat->Nat,∃R',HT 34 [A.d (D.lit (Zco (dstr (x0.getD 3 D0)))),(A.d (D.slc [[(D.lit (Zco ([102,105,101,108,100]:List UInt8)))],[(D.lit (Zco ([108,101,116]:List UInt8)))],[(D.lit (Zco ([108,111,111,112]:List UInt8)))],[(D.lit (Zco ([112,97,99,107,97,103,101]:List UInt8)))],[(D.lit (Zco ([117,110,107,110,111,119,110]:List UInt8)))]]))] [] R'/\
 (∀v H',R' (.ret v) H'-> ∃x1:Bool,v=bA x1/\H'=[]/\
 ((!x1)||(isK .str (x0.getD 4 D0)))=true/\
 ((!(x1&&(tB ((dstr (x0.getD 4 D0))==([]:List UInt8)))))||(isK (.int .i64) (x0.getD 2 D0)))=true/\
 ((!((x1&&(tB ((dstr (x0.getD 4 D0))==([]:List UInt8))))&&(tB (decide (0<=(dint (x0.getD 2 D0)))))))||(isK .slc (x0.getD 5 D0)))=true/\
 R (.ret (bA (((x1&&(tB ((dstr (x0.getD 4 D0))==([]:List UInt8))))&&(tB (decide (0<=(dint (x0.getD 2 D0))))))&&(tB (((dlst (x0.getD 5 D0)).length:Int)==0))))) [])/\
 PN R R'))):
 HT 122 [A.agg x0] [] R:=
 walk (c:=⟨Tryz.prog,50,true,[0,1,2,3,7,26]⟩) (op:={}) (fn:=Tryz.f122) (args:=[.agg (.var 0)]) (K:=[]) (nv:=1) (depth:=6) (up:=upOf []) (ρ:=Zwa [.r x0])
  rfl rfl rfl rfl rfl (by decide) (by decide) (by decide) (by decide) rfl (by simp[Zab,RRef.den,upOf]) (T_of (by kernel_rfl) h)
theorem w123{R:RT}(x0:Int)(h:(tB (x0==9)=true->
 R (.ret (A.tup [(false,[D.lit (.int .i64 1)]),(false,[D.lit (.int .i64 1)])])) [])/\
 (tB (x0==9)=false->
 (tB (x0==11)=true->
 R (.ret (A.tup [(false,[D.lit (.int .i64 1)]),(false,[D.lit (.int .i64 1)])])) [])/\
 (tB (x0==11)=false->
 (tB (x0==18)=true->
 R (.ret (A.tup [(false,[D.lit (.int .i64 1)]),(false,[D.lit (.int .i64 1)])])) [])/\
 (tB (x0==18)=false->
 (tB (x0==19)=true->
 R (.ret (A.tup [(false,[D.lit (.int .i64 1)]),(false,[D.lit (.int .i64 1)])])) [])/\
 (tB (x0==19)=false->
 (tB (x0==12)=true->
 R (.ret (A.tup [(false,[D.lit (.int .i64 2)]),(false,[D.lit (.int .i64 2)])])) [])/\
 (tB (x0==12)=false->
 (tB (x0==16)=true->
 R (.ret (A.tup [(false,[D.lit (.int .i64 2)]),(false,[D.lit (.int .i64 2)])])) [])/\
 (tB (x0==16)=false->
 (tB (x0==20)=true->
 R (.ret (A.tup [(false,[D.lit (.int .i64 2)]),(false,[D.lit (.int .i64 2)])])) [])/\
 (tB (x0==20)=false->
 (tB (x0==15)=true->
 R (.ret (A.tup [(false,[D.lit (.int .i64 2)]),(false,[D.lit (.int .i64 3)])])) [])/\
 (tB (x0==15)=false->
 (tB (x0==5)=true->
 R (.ret (A.tup [(false,[D.lit (.int .i64 1)]),(false,[D.lit (.int .i64 1000000)])])) [])/\
 (tB (x0==5)=false->
 (tB (x0==17)=true->
 R (.ret (A.tup [(false,[D.lit (.int .i64 2)]),(false,[D.lit (.int .i64 1000000)])])) [])/\
 (tB (x0==17)=false->
 (tB (x0==14)=true->
 R (.ret (A.tup [(false,[D.lit (.int .i64 0)]),(false,[D.lit (.int .i64 1000000)])])) [])/\
 (tB (x0==14)=false->
 (tB (x0==21)=true->
 R (.ret (A.tup [(false,[D.lit (.int .i64 0)]),(false,[D.lit (.int .i64 1000000)])])) [])/\
 (tB (x0==21)=false->
 R (.ret (A.tup [(false,[D.lit (.int .i64 0)]),(false,[D.lit (.int .i64 0)])])) []))))))))))))):
 HT 123 [iA x0] [] R:=
 walk (c:=⟨Tryz.prog,23,true,[0,2,3,4,5,10,14,16,18,20]⟩) (op:={}) (fn:=Tryz.f123) (args:=[.c (.o1 (.ci .i64) (.var 0))]) (K:=[]) (nv:=1) (depth:=5) (up:=upOf []) (ρ:=Zwa [.i x0])
  rfl rfl rfl rfl rfl (by decide) (by decide) (by decide) (by decide) rfl (by simp[Zab,RRef.den,upOf]) (T_of (by kernel_rfl) h)
theorem w124{R:RT}(x0:List D)(h:tB ((x0.length:Int)==9)=true/\
 isK (.int .i64) (x0.getD 0 D0)=true/\
 (tB ((dint (x0.getD 0 D0))==2)=true->
 isK (.int .i64) (x0.getD 2 D0)=true/\
 R (.ret (bA ((tB ((dint (x0.getD 2 D0))==0))||(tB ((dint (x0.getD 2 D0))==1))))) [])/\
 (tB ((dint (x0.getD 0 D0))==2)=false->
 (tB ((dint (x0.getD 0 D0))==14)=true->
 isK (.int .i64) (x0.getD 2 D0)=true/\
 ((!((!(tB ((dint (x0.getD 2 D0))==0)))&&(tB ((dint (x0.getD 2 D0))==1))))||(isK .slc (x0.getD 5 D0)))=true/\
 R (.ret (bA ((tB ((dint (x0.getD 2 D0))==0))||((tB ((dint (x0.getD 2 D0))==1))&&(tB (decide (0<((dlst (x0.getD 5 D0)).length:Int)))))))) [])/\
 (tB ((dint (x0.getD 0 D0))==14)=false->
 (tB ((dint (x0.getD 0 D0))==3)=true->
 isK (.int .i64) (x0.getD 2 D0)=true/\
 R (.ret (bA ((tB (decide (0<=(dint (x0.getD 2 D0)))))&&(tB (decide ((dint (x0.getD 2 D0))<=1000000000000000)))))) [])/\
 (tB ((dint (x0.getD 0 D0))==3)=false->
 isK (.int .i64) (x0.getD 2 D0)=true/\
 R (.ret (bA (tB ((dint (x0.getD 2 D0))==0)))) [])))):
 HT 124 [A.agg x0] [] R:=
 walk (c:=⟨Tryz.prog,44,true,[0,1,2,4,5,15,31]⟩) (op:={}) (fn:=Tryz.f124) (args:=[.agg (.var 0)]) (K:=[]) (nv:=1) (depth:=6) (up:=upOf []) (ρ:=Zwa [.r x0])
  rfl rfl rfl rfl rfl (by decide) (by decide) (by decide) (by decide) rfl (by simp[Zab,RRef.den,upOf]) (T_of (by kernel_rfl) h)
end Go.Sy
end
section
open Go Go.Proofs Go.Ab Go.Rf
set_option maxRecDepth 1000000
set_option maxHeartbeats 2000000
set_option linter.unusedVariables false
namespace Go.Sy
theorem w4{R:RT}(x0:List D)(h:tB ((x0.length:Int)==9)=true/\
 ∀_:Nat->Nat,∃R',HT 16 [A.agg x0] [] R'/\
 (∀v H',R' (.ret v) H'-> ∃x1:Bool,v=bA x1/\H'=[]/\
 ((!x1)=true->
 ∀_:Nat->Nat,∃R',HT 13 [] [] R'/\
 (∀v H',R' (.ret v) H'-> ∃x2:Bool,v=bA x2/\H'=[]/\
 R (.ret (bA x2)) [])/\
 PN R R')/\
 ((!x1)=false->
 ∃x2:Int,(∀_:Nat->Nat,HT 17 [A.agg x0] [] (Zpq [] (iA x2)))/\
 ∀_:Nat->Nat,∃R',HT 18 [A.agg x0] [] R'/\
 (∀v H',R' (.ret v) H'-> ∃x3:Int,v=iA x3/\H'=[]/\
 (tB (x2==x3)=true->
 ∀_:Nat->Nat,∃R',HT 13 [] [] R'/\
 (∀v H',R' (.ret v) H'-> ∃x4:Bool,v=bA x4/\H'=[]/\
 R (.ret (bA x4)) [])/\
 PN R R')/\
 (tB (x2==x3)=false->
 R (.ret (bA false)) []))/\
 PN R R'))/\
 PN R R'):
 HT 4 [A.agg x0] [] R:=
 walk (c:=⟨Tryz.prog,15,true,[0,1,2,5]⟩) (op:={}) (fn:=Tryz.f4) (args:=[.agg (.var 0)]) (K:=[]) (nv:=1) (depth:=4) (up:=upOf []) (ρ:=Zwa [.r x0])
  rfl rfl rfl rfl rfl (by decide) (by decide) (by decide) (by decide) rfl (by simp[Zab,RRef.den,upOf]) (T_of (by kernel_rfl) h)
end Go.Sy
end
