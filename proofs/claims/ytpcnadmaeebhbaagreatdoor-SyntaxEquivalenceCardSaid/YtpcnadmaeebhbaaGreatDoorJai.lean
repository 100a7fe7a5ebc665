/- Part 9 of the proof: SyTab, SyAlive. -/
import Derived.Test.YtpcnadmaeebhbaaGreatDoorProg
import Derived.Lib.Bytealg
import Derived.Test.YtpcnadmaeebhbaaGreatDoorJah
set_option linter.unusedVariables false
set_option linter.unusedSimpArgs false
section
open Go Go.Proofs Go.Ab Go.Rf
set_option maxRecDepth 1000000
set_option maxHeartbeats 2000000
namespace Go.Sy
def k33:Wk:=⟨33,[0,1,2],{fresh:=[6]},[.agg (.var 0)],[],1⟩
noncomputable def t33:T:=k33.tree Tryz.prog
def k33b:Wk:=⟨33,[0,1,2],{},[.agg (.var 0)],[],1⟩
noncomputable def t33b:T:=k33b.tree Tryz.prog
def k13:Wk:=⟨13,[0,1,2,51,70],{fresh:=[13],ags:=[(33,(2,(11,1)))],poke:=[3,4,5],com:=[(6,(2,2))]},[],[],0⟩
noncomputable def t13:T:=k13.tree Tryz.prog
def k66:Wk:=⟨66,[0,1,4,5,6,7,8,13,15,16,17,68,90,93,94,95,108],{lat:=[6],com:=[(17,(17,5000)),(17,(5,5000)),(17,(6,5000)),(17,(7,5000)),(17,(68,5000)),(17,(4,5000)),(17,(90,5000)),(17,(93,5000)),(17,(94,5000)),(17,(95,5000)),(17,(8,5000)),(17,(108,5000)),(16,(95,5000)),(16,(8,5000)),(16,(108,5000)),(16,(4,5000))]},[.c (.o1 .cl (.var 0)),.c (.o1 .cl (.var 1))],[],2⟩
noncomputable def t66:T:=k66.tree Tryz.prog
def k68a:Wk:=⟨68,[0,1,3,4],{own:=[(69,1)],lat:=[1]},[.c (.o1 .cl (.var 0)),.agg (.var 1)],[],2⟩
noncomputable def t68a:T:=k68a.tree Tryz.prog
def k68b:Wk:=⟨68,[0,1,3,4],{lat:=[1],zres:=[69]},[.c (.o1 .cl (.var 0)),.agg (.var 1)],[],2⟩
noncomputable def t68b:T:=k68b.tree Tryz.prog
def k69:Wk:=⟨69,[0,2,4],{fresh:=[5]},[.c (.o1 .cl (.var 0))],[],1⟩
noncomputable def t69:T:=k69.tree Tryz.prog
def k81:Wk:=⟨81,[0,2,4],{fresh:=[5]},[.c (.o1 .cl (.var 0))],[],1⟩
noncomputable def t81:T:=k81.tree Tryz.prog
def k70a:Wk:=⟨70,[0,1,2,3,4,5,6,8,9,10,11,21,45,46,47,48,59],{own:=[(68,1)],cuts:=[5,11],dat:=[1,10],two:=[(70,1),(72,1),(85,1),(86,1),(87,1)],com:=[(12,(48,5000)),(12,(9,5000)),(12,(8,5000)),(12,(10,5000)),(12,(59,5000))]},[.agg (.var 0),.c (.o1 .cl (.var 1)),.ptr (.up 0) 0,.ptr (.up 1) 0,.ptr (.up 2) 0,.ptr (.up 3) 0],[[.zs .lnil],[.fn 68 []],[.fn 70 [.up 0,.up 1,.up 2,.up 3]],[.fn 72 [.up 2,.up 1,.up 3]]],2⟩
noncomputable def t70a:T:=k70a.tree Tryz.prog
def k70b:Wk:=⟨70,[0,1,2,3,4,5,6,8,9,10,11,21,45,46,47,48,59],{own:=[(68,1)],cuts:=[5,11],dat:=[1,10],com:=[(12,(48,5000)),(12,(9,5000)),(12,(8,5000)),(12,(10,5000)),(12,(59,5000))]},[.agg (.var 0),.c (.o1 .cl (.var 1)),.ptr (.up 0) 0,.ptr (.up 1) 0,.ptr (.up 2) 0,.ptr (.up 3) 0],[[.own 1 (.var 2) .lnil],[.fn 68 []],[.fn 70 [.up 0,.up 1,.up 2,.up 3]],[.fn 72 [.up 2,.up 1,.up 3]]],3⟩
noncomputable def t70b:T:=k70b.tree Tryz.prog
def k72a:Wk:=⟨72,[0,1,2,3,4,8,10,11,12,13,14,15,19,20,21,22,33],{own:=[(68,1)],cuts:=[8,11],dat:=[1,11],two:=[(70,1),(72,1),(85,1),(86,1),(87,1)],com:=[(12,(15,5000)),(12,(8,5000)),(12,(19,5000)),(12,(20,5000)),(12,(21,5000)),(12,(22,5000)),(12,(10,5000)),(12,(11,5000)),(12,(33,5000)),(7,(22,5000)),(7,(10,5000))]},[.c (.o1 .cl (.var 0)),.c (.o1 .cl (.var 1)),.ptr (.up 0) 0,.ptr (.up 2) 0,.ptr (.up 3) 0],[[.fn 70 [.up 1,.up 2,.up 0,.up 3]],[.zs .lnil],[.fn 68 []],[.fn 72 [.up 0,.up 2,.up 3]]],2⟩
noncomputable def t72a:T:=k72a.tree Tryz.prog
def k72b:Wk:=⟨72,[0,1,2,3,4,8,10,11,12,13,14,15,19,20,21,22,33],{own:=[(68,1)],cuts:=[11],dat:=[1,11],com:=[(12,(15,5000)),(12,(8,5000)),(12,(19,5000)),(12,(20,5000)),(12,(21,5000)),(12,(22,5000)),(12,(10,5000)),(12,(11,5000)),(12,(33,5000)),(7,(22,5000)),(7,(10,5000))]},[.c (.o1 .cl (.var 0)),.c (.o1 .cl (.var 1)),.ptr (.up 0) 0,.ptr (.up 2) 0,.ptr (.up 3) 0],[[.fn 70 [.up 1,.up 2,.up 0,.up 3]],[.own 1 (.var 2) .lnil],[.fn 68 []],[.fn 72 [.up 0,.up 2,.up 3]]],3⟩
noncomputable def t72b:T:=k72b.tree Tryz.prog
def k86a:Wk:=⟨86,[0,1,2,3,4,6,8,9,10,11],{two:=[(70,1),(72,1),(85,1),(86,1),(87,1)],com:=[(5,(11,5000)),(5,(6,5000))]},[.agg (.var 0),.ptr (.up 0) 0,.ptr (.up 1) 0,.ptr (.up 2) 0],[[.fn 86 [.up 0,.up 1,.up 2]],[.fn 87 [.up 2,.up 0,.up 1]],[.fn 85 [.up 3]],[.zs .lnil]],1⟩
noncomputable def t86a:T:=k86a.tree Tryz.prog
def k86b:Wk:=⟨86,[0,1,2,3,4,6,8,9,10,11],{com:=[(5,(11,5000)),(5,(6,5000))]},[.agg (.var 0),.ptr (.up 0) 0,.ptr (.up 1) 0,.ptr (.up 2) 0],[[.fn 86 [.up 0,.up 1,.up 2]],[.fn 87 [.up 2,.up 0,.up 1]],[.fn 85 [.up 3]],[.own 1 (.var 1) .lnil]],2⟩
noncomputable def t86b:T:=k86b.tree Tryz.prog
def k87a:Wk:=⟨87,[0,1,2,3,6,8,9,10,11,12,20,21,22,23,40],{cuts:=[9,13],two:=[(70,1),(72,1),(85,1),(86,1),(87,1)],com:=[(13,(12,5000)),(13,(6,5000)),(13,(20,5000)),(13,(21,5000)),(13,(22,5000)),(13,(23,5000)),(13,(8,5000)),(13,(40,5000)),(8,(23,5000)),(8,(8,5000))]},[.c (.o1 .cl (.var 0)),.ptr (.up 0) 0,.ptr (.up 2) 0,.ptr (.up 3) 0],[[.fn 85 [.up 1]],[.zs .lnil],[.fn 86 [.up 2,.up 3,.up 0]],[.fn 87 [.up 0,.up 2,.up 3]]],1⟩
noncomputable def t87a:T:=k87a.tree Tryz.prog
def k87b:Wk:=⟨87,[0,1,2,3,6,8,9,10,11,12,20,21,22,23,40],{cuts:=[13],com:=[(13,(12,5000)),(13,(6,5000)),(13,(20,5000)),(13,(21,5000)),(13,(22,5000)),(13,(23,5000)),(13,(8,5000)),(13,(40,5000)),(8,(23,5000)),(8,(8,5000))]},[.c (.o1 .cl (.var 0)),.ptr (.up 0) 0,.ptr (.up 2) 0,.ptr (.up 3) 0],[[.fn 85 [.up 1]],[.own 1 (.var 1) .lnil],[.fn 86 [.up 2,.up 3,.up 0]],[.fn 87 [.up 0,.up 2,.up 3]]],2⟩
noncomputable def t87b:T:=k87b.tree Tryz.prog
def k24:Wk:=⟨24,[0,1,2,3,4,5,6],{two:=[(70,1),(72,1),(85,1),(86,1),(87,1)]},[.agg (.var 0)],[],1⟩
noncomputable def t24:T:=k24.tree Tryz.prog
def k31:Wk:=⟨31,[0,1,2,3,4,5,6],{two:=[(70,1),(72,1),(85,1),(86,1),(87,1)]},[.agg (.var 0)],[],1⟩
noncomputable def t31:T:=k31.tree Tryz.prog
def k85a:Wk:=⟨85,[0,1],{},[.c (.o1 .cl (.var 0)),.ptr (.up 0) 0],[[.zs .lnil]],1⟩
noncomputable def t85a:T:=k85a.tree Tryz.prog
def k85b:Wk:=⟨85,[0,1],{},[.c (.o1 .cl (.var 0)),.ptr (.up 0) 0],[[.own 1 (.var 1) .lnil]],2⟩
noncomputable def t85b:T:=k85b.tree Tryz.prog
def k62:Wk:=⟨62,[0,1,2,6,7,8,9,14,15,16,17,18,30],{com:=[(9,(18,5000)),(9,(8,5000)),(9,(7,5000)),(9,(9,5000)),(9,(30,5000)),(9,(6,5000))]},[.c (.o1 .cl (.var 0)),.c (.o1 .cl (.var 1)),.fn 61 []],[],2⟩
noncomputable def t62:T:=k62.tree Tryz.prog
def k63:Wk:=⟨63,[0,1,2,6,7,8,9,14,15,16,17,18,30],{com:=[(9,(18,5000)),(9,(8,5000)),(9,(7,5000)),(9,(9,5000)),(9,(30,5000)),(9,(6,5000))]},[.c (.o1 .cl (.var 0)),.c (.o1 .cl (.var 1)),.fn 64 []],[],2⟩
noncomputable def t63:T:=k63.tree Tryz.prog
def k67:Wk:=⟨67,[0,1,2,6,7,8,9,14,15,16,17,18,30],{com:=[(9,(18,5000)),(9,(8,5000)),(9,(7,5000)),(9,(9,5000)),(9,(30,5000)),(9,(6,5000))]},[.c (.o1 .cl (.var 0)),.c (.o1 .cl (.var 1)),.fn 21 []],[],2⟩
noncomputable def t67:T:=k67.tree Tryz.prog
def k110:Wk:=⟨110,[0,1,4,5,7,8,9,16],{com:=[(6,(9,5000)),(6,(5,5000)),(6,(16,5000)),(6,(4,5000))]},[.c (.o1 .cl (.var 0)),.fn 95 []],[],1⟩
noncomputable def t110:T:=k110.tree Tryz.prog
def k94:Wk:=⟨94,[0,1,4],{},[.c (.o1 .cl (.var 0)),.fn 95 []],[],1⟩
noncomputable def t94:T:=k94.tree Tryz.prog
def k74s:Wk:=⟨74,[0,1,2,3,6,7],{},[.agg (.var 0),.fn 79 [],.fn 80 []],[],1⟩
noncomputable def t74s:T:=k74s.tree Tryz.prog
def k78s:Wk:=⟨78,[0,1,2,6,7,9,10,11,12,13,14],{com:=[(10,(14,5000)),(10,(9,5000)),(10,(10,5000))]},[.c (.o1 .cl (.var 0)),.fn 79 [],.fn 80 []],[],1⟩
noncomputable def t78s:T:=k78s.tree Tryz.prog
def k107s:Wk:=⟨107,[0,1,2,6,7,9,10,11,12,13],{com:=[(6,(13,5000)),(6,(9,5000))]},[.c (.o1 .cl (.var 0)),.fn 79 [],.fn 80 []],[],1⟩
noncomputable def Ykx:T:=k107s.tree Tryz.prog
def k74p:Wk:=⟨74,[0,1,2,3,6,7],{},[.agg (.var 0),.fn 82 [],.fn 83 []],[],1⟩
noncomputable def t74p:T:=k74p.tree Tryz.prog
def k78p:Wk:=⟨78,[0,1,2,6,7,9,10,11,12,13,14],{com:=[(10,(14,5000)),(10,(9,5000)),(10,(10,5000))]},[.c (.o1 .cl (.var 0)),.fn 82 [],.fn 83 []],[],1⟩
noncomputable def t78p:T:=k78p.tree Tryz.prog
def k107p:Wk:=⟨107,[0,1,2,6,7,9,10,11,12,13],{com:=[(6,(13,5000)),(6,(9,5000))]},[.c (.o1 .cl (.var 0)),.fn 82 [],.fn 83 []],[],1⟩
noncomputable def Yky:T:=k107p.tree Tryz.prog
def k74z:Wk:=⟨74,[0,1,2,3,6,7],{},[.agg (.var 0),.fn 75 [.up 0],.fn 76 [.up 0]],[[.c (.o1 (.ci .i64) (.var 1))]],2⟩
noncomputable def t74z:T:=k74z.tree Tryz.prog
def k78z:Wk:=⟨78,[0,1,2,6,7,9,10,11,12,13,14],{com:=[(10,(14,5000)),(10,(9,5000)),(10,(10,5000))]},[.c (.o1 .cl (.var 0)),.fn 75 [.up 0],.fn 76 [.up 0]],[[.c (.o1 (.ci .i64) (.var 1))]],2⟩
noncomputable def t78z:T:=k78z.tree Tryz.prog
def k107z:Wk:=⟨107,[0,1,2,6,7,9,10,11,12,13],{com:=[(6,(13,5000)),(6,(9,5000))]},[.c (.o1 .cl (.var 0)),.fn 75 [.up 0],.fn 76 [.up 0]],[[.c (.o1 (.ci .i64) (.var 1))]],2⟩
noncomputable def Ykz:T:=k107z.tree Tryz.prog
def k97:Wk:=⟨97,[0,1,2,3,5,8,10,11,12,13,14,16,64,71,85,98,100,114,125,139,140,142,171,172,173,174],{cuts:=[3,10,18,21,27],com:=[(33,(174,5000)),(33,(14,5000)),(33,(13,5000))]},[.ptr (.up 0) 0,.agg (.var 0),.c (.o1 .cb (.o1 .tb (.var 1))),.c (.o1 (.ci .i64) (.var 2))],[[.c (.o1 .cb (.o1 .tb (.var 3))),.c (.o1 .cb (.o1 .tb (.var 4)))]],5⟩
noncomputable def t97:T:=k97.tree Tryz.prog
def k102:Wk:=⟨102,[0,1,2,4,5,6,50,57,62,76,89],{cuts:=[15,18]},[.ptr (.up 0) 0,.agg (.var 0),.agg (.var 1)],[[.c (.o1 .cb (.o1 .tb (.var 2))),.c (.o1 .cb (.o1 .tb (.var 3)))]],4⟩
noncomputable def t102:T:=k102.tree Tryz.prog
def k28:Wk:=⟨28,[0,1,2,3,5,16,17,18,19],{com:=[(7,(19,5000)),(7,(5,5000))]},[.agg (.var 0)],[],1⟩
noncomputable def t28:T:=k28.tree Tryz.prog
def k58:Wk:=⟨58,[0,1,2,4,5,6,7,10,19,20,21,22],{cuts:=[3],com:=[(8,(22,5000)),(8,(7,5000)),(8,(6,5000))]},[.ptr (.up 0) 0,.agg (.var 0),.agg (.var 1)],[[.c (.o1 .cb (.o1 .tb (.var 2))),.c (.o1 .cb (.o1 .tb (.var 3)))]],4⟩
noncomputable def t58:T:=k58.tree Tryz.prog
def k14:Wk:=⟨14,[0,1,2,3,5,23,24,25,26],{cuts:=[1],com:=[(7,(26,5000)),(7,(5,5000))]},[.agg (.var 0)],[],1⟩
noncomputable def t14:T:=k14.tree Tryz.prog
def k22:Wk:=⟨22,[0,1,2,3,4,5,48,51,52,53,66],{com:=[(8,(53,5000)),(8,(5,5000)),(8,(66,5000)),(8,(4,5000))]},[.agg (.var 0),.agg (.var 1)],[],2⟩
noncomputable def t22:T:=k22.tree Tryz.prog
def k17:Wk:=⟨17,[0,1,2,3],{},[.agg (.var 0)],[],1⟩
noncomputable def t17:T:=k17.tree Tryz.prog
def k19:Wk:=⟨19,[0,1,2,3,4,5],{},[.agg (.var 0),.agg (.var 1)],[],2⟩
noncomputable def t19:T:=k19.tree Tryz.prog
def k20:Wk:=⟨20,[0,1,2,3,4,5,27,30,31,32,61],{com:=[(8,(32,5000)),(8,(5,5000)),(8,(61,5000)),(8,(4,5000))]},[.agg (.var 0),.agg (.var 1)],[],2⟩
noncomputable def t20:T:=k20.tree Tryz.prog
def k21:Wk:=⟨21,[0,1,2,3,4],{},[.agg (.var 0),.agg (.var 1)],[],2⟩
noncomputable def t21:T:=k21.tree Tryz.prog
def k23:Wk:=⟨23,[0,1,4,5,10,12,13,14,24],{com:=[(8,(14,5000)),(8,(5,5000)),(8,(24,5000)),(8,(4,5000))]},[.c (.o1 .cl (.var 0)),.c (.o1 .cl (.var 1))],[],2⟩
noncomputable def t23:T:=k23.tree Tryz.prog
def k26:Wk:=⟨26,[0,1,2,3],{},[.agg (.var 0)],[],1⟩
noncomputable def t26:T:=k26.tree Tryz.prog
def k29:Wk:=⟨29,[0,1,2,3],{},[.agg (.var 0)],[],1⟩
noncomputable def t29:T:=k29.tree Tryz.prog
def k30:Wk:=⟨30,[0,1,2,3,4,5,9,12,13,14,26],{com:=[(8,(14,5000)),(8,(5,5000)),(8,(26,5000)),(8,(4,5000))]},[.agg (.var 0),.agg (.var 1)],[],2⟩
noncomputable def t30:T:=k30.tree Tryz.prog
def k34:Wk:=⟨34,[0,1,4,6,7,8,9,10,15],{com:=[(6,(10,5000)),(6,(6,5000)),(6,(15,5000)),(6,(4,5000))]},[.c (.o1 .cs (.var 0)),.c (.o1 .cl (.var 1))],[],2⟩
noncomputable def t34:T:=k34.tree Tryz.prog
def k43:Wk:=⟨43,[0,2],{},[.c (.o1 .cs (.var 0))],[],1⟩
noncomputable def t43:T:=k43.tree Tryz.prog
def k44:Wk:=⟨44,[0,1,2,4,5,6],{},[.c (.o1 .cs (.var 0)),.agg (.var 1),.agg (.var 2)],[],3⟩
noncomputable def t44:T:=k44.tree Tryz.prog
def k45:Wk:=⟨45,[0,2],{},[.c (.o1 (.ci .i64) (.var 0))],[],1⟩
noncomputable def t45:T:=k45.tree Tryz.prog
def k46:Wk:=⟨46,[0,2],{},[.c (.o1 (.ci .i64) (.var 0))],[],1⟩
noncomputable def t46:T:=k46.tree Tryz.prog
def k47:Wk:=⟨47,[0,1],{},[.ptr (.up 0) 0,.c (.o1 .cl (.var 0))],[[.c (.o1 .cb (.o1 .tb (.var 1))),.c (.o1 .cb (.o1 .tb (.var 2)))]],3⟩
noncomputable def t47:T:=k47.tree Tryz.prog
def k48:Wk:=⟨48,[0,2,3,4,13,26,37,39,40,41,65],{com:=[(13,(41,5000)),(13,(4,5000)),(13,(65,5000)),(13,(2,5000))]},[.c (.o1 .cs (.var 0))],[],1⟩
noncomputable def t48:T:=k48.tree Tryz.prog
def k49:Wk:=⟨49,[0,2],{},[.c (.o1 .cl (.var 0))],[],1⟩
noncomputable def t49:T:=k49.tree Tryz.prog
def k50:Wk:=⟨50,[0,1,2,3,9,10,11,12,13],{com:=[(4,(13,5000)),(4,(9,5000))]},[.ptr (.up 0) 0,.c (.o1 .cl (.var 0)),.c (.o1 .cb (.o1 .tb (.var 1))),.c (.o1 (.ci .i64) (.var 2))],[[.c (.o1 .cb (.o1 .tb (.var 3))),.c (.o1 .cb (.o1 .tb (.var 4)))]],5⟩
noncomputable def t50:T:=k50.tree Tryz.prog
def k51:Wk:=⟨51,[0,2,3,8],{},[.ptr (.up 0) 0],[[.c (.o1 .cb (.o1 .tb (.var 0))),.c (.o1 .cb (.o1 .tb (.var 1)))]],2⟩
noncomputable def t51:T:=k51.tree Tryz.prog
def k61:Wk:=⟨61,[0,1,2,3,4],{},[.agg (.var 0),.agg (.var 1)],[],2⟩
noncomputable def t61:T:=k61.tree Tryz.prog
def k64:Wk:=⟨64,[0,1,2,3,4],{},[.agg (.var 0),.agg (.var 1)],[],2⟩
noncomputable def t64:T:=k64.tree Tryz.prog
def k65:Wk:=⟨65,[0,1,4,5,10,12,13,14,24],{com:=[(8,(14,5000)),(8,(5,5000)),(8,(24,5000)),(8,(4,5000))]},[.c (.o1 .cl (.var 0)),.c (.o1 .cl (.var 1))],[],2⟩
noncomputable def t65:T:=k65.tree Tryz.prog
def k71:Wk:=⟨71,[0,1,4],{},[.c (.o1 .cl (.var 0)),.c (.o1 .cs (.var 1))],[],2⟩
noncomputable def t71:T:=k71.tree Tryz.prog
def k75:Wk:=⟨75,[0,1,2,3],{},[.agg (.var 0),.ptr (.up 0) 0],[[.c (.o1 (.ci .i64) (.var 1))]],2⟩
noncomputable def t75:T:=k75.tree Tryz.prog
def k76:Wk:=⟨76,[0,1,2,3],{},[.agg (.var 0),.ptr (.up 0) 0],[[.c (.o1 (.ci .i64) (.var 1))]],2⟩
noncomputable def t76:T:=k76.tree Tryz.prog
def k79:Wk:=⟨79,[0,1,2],{},[.agg (.var 0)],[],1⟩
noncomputable def t79:T:=k79.tree Tryz.prog
def k80:Wk:=⟨80,[0,1,2],{},[.agg (.var 0)],[],1⟩
noncomputable def t80:T:=k80.tree Tryz.prog
def k82:Wk:=⟨82,[0,1,2],{},[.agg (.var 0)],[],1⟩
noncomputable def t82:T:=k82.tree Tryz.prog
def k83:Wk:=⟨83,[0,1,2],{},[.agg (.var 0)],[],1⟩
noncomputable def t83:T:=k83.tree Tryz.prog
def k84:Wk:=⟨84,[0,1,4,5,6,8,9,10,36,42,43,44,63],{com:=[(12,(10,5000)),(12,(5,5000)),(12,(36,5000)),(12,(4,5000)),(12,(42,5000)),(12,(43,5000)),(12,(44,5000)),(12,(6,5000)),(12,(63,5000)),(11,(44,5000)),(11,(6,5000)),(11,(63,5000)),(11,(4,5000))]},[.c (.o1 .cl (.var 0)),.c (.o1 .cl (.var 1))],[],2⟩
noncomputable def t84:T:=k84.tree Tryz.prog
def k89:Wk:=⟨89,[0,1,2,3,4,5,8,9,10,23],{com:=[(6,(10,5000)),(6,(5,5000)),(6,(23,5000)),(6,(4,5000))]},[.agg (.var 0),.agg (.var 1)],[],2⟩
noncomputable def t89:T:=k89.tree Tryz.prog
def k92:Wk:=⟨92,[0,1,4],{},[.c (.o1 .cl (.var 0)),.c (.o1 .cb (.o1 .tb (.var 1)))],[],2⟩
noncomputable def t92:T:=k92.tree Tryz.prog
def k93:Wk:=⟨93,[0,2],{},[.c (.o1 (.ci .u8) (.var 0))],[],1⟩
noncomputable def t93:T:=k93.tree Tryz.prog
def k95:Wk:=⟨95,[0,2],{},[.c (.o1 .cs (.var 0))],[],1⟩
noncomputable def t95:T:=k95.tree Tryz.prog
def k96:Wk:=⟨96,[0,1,4],{},[.c (.o1 .cs (.var 0)),.c (.o1 .cs (.var 1))],[],2⟩
noncomputable def t96:T:=k96.tree Tryz.prog
def k104:Wk:=⟨104,[0,1,4,5,7,8,9,16],{com:=[(6,(9,5000)),(6,(5,5000)),(6,(16,5000)),(6,(4,5000))]},[.c (.o1 .cl (.var 0)),.c (.o1 .cs (.var 1))],[],2⟩
noncomputable def t104:T:=k104.tree Tryz.prog
def k109:Wk:=⟨109,[0,1,4,5,7,8,9,16],{com:=[(6,(9,5000)),(6,(5,5000)),(6,(16,5000)),(6,(4,5000))]},[.c (.o1 .cl (.var 0)),.c (.o1 .cb (.o1 .tb (.var 1)))],[],2⟩
noncomputable def t109:T:=k109.tree Tryz.prog
def k111:Wk:=⟨111,[0,1,4],{},[.c (.o1 .cs (.var 0)),.c (.o1 .cs (.var 1))],[],2⟩
noncomputable def t111:T:=k111.tree Tryz.prog
def k113:Wk:=⟨113,[0,1,2],{},[.agg (.var 0)],[],1⟩
noncomputable def t113:T:=k113.tree Tryz.prog
def k114:Wk:=⟨114,[0,1,2],{},[.agg (.var 0)],[],1⟩
noncomputable def t114:T:=k114.tree Tryz.prog
def k117:Wk:=⟨117,[0,1,3,4,9,15,18,25,35,44,55,62],{},[.ptr (.up 0) 0,.agg (.var 0)],[[.c (.o1 .cb (.o1 .tb (.var 1))),.c (.o1 .cb (.o1 .tb (.var 2)))]],3⟩
noncomputable def t117:T:=k117.tree Tryz.prog
def k118:Wk:=⟨118,[0,1,3,5,12,16,24,32,40,48],{},[.ptr (.up 0) 0,.agg (.var 0)],[[.c (.o1 .cb (.o1 .tb (.var 1))),.c (.o1 .cb (.o1 .tb (.var 2)))]],3⟩
noncomputable def t118:T:=k118.tree Tryz.prog
def k119:Wk:=⟨119,[0,1,3,12,16,31,47],{},[.ptr (.up 0) 0,.agg (.var 0)],[[.c (.o1 .cb (.o1 .tb (.var 1))),.c (.o1 .cb (.o1 .tb (.var 2)))]],3⟩
noncomputable def t119:T:=k119.tree Tryz.prog
def k120:Wk:=⟨120,[0,2],{},[.c (.o1 (.ci .i64) (.var 0))],[],1⟩
noncomputable def t120:T:=k120.tree Tryz.prog
def k132:Wk:=⟨132,[0,1,4],{},[.c (.o1 .cs (.var 0)),.c (.o1 .cs (.var 1))],[],2⟩
noncomputable def t132:T:=k132.tree Tryz.prog
def k145:Wk:=⟨145,[0,1,4],{},[.c (.o1 .cs (.var 0)),.c (.o1 .cs (.var 1))],[],2⟩
noncomputable def t145:T:=k145.tree Tryz.prog
def k153:Wk:=⟨153,[0,1,2,3,8,9,10,11,13,15,20,36,41],{com:=[(11,(36,5000)),(11,(11,5000)),(11,(41,5000))]},[.c (.o1 .cs (.var 0)),.c (.o1 .cs (.var 1)),.c (.o1 (.ci .i64) (.var 2)),.c (.o1 (.ci .i64) (.var 3))],[],4⟩
noncomputable def t153:T:=k153.tree Tryz.prog
def k125:Wk:=⟨125,[0,1,4,5,6,7,8,9,10,11,12,13,16,24,31,36,59,64,73,93,107,114,132,139],{com:=[(15,(59,5000)),(15,(64,5000)),(15,(11,5000)),(15,(73,5000)),(15,(4,5000)),(15,(93,5000)),(15,(107,5000)),(15,(12,5000)),(15,(114,5000)),(15,(132,5000)),(15,(13,5000)),(15,(139,5000))]},[.c (.o1 .cs (.var 0)),.c (.o1 .cs (.var 1))],[],2⟩
noncomputable def t125:T:=k125.tree Tryz.prog
def k133:Wk:=⟨133,[0,1,4],{},[.c (.o1 .cs (.var 0)),.c (.o1 (.ci .u8) (.var 1))],[],2⟩
noncomputable def t133:T:=k133.tree Tryz.prog
def k157:Wk:=⟨157,[0,1,4,5,6,9,15,24],{},[.c (.o1 .cs (.var 0)),.c (.o1 .cs (.var 1))],[],2⟩
noncomputable def t157:T:=k157.tree Tryz.prog
noncomputable def tab:List Ent:=[⟨k33.f,k33.args,k33.K,t33⟩,⟨k33b.f,k33b.args,k33b.K,t33b⟩,⟨k13.f,k13.args,k13.K,t13⟩,⟨k66.f,k66.args,k66.K,t66⟩,⟨k68a.f,k68a.args,k68a.K,t68a⟩,⟨k68b.f,k68b.args,k68b.K,t68b⟩,⟨k69.f,k69.args,k69.K,t69⟩,⟨k81.f,k81.args,k81.K,t81⟩,⟨k70a.f,k70a.args,k70a.K,t70a⟩,⟨k70b.f,k70b.args,k70b.K,t70b⟩,⟨k72a.f,k72a.args,k72a.K,t72a⟩,⟨k72b.f,k72b.args,k72b.K,t72b⟩,⟨k86a.f,k86a.args,k86a.K,t86a⟩,⟨k86b.f,k86b.args,k86b.K,t86b⟩,⟨k87a.f,k87a.args,k87a.K,t87a⟩,⟨k87b.f,k87b.args,k87b.K,t87b⟩,⟨k24.f,k24.args,k24.K,t24⟩,⟨k31.f,k31.args,k31.K,t31⟩,⟨k85a.f,k85a.args,k85a.K,t85a⟩,⟨k85b.f,k85b.args,k85b.K,t85b⟩,⟨k62.f,k62.args,k62.K,t62⟩,⟨k63.f,k63.args,k63.K,t63⟩,⟨k67.f,k67.args,k67.K,t67⟩,⟨k110.f,k110.args,k110.K,t110⟩,⟨k94.f,k94.args,k94.K,t94⟩,⟨k74s.f,k74s.args,k74s.K,t74s⟩,⟨k78s.f,k78s.args,k78s.K,t78s⟩,⟨k107s.f,k107s.args,k107s.K,Ykx⟩,⟨k74p.f,k74p.args,k74p.K,t74p⟩,⟨k78p.f,k78p.args,k78p.K,t78p⟩,⟨k107p.f,k107p.args,k107p.K,Yky⟩,⟨k74z.f,k74z.args,k74z.K,t74z⟩,⟨k78z.f,k78z.args,k78z.K,t78z⟩,⟨k107z.f,k107z.args,k107z.K,Ykz⟩,⟨k97.f,k97.args,k97.K,t97⟩,⟨k102.f,k102.args,k102.K,t102⟩,⟨k28.f,k28.args,k28.K,t28⟩,⟨k58.f,k58.args,k58.K,t58⟩,⟨k14.f,k14.args,k14.K,t14⟩,⟨k22.f,k22.args,k22.K,t22⟩,⟨k17.f,k17.args,k17.K,t17⟩,⟨k19.f,k19.args,k19.K,t19⟩,⟨k20.f,k20.args,k20.K,t20⟩,⟨k21.f,k21.args,k21.K,t21⟩,⟨k23.f,k23.args,k23.K,t23⟩,⟨k26.f,k26.args,k26.K,t26⟩,⟨k29.f,k29.args,k29.K,t29⟩,⟨k30.f,k30.args,k30.K,t30⟩,⟨k34.f,k34.args,k34.K,t34⟩,⟨k43.f,k43.args,k43.K,t43⟩,⟨k44.f,k44.args,k44.K,t44⟩,⟨k45.f,k45.args,k45.K,t45⟩,⟨k46.f,k46.args,k46.K,t46⟩,⟨k47.f,k47.args,k47.K,t47⟩,⟨k48.f,k48.args,k48.K,t48⟩,⟨k49.f,k49.args,k49.K,t49⟩,⟨k50.f,k50.args,k50.K,t50⟩,⟨k51.f,k51.args,k51.K,t51⟩,⟨k61.f,k61.args,k61.K,t61⟩,⟨k64.f,k64.args,k64.K,t64⟩,⟨k65.f,k65.args,k65.K,t65⟩,⟨k71.f,k71.args,k71.K,t71⟩,⟨k75.f,k75.args,k75.K,t75⟩,⟨k76.f,k76.args,k76.K,t76⟩,⟨k79.f,k79.args,k79.K,t79⟩,⟨k80.f,k80.args,k80.K,t80⟩,⟨k82.f,k82.args,k82.K,t82⟩,⟨k83.f,k83.args,k83.K,t83⟩,⟨k84.f,k84.args,k84.K,t84⟩,⟨k89.f,k89.args,k89.K,t89⟩,⟨k92.f,k92.args,k92.K,t92⟩,⟨k93.f,k93.args,k93.K,t93⟩,⟨k95.f,k95.args,k95.K,t95⟩,⟨k96.f,k96.args,k96.K,t96⟩,⟨k104.f,k104.args,k104.K,t104⟩,⟨k109.f,k109.args,k109.K,t109⟩,⟨k111.f,k111.args,k111.K,t111⟩,⟨k113.f,k113.args,k113.K,t113⟩,⟨k114.f,k114.args,k114.K,t114⟩,⟨k117.f,k117.args,k117.K,t117⟩,⟨k118.f,k118.args,k118.K,t118⟩,⟨k119.f,k119.args,k119.K,t119⟩,⟨k120.f,k120.args,k120.K,t120⟩,⟨k132.f,k132.args,k132.K,t132⟩,⟨k145.f,k145.args,k145.K,t145⟩,⟨k153.f,k153.args,k153.K,t153⟩,⟨k125.f,k125.args,k125.K,t125⟩,⟨k133.f,k133.args,k133.K,t133⟩,⟨k157.f,k157.args,k157.K,t157⟩]
def wks:List Wk:=[k33,k33b,k13,k66,k68a,k68b,k69,k81,k70a,k70b,k72a,k72b,k86a,k86b,k87a,k87b,k24,k31,k85a,k85b,k62,k63,k67,k110,k94,k74s,k78s,k107s,k74p,k78p,k107p,k74z,k78z,k107z,k97,k102,k28,k58,k14,k22,k17,k19,k20,k21,k23,k26,k29,k30,k34,k43,k44,k45,k46,k47,k48,k49,k50,k51,k61,k64,k65,k71,k75,k76,k79,k80,k82,k83,k84,k89,k92,k93,k95,k96,k104,k109,k111,k113,k114,k117,k118,k119,k120,k132,k145,k153,k125,k133,k157]
theorem Yjs:wks.all (Wk.ok Tryz.prog)=true:=by kernel_rfl
theorem Yi1:tab=wks.map fun w=>⟨w.f,w.args,w.K,w.tree Tryz.prog⟩:=rfl
theorem Yis:∀e∈tab,Zus Tryz.prog e:=by
 rw[Yi1];intro e he;obtain⟨w,hw,rfl⟩:=List.mem_map.1 he;exact Zv8 (List.all_eq_true.1 Yjs w hw)
end Go.Sy
end
section
open Go Go.Proofs Go.Ab Go.Rf
set_option maxRecDepth 1000000
namespace Go.Sy
def ixB:List UInt8->UInt8->Nat->Int
 |[],_,_=> -1
 |b::l,c,n=>if b==c then n else ixB l c (n+1)
theorem Yit(c:UInt8):∀(l:List UInt8)(n:Nat),ixB l c n=if Lib.indexByte l c= -1 then-1 else Lib.indexByte l c+n
 |[],n=>rfl
 |b::l,n=>by
  have h:=Lib.indexByte_ge l c;rw[ixB,Lib.indexByte];by_cases hb:(b==c)=true
  ·rw[if_pos hb,if_pos hb];simp
  ·rw[if_neg hb,if_neg hb,Yit c l (n+1)];by_cases h1:Lib.indexByte l c= -1
   ·simp[h1]
   ·have:(Lib.indexByte l c== -1)=false:=by simpa using h1
    rw[if_neg h1,this];simp only[Bool.false_eq_true,if_false];rw[if_neg (by omega)];push_cast;omega
def prim:Nat->List V->Option V
 |146,[.d (.lit (.string s)),.d (.lit (.int .u8 c))]=>some (.d (.lit (.int .i64 (ixB s.data.toList c.toNat.toUInt8 0))))
 |171,[.d (.lit (.string s)),.d (.lit (.int .u8 c))]=>some (.d (.lit (.int .i64 (Lib.countByte s.data.toList c.toNat.toUInt8))))
 |_,_=>none
theorem Ygb{f:Nat}{s:ByteArray}{c r:Int}(hrun:∀w args,args= #[Value.string s,.int .u8 c]->(callFunc f args).run Tryz.prog w=.ok (.value (.int .i64 r)) w):
 Holds Tryz.prog f [.d (.lit (.string s)),.d (.lit (.int .u8 c))] [] (Ret (intA r)):=by
 intro w cargs g h1 h2
 have hc:cargs= #[Value.string s,.int .u8 c]:=by
  rcases cargs with⟨cl⟩
  match cl,h1 with
  |[a,b],⟨ha,hb,_⟩=>
   have ha:=ha .res;have hb:=hb .res;cases ha;cases hb;rfl
 unfold CallsX;rw[hrun w cargs hc];exact⟨.ret (intA r),[],g,⟨rfl,rfl⟩,rfl,⟨h2.box,h2.inj,h2.wr,h2.prs,h2.pr0,h2.prn,h2.up,h2.uu,h2.fr⟩,_,rfl,.lit _ rfl,fun h=>by cases h⟩
theorem c146(s:ByteArray)(c:Int):Holds Tryz.prog 146 [.d (.lit (.string s)),.d (.lit (.int .u8 c))] [] (Ret (intA (ixB s.data.toList c.toNat.toUInt8 0))):=by
 have e:ixB s.data.toList c.toNat.toUInt8 0=Lib.indexByte s.data.toList c.toNat.toUInt8:=by rw[Yit];split<;>simp_all
 rw[e]
 exact Ygb fun w args h=>by
  subst h;rw[run_callFunc_extern (P:=Tryz.prog) (f:=146) (fn:=Tryz.f146) (e:=Extern.BytealgIndexByte.indexByte) rfl (by decide) rfl rfl rfl,Lib.run_indexByteString];rfl
theorem c171(s:ByteArray)(c:Int):Holds Tryz.prog 171 [.d (.lit (.string s)),.d (.lit (.int .u8 c))] [] (Ret (intA (Lib.countByte s.data.toList c.toNat.toUInt8))):=
 Ygb fun w args h=>by
  subst h;rw[run_callFunc_extern (P:=Tryz.prog) (f:=171) (fn:=Tryz.f171) (e:=Extern.BytealgCount.count) rfl (by decide) rfl rfl rfl,Lib.run_countString];rfl
theorem Yfm:∀f vs v,prim f vs=some v->Runs Tryz.prog f vs [] (.ret v,[]):=by
 intro f vs v h;unfold prim at h;split at h
 ·cases h;exact⟨rfl,fun up _=>c146 _ _⟩
 ·cases h;exact⟨rfl,fun up _=>c171 _ _⟩
 ·cases h
@[reducible] def i (n:Int):D:=.lit (.int .i64 n)
@[reducible] def s (l:List UInt8):D:=.lit (Zco l)
@[reducible] def b (t:Bool):D:=.lit (.bool t)
@[reducible] def l (es:List (List D)):D:=.slc es
abbrev Memo:=Nat×List V×V
def hasM(rs:List Res)(v:V):Bool:=rs.any fun r=>match r with|(.ret u,[])=>u.eqB v||u.asD.eqB v|_=>false
def Ya1(m:Memo):Prop:=Runs Tryz.prog m.1 m.2.1 [] (.ret m.2.2,[])
theorem Yat{m:Memo}(h:hasM (evF tab prim 100000 60 m.1 m.2.1 []) m.2.2=true):Ya1 m:=by
 unfold hasM at h;obtain⟨r,hr,hx⟩:=List.any_eq_true.1 h;have hR:=Zvt Yis Yfm _ _ _ _ r hr;split at hx
 ·rename_i u;rcases(Bool.or_eq_true _ _).mp hx with hx|hx
  ·rw[V.eqB_eq hx]at hR;exact hR
  ·refine⟨rfl,fun up hu=>?_⟩;have:=Zn7 (hR.2 up hu);rw[V.eqB_eq hx]at this;exact this
 ·cases hx
def Yh5:List Memo->Nat->List V->Option V
 |[],_,_=>none
 |m::t,f,vs=>if m.1=f/\vsB m.2.1 vs=true then some m.2.2 else Yh5 t f vs
theorem Yfn:∀{t:List Memo}{f:Nat}{vs:List V}{v:V},(∀m∈t,Ya1 m)->Yh5 t f vs=some v->Runs Tryz.prog f vs [] (.ret v,[])
 |m::t,f,vs,v,h,e=>by
  unfold Yh5 at e;split at e
  ·rename_i hc;cases e;have:=h m (List.mem_cons_self ..);unfold Ya1 at this;rw[hc.1,Zs5 hc.2]at this;exact this
  ·exact Yfn (fun m hm=>h m (List.mem_cons_of_mem _ hm)) e
def Yi2(t:List Memo)(f:Nat)(vs:List V):Option V:=match prim f vs with|some v=>some v|none=>Yh5 t f vs
theorem Yh6{t:List Memo}(h:∀m∈t,Ya1 m):∀f vs v,Yi2 t f vs=some v->Runs Tryz.prog f vs [] (.ret v,[]):=by
 intro f vs v e;unfold Yi2 at e;split at e
 ·rename_i u hu;cases e;exact Yfm f vs v hu
 ·exact Yfn h e
def m0:Memo:=(24,[.agg [i 20,s [43],i 0,s [],s [],l [[i 10,s [97],i 0,s [],s [],l [],l [],l [],i 0],[i 20,s [42],i 0,s [],s [],l [[i 10,s [98],i 0,s [],s [],l [],l [],l [],i 0],[i 10,s [97],i 0,s [],s [],l [],l [],l [],i 0]],l [],l [],i 0]],l [],l [],i 0]],.d (l [[s [97]],[s [98]]]))
theorem Yk0:Ya1 m0:=Yat (by kernel_rfl)
def m1:Memo:=(23,[.d (l [[s [97]],[s [98]]]),.d (l [[s [97]],[s [98]]])],.d (b true))
theorem Yk1:Ya1 m1:=Yat (by kernel_rfl)
def m2:Memo:=(24,[.agg [i 14,s [],i 0,s [],s [],l [[i 15,s [],i 0,s [107],s [118],l [[i 10,s [108],i 0,s [],s [],l [],l [],l [],i 0],[i 20,s [43],i 0,s [],s [],l [[i 10,s [118],i 0,s [],s [],l [],l [],l [],i 0],[i 10,s [120],i 0,s [],s [],l [],l [],l [],i 0]],l [],l [],i 0]],l [],l [],i 0]],l [],l [],i 0]],.d (l [[s [108]],[s [120]]]))
theorem Yk2:Ya1 m2:=Yat (by kernel_rfl)
def m3:Memo:=(23,[.d (l [[s [108]],[s [120]]]),.d (l [[s [108]],[s [120]]])],.d (b true))
theorem Yk3:Ya1 m3:=Yat (by kernel_rfl)
def m4:Memo:=(26,[.agg [i 20,s [43],i 0,s [],s [],l [[i 3,s [],i 10000,s [],s [],l [],l [],l [],i 0],[i 3,s [],i 20000,s [],s [],l [],l [],l [],i 0]],l [],l [],i 0]],.d (i 3))
theorem Yk4:Ya1 m4:=Yat (by kernel_rfl)
def m5:Memo:=(14,[.agg [s [],l [],l [[i 1,i 1,s [120],s [],s [],l [[i 17,s [],i 0,s [],s [],l [[i 3,s [],i 10000,s [],s [],l [],l [],l [],i 0],[i 22,s [],i 0,s [],s [],l [],l [],l [],i 0]],l [],l [],i 0]],l [],l [],l [[s [97]]],s [98],i 7]],l [[s [99]]]]],.d (i 0))
theorem Yk5:Ya1 m5:=Yat (by kernel_rfl)
def m6:Memo:=(14,[.agg [s [],l [],l [[i 1,i 1,s [120],s [],s [],l [[i 17,s [],i 0,s [],s [],l [[i 3,s [],i 10000,s [],s [],l [],l [],l [],i 0],[i 13,s [],i 0,s [],s [],l [],l [],l [],i 0]],l [],l [],i 0]],l [],l [],l [],s [],i 0]],l []]],.d (i 11))
theorem Yk6:Ya1 m6:=Yat (by kernel_rfl)
def m7:Memo:=(17,[.agg [i 14,s [],i 0,s [],s [],l [[i 15,s [],i 0,s [107],s [118],l [[i 10,s [108],i 0,s [],s [],l [],l [],l [],i 0],[i 20,s [43],i 0,s [],s [],l [[i 10,s [118],i 0,s [],s [],l [],l [],l [],i 0],[i 10,s [120],i 0,s [],s [],l [],l [],l [],i 0]],l [],l [],i 0]],l [],l [],i 0]],l [],l [],i 0]],.d (i 0))
theorem Yk7:Ya1 m7:=Yat (by kernel_rfl)
def m8:Memo:=(17,[.agg [i 22,s [],i 0,s [],s [],l [],l [],l [],i 0]],.d (i 11))
theorem Yk8:Ya1 m8:=Yat (by kernel_rfl)
def m9:Memo:=(31,[.agg [s [],l [],l [[i 1,i 1,s [120],s [],s [],l [[i 17,s [],i 0,s [],s [],l [[i 3,s [],i 10000,s [],s [],l [],l [],l [],i 0],[i 22,s [],i 0,s [],s [],l [],l [],l [],i 0]],l [],l [],i 0]],l [],l [],l [[s [97]]],s [98],i 7]],l [[s [99]]]]],.d (l [[s [97]],[s [98]],[s [99]]]))
theorem Yk9:Ya1 m9:=Yat (by kernel_rfl)
def m10:Memo:=(23,[.d (l [[s [97]],[s [98]],[s [99]]]),.d (l [[s [97]],[s [98]],[s [99]]])],.d (b true))
theorem Yjt:Ya1 m10:=Yat (by kernel_rfl)
def m11:Memo:=(29,[.agg [s [],l [],l [[i 1,i 1,s [120],s [],s [],l [[i 17,s [],i 0,s [],s [],l [[i 3,s [],i 10000,s [],s [],l [],l [],l [],i 0],[i 22,s [],i 0,s [],s [],l [],l [],l [],i 0]],l [],l [],i 0]],l [],l [],l [[s [97]]],s [98],i 7]],l [[s [99]]]]],.agg [s [],l [],l [[i 1,i 1,s [120],s [],s [],l [[i 17,s [],i 0,s [],s [],l [[i 3,s [],i 10000,s [],s [],l [],l [],l [],i 0],[i 22,s [],i 0,s [],s [],l [],l [],l [],i 0]],l [],l [],i 0]],l [],l [],l [],s [],i 7]],l []])
theorem Yju:Ya1 m11:=Yat (by kernel_rfl)
def m12:Memo:=(28,[.agg [s [],l [],l [[i 1,i 1,s [120],s [],s [],l [[i 17,s [],i 0,s [],s [],l [[i 3,s [],i 10000,s [],s [],l [],l [],l [],i 0],[i 22,s [],i 0,s [],s [],l [],l [],l [],i 0]],l [],l [],i 0]],l [],l [],l [],s [],i 7]],l []]],.agg [s [],l [],l [[i 1,i 1,s [120],s [],s [],l [[i 17,s [],i 0,s [],s [],l [[i 3,s [],i 10000,s [],s [],l [],l [],l [],i 0],[i 22,s [],i 0,s [],s [],l [],l [],l [],i 0]],l [],l [],i 0]],l [],l [],l [],s [],i 0]],l []])
theorem Yjv:Ya1 m12:=Yat (by kernel_rfl)
def m13:Memo:=(30,[.agg [s [],l [],l [[i 1,i 1,s [120],s [],s [],l [[i 17,s [],i 0,s [],s [],l [[i 3,s [],i 10000,s [],s [],l [],l [],l [],i 0],[i 22,s [],i 0,s [],s [],l [],l [],l [],i 0]],l [],l [],i 0]],l [],l [],l [],s [],i 0]],l []],.agg [s [],l [],l [[i 1,i 1,s [120],s [],s [],l [[i 17,s [],i 0,s [],s [],l [[i 3,s [],i 10000,s [],s [],l [],l [],l [],i 0],[i 22,s [],i 0,s [],s [],l [],l [],l [],i 0]],l [],l [],i 0]],l [],l [],l [],s [],i 0]],l []]],.d (b true))
theorem Yjw:Ya1 m13:=Yat (by kernel_rfl)
def m14:Memo:=(28,[.agg [s [],l [],l [[i 1,i 1,s [120],s [],s [],l [[i 17,s [],i 0,s [],s [],l [[i 3,s [],i 10000,s [],s [],l [],l [],l [],i 0],[i 22,s [],i 0,s [],s [],l [],l [],l [],i 0]],l [],l [],i 0]],l [],l [],l [[s [97]]],s [98],i 7]],l [[s [99]]]]],.agg [s [],l [],l [[i 1,i 1,s [120],s [],s [],l [[i 17,s [],i 0,s [],s [],l [[i 3,s [],i 10000,s [],s [],l [],l [],l [],i 0],[i 22,s [],i 0,s [],s [],l [],l [],l [],i 0]],l [],l [],i 0]],l [],l [],l [[s [97]]],s [98],i 0]],l [[s [99]]]])
theorem Yjx:Ya1 m14:=Yat (by kernel_rfl)
def m15:Memo:=(19,[.agg [s [],l [],l [[i 1,i 1,s [120],s [],s [],l [[i 17,s [],i 0,s [],s [],l [[i 3,s [],i 10000,s [],s [],l [],l [],l [],i 0],[i 22,s [],i 0,s [],s [],l [],l [],l [],i 0]],l [],l [],i 0]],l [],l [],l [[s [97]]],s [98],i 7]],l [[s [99]]]],.agg [s [],l [],l [[i 1,i 1,s [120],s [],s [],l [[i 17,s [],i 0,s [],s [],l [[i 3,s [],i 10000,s [],s [],l [],l [],l [],i 0],[i 22,s [],i 0,s [],s [],l [],l [],l [],i 0]],l [],l [],i 0]],l [],l [],l [[s [97]]],s [98],i 0]],l [[s [99]]]]],.d (b true))
theorem Yjy:Ya1 m15:=Yat (by kernel_rfl)
def m16:Memo:=(19,[.agg [s [],l [],l [[i 1,i 1,s [120],s [],s [],l [[i 17,s [],i 0,s [],s [],l [[i 3,s [],i 10000,s [],s [],l [],l [],l [],i 0],[i 22,s [],i 0,s [],s [],l [],l [],l [],i 0]],l [],l [],i 0]],l [],l [],l [[s [97]]],s [98],i 7]],l [[s [99]]]],.agg [s [],l [],l [[i 1,i 1,s [120],s [],s [],l [[i 17,s [],i 0,s [],s [],l [[i 3,s [],i 10000,s [],s [],l [],l [],l [],i 0],[i 22,s [],i 0,s [],s [],l [],l [],l [],i 0]],l [],l [],i 0]],l [],l [],l [],s [],i 7]],l []]],.d (b false))
theorem Yjz:Ya1 m16:=Yat (by kernel_rfl)
def Yi3:List Memo:=[m0,m1,m2,m3,m4,m5,m6,m7,m8,m9,m10,m11,m12,m13,m14,m15,m16]
theorem Yh7:∀m∈Yi3,Ya1 m:=by
 intro m hm;simp only[Yi3,List.mem_cons,List.not_mem_nil,or_false]at hm;rcases hm with rfl|rfl|rfl|rfl|rfl|rfl|rfl|rfl|rfl|rfl|rfl|rfl|rfl|rfl|rfl|rfl|rfl
 ·exact Yk0
 ·exact Yk1
 ·exact Yk2
 ·exact Yk3
 ·exact Yk4
 ·exact Yk5
 ·exact Yk6
 ·exact Yk7
 ·exact Yk8
 ·exact Yk9
 ·exact Yjt
 ·exact Yju
 ·exact Yjv
 ·exact Yjw
 ·exact Yjx
 ·exact Yjy
 ·exact Yjz
def okT:List Res->Bool|(.ret (.d (.lit (.bool true))),[])::_=>true|_=>false
theorem Yj0{l:List Res}(h:okT l=true):∃r∈l,r=(.ret (.d (.lit (.bool true))),[]):=by
 unfold okT at h;split at h
 ·exact⟨_,List.mem_cons_self ..,rfl⟩
 ·cases h
theorem Ygc:okT (evF tab (Yi2 Yi3) 100000 60 13 [] [])=true:=by kernel_rfl
theorem c13:Holds Tryz.prog 13 [] [] (Ret (Yae true)):=by
 obtain⟨r,hr,rfl⟩:=Yj0 Ygc;exact(Zvt Yis (Yh6 Yh7) _ _ _ _ _ hr).2 (fun _=>.own 0 0) (by simp)
end Go.Sy
end
