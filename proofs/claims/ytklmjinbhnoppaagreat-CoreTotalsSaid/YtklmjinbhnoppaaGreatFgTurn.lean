/- Contracts and laws on the way to the statement. No conditions. -/
import Derived.Test.YtklmjinbhnoppaaGreatFgHeap
import Derived.Test.YtklmjinbhnoppaaGreatProg
import Derived.KernelRfl
import Derived.Deep.Slices
import Derived.ChangeArms
import Derived.OpenShut
import Derived.ProofKit
import Derived.ChangeOld
import Derived.Below
import Derived.WideShapes
import Derived.Shelf.Sort.Plain
import Derived.Shelf.Slices.In.SortNone
import Derived.Lib.SortBridge
import Derived.Laws.BitsAllLaws
import Derived.Laws.BytesString
import Derived.LoopN
set_option maxRecDepth 100000
set_option maxHeartbeats 16000000
set_option linter.unusedVariables false
set_option linter.unusedSimpArgs false
set_option linter.unusedSectionVars false
namespace Go.Fg.X
open Go.Proofs Go.Fg
open Go.Proofs.Tryz
@[go_sem] def zi:Value:=.int .i64 0
@[go_sem] def zu:Value:=.int .u64 0
@[go_sem] def zh:Value:=.int .u16 0
@[go_sem] def zb:Value:=.bool false
@[go_sem] def zp:Value:=.pointer none
@[go_sem] def zc:Value:=.int .u8 0
@[go_sem] def zs:Value:=.slice none 0 0
@[go_sem] def zm:Value:=.map none
@[go_sem] def Y1:Ty:=⟨.fn,1,8,[.nilFunc]⟩
@[go_sem] def Y2:Ty:=⟨.int .i64,1,8,[zi]⟩
@[go_sem] def Y3:Ty:=⟨.int .i64,1,8,[zi]⟩
@[go_sem] def Y4:Ty:=⟨.bool,1,1,[zb]⟩
@[go_sem] def Y5:Ty:=⟨.int .u8,1,1,[zc]⟩
@[go_sem] def Y9:Ty:=⟨.str,1,16,[.string ByteArray.empty]⟩
@[go_sem] def eW:Ty:=⟨.int .u64,1,8,[zu]⟩
@[go_sem] def eX:Ty:=⟨.ptr 405,1,8,[zp]⟩
@[go_sem] def eY:Ty:=⟨.iface,1,16,[.nilIface]⟩
@[go_sem] def eZ:Ty:=⟨.int .i32,1,4,[.int .i32 0]⟩
@[go_sem] def fa:Ty:=⟨.struct [(0,3),(1,3)],2,16,[zi,zi]⟩
@[go_sem] def fb:Ty:=⟨.struct [(0,3),(1,3)],2,16,[zi,zi]⟩
@[go_sem] def fc:Ty:=⟨.slice 36,1,24,[zs]⟩
@[go_sem] def fe:Ty:=⟨.int .u64,1,8,[zu]⟩
@[go_sem] def ff:Ty:=⟨.fn,1,8,[.nilFunc]⟩
@[go_sem] def fg:Ty:=⟨.fn,1,8,[.nilFunc]⟩
@[go_sem] def fh:Ty:=⟨.fn,1,8,[.nilFunc]⟩
@[go_sem] def fi:Ty:=⟨.int .u16,1,2,[zh]⟩
@[go_sem] def fj:Ty:=⟨.array 4 29,4,8,[zh,zh,zh,zh]⟩
@[go_sem] def fk:Ty:=⟨.array 4 29,4,8,[zh,zh,zh,zh]⟩
@[go_sem] def fm:Ty:=⟨.struct [(0,25),(1,3),(2,31)],6,24,[zu,zi,zh,zh,zh,zh]⟩
@[go_sem] def fo:Ty:=⟨.struct [(0,25),(1,3),(2,31)],6,24,[zu,zi,zh,zh,zh,zh]⟩
@[go_sem] def fp:Ty:=⟨.slice 100,1,24,[zs]⟩
@[go_sem] def fq:Ty:=⟨.struct [(0,3),(1,25),(2,3),(3,33),(9,4),(10,34)],11,80,[zi,zu,zi,zu,zi,zh,zh,zh,zh,zb,zs]⟩
@[go_sem] def ft:Ty:=⟨.struct [(0,3),(1,25),(2,3),(3,33),(9,4),(10,34)],11,80,[zi,zu,zi,zu,zi,zh,zh,zh,zh,zb,zs]⟩
@[go_sem] def fu:Ty:=⟨.ptr 107,1,8,[zp]⟩
@[go_sem] def fv:Ty:=⟨.int .i64,1,8,[zi]⟩
@[go_sem] def fw:Ty:=⟨.fn,1,8,[.nilFunc]⟩
@[go_sem] def fx:Ty:=⟨.fn,1,8,[.nilFunc]⟩
@[go_sem] def fy:Ty:=⟨.struct [(0,3),(1,33),(7,4)],8,40,[zi,zu,zi,zh,zh,zh,zh,zb]⟩
@[go_sem] def fA:Ty:=⟨.struct [(0,3),(1,33),(7,4)],8,40,[zi,zu,zi,zh,zh,zh,zh,zb]⟩
@[go_sem] def fB:Ty:=⟨.fn,1,8,[.nilFunc]⟩
@[go_sem] def fC:Ty:=⟨.fn,1,8,[.nilFunc]⟩
@[go_sem] def fD:Ty:=⟨.fn,1,8,[.nilFunc]⟩
@[go_sem] def fF:Ty:=⟨.slice 33,1,24,[zs]⟩
@[go_sem] def fG:Ty:=⟨.fn,1,8,[.nilFunc]⟩
@[go_sem] def fH:Ty:=⟨.fn,1,8,[.nilFunc]⟩
@[go_sem] def fI:Ty:=⟨.fn,1,8,[.nilFunc]⟩
@[go_sem] def fJ:Ty:=⟨.fn,1,8,[.nilFunc]⟩
@[go_sem] def fK:Ty:=⟨.fn,1,8,[.nilFunc]⟩
@[go_sem] def fM:Ty:=⟨.ptr 218,1,8,[zp]⟩
@[go_sem] def fN:Ty:=⟨.fn,1,8,[.nilFunc]⟩
@[go_sem] def fO:Ty:=⟨.slice 3,1,24,[zs]⟩
@[go_sem] def fQ:Ty:=⟨.fn,1,8,[.nilFunc]⟩
@[go_sem] def fR:Ty:=⟨.struct [(0,25),(1,25),(2,25)],3,24,[zu,zu,zu]⟩
@[go_sem] def fS:Ty:=⟨.struct [(0,25),(1,25),(2,25)],3,24,[zu,zu,zu]⟩
@[go_sem] def fT:Ty:=⟨.struct [(0,3),(1,3),(2,4),(3,60),(6,60),(9,60),(12,3),(13,3)],14,112,[zi,zi,zb,zu,zu,zu,zu,zu,zu,zu,zu,zu,zi,zi]⟩
@[go_sem] def fU:Ty:=⟨.struct [(0,3),(1,3),(2,4),(3,60),(6,60),(9,60),(12,3),(13,3)],14,112,[zi,zi,zb,zu,zu,zu,zu,zu,zu,zu,zu,zu,zi,zi]⟩
@[go_sem] def fV:Ty:=⟨.struct [(0,25),(1,25)],2,16,[zu,zu]⟩
@[go_sem] def fW:Ty:=⟨.struct [(0,25),(1,25)],2,16,[zu,zu]⟩
@[go_sem] def fX:Ty:=⟨.struct [(0,25),(1,64),(3,25)],4,32,[zu,zu,zu,zu]⟩
@[go_sem] def fY:Ty:=⟨.struct [(0,25),(1,64),(3,25)],4,32,[zu,zu,zu,zu]⟩
@[go_sem] def fZ:Ty:=⟨.struct [(0,66),(4,66),(8,4)],9,72,[zu,zu,zu,zu,zu,zu,zu,zu,zb]⟩
@[go_sem] def gh:Ty:=⟨.struct [(0,66),(4,66),(8,4)],9,72,[zu,zu,zu,zu,zu,zu,zu,zu,zb]⟩
@[go_sem] def gi:Ty:=⟨.struct [(0,4),(1,68),(10,68),(19,25),(20,25),(21,25)],22,176,[zb,zu,zu,zu,zu,zu,zu,zu,zu,zb,zu,zu,zu,zu,zu,zu,zu,zu,zb,zu,zu,zu]⟩
@[go_sem] def gj:Ty:=⟨.struct [(0,4),(1,68),(10,25)],11,88,[zb,zu,zu,zu,zu,zu,zu,zu,zu,zb,zu]⟩
@[go_sem] def gl:Ty:=⟨.struct [(0,4),(1,68),(10,25)],11,88,[zb,zu,zu,zu,zu,zu,zu,zu,zu,zb,zu]⟩
@[go_sem] def gp:Ty:=⟨.struct [(0,4),(1,68),(10,25)],11,88,[zb,zu,zu,zu,zu,zu,zu,zu,zu,zb,zu]⟩
@[go_sem] def gq:Ty:=⟨.struct [(0,25),(1,25),(2,25),(3,25),(4,25),(5,25)],6,48,[zu,zu,zu,zu,zu,zu]⟩
@[go_sem] def gr:Ty:=⟨.struct [(0,62),(14,4),(15,25),(16,70),(38,72),(49,74),(60,25),(61,76)],67,536,[zi,zi,zb,zu,zu,zu,zu,zu,zu,zu,zu,zu,zi,zi,zb,zu,zb,zu,zu,zu,zu,zu,zu,zu,zu,zb,zu,zu,zu,zu,zu,zu,zu,zu,zb,zu,zu,zu,zb,zu,zu,zu,zu,zu,zu,zu,zu,zb,zu,zb,zu,zu,zu,zu,zu,zu,zu,zu,zb,zu,zu,zu,zu,zu,zu,zu,zu]⟩
@[go_sem] def gu:Ty:=⟨.fn,1,8,[.nilFunc]⟩
@[go_sem] def gv:Ty:=⟨.fn,1,8,[.nilFunc]⟩
@[go_sem] def gw:Ty:=⟨.slice 162,1,24,[zs]⟩
@[go_sem] def gy:Ty:=⟨.struct [(0,23),(2,88),(3,25),(4,25)],5,56,[zi,zi,zs,zu,zu]⟩
@[go_sem] def gz:Ty:=⟨.struct [(0,90),(5,3),(6,3)],7,72,[zi,zi,zs,zu,zu,zi,zi]⟩
@[go_sem] def gA:Ty:=⟨.fn,1,8,[.nilFunc]⟩
@[go_sem] def gB:Ty:=⟨.fn,1,8,[.nilFunc]⟩
@[go_sem] def gC:Ty:=⟨.struct [(0,3),(1,62)],15,120,[zi,zi,zi,zb,zu,zu,zu,zu,zu,zu,zu,zu,zu,zi,zi]⟩
@[go_sem] def gD:Ty:=⟨.struct [(0,3),(1,62)],15,120,[zi,zi,zi,zb,zu,zu,zu,zu,zu,zu,zu,zu,zu,zi,zi]⟩
@[go_sem] def gE:Ty:=⟨.fn,1,8,[.nilFunc]⟩
@[go_sem] def gF:Ty:=⟨.map 3 112,1,8,[zm]⟩
@[go_sem] def gG:Ty:=⟨.ptr 224,1,8,[zp]⟩
@[go_sem] def gH:Ty:=⟨.ptr 199,1,8,[zp]⟩
@[go_sem] def gI:Ty:=⟨.map 3 108,1,8,[zm]⟩
@[go_sem] def gJ:Ty:=⟨.struct [(0,23),(2,55),(3,102),(4,103),(5,104),(6,105),(7,25),(8,25)],9,72,[zi,zi,zp,zm,zp,zp,zm,zu,zu]⟩
@[go_sem] def gK:Ty:=⟨.struct [(0,23),(2,55),(3,102),(4,103),(5,104),(6,105),(7,25),(8,25)],9,72,[zi,zi,zp,zm,zp,zp,zm,zu,zu]⟩
@[go_sem] def gL:Ty:=⟨.ptr 202,1,8,[zp]⟩
@[go_sem] def gM:Ty:=⟨.fn,1,8,[.nilFunc]⟩
@[go_sem] def gN:Ty:=⟨.fn,1,8,[.nilFunc]⟩
@[go_sem] def gO:Ty:=⟨.ptr 117,1,8,[zp]⟩
@[go_sem] def gP:Ty:=⟨.fn,1,8,[.nilFunc]⟩
@[go_sem] def gQ:Ty:=⟨.ptr 208,1,8,[zp]⟩
@[go_sem] def gR:Ty:=⟨.struct [(0,115),(1,62),(15,25),(16,70),(38,72),(49,74)],60,480,[zp,zi,zi,zb,zu,zu,zu,zu,zu,zu,zu,zu,zu,zi,zi,zu,zb,zu,zu,zu,zu,zu,zu,zu,zu,zb,zu,zu,zu,zu,zu,zu,zu,zu,zb,zu,zu,zu,zb,zu,zu,zu,zu,zu,zu,zu,zu,zb,zu,zb,zu,zu,zu,zu,zu,zu,zu,zu,zb,zu]⟩
@[go_sem] def gS:Ty:=⟨.struct [(0,115),(1,62),(15,25),(16,70),(38,72),(49,74)],60,480,[zp,zi,zi,zb,zu,zu,zu,zu,zu,zu,zu,zu,zu,zi,zi,zu,zb,zu,zu,zu,zu,zu,zu,zu,zu,zb,zu,zu,zu,zu,zu,zu,zu,zu,zb,zu,zu,zu,zb,zu,zu,zu,zu,zu,zu,zu,zu,zb,zu,zb,zu,zu,zu,zu,zu,zu,zu,zu,zb,zu]⟩
@[go_sem] def gT:Ty:=⟨.fn,1,8,[.nilFunc]⟩
@[go_sem] def gU:Ty:=⟨.fn,1,8,[.nilFunc]⟩
@[go_sem] def gV:Ty:=⟨.fn,1,8,[.nilFunc]⟩
@[go_sem] def gW:Ty:=⟨.fn,1,8,[.nilFunc]⟩
@[go_sem] def gX:Ty:=⟨.fn,1,8,[.nilFunc]⟩
@[go_sem] def gY:Ty:=⟨.fn,1,8,[.nilFunc]⟩
@[go_sem] def gZ:Ty:=⟨.fn,1,8,[.nilFunc]⟩
@[go_sem] def hY:Ty:=⟨.fn,1,8,[.nilFunc]⟩
@[go_sem] def ie:Ty:=⟨.fn,1,8,[.nilFunc]⟩
@[go_sem] def ig:Ty:=⟨.fn,1,8,[.nilFunc]⟩
@[go_sem] def ij:Ty:=⟨.fn,1,8,[.nilFunc]⟩
@[go_sem] def ik:Ty:=⟨.fn,1,8,[.nilFunc]⟩
@[go_sem] def iq:Ty:=⟨.fn,1,8,[.nilFunc]⟩
@[go_sem] def iu:Ty:=⟨.fn,1,8,[.nilFunc]⟩
@[go_sem] def iv:Ty:=⟨.fn,1,8,[.nilFunc]⟩
@[go_sem] def iw:Ty:=⟨.fn,1,8,[.nilFunc]⟩
@[go_sem] def iz:Ty:=⟨.fn,1,8,[.nilFunc]⟩
@[go_sem] def iA:Ty:=⟨.fn,1,8,[.nilFunc]⟩
@[go_sem] def iB:Ty:=⟨.fn,1,8,[.nilFunc]⟩
@[go_sem] def iC:Ty:=⟨.fn,1,8,[.nilFunc]⟩
@[go_sem] def iE:Ty:=⟨.fn,1,8,[.nilFunc]⟩
@[go_sem] def iF:Ty:=⟨.fn,1,8,[.nilFunc]⟩
@[go_sem] def iG:Ty:=⟨.fn,1,8,[.nilFunc]⟩
@[go_sem] def iH:Ty:=⟨.array 4 25,4,32,[zu,zu,zu,zu]⟩
@[go_sem] def iI:Ty:=⟨.struct [(0,25),(1,147),(5,25)],6,48,[zu,zu,zu,zu,zu,zu]⟩
@[go_sem] def iJ:Ty:=⟨.struct [(0,149),(6,149),(12,4)],13,104,[zu,zu,zu,zu,zu,zu,zu,zu,zu,zu,zu,zu,zb]⟩
@[go_sem] def iK:Ty:=⟨.struct [(0,4),(1,151),(14,151),(27,25),(28,25),(29,25)],30,240,[zb,zu,zu,zu,zu,zu,zu,zu,zu,zu,zu,zu,zu,zb,zu,zu,zu,zu,zu,zu,zu,zu,zu,zu,zu,zu,zb,zu,zu,zu]⟩
@[go_sem] def iL:Ty:=⟨.struct [(0,4),(1,151),(14,25)],15,120,[zb,zu,zu,zu,zu,zu,zu,zu,zu,zu,zu,zu,zu,zb,zu]⟩
@[go_sem] def iM:Ty:=⟨.struct [(0,4),(1,151),(14,25)],15,120,[zb,zu,zu,zu,zu,zu,zu,zu,zu,zu,zu,zu,zu,zb,zu]⟩
@[go_sem] def iN:Ty:=⟨.array 6 25,6,48,[zu,zu,zu,zu,zu,zu]⟩
@[go_sem] def iO:Ty:=⟨.struct [(0,3),(1,3),(2,48),(3,158)],9,88,[zi,zi,zs,zu,zu,zu,zu,zu,zu]⟩
@[go_sem] def iP:Ty:=⟨.struct [(0,62),(14,25),(15,153),(45,155),(60,157),(75,160)],84,688,[zi,zi,zb,zu,zu,zu,zu,zu,zu,zu,zu,zu,zi,zi,zu,zb,zu,zu,zu,zu,zu,zu,zu,zu,zu,zu,zu,zu,zb,zu,zu,zu,zu,zu,zu,zu,zu,zu,zu,zu,zu,zb,zu,zu,zu,zb,zu,zu,zu,zu,zu,zu,zu,zu,zu,zu,zu,zu,zb,zu,zb,zu,zu,zu,zu,zu,zu,zu,zu,zu,zu,zu,zu,zb,zu,zi,zi,zs,zu,zu,zu,zu,zu,zu]⟩
@[go_sem] def iQ:Ty:=⟨.slice 62,1,24,[zs]⟩
@[go_sem] def iR:Ty:=⟨.fn,1,8,[.nilFunc]⟩
@[go_sem] def iS:Ty:=⟨.fn,1,8,[.nilFunc]⟩
@[go_sem] def iT:Ty:=⟨.fn,1,8,[.nilFunc]⟩
@[go_sem] def iU:Ty:=⟨.fn,1,8,[.nilFunc]⟩
@[go_sem] def iV:Ty:=⟨.fn,1,8,[.nilFunc]⟩
@[go_sem] def iW:Ty:=⟨.fn,1,8,[.nilFunc]⟩
@[go_sem] def iX:Ty:=⟨.fn,1,8,[.nilFunc]⟩
@[go_sem] def iY:Ty:=⟨.fn,1,8,[.nilFunc]⟩
@[go_sem] def iZ:Ty:=⟨.fn,1,8,[.nilFunc]⟩
@[go_sem] def la:Ty:=⟨.fn,1,8,[.nilFunc]⟩
@[go_sem] def ld:Ty:=⟨.fn,1,8,[.nilFunc]⟩
@[go_sem] def lg:Ty:=⟨.fn,1,8,[.nilFunc]⟩
@[go_sem] def lh:Ty:=⟨.struct [(0,164),(1,3),(2,3)],3,40,[zs,zi,zi]⟩
@[go_sem] def lj:Ty:=⟨.struct [(0,164),(1,3),(2,3)],3,40,[zs,zi,zi]⟩
@[go_sem] def ln:Ty:=⟨.fn,1,8,[.nilFunc]⟩
@[go_sem] def lu:Ty:=⟨.fn,1,8,[.nilFunc]⟩
@[go_sem] def lz:Ty:=⟨.fn,1,8,[.nilFunc]⟩
@[go_sem] def lA:Ty:=⟨.fn,1,8,[.nilFunc]⟩
@[go_sem] def lB:Ty:=⟨.fn,1,8,[.nilFunc]⟩
@[go_sem] def lC:Ty:=⟨.fn,1,8,[.nilFunc]⟩
@[go_sem] def lD:Ty:=⟨.fn,1,8,[.nilFunc]⟩
@[go_sem] def lE:Ty:=⟨.fn,1,8,[.nilFunc]⟩
@[go_sem] def lF:Ty:=⟨.fn,1,8,[.nilFunc]⟩
@[go_sem] def lG:Ty:=⟨.fn,1,8,[.nilFunc]⟩
@[go_sem] def lH:Ty:=⟨.fn,1,8,[.nilFunc]⟩
@[go_sem] def lI:Ty:=⟨.struct [(0,25),(1,3)],2,16,[zu,zi]⟩
@[go_sem] def lJ:Ty:=⟨.struct [(0,25),(1,3)],2,16,[zu,zi]⟩
@[go_sem] def lK:Ty:=⟨.struct [(0,192),(2,192)],4,32,[zu,zi,zu,zi]⟩
@[go_sem] def lL:Ty:=⟨.struct [(0,192),(2,192)],4,32,[zu,zi,zu,zi]⟩
@[go_sem] def lM:Ty:=⟨.ptr 270,1,8,[zp]⟩
@[go_sem] def lN:Ty:=⟨.map 3 194,1,8,[zm]⟩
@[go_sem] def lO:Ty:=⟨.struct [(0,196),(1,197)],2,16,[zp,zm]⟩
@[go_sem] def lP:Ty:=⟨.struct [(0,196),(1,197)],2,16,[zp,zm]⟩
@[go_sem] def lQ:Ty:=⟨.ptr 277,1,8,[zp]⟩
@[go_sem] def lR:Ty:=⟨.struct [(0,206),(1,3),(2,3),(3,76)],9,72,[zp,zi,zi,zu,zu,zu,zu,zu,zu]⟩
@[go_sem] def lS:Ty:=⟨.struct [(0,206),(1,3),(2,3),(3,76)],9,72,[zp,zi,zi,zu,zu,zu,zu,zu,zu]⟩
@[go_sem] def lT:Ty:=⟨.fn,1,8,[.nilFunc]⟩
@[go_sem] def lU:Ty:=⟨.fn,1,8,[.nilFunc]⟩
@[go_sem] def lV:Ty:=⟨.fn,1,8,[.nilFunc]⟩
@[go_sem] def lW:Ty:=⟨.fn,1,8,[.nilFunc]⟩
@[go_sem] def lX:Ty:=⟨.fn,1,8,[.nilFunc]⟩
@[go_sem] def lY:Ty:=⟨.fn,1,8,[.nilFunc]⟩
@[go_sem] def lZ:Ty:=⟨.fn,1,8,[.nilFunc]⟩
@[go_sem] def l5:Ty:=⟨.map 3 62,1,8,[zm]⟩
@[go_sem] def l6:Ty:=⟨.struct [(0,216)],1,8,[zm]⟩
@[go_sem] def l7:Ty:=⟨.struct [(0,216)],1,8,[zm]⟩
@[go_sem] def l9:Ty:=⟨.fn,1,8,[.nilFunc]⟩
@[go_sem] def mg:Ty:=⟨.map 3 226,1,8,[zm]⟩
@[go_sem] def mh:Ty:=⟨.map 3 3,1,8,[zm]⟩
@[go_sem] def mi:Ty:=⟨.map 3 221,1,8,[zm]⟩
@[go_sem] def mj:Ty:=⟨.struct [(0,220),(1,221),(2,222)],3,24,[zm,zm,zm]⟩
@[go_sem] def mm:Ty:=⟨.struct [(0,220),(1,221),(2,222)],3,24,[zm,zm,zm]⟩
@[go_sem] def mn:Ty:=⟨.struct [(0,3),(1,3)],2,16,[zi,zi]⟩
@[go_sem] def mq:Ty:=⟨.struct [(0,3),(1,3)],2,16,[zi,zi]⟩
@[go_sem] def mr:Ty:=⟨.fn,1,8,[.nilFunc]⟩
@[go_sem] def mu:Ty:=⟨.fn,1,8,[.nilFunc]⟩
@[go_sem] def mv:Ty:=⟨.fn,1,8,[.nilFunc]⟩
@[go_sem] def mw:Ty:=⟨.fn,1,8,[.nilFunc]⟩
@[go_sem] def my:Ty:=⟨.fn,1,8,[.nilFunc]⟩
@[go_sem] def mz:Ty:=⟨.fn,1,8,[.nilFunc]⟩
@[go_sem] def mA:Ty:=⟨.slice 60,1,24,[zs]⟩
@[go_sem] def mB:Ty:=⟨.fn,1,8,[.nilFunc]⟩
@[go_sem] def mC:Ty:=⟨.fn,1,8,[.nilFunc]⟩
@[go_sem] def mD:Ty:=⟨.fn,1,8,[.nilFunc]⟩
@[go_sem] def mE:Ty:=⟨.fn,1,8,[.nilFunc]⟩
@[go_sem] def mF:Ty:=⟨.fn,1,8,[.nilFunc]⟩
@[go_sem] def mG:Ty:=⟨.fn,1,8,[.nilFunc]⟩
@[go_sem] def mH:Ty:=⟨.fn,1,8,[.nilFunc]⟩
@[go_sem] def mI:Ty:=⟨.fn,1,8,[.nilFunc]⟩
@[go_sem] def mJ:Ty:=⟨.fn,1,8,[.nilFunc]⟩
@[go_sem] def mK:Ty:=⟨.struct [(0,164),(1,3)],2,32,[zs,zi]⟩
@[go_sem] def mL:Ty:=⟨.struct [(0,164),(1,3)],2,32,[zs,zi]⟩
@[go_sem] def mM:Ty:=⟨.fn,1,8,[.nilFunc]⟩
@[go_sem] def mN:Ty:=⟨.fn,1,8,[.nilFunc]⟩
@[go_sem] def mO:Ty:=⟨.fn,1,8,[.nilFunc]⟩
@[go_sem] def mP:Ty:=⟨.fn,1,8,[.nilFunc]⟩
@[go_sem] def mQ:Ty:=⟨.fn,1,8,[.nilFunc]⟩
@[go_sem] def mR:Ty:=⟨.fn,1,8,[.nilFunc]⟩
@[go_sem] def mS:Ty:=⟨.ptr 273,1,8,[zp]⟩
@[go_sem] def mT:Ty:=⟨.struct [(0,268)],1,8,[zp]⟩
@[go_sem] def mU:Ty:=⟨.struct [(0,268)],1,8,[zp]⟩
@[go_sem] def mV:Ty:=⟨.array 2 268,2,16,[zp,zp]⟩
@[go_sem] def mW:Ty:=⟨.struct [(0,194),(4,271),(6,194),(10,3),(11,3)],12,96,[zu,zi,zu,zi,zp,zp,zu,zi,zu,zi,zi,zi]⟩
@[go_sem] def mX:Ty:=⟨.struct [(0,194),(4,271),(6,194),(10,3),(11,3)],12,96,[zu,zi,zu,zi,zp,zp,zu,zi,zu,zi,zi,zi]⟩
@[go_sem] def mY:Ty:=⟨.fn,1,8,[.nilFunc]⟩
@[go_sem] def mZ:Ty:=⟨.fn,1,8,[.nilFunc]⟩
@[go_sem] def m4:Ty:=⟨.struct [(0,48),(1,3),(2,3)],3,40,[zs,zi,zi]⟩
@[go_sem] def m5:Ty:=⟨.struct [(0,48),(1,3),(2,3)],3,40,[zs,zi,zi]⟩
@[go_sem] def m6:Ty:=⟨.fn,1,8,[.nilFunc]⟩
@[go_sem] def m7:Ty:=⟨.array 2 66,8,64,[zu,zu,zu,zu,zu,zu,zu,zu]⟩
@[go_sem] def m8:Ty:=⟨.fn,1,8,[.nilFunc]⟩
@[go_sem] def m9:Ty:=⟨.fn,1,8,[.nilFunc]⟩
@[go_sem] def ng:Ty:=⟨.int .u64,1,8,[zu]⟩
@[go_sem] def nh:Ty:=⟨.fn,1,8,[.nilFunc]⟩
@[go_sem] def ni:Ty:=⟨.fn,1,8,[.nilFunc]⟩
@[go_sem] def nj:Ty:=⟨.fn,1,8,[.nilFunc]⟩
@[go_sem] def np:Ty:=⟨.fn,1,8,[.nilFunc]⟩
@[go_sem] def ns:Ty:=⟨.int .i64,1,8,[zi]⟩
@[go_sem] def nu:Ty:=⟨.fn,1,8,[.nilFunc]⟩
@[go_sem] def nv:Ty:=⟨.fn,1,8,[.nilFunc]⟩
@[go_sem] def nw:Ty:=⟨.slice 57,1,24,[zs]⟩
@[go_sem] def ny:Ty:=⟨.fn,1,8,[.nilFunc]⟩
@[go_sem] def nz:Ty:=⟨.fn,1,8,[.nilFunc]⟩
@[go_sem] def nA:Ty:=⟨.fn,1,8,[.nilFunc]⟩
@[go_sem] def nB:Ty:=⟨.fn,1,8,[.nilFunc]⟩
@[go_sem] def nC:Ty:=⟨.fn,1,8,[.nilFunc]⟩
@[go_sem] def nD:Ty:=⟨.fn,1,8,[.nilFunc]⟩
@[go_sem] def nE:Ty:=⟨.fn,1,8,[.nilFunc]⟩
@[go_sem] def nF:Ty:=⟨.fn,1,8,[.nilFunc]⟩
@[go_sem] def nG:Ty:=⟨.fn,1,8,[.nilFunc]⟩
@[go_sem] def nH:Ty:=⟨.struct [(0,25),(1,4)],2,16,[zu,zb]⟩
@[go_sem] def nI:Ty:=⟨.slice 25,1,24,[zs]⟩
@[go_sem] def nJ:Ty:=⟨.fn,1,8,[.nilFunc]⟩
@[go_sem] def nK:Ty:=⟨.int .i64,1,8,[zi]⟩
@[go_sem] def nN:Ty:=⟨.int .u32,1,4,[.int .u32 0]⟩
@[go_sem] def nO:Ty:=⟨.array 3 60,9,72,[zu,zu,zu,zu,zu,zu,zu,zu,zu]⟩
@[go_sem] def nP:Ty:=⟨.fn,1,8,[.nilFunc]⟩
@[go_sem] def nQ:Ty:=⟨.int .u64,1,8,[zu]⟩
@[go_sem] def nR:Ty:=⟨.ptr 3,1,8,[zp]⟩
@[go_sem] def nS:Ty:=⟨.ptr 366,1,8,[zp]⟩
def lay:Zh:=[(1,Y1),(2,Y2),(3,Y3),(4,Y4),(5,Y5),(9,Y9),(12,eW),(17,eX),(20,eY),(21,eZ),(22,fa),(23,fb),(24,fc),(25,fe),(26,ff),(27,fg),(28,fh),(29,fi),(30,fj),(31,fk),(32,fm),(33,fo),(34,fp),(35,fq),(36,ft),(37,fu),(38,fv),(40,fw),(41,fx),(42,fy),(43,fA),(45,fB),(46,fC),(47,fD),(48,fF),(49,fG),(51,fH),(52,fI),(53,fJ),(54,fK),(55,fM),(56,fN),(57,fO),(58,fQ),(59,fR),(60,fS),(61,fT),(62,fU),(63,fV),(64,fW),(65,fX),(66,fY),(67,fZ),(68,gh),(70,gi),(72,gj),(73,gl),(74,gp),(76,gq),(78,gr),(81,gu),(82,gv),(88,gw),(90,gy),(94,gz),(97,gA),(98,gB),(99,gC),(100,gD),(101,gE),(102,gF),(103,gG),(104,gH),(105,gI),(106,gJ),(107,gK),(108,gL),(109,gM),(111,gN),(112,gO),(114,gP),(115,gQ),(116,gR),(117,gS),(118,gT),(119,gU),(120,gV),(121,gW),(122,gX),(123,gY),(124,gZ),(125,hY),(127,ie),(128,ig),(130,ij),(131,ik),(132,iq),(133,iu),(134,iv),(136,iw),(137,iz),(139,iA),(140,iB),(141,iC),(142,iE),(143,iF),(144,iG),(147,iH),(149,iI),(151,iJ),(153,iK),(155,iL),(157,iM),(158,iN),(160,iO),(162,iP),(164,iQ),(165,iR),(166,iS),(167,iT),(168,iU),(169,iV),(170,iW),(171,iX),(172,iY),(173,iZ),(175,la),(176,ld),(177,lg),(178,lh),(179,lj),(180,ln),(181,lu),(182,lz),(183,lA),(184,lB),(185,lC),(186,lD),(187,lE),(188,lF),(189,lG),(190,lH),(191,lI),(192,lJ),(193,lK),(194,lL),(196,lM),(197,lN),(199,lO),(202,lP),(206,lQ),(207,lR),(208,lS),(209,lT),(210,lU),(211,lV),(212,lW),(213,lX),(214,lY),(215,lZ),(216,l5),(217,l6),(218,l7),(219,l9),(220,mg),(221,mh),(222,mi),(223,mj),(224,mm),(225,mn),(226,mq),(227,mr),(229,mu),(230,mv),(231,mw),(232,my),(233,mz),(234,mA),(235,mB),(236,mC),(237,mD),(238,mE),(239,mF),(240,mG),(241,mH),(258,mI),(259,mJ),(260,mK),(261,mL),(262,mM),(263,mN),(264,mO),(265,mP),(266,mQ),(267,mR),(268,mS),(269,mT),(270,mU),(271,mV),(272,mW),(273,mX),(274,mY),(275,mZ),(276,m4),(277,m5),(278,m6),(279,m7),(280,m8),(281,m9),(282,ng),(283,nh),(287,ni),(288,nj),(289,np),(291,ns),(293,nu),(294,nv),(295,nw),(296,ny),(297,nz),(298,nA),(299,nB),(301,nC),(304,nD),(305,nE),(306,nF),(307,nG),(308,nH),(315,nI),(323,nJ),(332,nK),(339,nN),(358,nO),(365,nP),(366,nQ),(369,nR),(378,nS)]
theorem nT {P:Program}:∀{L:Zh},L.map (fun p=>(P.underlying p.1).map TK.of)=L.map (fun p=>some p.2.k)→L.map (fun p=>(P.info? p.1).map fun i=>(i.size,i.bytes,i.zero.map fun z=>z.cells.toList))=L.map (fun p=>some (p.2.size,p.2.bytes,some p.2.zero))→L.map (fun p=>((P.info? p.1).bind (·.zero)).map IV)=L.map (fun p=>some p.2.k.agg)→Zw P L
 | [],_,_,_=>.nil _
 | (_,_)::_,h1,h2,h3=>.cons ⟨(List.cons.inj h1).1,(List.cons.inj h2).1,(List.cons.inj h3).1⟩ (nT (List.cons.inj h1).2 (List.cons.inj h2).2 (List.cons.inj h3).2)
theorem vX:Zw prog lay:=nT (by kernel_rfl) (by kernel_rfl) (by kernel_rfl)
theorem L1:ty lay 1=some Y1:=rfl
theorem L2:ty lay 2=some Y2:=rfl
theorem L3:ty lay 3=some Y3:=rfl
theorem L4:ty lay 4=some Y4:=rfl
theorem L5:ty lay 5=some Y5:=rfl
theorem L9:ty lay 9=some Y9:=rfl
theorem L12:ty lay 12=some eW:=rfl
theorem L17:ty lay 17=some eX:=rfl
theorem L20:ty lay 20=some eY:=rfl
theorem L21:ty lay 21=some eZ:=rfl
theorem L22:ty lay 22=some fa:=rfl
theorem L23:ty lay 23=some fb:=rfl
theorem L24:ty lay 24=some fc:=rfl
theorem L25:ty lay 25=some fe:=rfl
theorem L26:ty lay 26=some ff:=rfl
theorem L27:ty lay 27=some fg:=rfl
theorem L28:ty lay 28=some fh:=rfl
theorem L29:ty lay 29=some fi:=rfl
theorem L30:ty lay 30=some fj:=rfl
theorem L31:ty lay 31=some fk:=rfl
theorem L32:ty lay 32=some fm:=rfl
theorem L33:ty lay 33=some fo:=rfl
theorem L34:ty lay 34=some fp:=rfl
theorem L35:ty lay 35=some fq:=rfl
theorem L36:ty lay 36=some ft:=rfl
theorem L37:ty lay 37=some fu:=rfl
theorem L38:ty lay 38=some fv:=rfl
theorem L40:ty lay 40=some fw:=rfl
theorem L41:ty lay 41=some fx:=rfl
theorem L42:ty lay 42=some fy:=rfl
theorem L43:ty lay 43=some fA:=rfl
theorem L45:ty lay 45=some fB:=rfl
theorem L46:ty lay 46=some fC:=rfl
theorem L47:ty lay 47=some fD:=rfl
theorem L48:ty lay 48=some fF:=rfl
theorem L49:ty lay 49=some fG:=rfl
theorem L51:ty lay 51=some fH:=rfl
theorem L52:ty lay 52=some fI:=rfl
theorem L53:ty lay 53=some fJ:=rfl
theorem L54:ty lay 54=some fK:=rfl
theorem L55:ty lay 55=some fM:=rfl
theorem L56:ty lay 56=some fN:=rfl
theorem L57:ty lay 57=some fO:=rfl
theorem L58:ty lay 58=some fQ:=rfl
theorem L59:ty lay 59=some fR:=rfl
theorem L60:ty lay 60=some fS:=rfl
theorem L61:ty lay 61=some fT:=rfl
theorem L62:ty lay 62=some fU:=rfl
theorem L63:ty lay 63=some fV:=rfl
theorem L64:ty lay 64=some fW:=rfl
theorem L65:ty lay 65=some fX:=rfl
theorem L66:ty lay 66=some fY:=rfl
theorem L67:ty lay 67=some fZ:=rfl
theorem L68:ty lay 68=some gh:=rfl
theorem L70:ty lay 70=some gi:=rfl
theorem L72:ty lay 72=some gj:=rfl
theorem L73:ty lay 73=some gl:=rfl
theorem L74:ty lay 74=some gp:=rfl
theorem L76:ty lay 76=some gq:=rfl
theorem L78:ty lay 78=some gr:=rfl
theorem L81:ty lay 81=some gu:=rfl
theorem L82:ty lay 82=some gv:=rfl
theorem L88:ty lay 88=some gw:=rfl
theorem L90:ty lay 90=some gy:=rfl
theorem L94:ty lay 94=some gz:=rfl
theorem L97:ty lay 97=some gA:=rfl
theorem L98:ty lay 98=some gB:=rfl
theorem L99:ty lay 99=some gC:=rfl
theorem Qfw:ty lay 100=some gD:=rfl
theorem Qfx:ty lay 101=some gE:=rfl
theorem Qfy:ty lay 102=some gF:=rfl
theorem Qfz:ty lay 103=some gG:=rfl
theorem QfA:ty lay 104=some gH:=rfl
theorem QfB:ty lay 105=some gI:=rfl
theorem QfC:ty lay 106=some gJ:=rfl
theorem QfD:ty lay 107=some gK:=rfl
theorem QfE:ty lay 108=some gL:=rfl
theorem QfF:ty lay 109=some gM:=rfl
theorem QfG:ty lay 111=some gN:=rfl
theorem QfH:ty lay 112=some gO:=rfl
theorem QfI:ty lay 114=some gP:=rfl
theorem QfJ:ty lay 115=some gQ:=rfl
theorem QfK:ty lay 116=some gR:=rfl
theorem QfL:ty lay 117=some gS:=rfl
theorem QfM:ty lay 118=some gT:=rfl
theorem QfN:ty lay 119=some gU:=rfl
theorem QfO:ty lay 120=some gV:=rfl
theorem QfP:ty lay 121=some gW:=rfl
theorem QfQ:ty lay 122=some gX:=rfl
theorem QfR:ty lay 123=some gY:=rfl
theorem QfS:ty lay 124=some gZ:=rfl
theorem QfT:ty lay 125=some hY:=rfl
theorem QfU:ty lay 127=some ie:=rfl
theorem QfV:ty lay 128=some ig:=rfl
theorem QfW:ty lay 130=some ij:=rfl
theorem QfX:ty lay 131=some ik:=rfl
theorem QfY:ty lay 132=some iq:=rfl
theorem QfZ:ty lay 133=some iu:=rfl
theorem Qf0:ty lay 134=some iv:=rfl
theorem Qf1:ty lay 136=some iw:=rfl
theorem Qf2:ty lay 137=some iz:=rfl
theorem Qf3:ty lay 139=some iA:=rfl
theorem Qf4:ty lay 140=some iB:=rfl
theorem Qf5:ty lay 141=some iC:=rfl
theorem Qf6:ty lay 142=some iE:=rfl
theorem Qf7:ty lay 143=some iF:=rfl
theorem Qf8:ty lay 144=some iG:=rfl
theorem Qf9:ty lay 147=some iH:=rfl
theorem Qga:ty lay 149=some iI:=rfl
theorem Qgb:ty lay 151=some iJ:=rfl
theorem Qgc:ty lay 153=some iK:=rfl
theorem Qgd:ty lay 155=some iL:=rfl
theorem Qge:ty lay 157=some iM:=rfl
theorem Qgf:ty lay 158=some iN:=rfl
theorem Qgg:ty lay 160=some iO:=rfl
theorem Qgh:ty lay 162=some iP:=rfl
theorem Qgi:ty lay 164=some iQ:=rfl
theorem Qgj:ty lay 165=some iR:=rfl
theorem Qgk:ty lay 166=some iS:=rfl
theorem Qgl:ty lay 167=some iT:=rfl
theorem Qgm:ty lay 168=some iU:=rfl
theorem Qgn:ty lay 169=some iV:=rfl
theorem Qgo:ty lay 170=some iW:=rfl
theorem Qgp:ty lay 171=some iX:=rfl
theorem Qgq:ty lay 172=some iY:=rfl
theorem Qgr:ty lay 173=some iZ:=rfl
theorem Qgs:ty lay 175=some la:=rfl
theorem Qgt:ty lay 176=some ld:=rfl
theorem Qgu:ty lay 177=some lg:=rfl
theorem Qgv:ty lay 178=some lh:=rfl
theorem Qgw:ty lay 179=some lj:=rfl
theorem Qgx:ty lay 180=some ln:=rfl
theorem Qgy:ty lay 181=some lu:=rfl
theorem Qgz:ty lay 182=some lz:=rfl
theorem QgA:ty lay 183=some lA:=rfl
theorem QgB:ty lay 184=some lB:=rfl
theorem QgC:ty lay 185=some lC:=rfl
theorem QgD:ty lay 186=some lD:=rfl
theorem QgE:ty lay 187=some lE:=rfl
theorem QgF:ty lay 188=some lF:=rfl
theorem QgG:ty lay 189=some lG:=rfl
theorem QgH:ty lay 190=some lH:=rfl
theorem QgI:ty lay 191=some lI:=rfl
theorem QgJ:ty lay 192=some lJ:=rfl
theorem QgK:ty lay 193=some lK:=rfl
theorem QgL:ty lay 194=some lL:=rfl
theorem QgM:ty lay 196=some lM:=rfl
theorem QgN:ty lay 197=some lN:=rfl
theorem QgO:ty lay 199=some lO:=rfl
theorem QgP:ty lay 202=some lP:=rfl
theorem QgQ:ty lay 206=some lQ:=rfl
theorem QgR:ty lay 207=some lR:=rfl
theorem QgS:ty lay 208=some lS:=rfl
theorem QgT:ty lay 209=some lT:=rfl
theorem QgU:ty lay 210=some lU:=rfl
theorem QgV:ty lay 211=some lV:=rfl
theorem QgW:ty lay 212=some lW:=rfl
theorem QgX:ty lay 213=some lX:=rfl
theorem QgY:ty lay 214=some lY:=rfl
theorem QgZ:ty lay 215=some lZ:=rfl
theorem Qg0:ty lay 216=some l5:=rfl
theorem Qg1:ty lay 217=some l6:=rfl
theorem Qg2:ty lay 218=some l7:=rfl
theorem Qg3:ty lay 219=some l9:=rfl
theorem Qg4:ty lay 220=some mg:=rfl
theorem Qg5:ty lay 221=some mh:=rfl
theorem Qg6:ty lay 222=some mi:=rfl
theorem Qg7:ty lay 223=some mj:=rfl
theorem Qg8:ty lay 224=some mm:=rfl
theorem Qg9:ty lay 225=some mn:=rfl
theorem Qha:ty lay 226=some mq:=rfl
theorem Qhb:ty lay 227=some mr:=rfl
theorem Qhc:ty lay 229=some mu:=rfl
theorem Qhd:ty lay 230=some mv:=rfl
theorem Qhe:ty lay 231=some mw:=rfl
theorem Qhf:ty lay 232=some my:=rfl
theorem Qhg:ty lay 233=some mz:=rfl
theorem Qhh:ty lay 234=some mA:=rfl
theorem Qhi:ty lay 235=some mB:=rfl
theorem Qhj:ty lay 236=some mC:=rfl
theorem Qhk:ty lay 237=some mD:=rfl
theorem Qhl:ty lay 238=some mE:=rfl
theorem Qhm:ty lay 239=some mF:=rfl
theorem Qhn:ty lay 240=some mG:=rfl
theorem Qho:ty lay 241=some mH:=rfl
theorem Qhp:ty lay 258=some mI:=rfl
theorem Qhq:ty lay 259=some mJ:=rfl
theorem Qhr:ty lay 260=some mK:=rfl
theorem Qhs:ty lay 261=some mL:=rfl
theorem Qht:ty lay 262=some mM:=rfl
theorem Qhu:ty lay 263=some mN:=rfl
theorem Qhv:ty lay 264=some mO:=rfl
theorem Qhw:ty lay 265=some mP:=rfl
theorem Qhx:ty lay 266=some mQ:=rfl
theorem Qhy:ty lay 267=some mR:=rfl
theorem Qhz:ty lay 268=some mS:=rfl
theorem QhA:ty lay 269=some mT:=rfl
theorem QhB:ty lay 270=some mU:=rfl
theorem QhC:ty lay 271=some mV:=rfl
theorem QhD:ty lay 272=some mW:=rfl
theorem QhE:ty lay 273=some mX:=rfl
theorem QhF:ty lay 274=some mY:=rfl
theorem QhG:ty lay 275=some mZ:=rfl
theorem QhH:ty lay 276=some m4:=rfl
theorem QhI:ty lay 277=some m5:=rfl
theorem QhJ:ty lay 278=some m6:=rfl
theorem QhK:ty lay 279=some m7:=rfl
theorem QhL:ty lay 280=some m8:=rfl
theorem QhM:ty lay 281=some m9:=rfl
theorem QhN:ty lay 282=some ng:=rfl
theorem QhO:ty lay 283=some nh:=rfl
theorem QhP:ty lay 287=some ni:=rfl
theorem QhQ:ty lay 288=some nj:=rfl
theorem QhR:ty lay 289=some np:=rfl
theorem QhS:ty lay 291=some ns:=rfl
theorem QhT:ty lay 293=some nu:=rfl
theorem QhU:ty lay 294=some nv:=rfl
theorem QhV:ty lay 295=some nw:=rfl
theorem QhW:ty lay 296=some ny:=rfl
theorem QhX:ty lay 297=some nz:=rfl
theorem QhY:ty lay 298=some nA:=rfl
theorem QhZ:ty lay 299=some nB:=rfl
theorem Qh0:ty lay 301=some nC:=rfl
theorem Qh1:ty lay 304=some nD:=rfl
theorem Qh2:ty lay 305=some nE:=rfl
theorem Qh3:ty lay 306=some nF:=rfl
theorem Qh4:ty lay 307=some nG:=rfl
theorem Qh5:ty lay 308=some nH:=rfl
theorem Qh6:ty lay 315=some nI:=rfl
theorem Qh7:ty lay 323=some nJ:=rfl
theorem Qh8:ty lay 332=some nK:=rfl
theorem Qh9:ty lay 339=some nN:=rfl
theorem Qia:ty lay 358=some nO:=rfl
theorem Qib:ty lay 365=some nP:=rfl
theorem Qic:ty lay 366=some nQ:=rfl
theorem Qid:ty lay 369=some nR:=rfl
theorem Qie:ty lay 378=some nS:=rfl
def Af:yQ:=[(33,[0,0,0,0,0,0]),(60,[0,0,0]),(62,[0,0,1,0,0,0,0,0,0,0,0,0,0,0]),(64,[0,0]),(78,[0,0,1,0,0,0,0,0,0,0,0,0,0,0,1,0,1,0,0,0,0,0,0,0,0,1,0,0,0,0,0,0,0,0,1,0,0,0,1,0,0,0,0,0,0,0,0,1,0,1,0,0,0,0,0,0,0,0,1,0,0,0,0,0,0,0,0]),(192,[0,0])]
theorem nU {P:Program}:∀{E:yQ},E.map (fun p=>XJ P 60 p.1)=E.map (fun p=>some p.2)→E.map (fun p=>P.eqGuardType P.depth p.1)=E.map (fun _=>false)→E.map (fun p=>match P.underlying p.1 with|some (.struct _)|some (.array _ _)=>true|_=>false)=E.map (fun _=>true)→xj P E
 | [],_,_,_=>.nil _
 | (_,_)::_,h1,h2,h3=>.cons ⟨(List.cons.inj h1).1,(List.cons.inj h2).1,(List.cons.inj h3).1⟩ (nU (List.cons.inj h1).2 (List.cons.inj h2).2 (List.cons.inj h3).2)
theorem Qif:xj prog Af:=nU (by kernel_rfl) (by kernel_rfl) (by kernel_rfl)
theorem E33:kf Af 33=some [0,0,0,0,0,0]:=rfl
theorem E60:kf Af 60=some [0,0,0]:=rfl
theorem E62:kf Af 62=some [0,0,1,0,0,0,0,0,0,0,0,0,0,0]:=rfl
theorem E64:kf Af 64=some [0,0]:=rfl
theorem E78:kf Af 78=some [0,0,1,0,0,0,0,0,0,0,0,0,0,0,1,0,1,0,0,0,0,0,0,0,0,1,0,0,0,0,0,0,0,0,1,0,0,0,1,0,0,0,0,0,0,0,0,1,0,1,0,0,0,0,0,0,0,0,1,0,0,0,0,0,0,0,0]:=rfl
theorem Qil:kf Af 192=some [0,0]:=rfl
def cx:Cx:=⟨lay,Af⟩
theorem Qe:W0 prog cx:=⟨vX,Qif⟩
theorem kF:Qp prog 9:=fun a w=>call9 a w
theorem BL:Qp prog 10:=fun a w=>call10 a w
theorem qE:Qp prog 11:=fun a w=>call11 a w
theorem Rq:Qp prog 12:=fun a w=>call12 a w
theorem MH:Qp prog 13:=fun a w=>call13 a w
theorem DQ:Qp prog 14:=fun a w=>call14 a w
theorem Rr:Qp prog 15:=fun a w=>call15 a w
theorem DS:Qp prog 16:=fun a w=>call16 a w
theorem MI:Qp prog 17:=fun a w=>call17 a w
theorem Rs:Qp prog 18:=fun a w=>call18 a w
theorem Rt:Qp prog 19:=fun a w=>call19 a w
theorem nV:Qp prog 20:=fun a w=>call20 a w
theorem Gy:Qp prog 21:=fun a w=>call21 a w
theorem nW:Qp prog 22:=fun a w=>call22 a w
theorem Ru:Qp prog 23:=fun a w=>call23 a w
theorem Rv:Qp prog 24:=fun a w=>call24 a w
theorem nX:Qp prog 31:=fun a w=>call31 a w
theorem Qim:Qp prog 32:=fun a w=>call32 a w
theorem Rw:Qp prog 33:=fun a w=>call33 a w
theorem nY:Qp prog 34:=fun a w=>call34 a w
theorem Qin:Qp prog 35:=fun a w=>call35 a w
theorem Qio:Qp prog 36:=fun a w=>call36 a w
theorem MJ:Qp prog 37:=fun a w=>call37 a w
theorem Qip:Qp prog 38:=fun a w=>call38 a w
theorem Rx:Qp prog 39:=fun a w=>call39 a w
theorem Qiq:Qp prog 40:=fun a w=>call40 a w
theorem Ag:Qp prog 41:=fun a w=>call41 a w
theorem Qir:Qp prog 42:=fun a w=>call42 a w
theorem Ry:Qp prog 43:=fun a w=>call43 a w
theorem Qis:Qp prog 44:=fun a w=>call44 a w
theorem Qit:Qp prog 45:=fun a w=>call45 a w
theorem nZ:Qp prog 46:=fun a w=>call46 a w
theorem n4:Qp prog 47:=fun a w=>call47 a w
theorem Qiu:Qp prog 48:=fun a w=>call48 a w
theorem Qiv:Qp prog 49:=fun a w=>call49 a w
theorem Qiw:Qp prog 50:=fun a w=>call50 a w
theorem n8:Qp prog 51:=fun a w=>call51 a w
theorem Gz:Qp prog 52:=fun a w=>call52 a w
theorem Qix:Qp prog 53:=fun a w=>call53 a w
theorem Rz:Qp prog 54:=fun a w=>call54 a w
theorem RC:Qp prog 55:=fun a w=>call55 a w
theorem YQ:Qp prog 56:=fun a w=>call56 a w
theorem Qiy:Qp prog 57:=fun a w=>call57 a w
theorem RD:Qp prog 58:=fun a w=>call58 a w
theorem Qiz:Qp prog 59:=fun a w=>call59 a w
theorem n9:Qp prog 60:=fun a w=>call60 a w
theorem MK:Qp prog 61:=fun a w=>call61 a w
theorem QiA:Qp prog 62:=fun a w=>call62 a w
theorem Ah:Qp prog 63:=fun a w=>call63 a w
theorem oa:Qp prog 64:=fun a w=>call64 a w
theorem QiB:Qp prog 65:=fun a w=>call65 a w
theorem QiC:Qp prog 66:=fun a w=>call66 a w
theorem oc:Qp prog 101:=fun a w=>call101 a w
theorem od:Qp prog 102:=fun a w=>call102 a w
theorem RE:Qp prog 103:=fun a w=>call103 a w
theorem oe:Qp prog 104:=fun a w=>call104 a w
theorem QiD:Qp prog 105:=fun a w=>call105 a w
theorem QiE:Qp prog 106:=fun a w=>call106 a w
theorem QiF:Qp prog 107:=fun a w=>call107 a w
theorem RF:Qp prog 108:=fun a w=>call108 a w
theorem ML:Qp prog 109:=fun a w=>call109 a w
theorem kG:Qp prog 110:=fun a w=>call110 a w
theorem vY:Qp prog 111:=fun a w=>call111 a w
theorem QiG:Qp prog 112:=fun a w=>call112 a w
theorem og:Qp prog 113:=fun a w=>call113 a w
theorem QiH:Qp prog 114:=fun a w=>call114 a w
theorem oh:Qp prog 115:=fun a w=>call115 a w
theorem oo:Qp prog 116:=fun a w=>call116 a w
theorem QiI:Qp prog 117:=fun a w=>call117 a w
theorem oq:Qp prog 118:=fun a w=>call118 a w
theorem QiJ:Qp prog 119:=fun a w=>call119 a w
theorem QiK:Qp prog 120:=fun a w=>call120 a w
theorem ot:Qp prog 121:=fun a w=>call121 a w
theorem YR:Qp prog 122:=fun a w=>call122 a w
theorem QiL:Qp prog 123:=fun a w=>call123 a w
theorem QiM:Qp prog 124:=fun a w=>call124 a w
theorem QiN:Qp prog 125:=fun a w=>call125 a w
theorem QiO:Qp prog 126:=fun a w=>call126 a w
theorem QiP:Qp prog 127:=fun a w=>call127 a w
theorem QiQ:Qp prog 128:=fun a w=>call128 a w
theorem QiR:Qp prog 129:=fun a w=>call129 a w
theorem QiS:Qp prog 130:=fun a w=>call130 a w
theorem QiT:Qp prog 131:=fun a w=>call131 a w
theorem MM:Qp prog 132:=fun a w=>call132 a w
theorem ou:Qp prog 133:=fun a w=>call133 a w
theorem GB:Qp prog 134:=fun a w=>call134 a w
theorem QiU:Qp prog 135:=fun a w=>call135 a w
theorem QiV:Qp prog 136:=fun a w=>call136 a w
theorem QiW:Qp prog 137:=fun a w=>call137 a w
theorem ov:Qp prog 138:=fun a w=>call138 a w
theorem QiX:Qp prog 139:=fun a w=>call139 a w
theorem QiY:Qp prog 140:=fun a w=>call140 a w
theorem QiZ:Qp prog 141:=fun a w=>call141 a w
theorem RG:Qp prog 142:=fun a w=>call142 a w
theorem Qi0:Qp prog 143:=fun a w=>call143 a w
theorem ox:Qp prog 144:=fun a w=>call144 a w
theorem oy:Qp prog 164:=fun a w=>call164 a w
theorem oz:Qp prog 165:=fun a w=>call165 a w
theorem DT:Qp prog 166:=fun a w=>call166 a w
theorem Qi1:Qp prog 167:=fun a w=>call167 a w
theorem RH:Qp prog 168:=fun a w=>call168 a w
theorem oA:Qp prog 169:=fun a w=>call169 a w
theorem Qi2:Qp prog 170:=fun a w=>call170 a w
theorem MN:Qp prog 171:=fun a w=>call171 a w
theorem MO:Qp prog 172:=fun a w=>call172 a w
theorem RI:Qp prog 173:=fun a w=>call173 a w
theorem RJ:Qp prog 174:=fun a w=>call174 a w
theorem RK:Qp prog 175:=fun a w=>call175 a w
theorem oB:Qp prog 176:=fun a w=>call176 a w
theorem oC:Qp prog 177:=fun a w=>call177 a w
theorem MP:Qp prog 178:=fun a w=>call178 a w
theorem MQ:Qp prog 179:=fun a w=>call179 a w
theorem RL:Qp prog 180:=fun a w=>call180 a w
theorem oD:Qp prog 181:=fun a w=>call181 a w
theorem xH:Qp prog 182:=fun a w=>call182 a w
theorem Qi3:Qp prog 183:=fun a w=>call183 a w
theorem Qi4:Qp prog 184:=fun a w=>call184 a w
theorem Qi5:Qp prog 185:=fun a w=>call185 a w
theorem Qi6:Qp prog 186:=fun a w=>call186 a w
theorem MS:Qp prog 187:=fun a w=>call187 a w
theorem oE:Qp prog 188:=fun a w=>call188 a w
theorem oF:Qp prog 189:=fun a w=>call189 a w
theorem oG:Qp prog 191:=fun a w=>call191 a w
theorem Qi7:Qp prog 192:=fun a w=>call192 a w
theorem Qi8:Qp prog 193:=fun a w=>call193 a w
theorem Qi9:Qp prog 194:=fun a w=>call194 a w
theorem xI:Qp prog 206:=fun a w=>call206 a w
theorem RM:Qp prog 207:=fun a w=>call207 a w
theorem RN:Qp prog 208:=fun a w=>call208 a w
theorem RO:Qp prog 209:=fun a w=>call209 a w
theorem Qja:Qp prog 210:=fun a w=>call210 a w
theorem oH:Qp prog 211:=fun a w=>call211 a w
theorem oI:Qp prog 212:=fun a w=>call212 a w
theorem GC:Qp prog 213:=fun a w=>call213 a w
theorem Qjb:Qp prog 214:=fun a w=>call214 a w
theorem vZ:Qp prog 215:=fun a w=>call215 a w
theorem Qjc:Qp prog 216:=fun a w=>call216 a w
theorem oJ:Qp prog 217:=fun a w=>call217 a w
theorem GD:Qp prog 218:=fun a w=>call218 a w
theorem oK:Qp prog 219:=fun a w=>call219 a w
theorem MT:Qp prog 220:=fun a w=>call220 a w
theorem DU:Qp prog 221:=fun a w=>call221 a w
theorem Qjd:Qp prog 222:=fun a w=>call222 a w
theorem Qje:Qp prog 223:=fun a w=>call223 a w
theorem Qjf:Qp prog 224:=fun a w=>call224 a w
theorem DV:Qp prog 225:=fun a w=>call225 a w
theorem Qjg:Qp prog 226:=fun a w=>call226 a w
theorem Qjh:Qp prog 227:=fun a w=>call227 a w
theorem Qji:Qp prog 228:=fun a w=>call228 a w
theorem oL:Qp prog 229:=fun a w=>call229 a w
theorem Qjj:Qp prog 230:=fun a w=>call230 a w
theorem Qjk:Qp prog 231:=fun a w=>call231 a w
theorem Qjl:Qp prog 242:=fun a w=>call242 a w
theorem oM:Qp prog 258:=fun a w=>call258 a w
theorem oN:Qp prog 259:=fun a w=>call259 a w
theorem oO:Qp prog 260:=fun a w=>call260 a w
theorem oP:Qp prog 261:=fun a w=>call261 a w
theorem oQ:Qp prog 262:=fun a w=>call262 a w
theorem RP:Qp prog 263:=fun a w=>call263 a w
theorem Yl:Qp prog 264:=fun a w=>call264 a w
theorem oR:Qp prog 265:=fun a w=>call265 a w
theorem oS:Qp prog 266:=fun a w=>call266 a w
theorem MU:Qp prog 267:=fun a w=>call267 a w
theorem oT:Qp prog 268:=fun a w=>call268 a w
theorem Qjm:Qp prog 269:=fun a w=>call269 a w
theorem Qjn:Qp prog 270:=fun a w=>call270 a w
theorem Qjo:Qp prog 271:=fun a w=>call271 a w
theorem Qjp:Qp prog 272:=fun a w=>call272 a w
theorem oU:Qp prog 273:=fun a w=>call273 a w
theorem Qjq:Qp prog 274:=fun a w=>call274 a w
theorem Qjr:Qp prog 275:=fun a w=>call275 a w
theorem Qjs:Qp prog 276:=fun a w=>call276 a w
theorem Qjt:Qp prog 278:=fun a w=>call278 a w
theorem Qju:Qp prog 279:=fun a w=>call279 a w
theorem DW:Qp prog 287:=fun a w=>call287 a w
theorem RQ:Qp prog 288:=fun a w=>call288 a w
theorem Qjv:Qp prog 293:=fun a w=>call293 a w
theorem Qjw:Qp prog 294:=fun a w=>call294 a w
theorem Qjx:Qp prog 295:=fun a w=>call295 a w
theorem Qjy:Qp prog 296:=fun a w=>call296 a w
theorem Qjz:Qp prog 297:=fun a w=>call297 a w
theorem QjA:Qp prog 298:=fun a w=>call298 a w
theorem YS:Qp prog 299:=fun a w=>call299 a w
theorem QjB:Qp prog 300:=fun a w=>call300 a w
theorem QjC:Qp prog 301:=fun a w=>call301 a w
theorem oV:Qp prog 304:=fun a w=>call304 a w
theorem RR:Qp prog 305:=fun a w=>call305 a w
theorem RS:Qp prog 306:=fun a w=>call306 a w
theorem QjD:Qp prog 307:=fun a w=>call307 a w
theorem RU:Qp prog 308:=fun a w=>call308 a w
attribute [go_sem] cx L1 L2 L3 L4 L5 L9 L12 L17 L20 L21 L22 L23 L24 L25 L26 L27 L28 L29 L30 L31 L32 L33 L34 L35 L36 L37 L38 L40 L41 L42 L43 L45 L46 L47 L48 L49 L51 L52 L53 L54 L55 L56 L57 L58 L59 L60 L61 L62 L63 L64 L65 L66 L67 L68 L70 L72 L73 L74 L76 L78 L81 L82 L88 L90 L94 L97 L98 L99 Qfw Qfx Qfy Qfz QfA QfB QfC QfD QfE QfF QfG QfH QfI QfJ QfK QfL QfM QfN QfO QfP QfQ QfR QfS QfT QfU QfV QfW QfX QfY QfZ Qf0 Qf1 Qf2 Qf3 Qf4 Qf5 Qf6 Qf7 Qf8 Qf9 Qga Qgb Qgc Qgd Qge Qgf Qgg Qgh Qgi Qgj Qgk Qgl Qgm Qgn Qgo Qgp Qgq Qgr Qgs Qgt Qgu Qgv Qgw Qgx Qgy Qgz QgA QgB QgC QgD QgE QgF QgG QgH QgI QgJ QgK QgL QgM QgN QgO QgP QgQ QgR QgS QgT QgU QgV QgW QgX QgY QgZ Qg0 Qg1 Qg2 Qg3 Qg4 Qg5 Qg6 Qg7 Qg8 Qg9 Qha Qhb Qhc Qhd Qhe Qhf Qhg Qhh Qhi Qhj Qhk Qhl Qhm Qhn Qho Qhp Qhq Qhr Qhs Qht Qhu Qhv Qhw Qhx Qhy Qhz QhA QhB QhC QhD QhE QhF QhG QhH QhI QhJ QhK QhL QhM QhN QhO QhP QhQ QhR QhS QhT QhU QhV QhW QhX QhY QhZ Qh0 Qh1 Qh2 Qh3 Qh4 Qh5 Qh6 Qh7 Qh8 Qh9 Qia Qib Qic Qid Qie E33 E60 E62 E64 E78 Qil
theorem Qc {base nt} {w0:Start} {Q} {k} {s} (hb:base≤w0.w.heap.size) (h:hx prog base w0 Q cx nt 200 k s):Qs prog base nt w0 Q k .normal s:=BE Qe hb 200 h
theorem QF {base nt} {w0:Start} {K} {l} {s} (hb:base≤w0.w.heap.size) (h:Jh prog base w0 cx nt K l s):AX prog base nt w0 K l s:=Qd3 Qe hb h
end Go.Fg.X
namespace Go.Fg
open Go.RowKit (Below)
def Rd (P:Program) (t:TypeId) {α:Type} (ok:α→Prop) (enc:α→List D):Prop:=
 ∀{H:Type} {en:TypeId × Value→H} {w:World} {base:Nat} {held:Bool} (m:Nat) (cs:List Value) (x:DataW H × List MemPlace),DataW.trod en P w base (fun _=>true) held m t cs=some x →
  ∃a,ok a∧(enc a).length=cs.length∧∀j,j<cs.length→Cl (fun _=>True) w (nth (enc a) j) (QL cs j)
theorem Rd.int {P:Program} {t:TypeId} (k:IntKind) (ht:P.underlying t=some (.int k)):Rd P t (fun n:Int=>(Lit.int k n).wf=true) (fun n=>[.raw (.int k n)]):=by
 intro H en w base held m cs x h
 obtain⟨n,rfl,_,hw⟩:=DataW.trod_int ht h
 refine⟨n,hw,rfl,fun j hj=>?_⟩
 obtain rfl:j=0:=by simpa using hj
 exact .raw _
theorem Rd.bool {P:Program} {t:TypeId} (ht:P.underlying t=some .bool):Rd P t (fun _:Bool=>True) (fun n=>[.raw (.bool n)]):=by
 intro H en w base held m cs x h
 obtain⟨n,rfl,_⟩:=DataW.trod_bool ht h
 refine⟨n,trivial,rfl,fun j hj=>?_⟩
 obtain rfl:j=0:=by simpa using hj
 exact .raw _
theorem Rd.str {P:Program} {t:TypeId} (ht:P.underlying t=some .string):Rd P t (fun s:ByteArray=>s.size≤maxLen) (fun n=>[.raw (.string n)]):=by
 intro H en w base held m cs x h
 obtain⟨n,rfl,_,hw⟩:=DataW.trod_string ht h
 refine⟨n,hw,rfl,fun j hj=>?_⟩
 obtain rfl:j=0:=by simpa using hj
 exact .raw _
theorem Rd.map {P:Program} {t:TypeId} {α β:Type} {ok:α→Prop} {enc:α→List D} (r:Rd P t ok enc) (g:α→β) {Ai:β→Prop} {Xq:β→List D} (he:∀a,Xq (g a)=enc a) (ho:∀a,ok a→Ai (g a)):Rd P t Ai Xq:=by
 intro H en w base held m cs x h
 obtain⟨a,h1,h2,h3⟩:=r m cs x h
 exact⟨g a,ho a h1,by rw[he];exact h2,by rw[he];exact h3⟩
def JM (P:Program) (fs:List Field) (off ZM:Nat) {α:Type} (ok:α→Prop) (enc:α→List D):Prop:=
 ∀{H:Type} {en:TypeId × Value→H} {w:World} {base:Nat} {held:Bool} (m:Nat) (cs:List Value),cs.length=ZM →
  (∀f∈fs,∃x,DataW.trod en P w base (fun _=>true) held m f.type ((cs.drop f.offset).take (P.cellsOf f.type))=some x) →
  ∃a,ok a∧off+(enc a).length=ZM∧∀j,off+j<ZM→Cl (fun _=>True) w (nth (enc a) j) (QL cs (off+j))
theorem JM.nil {P:Program} {ZM:Nat}:JM P [] ZM ZM (fun _:Unit=>True) (fun _=>[]):=by
 intro H en w base held m cs hl h
 exact⟨(),trivial,rfl,fun j hj=>by omega⟩
theorem JM.cons {P:Program} {f:Field} {fs:List Field} {off FD ZM:Nat} {α β:Type} {ok:α→Prop} {enc:α→List D} {Ai:β→Prop} {Xq:β→List D} (r:Rd P f.type ok enc) (rs:JM P fs FD ZM Ai Xq)
  (ho:f.offset=off) (hc:off+P.cellsOf f.type=FD) (ht:FD≤ZM):JM P (f::fs) off ZM (fun ab:α × β=>ok ab.1∧Ai ab.2) (fun ab=>enc ab.1++Xq ab.2):=by
 intro H en w base held m cs hl h
 obtain⟨x,hx⟩:=h f (by simp)
 obtain⟨a,a1,a2,a3⟩:=r m _ x hx
 obtain⟨b,b1,b2,b3⟩:=rs m cs hl fun g hg=>h g (by simp [hg])
 have hlen:((cs.drop f.offset).take (P.cellsOf f.type)).length=P.cellsOf f.type:=by simp;omega
 rw[hlen]at a2 a3
 refine⟨(a,b),⟨a1,b1⟩,by simp;omega,fun j hj=>?_⟩
 by_cases h1:j<P.cellsOf f.type
 ·have:=a3 j h1
  have e1:nth (enc a++Xq b) j=nth (enc a) j:=PC (by omega)
  have e2:QL ((cs.drop f.offset).take (P.cellsOf f.type)) j=QL cs (off+j):=by
   simp only[QL,List.getD_eq_getElem?_getD,List.getElem?_take,if_pos h1,List.getElem?_drop,ho]
  show Cl _ w (nth (enc a++Xq b) j) _
  rw[e1,← e2];exact this
 ·have e1:nth (enc a++Xq b) j=nth (Xq b) (j - P.cellsOf f.type):=by rw[PD (by omega),a2]
  have:=b3 (j - P.cellsOf f.type) (by omega)
  show Cl _ w (nth (enc a++Xq b) j) _
  rw[e1,show off+j=FD+(j - P.cellsOf f.type) by omega];exact this
theorem Rd.struct {P:Program} {t:TypeId} {fs:Array Field} {ZM:Nat} {α:Type} {ok:α→Prop} {enc:α→List D} (ht:P.underlying t=some (.struct fs)) (hc:P.cellsOf t=ZM) (r:JM P fs.toList 0 ZM ok enc):Rd P t ok enc:=by
 intro H en w base held m cs x h
 obtain⟨xs,m',rfl,_,hl,XK,hf⟩:=DataW.trod_struct ht h
 obtain⟨a,a1,a2,a3⟩:=r m' cs (by omega) fun f hf'=>by
  obtain⟨i,hi⟩:=List.getElem?_of_mem hf'
  have ZH:fs[i]? = some f:=by simpa using hi
  have Qd:i<xs.length:=by rw[XK];exact(Array.getElem?_eq_some_iff.1 ZH).1
  exact⟨xs[i],by rw[hf i f ZH];exact List.getElem?_eq_getElem Qd⟩
 exact⟨a,a1,by omega,fun j hj=>by have:=a3 j (by omega);rwa [Nat.zero_add]at this⟩
def kH (P:Program) (e:TypeId) (i n:Nat) {α:Type} (ok:α→Prop) (enc:α→List D):Prop:=
 ∀{H:Type} {en:TypeId × Value→H} {w:World} {base:Nat} {held:Bool} (m:Nat) (cs:List Value),cs.length=n*P.cellsOf e →
  (∀k,k<n→∃x,DataW.trod en P w base (fun _=>true) held m e ((cs.drop (k*P.cellsOf e)).take (P.cellsOf e))=some x) →
  ∃a,ok a∧i*P.cellsOf e+(enc a).length=n*P.cellsOf e∧∀j,i*P.cellsOf e+j<n*P.cellsOf e→Cl (fun _=>True) w (nth (enc a) j) (QL cs (i*P.cellsOf e+j))
theorem kH.nil {P:Program} {e:TypeId} {n:Nat}:kH P e n n (fun _:Unit=>True) (fun _=>[]):=by
 intro H en w base held m cs hl h
 exact⟨(),trivial,rfl,fun j hj=>by omega⟩
theorem kH.cons {P:Program} {e:TypeId} {i n:Nat} {α β:Type} {ok:α→Prop} {enc:α→List D} {Ai:β→Prop} {Xq:β→List D} (hi:i<n) (r:Rd P e ok enc) (rs:kH P e (i+1) n Ai Xq) :
  kH P e i n (fun ab:α × β=>ok ab.1∧Ai ab.2) (fun ab=>enc ab.1++Xq ab.2):=by
 intro H en w base held m cs hl h
 obtain⟨x,hx⟩:=h i hi
 obtain⟨a,a1,a2,a3⟩:=r m _ x hx
 obtain⟨b,b1,b2,b3⟩:=rs m cs hl h
 have hm:=Nat.mul_le_mul_right (P.cellsOf e) (show i+1≤n from hi)
 rw[Nat.add_mul,Nat.one_mul]at hm
 rw[Nat.add_mul,Nat.one_mul]at b2 b3
 have hlen:((cs.drop (i*P.cellsOf e)).take (P.cellsOf e)).length=P.cellsOf e:=by simp;omega
 rw[hlen]at a2 a3
 refine⟨(a,b),⟨a1,b1⟩,by simp;omega,fun j hj=>?_⟩
 by_cases h1:j<P.cellsOf e
 ·have:=a3 j h1
  have e1:nth (enc a++Xq b) j=nth (enc a) j:=PC (by omega)
  have e2:QL ((cs.drop (i*P.cellsOf e)).take (P.cellsOf e)) j=QL cs (i*P.cellsOf e+j):=by
   simp only[QL,List.getD_eq_getElem?_getD,List.getElem?_take,if_pos h1,List.getElem?_drop]
  show Cl _ w (nth (enc a++Xq b) j) _
  rw[e1,← e2];exact this
 ·have e1:nth (enc a++Xq b) j=nth (Xq b) (j - P.cellsOf e):=by rw[PD (by omega),a2]
  have:=b3 (j - P.cellsOf e) (by omega)
  show Cl _ w (nth (enc a++Xq b) j) _
  rw[e1,show i*P.cellsOf e+j=i*P.cellsOf e+P.cellsOf e+(j - P.cellsOf e) by omega];exact this
theorem Rd.array {P:Program} {t e:TypeId} {n:Nat} {α:Type} {ok:α→Prop} {enc:α→List D} (ht:P.underlying t=some (.array n e)) (hc:P.cellsOf t=n*P.cellsOf e) (r:kH P e 0 n ok enc):Rd P t ok enc:=by
 intro H en w base held m cs x h
 obtain⟨xs,m',rfl,_,hl,XK,hf⟩:=DataW.trod_array ht h
 obtain⟨a,a1,a2,a3⟩:=r m' cs (by omega) fun k hk=>by
  have Qd:k<xs.length:=by omega
  exact⟨xs[k],by rw[hf k hk];exact List.getElem?_eq_getElem Qd⟩
 simp only[Nat.zero_mul,Nat.zero_add]at a2 a3
 exact⟨a,a1,by omega,fun j hj=>a3 j (by omega)⟩
theorem Rd.slice {P:Program} {t e:TypeId} {α:Type} [Inhabited α] {ok:α→Prop} {enc:α→List D} (sz:Nat) (ht:P.underlying t=some (.slice e)) (hc:P.cellsOf e=sz) (j9:0<sz) (r:Rd P e ok enc) :
  Rd P t (fun l:List α=>l.length≤maxLen∧∀a∈l,ok a) (fun l=>[.imm sz l.length fun i=>enc (l.getD i default)]):=by
 intro H en w base held m cs x h
 rcases Deep.open_slice ht h with ⟨rfl,_⟩|⟨a,len,cap,m,n',D',Pl,rfl,hb,hl,hm,MV,_,hel⟩
 ·refine⟨[],⟨by simp,by simp⟩,rfl,fun j hj=>?_⟩
  obtain rfl:j=0:=by simpa using hj
  exact .imm _ _ _ _ _ 0 0 (fun _ _=>Go.undef) (fun h=>by simp at h) (by simp) (fun i hi=>by simp at hi) (fun i j hi=>by simp at hi) (fun i j hi=>by simp at hi)
 ·simp only[if_true]at MV
  have key:∀i,∃ac:α × List Value,i<len→ok ac.1∧(enc ac.1).length=sz∧ac.2.length=sz∧(∀j,j<sz→w.cell? (a.add (i*sz+j))=some (QL ac.2 j))∧∀j,j<sz→Cl (fun _=>True) w (nth (enc ac.1) j) (QL ac.2 j):=fun i=>by
   by_cases hi:i<len
   ·obtain⟨Zx,h1,h2⟩:=hel i (by omega)
    obtain⟨x,hx,XK,MW⟩:=r n' Zx _ h2
    obtain⟨_,hlen,vE⟩:=World.cells?_some h1
    have Jf:Zx.length=sz:=by omega
    refine⟨(x,Zx),fun _=>⟨hx,(by show (enc x).length=sz;omega),Jf,fun j hj=>?_,fun j hj=>MW j (by omega)⟩⟩
    have:=vE j (by omega)
    rw[Deep.add_add,hc]at this
    rw[this]
    simp [QL,List.getD_eq_getElem?_getD,List.getElem?_eq_getElem (show j<Zx.length by omega)]
   ·exact⟨(default,[]),fun h=>absurd h hi⟩
  obtain⟨f,hf⟩:=Classical.axiomOfChoice key
  have hlen:((List.range len).map fun i=>(f i).1).length=len:=by simp
  have Wf:∀i,i<len→((List.range len).map fun i=>(f i).1).getD i default=(f i).1:=fun i hi=>by simp [List.getD_eq_getElem?_getD,hi]
  refine⟨(List.range len).map fun i=>(f i).1,⟨by rw[hlen];omega,fun x hx=>?_⟩,rfl,fun j hj=>?_⟩
  ·obtain⟨i,hi,rfl⟩:=List.mem_map.1 hx
   exact(hf i (List.mem_range.1 hi)).1
  ·obtain rfl:j=0:=by simpa using hj
   show Cl _ w (.imm sz ((List.range len).map fun i=>(f i).1).length fun i=>enc (((List.range len).map fun i=>(f i).1).getD i default)) (.slice (some a) len cap)
   rw[hlen]
   have oW:0<len→a=⟨a.block,a.off,none⟩:=fun h0=>by
    have h1:=(hf 0 h0).2.2.2.1 0 j9
    have h2:=World.cell?_spot h1
    obtain⟨b,o,sp⟩:=a
    simp [Addr.add]at h2
    subst h2;rfl
   refine .imm _ _ _ _ _ a.block a.off (fun i j=>QL (f i).2 j) (fun h0=>by rw[← oW h0]) hl (fun i hi=>?_) (fun i j hi hj=>⟨trivial,?_⟩) (fun i j hi hj=>?_)
   ·rw[Wf i hi];exact(hf i hi).2.1
   ·have h1:=(hf i hi).2.2.2.1 j hj
    rw[oW (by omega)]at h1
    rw[← h1]
    congr 1
    simp only[Addr.add]
    split<;>simp_all
   ·rw[Wf i hi];exact(hf i hi).2.2.2.2 j hj
theorem Rd.one {P:Program} {t:TypeId} {α:Type} {ok:α→Prop} {enc:α→D} (r:Rd P t ok fun a=>[enc a]) {H:Type} {en:TypeId × Value→H} {w:World} {base:Nat} {held:Bool} {v:Value} {d:DataW H} {ps:List MemPlace}
  (h:DataW.Trod en P w base (fun _=>true) held t v d ps) (hv:v.cells.toList=[v]):∃a,ok a∧Cl (fun _=>True) w (enc a) v:=by
 obtain⟨m,hm⟩:=h
 rw[hv]at hm
 obtain⟨a,h1,h2,h3⟩:=r m _ _ hm
 exact⟨a,h1,h3 0 (by simp)⟩
theorem Rd.many {P:Program} {t:TypeId} {α:Type} {ok:α→Prop} {enc:α→List D} (r:Rd P t ok enc) {H:Type} {en:TypeId × Value→H} {w:World} {base:Nat} {held:Bool} {cs:Array Value} {d:DataW H} {ps:List MemPlace}
  (h:DataW.Trod en P w base (fun _=>true) held t (.agg cs) d ps):∃a,ok a∧Cl (fun _=>True) w (.agg (enc a)) (.agg cs):=by
 obtain⟨m,hm⟩:=h
 have e:(Value.agg cs).cells.toList=cs.toList:=rfl
 rw[e]at hm
 obtain⟨a,h1,h2,h3⟩:=r m _ _ hm
 have:=Cl.agg (N:=fun _=>True) (w:=w) (enc a) cs.toList h2.symm (fun i hi=>h3 i (by omega))
 exact⟨a,h1,by simpa using this⟩
theorem RV (a:Option Addr) (l c:Nat):(Value.slice a l c).cells.toList=[Value.slice a l c]:=by simp [Value.cells]
theorem oX (k:IntKind) (n:Int):(Value.int k n).cells.toList=[Value.int k n]:=by simp [Value.cells]
theorem RW {P:Program} {f:FuncId} {ds:List D} (h:Q8 P f ds fun d h=>d=.raw (.bool true)∧h=[]) (W:World) (vs:List Value) (hl:vs.length=ds.length) (hc:∀i,i<ds.length→Cl (fun _=>True) W (nth ds i) (QL vs i)) :
  Calls P f vs.toArray W fun e W'=>e=.returned (.bool true)∧Below W.heap.size W W':=by
 refine(h (fun _=>True) W.heap.size W [] vs (Nat.le_refl _) (fun _ _=>trivial) ⟨rfl,fun l l' b q q' e=>by simp at e,fun l o e=>by simp at e,fun l o b q e=>by simp at e⟩ hl (fun i hi=>.cl _ _ ((hc i hi).mono fun b _ _=>⟨⟨trivial,fun l q e=>by simp at e⟩,rfl⟩))).mono fun e W' he=>?_
 obtain⟨v,d,h',Qi,rfl,⟨rfl,rfl⟩,_,hv,_,hb⟩:=he
 rw[ZD hv];exact⟨rfl,hb⟩
end Go.Fg
namespace Go.Fg.X
open Go.Proofs Go.Fg
open Go.Proofs.Tryz
def oY (k:IntKind) (l:List Int):Nat→List D:=fun i=>[.raw (.int k (l.getD i 0))]
@[go_sem] theorem QjG (k:IntKind) (l:List Int) (i:Nat):oY k l i=[.raw (.int k (l.getD i 0))]:=rfl
structure Cf where
 t:Int
 K9:Int
instance:Inhabited Cf:=⟨⟨0,0⟩⟩
@[go_sem] def Cf.cells (x:Cf):List D:=[.raw (.int .i64 x.t),.raw (.int .i64 x.K9)]
def Cf.rows (l:List Cf):Nat→List D:=fun i=>(l.getD i default).cells
@[go_sem] theorem Cf.v7 (l:List Cf) (i:Nat):Cf.rows l i=(l.getD i default).cells:=rfl
def Cf.Ok (x:Cf):Prop:=(Lit.int .i64 x.t).wf=true∧(Lit.int .i64 x.K9).wf=true∧True
theorem RX:Rd prog 23 Cf.Ok Cf.cells:=
 Rd.map (Rd.struct (ZM:=2) underlying23 (by kernel_rfl) (JM.cons (Rd.int .i64 underlying3) (JM.cons (Rd.int .i64 underlying3) JM.nil rfl (by kernel_rfl) (by decide)) rfl (by kernel_rfl) (by decide))) (fun p=>⟨p.1,p.2.1⟩) (fun _=>rfl) (fun _ h=>⟨h.1,h.2.1,trivial⟩)
structure Cv where
 m1:Int
 d:Int
 m2:Int
instance:Inhabited Cv:=⟨⟨0,0,0⟩⟩
@[go_sem] def Cv.cells (x:Cv):List D:=[.raw (.int .u64 x.m1),.raw (.int .u64 x.d),.raw (.int .u64 x.m2)]
def Cv.rows (l:List Cv):Nat→List D:=fun i=>(l.getD i default).cells
@[go_sem] theorem Cv.v7 (l:List Cv) (i:Nat):Cv.rows l i=(l.getD i default).cells:=rfl
def Cv.Ok (x:Cv):Prop:=(Lit.int .u64 x.m1).wf=true∧(Lit.int .u64 x.d).wf=true∧(Lit.int .u64 x.m2).wf=true∧True
theorem RY:Rd prog 60 Cv.Ok Cv.cells:=
 Rd.map (Rd.struct (ZM:=3) underlying60 (by kernel_rfl) (JM.cons (Rd.int .u64 underlying25) (JM.cons (Rd.int .u64 underlying25) (JM.cons (Rd.int .u64 underlying25) JM.nil rfl (by kernel_rfl) (by decide)) rfl (by kernel_rfl) (by decide)) rfl (by kernel_rfl) (by decide))) (fun p=>⟨p.1,p.2.1,p.2.2.1⟩) (fun _=>rfl) (fun _ h=>⟨h.1,h.2.1,h.2.2.1,trivial⟩)
structure Pk where
 iD:Int
 len:Int
 GF:Int
 GG:Int
 GH:Int
 GI:Int
instance:Inhabited Pk:=⟨⟨0,0,0,0,0,0⟩⟩
@[go_sem] def Pk.cells (x:Pk):List D:=[.raw (.int .u64 x.iD),.raw (.int .i64 x.len),.raw (.int .u16 x.GF),.raw (.int .u16 x.GG),.raw (.int .u16 x.GH),.raw (.int .u16 x.GI)]
def Pk.rows (l:List Pk):Nat→List D:=fun i=>(l.getD i default).cells
@[go_sem] theorem Pk.v7 (l:List Pk) (i:Nat):Pk.rows l i=(l.getD i default).cells:=rfl
def Pk.Ok (x:Pk):Prop:=(Lit.int .u64 x.iD).wf=true∧(Lit.int .i64 x.len).wf=true∧(Lit.int .u16 x.GF).wf=true∧(Lit.int .u16 x.GG).wf=true∧(Lit.int .u16 x.GH).wf=true∧(Lit.int .u16 x.GI).wf=true∧True
theorem QjH:Rd prog 33 Pk.Ok Pk.cells:=
 Rd.map (Rd.struct (ZM:=6) underlying33 (by kernel_rfl) (JM.cons (Rd.int .u64 underlying25) (JM.cons (Rd.int .i64 underlying3) (JM.cons (Rd.array underlying31 (by kernel_rfl) (kH.cons (by decide) (Rd.int .u16 underlying29) (kH.cons (by decide) (Rd.int .u16 underlying29) (kH.cons (by decide) (Rd.int .u16 underlying29) (kH.cons (by decide) (Rd.int .u16 underlying29) kH.nil))))) JM.nil rfl (by kernel_rfl) (by decide)) rfl (by kernel_rfl) (by decide)) rfl (by kernel_rfl) (by decide))) (fun p=>⟨p.1,p.2.1,p.2.2.1.1,p.2.2.1.2.1,p.2.2.1.2.2.1,p.2.2.1.2.2.2.1⟩) (fun _=>rfl) (fun _ h=>⟨h.1,h.2.1,h.2.2.1.1,h.2.2.1.2.1,h.2.2.1.2.2.1,h.2.2.1.2.2.2.1,trivial⟩)
structure Qj where
 iD:Int
 parent:Int
 leaf:Bool
 rt:Cv
 ls:Cv
 ul:Cv
 Q9:Int
 bytes:Int
instance:Inhabited Qj:=⟨⟨0,0,false,default,default,default,0,0⟩⟩
@[go_sem] def Qj.cells (x:Qj):List D:=[.raw (.int .i64 x.iD),.raw (.int .i64 x.parent),.raw (.bool x.leaf),.raw (.int .u64 x.rt.m1),.raw (.int .u64 x.rt.d),.raw (.int .u64 x.rt.m2),.raw (.int .u64 x.ls.m1),.raw (.int .u64 x.ls.d),.raw (.int .u64 x.ls.m2),.raw (.int .u64 x.ul.m1),.raw (.int .u64 x.ul.d),.raw (.int .u64 x.ul.m2),.raw (.int .i64 x.Q9),.raw (.int .i64 x.bytes)]
def Qj.rows (l:List Qj):Nat→List D:=fun i=>(l.getD i default).cells
@[go_sem] theorem Qj.v7 (l:List Qj) (i:Nat):Qj.rows l i=(l.getD i default).cells:=rfl
def Qj.Ok (x:Qj):Prop:=(Lit.int .i64 x.iD).wf=true∧(Lit.int .i64 x.parent).wf=true∧True∧Cv.Ok x.rt∧Cv.Ok x.ls∧Cv.Ok x.ul∧(Lit.int .i64 x.Q9).wf=true∧(Lit.int .i64 x.bytes).wf=true∧True
theorem QjI:Rd prog 62 Qj.Ok Qj.cells:=
 Rd.map (Rd.struct (ZM:=14) underlying62 (by kernel_rfl) (JM.cons (Rd.int .i64 underlying3) (JM.cons (Rd.int .i64 underlying3) (JM.cons (Rd.bool underlying4) (JM.cons RY (JM.cons RY (JM.cons RY (JM.cons (Rd.int .i64 underlying3) (JM.cons (Rd.int .i64 underlying3) JM.nil rfl (by kernel_rfl) (by decide)) rfl (by kernel_rfl) (by decide)) rfl (by kernel_rfl) (by decide)) rfl (by kernel_rfl) (by decide)) rfl (by kernel_rfl) (by decide)) rfl (by kernel_rfl) (by decide)) rfl (by kernel_rfl) (by decide)) rfl (by kernel_rfl) (by decide))) (fun p=>⟨p.1,p.2.1,p.2.2.1,p.2.2.2.1,p.2.2.2.2.1,p.2.2.2.2.2.1,p.2.2.2.2.2.2.1,p.2.2.2.2.2.2.2.1⟩) (fun _=>rfl) (fun _ h=>⟨h.1,h.2.1,h.2.2.1,h.2.2.2.1,h.2.2.2.2.1,h.2.2.2.2.2.1,h.2.2.2.2.2.2.1,h.2.2.2.2.2.2.2.1,trivial⟩)
structure ZN where
 kind:Int
 cls:Qj
instance:Inhabited ZN:=⟨⟨0,default⟩⟩
@[go_sem] def ZN.cells (x:ZN):List D:=[.raw (.int .i64 x.kind),.raw (.int .i64 x.cls.iD),.raw (.int .i64 x.cls.parent),.raw (.bool x.cls.leaf),.raw (.int .u64 x.cls.rt.m1),.raw (.int .u64 x.cls.rt.d),.raw (.int .u64 x.cls.rt.m2),.raw (.int .u64 x.cls.ls.m1),.raw (.int .u64 x.cls.ls.d),.raw (.int .u64 x.cls.ls.m2),.raw (.int .u64 x.cls.ul.m1),.raw (.int .u64 x.cls.ul.d),.raw (.int .u64 x.cls.ul.m2),.raw (.int .i64 x.cls.Q9),.raw (.int .i64 x.cls.bytes)]
def ZN.rows (l:List ZN):Nat→List D:=fun i=>(l.getD i default).cells
@[go_sem] theorem ZN.v7 (l:List ZN) (i:Nat):ZN.rows l i=(l.getD i default).cells:=rfl
def ZN.Ok (x:ZN):Prop:=(Lit.int .i64 x.kind).wf=true∧Qj.Ok x.cls∧True
theorem QjJ:Rd prog 100 ZN.Ok ZN.cells:=
 Rd.map (Rd.struct (ZM:=15) underlying100 (by kernel_rfl) (JM.cons (Rd.int .i64 underlying3) (JM.cons QjI JM.nil rfl (by kernel_rfl) (by decide)) rfl (by kernel_rfl) (by decide))) (fun p=>⟨p.1,p.2.1⟩) (fun _=>rfl) (fun _ h=>⟨h.1,h.2.1,trivial⟩)
structure Act where
 kind:Int
 now:Int
 cls:Int
 Xr:Pk
 idle:Bool
 changes:(List ZN)
instance:Inhabited Act:=⟨⟨0,0,0,default,false,[]⟩⟩
@[go_sem] def Act.cells (x:Act):List D:=[.raw (.int .i64 x.kind),.raw (.int .u64 x.now),.raw (.int .i64 x.cls),.raw (.int .u64 x.Xr.iD),.raw (.int .i64 x.Xr.len),.raw (.int .u16 x.Xr.GF),.raw (.int .u16 x.Xr.GG),.raw (.int .u16 x.Xr.GH),.raw (.int .u16 x.Xr.GI),.raw (.bool x.idle),.imm 15 x.changes.length (ZN.rows x.changes)]
def Act.rows (l:List Act):Nat→List D:=fun i=>(l.getD i default).cells
@[go_sem] theorem Act.v7 (l:List Act) (i:Nat):Act.rows l i=(l.getD i default).cells:=rfl
def Act.Ok (x:Act):Prop:=(Lit.int .i64 x.kind).wf=true∧(Lit.int .u64 x.now).wf=true∧(Lit.int .i64 x.cls).wf=true∧Pk.Ok x.Xr∧True∧(x.changes.length≤maxLen∧∀a∈x.changes,ZN.Ok a)∧True
theorem MX:Rd prog 36 Act.Ok Act.cells:=
 Rd.map (Rd.struct (ZM:=11) underlying36 (by kernel_rfl) (JM.cons (Rd.int .i64 underlying3) (JM.cons (Rd.int .u64 underlying25) (JM.cons (Rd.int .i64 underlying3) (JM.cons QjH (JM.cons (Rd.bool underlying4) (JM.cons (Rd.slice 15 underlying34 (by kernel_rfl) (by decide) QjJ) JM.nil rfl (by kernel_rfl) (by decide)) rfl (by kernel_rfl) (by decide)) rfl (by kernel_rfl) (by decide)) rfl (by kernel_rfl) (by decide)) rfl (by kernel_rfl) (by decide)) rfl (by kernel_rfl) (by decide))) (fun p=>⟨p.1,p.2.1,p.2.2.1,p.2.2.2.1,p.2.2.2.2.1,p.2.2.2.2.2.1⟩) (fun _=>rfl) (fun _ h=>⟨h.1,h.2.1,h.2.2.1,h.2.2.2.1,h.2.2.2.2.1,h.2.2.2.2.2.1,trivial⟩)
@[go_sem] def Qb (n:Int):D:=.raw (.int .i64 n)
@[go_sem] def QN (b:Bool):D:=.raw (.bool b)
@[go_sem] def ints (l:List Int):D:=.imm 1 l.length (oY .i64 l)
structure Ev where
 op:Int
 XN:Bool
 real:Bool
 at_:Int
 done:Int
 cls:Int
 id:Int
 len:Int
 h0:Int
 h1:Int
 h2:Int
 h3:Int
instance:Inhabited Ev:=⟨⟨0,false,false,0,0,0,0,0,0,0,0,0⟩⟩
@[go_sem] def Ev.cells (e:Ev):List D:=[.raw (.int .i64 e.op),.raw (.bool e.XN),.raw (.bool e.real),.raw (.int .u64 e.at_),.raw (.int .u64 e.done),.raw (.int .i64 e.cls),.raw (.int .u64 e.id),.raw (.int .i64 e.len),.raw (.int .u16 e.h0),.raw (.int .u16 e.h1),.raw (.int .u16 e.h2),.raw (.int .u16 e.h3)]
def Ev.Ok (x:Ev):Prop:=(Lit.int .i64 x.op).wf=true∧(Lit.int .u64 x.at_).wf=true∧(Lit.int .u64 x.done).wf=true∧(Lit.int .i64 x.cls).wf=true∧(Lit.int .u64 x.id).wf=true∧(Lit.int .i64 x.len).wf=true∧(Lit.int .u16 x.h0).wf=true∧(Lit.int .u16 x.h1).wf=true∧(Lit.int .u16 x.h2).wf=true∧(Lit.int .u16 x.h3).wf=true
def Ev.rows (l:List Ev):Nat→List D:=fun i=>(l.getD i default).cells
@[go_sem] theorem Ev.v7 (l:List Ev) (i:Nat):Ev.rows l i=(l.getD i default).cells:=rfl
@[go_sem] def evs (l:List Ev):D:=.imm 12 l.length (Ev.rows l)
theorem wrap64 {n:Int} (h1:-9223372036854775808≤n) (h2:n≤9223372036854775807):IntKind.i64.wrap n=n:=by
 rw[IntKind.wrap_i64];omega
theorem JX {k:Nat} (h:k<4611686018427387904):IntKind.i64.wrap ((k:Int)+1)=((k+1:Nat):Int):=by
 rw[wrap64 (by omega) (by omega)];rfl
theorem bnz {n:Nat} (h:n≠0):((n:Int)==0)=false:=by simp [h]
theorem dp {n:Nat} (h:n≠0):decide ((0:Int)<n)=true:=by simp;omega
def Ql (d:D):D→List Ob→Prop:=fun d' h=>d'=d∧h=[]
attribute [go_sem] Ql
theorem Ql.flat {d:D} (hd:d.flat=true):∀d' h,Ql d d' h→d'.flat=true∧∀o∈h,o.flat:=by
 rintro d' h ⟨rfl,rfl⟩;exact⟨hd,by simp⟩
theorem getD_take {α:Type} (l:List α) (d:α) (k:Nat) (h:k<l.length):l.take (k+1)=l.take k++[l.getD k d]:=by
 rw[List.take_add_one,List.getElem?_eq_getElem h];simp [List.getD_eq_getElem?_getD,List.getElem?_eq_getElem h]
theorem mixed:prog.follows .mixedOrders=true:=by kernel_rfl
theorem getD_map {α β:Type} (f:α→β) (l:List α) (d:α) (e:β) (i:Nat) (h:i<l.length):(l.map f).getD i e=f (l.getD i d):=by simp [List.getD_eq_getElem?_getD,h]
theorem jo {α:Type} (l:List α) (d:α) (i:Nat) (h:i<l.length):l.getD i d∈l:=by simp [List.getD_eq_getElem?_getD,h]
theorem wf_u64 {n:Int} (h:(Lit.int .u64 n).wf=true):0≤n∧n≤18446744073709551615:=by
 simp only[Lit.wf,Bool.and_eq_true,decide_eq_true_eq]at h
 exact h
theorem oZ {n:Int} (h1:0≤n) (h2:n≤18446744073709551615):IntKind.u64.wrap n=n:=by rw[IntKind.wrap_u64];omega
@[go_sem] theorem QtK:((0:Nat):Int)=0:=rfl
@[go_sem] theorem QtL:((1:Nat):Int)=1:=rfl
@[go_sem] theorem QtM:((2:Nat):Int)=2:=rfl
@[go_sem] theorem QtN:((3:Nat):Int)=3:=rfl
@[go_sem] theorem QtO:((4:Nat):Int)=4:=rfl
@[go_sem] theorem QtP:((5:Nat):Int)=5:=rfl
@[go_sem] theorem QtQ:((6:Nat):Int)=6:=rfl
@[go_sem] theorem QtR:((7:Nat):Int)=7:=rfl
@[go_sem] theorem QtS:((8:Nat):Int)=8:=rfl
@[go_sem] theorem QtT:((9:Nat):Int)=9:=rfl
@[go_sem] theorem QtU:((10:Nat):Int)=10:=rfl
theorem XO {a b:Int} (h:a=b):(a==b)=true:=by simp [h]
theorem VG {a b:Int} (h:a≠b):(a==b)=false:=by simp [h]
end Go.Fg.X
namespace Go.Fg
theorem QjL {P:Program} {o:Oper} {a:Act} {w:World} {K K':Act→World→Prop} {Q Q':Exit→Act→World→Prop} (hk:∀a w,K a w→K' a w) (hq:∀e a w,Q e a w→Q' e a w) (h:o.wp P a w K Q):o.wp P a w K' Q':=by
 unfold Oper.wp at *
 generalize (execOp a.eval o).run P w=r at *
 cases r with
 | ok x w'=>
  cases x<;>simp only[Oper.upon]at h ⊢<;>first|exact hk _ _ h|exact h|skip
  ·exact h.mono fun e A9 he=>by
    cases e with
    | returned v=>exact hk _ _ he
    | panicked c=>exact hq _ _ _ he
    | outgrown=>obtain⟨a,w,h⟩:=he;exact⟨a,w,hq _ _ _ h⟩
  ·exact h.mono fun v A9 he=>hk _ _ he
 | halt x w'=>cases x<;>first|exact h|exact hq _ _ _ h
theorem MY {P:Program} {Q Q':Exit→Act→World→Prop} (hq:∀e a w,Q e a w→Q' e a w):∀(l:List (Oper × G)) (a:Act) (w:World),WA P Q l a w→WA P Q' l a w
 | [],a,w,h=>hq _ _ _ h
 | (o,g)::r,a,w,h=>by
  simp only[WA]at h ⊢
  split at h
  ·rename_i hw
   rw[if_pos hw]
   exact QjL (fun a w=>MY hq r a w) hq h
  ·rename_i hw
   rw[if_neg hw]
   exact MY hq r _ _ h
section
variable {P:Program} {base nt:Nat} {w0:Start} {Q:Exit→St→Prop} {k:List Item} {s s1:St}
def GJ (P:Program) (base nt:Nat) (w0:Start) (Q:Exit→St→Prop) (k:List Item) (s1:St):Exit→St→Prop
 | .normal,s=>Qk w0 s s1
 | e,s=>Qs P base nt w0 Q k e s
@[go_sem] theorem QtV:GJ P base nt w0 Q k s1 .normal s=Qk w0 s s1:=JC rfl
@[go_sem] theorem QtW {j:Nat}:GJ P base nt w0 Q k s1 (.exit j) s=Qs P base nt w0 Q k (.exit j) s:=JC rfl
@[go_sem] theorem QtX:GJ P base nt w0 Q k s1 .ret s=Qs P base nt w0 Q k .ret s:=JC rfl
theorem RZ {x:Item} {c:Code} (s1:St) (h1:Qs P base nt w0 (GJ P base nt w0 Q (.code c::k) s1) [x] .normal s) (h2:Qs P base nt w0 Q (.code c::k) .normal s1):Qs P base nt w0 Q (x::.code c::k) .normal s:=by
 cases x with
 | code x=>
  simp only[Qs]at h1
  show A P base nt w0 x _ s
  refine h1.mono fun e s' he=>?_
  cases e with
  | normal=>exact xu he h2
  | _=>exact he
 | ops l=>
  simp only[Qs]at h1
  show AG P base nt w0 l _ s
  intro Z z pl a w r b
  refine MY (fun e a' w' ⟨s',Qi,hs,r',b'⟩=>⟨s',Qi,?_,r',b'⟩) _ _ _ (h1 Z z pl a w r b)
  cases e with
  | normal=>exact xu hs h2
  | _=>exact hs
 | inBlock id=>simp only[Qs]at h1 ⊢;exact xu h1 h2
 | inScope=>simp only[Qs]at h1 ⊢;exact xu h1 h2
theorem kI {x:Item} {c:Code} (keep:List Nat) (V:List (Nat × D)) {fr:List (Nat × D)} {h:List Ob} {rest:List (Nat × D)} (hr:MD fr keep=rest)
  (h1:Qs P base nt w0 (GJ P base nt w0 Q (.code c::k) ⟨V++rest,h⟩) [x] .normal ⟨fr,h⟩) (h2:Qs P base nt w0 Q (.code c::k) .normal ⟨V++rest,h⟩):Qs P base nt w0 Q (x::.code c::k) .normal ⟨fr,h⟩:=RZ _ h1 h2
@[go_sem] theorem QtY {X:Cx}:hx P base w0 Q X nt 0 k s=Qs P base nt w0 Q k .normal s:=by cases k<;>exact JC rfl
end
end Go.Fg
namespace Go.Fg.X
open Go.Proofs Go.Fg
open Go.Proofs.Tryz
@[go_sem] def R0 (c:Cv):D:=.agg c.cells
@[go_sem] def Vw (c:Qj):D:=.agg c.cells
def QI (c:Cv):Int:=if c.m1=0∧c.d=0∧c.m2=0 then 1 else if 4294967295<c.m1∨4294967295<c.m2∨1048576<c.d then 0 else if c.d=0∧c.m1=c.m2 then 2 else if 0<c.d∧c.m2<c.m1 then 3 else if 0<c.d∧c.m1=0∧0<c.m2 then 4 else 0
theorem MZ (c:Cv):Q8 prog 182 [R0 c] (Ql (Qb (QI c))):=by
 refine Zb 0 Qe 200 func182 rfl ntmps182 results182 rfl fun base w hb=>?_
 simp only[go_sem,simprocAttr]
 repeat' (first|((first|refine Gm (fun h=>?_) (fun h=>?_)|refine Gn (fun h=>?_) (fun h=>?_)|refine Gp (fun h=>?_) (fun h=>?_)|refine kx (fun h=>?_) (fun h=>?_)|refine Gq (fun h=>?_) (fun h=>?_)|refine Gr (fun h=>?_) (fun h=>?_)|refine Gs (fun h=>?_) (fun h=>?_)|refine Gh (fun h=>?_) (fun h=>?_))<;>(try simp only[go_sem,simprocAttr]))|(refine And.intro (by omega) ?_;try simp only[go_sem,simprocAttr]))
 all_goals (congr 2;(try simp only[Bool.and_eq_false_iff,beq_eq_false_iff_ne,Bool.and_eq_true,beq_iff_eq,ne_eq]at *);unfold QI;(repeat' split)<;>omega)
theorem R3 (c:Cv):Q8 prog 225 [R0 c] (Ql (QN (QI c != 0))):=by
 refine Zb 0 Qe 200 func225 rfl ntmps225 results225 rfl fun base w hb=>?_
 simp only[go_sem,simprocAttr]
 refine QE hb xH rfl ?_ (MZ c) (Ql.flat rfl) rfl fun d h hR=>?_
 ·simp only[go_sem,simprocAttr]
 obtain⟨rfl,rfl⟩:=hR
 refine Qc hb ?_
 simp only[go_sem,simprocAttr]
theorem M7 (c:Cv):Q8 prog 172 [R0 c] (Ql (QN (decide (1<QI c)))):=by
 refine Zb 0 Qe 200 func172 rfl ntmps172 results172 rfl fun base w hb=>?_
 simp only[go_sem,simprocAttr]
 refine QE hb xH rfl ?_ (MZ c) (Ql.flat rfl) rfl fun d h hR=>?_
 ·simp only[go_sem,simprocAttr]
 obtain⟨rfl,rfl⟩:=hR
 refine Qc hb ?_
 simp only[go_sem,simprocAttr]
theorem xJ (c:Qj):Q8 prog 111 [Vw c] (Ql (QN (decide (1<QI c.rt)))):=by
 refine Zb 0 Qe 200 func111 rfl ntmps111 results111 rfl fun base w hb=>?_
 simp only[go_sem,simprocAttr]
 refine QE hb MO rfl ?_ (M7 c.rt) (Ql.flat rfl) rfl fun d h hR=>?_
 ·simp only[go_sem,simprocAttr]
 obtain⟨rfl,rfl⟩:=hR
 refine Qc hb ?_
 simp only[go_sem,simprocAttr]
theorem YT (c:Qj):Q8 prog 122 [Vw c] (Ql (QN (decide (1<QI c.ls)))):=by
 refine Zb 0 Qe 200 func122 rfl ntmps122 results122 rfl fun base w hb=>?_
 simp only[go_sem,simprocAttr]
 refine QE hb MO rfl ?_ (M7 c.ls) (Ql.flat rfl) rfl fun d h hR=>?_
 ·simp only[go_sem,simprocAttr]
 obtain⟨rfl,rfl⟩:=hR
 refine Qc hb ?_
 simp only[go_sem,simprocAttr]
theorem o0 (c:Qj):Q8 prog 268 [Vw c] (Ql (QN (decide (1<QI c.ul)))):=by
 refine Zb 0 Qe 200 func268 rfl ntmps268 results268 rfl fun base w hb=>?_
 simp only[go_sem,simprocAttr]
 refine QE hb MO rfl ?_ (M7 c.ul) (Ql.flat rfl) rfl fun d h hR=>?_
 ·simp only[go_sem,simprocAttr]
 obtain⟨rfl,rfl⟩:=hR
 refine Qc hb ?_
 simp only[go_sem,simprocAttr]
def jq (n a b:Int):Bool:=decide (a≤n)&&decide (n≤b)
theorem Na (n a b:Int):Q8 prog 267 [Qb n,Qb a,Qb b] (Ql (QN (jq n a b))):=by
 refine Zb 0 Qe 200 func267 rfl ntmps267 results267 rfl fun base w hb=>?_
 simp only[go_sem,simprocAttr]
 unfold jq
 by_cases h:a≤n
 ·simp only[go_sem,simprocAttr,h]
 ·simp only[go_sem,simprocAttr,h]
def xK (c:Qj):Bool:=jq c.iD 1 65536&&jq c.parent 0 65536&&!(c.parent==c.iD)
def Aj (c:Qj):Bool:=(QI c.rt != 0)&&((QI c.ls != 0)&&!(QI c.ls==4))&&((QI c.ul != 0)&&!(QI c.ul==4))
def YU (c:Qj):Bool:=jq c.Q9 1 64&&jq c.bytes 1 1048576&&(decide (1<QI c.rt) || decide (1<QI c.ls))
def v8 (c:Qj):Bool:=c.Q9==0&&c.bytes==0&&!decide (1<QI c.rt)
def JN (c:Qj):Int:=if !xK c then 1 else if !Aj c then 21 else if (c.leaf&&!YU c) || (!c.leaf&&!v8 c) || (decide (1<QI c.ul)&&!decide (1<QI c.ls)) then 29 else 0
structure QjM (c:Qj) (k:Nat) (s:St):Prop where
 h0:0<k→QI c.rt≠0
 h1:1<k→QI c.ls≠0∧QI c.ls≠4
 h2:2<k→QI c.ul≠0∧QI c.ul≠4
 eq:s=⟨[(1,.ptr 0 0 0 0),(2,Qb 0),(30,.agg (c.rt.cells++(c.ls.cells++c.ul.cells))),(31,Qb k)],[⟨.one,0,14,1,fun _=>c.cells⟩]⟩
theorem o4 (c:Qj):Q8 prog 219 [Vw c] (Ql (Qb (JN c))):=by
 refine Zb 0 Qe 200 func219 rfl ntmps219 results219 rfl fun base w hb=>?_
 simp only[go_sem,simprocAttr]
 refine QE hb MU rfl ?_ (Na c.iD 1 65536) (Ql.flat rfl) rfl fun d h hR=>?_
 ·simp only[go_sem,simprocAttr]
 obtain⟨rfl,rfl⟩:=hR
 refine Qc hb ?_
 simp only[go_sem,simprocAttr]
 cases Jg:jq c.iD 1 65536
 ·have:JN c=1:=by simp [JN,xK,Jg]
  simp only[go_sem,simprocAttr,this]
 ·simp only[go_sem,simprocAttr]
  refine QE hb MU rfl ?_ (Na c.parent 0 65536) (Ql.flat rfl) rfl fun d h hR=>?_
  ·simp only[go_sem,simprocAttr]
  obtain⟨rfl,rfl⟩:=hR
  refine Qc hb ?_
  simp only[go_sem,simprocAttr]
  cases ZZ:jq c.parent 0 65536
  ·have:JN c=1:=by simp [JN,xK,Jg,ZZ]
   simp only[go_sem,simprocAttr,this]
  ·simp only[go_sem,simprocAttr]
   by_cases h3:c.parent=c.iD
   ·have:JN c=1:=by simp [JN,xK,Jg,ZZ,h3]
    simp only[go_sem,simprocAttr,XO h3,this]
   ·simp only[go_sem,simprocAttr,VG h3]
    have QQ:xK c=true:=by simp [xK,Jg,ZZ,h3]
    have w1:IntKind.i64.wrap 1=1:=by decide
    have w2:IntKind.i64.wrap 2=2:=by decide
    have w3:IntKind.i64.wrap 3=3:=by decide
    refine Zv (QjM c) 3
     (s0:=⟨[(1,.ptr 0 0 0 0),(2,Qb 0),(30,.agg (c.rt.cells++(c.ls.cells++c.ul.cells))),(31,Qb 0)],[⟨.one,0,14,1,fun _=>c.cells⟩]⟩) (Qk.frame (by simp only[go_sem,simprocAttr])) ⟨by omega,by omega,by omega,rfl⟩ ?_
    rintro k s hk ⟨g0,g1,g2,rfl⟩
    obtain rfl|rfl|rfl|rfl:k=0∨k=1∨k=2∨k=3:=by omega
    ·refine Qc hb ?_
     simp only[go_sem,simprocAttr]
     refine QE hb DV rfl ?_ (R3 c.rt) (Ql.flat rfl) rfl fun d h hR=>?_
     ·simp only[go_sem,simprocAttr]
     obtain⟨rfl,rfl⟩:=hR
     refine Qc hb ?_
     simp only[go_sem,simprocAttr]
     by_cases r0:QI c.rt=0
     ·have:JN c=21:=by simp [JN,QQ,Aj,r0]
      simp only[go_sem,simprocAttr,XO r0,bne,this,Go.undef]
     ·simp only[go_sem,simprocAttr,VG r0,bne,Go.undef]
      refine⟨_,Qk.to 1 ⟨?_,by simp only[go_sem,simprocAttr],?_,?_⟩,⟨fun _=>r0,by omega,by omega,rfl⟩⟩<;>simp only[go_sem,simprocAttr,w1,w2,w3]
    ·refine Qc hb ?_
     simp only[go_sem,simprocAttr]
     refine QE hb DV rfl ?_ (R3 c.ls) (Ql.flat rfl) rfl fun d h hR=>?_
     ·simp only[go_sem,simprocAttr]
     obtain⟨rfl,rfl⟩:=hR
     refine Qc hb ?_
     simp only[go_sem,simprocAttr]
     by_cases r0:QI c.ls=0
     ·have:JN c=21:=by simp [JN,QQ,Aj,r0]
      simp only[go_sem,simprocAttr,XO r0,bne,this,Go.undef]
     ·simp only[go_sem,simprocAttr,VG r0,bne,Go.undef]
      refine QE hb xH rfl ?_ (MZ c.ls) (Ql.flat rfl) rfl fun d h hR=>?_
      ·simp only[go_sem,simprocAttr]
      obtain⟨rfl,rfl⟩:=hR
      refine Qc hb ?_
      simp only[go_sem,simprocAttr]
      by_cases r4:QI c.ls=4
      ·have:JN c=21:=by simp [JN,QQ,Aj,r4]
       simp only[go_sem,simprocAttr,XO r4,this,Go.undef]
      ·simp only[go_sem,simprocAttr,VG r4,Go.undef]
       refine⟨_,Qk.to 1 ⟨?_,by simp only[go_sem,simprocAttr],?_,?_⟩,⟨fun _=>g0 (by omega),fun _=>⟨r0,r4⟩,by omega,rfl⟩⟩<;>simp only[go_sem,simprocAttr,w1,w2,w3]
    ·refine Qc hb ?_
     simp only[go_sem,simprocAttr]
     refine QE hb DV rfl ?_ (R3 c.ul) (Ql.flat rfl) rfl fun d h hR=>?_
     ·simp only[go_sem,simprocAttr]
     obtain⟨rfl,rfl⟩:=hR
     refine Qc hb ?_
     simp only[go_sem,simprocAttr]
     by_cases r0:QI c.ul=0
     ·have:JN c=21:=by simp [JN,QQ,Aj,r0]
      simp only[go_sem,simprocAttr,XO r0,bne,this,Go.undef]
     ·simp only[go_sem,simprocAttr,VG r0,bne,Go.undef]
      refine QE hb xH rfl ?_ (MZ c.ul) (Ql.flat rfl) rfl fun d h hR=>?_
      ·simp only[go_sem,simprocAttr]
      obtain⟨rfl,rfl⟩:=hR
      refine Qc hb ?_
      simp only[go_sem,simprocAttr]
      by_cases r4:QI c.ul=4
      ·have:JN c=21:=by simp [JN,QQ,Aj,r4]
       simp only[go_sem,simprocAttr,XO r4,this,Go.undef]
      ·simp only[go_sem,simprocAttr,VG r4,Go.undef]
       refine⟨_,Qk.to 1 ⟨?_,by simp only[go_sem,simprocAttr],?_,?_⟩,⟨fun _=>g0 (by omega),fun _=>g1 (by omega),fun _=>⟨r0,r4⟩,rfl⟩⟩<;>simp only[go_sem,simprocAttr,w1,w2,w3]
    ·have R8:Aj c=true:=by
      have a:=g0 (by omega);have b:=g1 (by omega);have d:=g2 (by omega)
      simp [Aj,a,b,d]
     clear g0 g1 g2
     refine Qc hb ?_
     simp only[go_sem,simprocAttr]
     first|refine Wg ?_|skip
     refine kI [1,2] [(5,QN (YU c))] rfl ?_ ?_
     ·refine Qc hb ?_
      simp only[go_sem,simprocAttr]
      refine QE hb MU rfl ?_ (Na c.Q9 1 64) (Ql.flat rfl) rfl fun d h hR=>?_
      ·simp only[go_sem,simprocAttr]
      obtain⟨rfl,rfl⟩:=hR
      refine Qc hb ?_
      simp only[go_sem,simprocAttr]
      cases hp:jq c.Q9 1 64
      ·have e:YU c=false:=by simp [YU,hp]
       simp only[go_sem,simprocAttr,Go.undef]
       exact Qk.to 1 (by (simp only[go_sem,simprocAttr,e])<;>simp)
      ·simp only[go_sem,simprocAttr,Go.undef]
       refine QE hb MU rfl ?_ (Na c.bytes 1 1048576) (Ql.flat rfl) rfl fun d h hR=>?_
       ·simp only[go_sem,simprocAttr]
       obtain⟨rfl,rfl⟩:=hR
       refine Qc hb ?_
       simp only[go_sem,simprocAttr]
       cases hq:jq c.bytes 1 1048576
       ·have e:YU c=false:=by simp [YU,hp,hq]
        simp only[go_sem,simprocAttr,Go.undef]
        exact Qk.to 1 (by (simp only[go_sem,simprocAttr,e])<;>simp)
       ·simp only[go_sem,simprocAttr,Go.undef]
        refine QE hb vY rfl ?_ (xJ c) (Ql.flat rfl) rfl fun d h hR=>?_
        ·simp only[go_sem,simprocAttr]
        obtain⟨rfl,rfl⟩:=hR
        refine Qc hb ?_
        simp only[go_sem,simprocAttr]
        cases hr:decide (1<QI c.rt)
        ·simp only[go_sem,simprocAttr,Go.undef]
         refine QE hb YR rfl ?_ (YT c) (Ql.flat rfl) rfl fun d h hR=>?_
         ·simp only[go_sem,simprocAttr]
         obtain⟨rfl,rfl⟩:=hR
         refine Qc hb ?_
         simp only[go_sem,simprocAttr]
         have e:YU c=decide (1<QI c.ls):=by simp [YU,hp,hq,hr]
         exact Qk.to 1 (by (simp only[go_sem,simprocAttr,e])<;>simp)
        ·have e:YU c=true:=by simp [YU,hp,hq,hr]
         simp only[go_sem,simprocAttr,Go.undef]
         exact Qk.to 1 (by (simp only[go_sem,simprocAttr,e])<;>simp)
     first|refine Wg ?_|skip
     refine kI [1,2,5] [(6,QN (v8 c))] rfl ?_ ?_
     ·refine Qc hb ?_
      simp only[go_sem,simprocAttr]
      by_cases hp:c.Q9=0
      ·simp only[go_sem,simprocAttr,XO hp,Go.undef]
       by_cases hq:c.bytes=0
       ·simp only[go_sem,simprocAttr,XO hq,Go.undef]
        refine QE hb vY rfl ?_ (xJ c) (Ql.flat rfl) rfl fun d h hR=>?_
        ·simp only[go_sem,simprocAttr]
        obtain⟨rfl,rfl⟩:=hR
        refine Qc hb ?_
        simp only[go_sem,simprocAttr]
        have e:v8 c=!decide (1<QI c.rt):=by simp [v8,hp,hq]
        exact Qk.to 1 (by (simp only[go_sem,simprocAttr,e])<;>simp)
       ·have e:v8 c=false:=by simp [v8,hp,hq]
        simp only[go_sem,simprocAttr,VG hq,Go.undef]
        exact Qk.to 1 (by (simp only[go_sem,simprocAttr,e])<;>simp)
      ·have e:v8 c=false:=by simp [v8,hp]
       simp only[go_sem,simprocAttr,VG hp,Go.undef]
       exact Qk.to 1 (by (simp only[go_sem,simprocAttr,e])<;>simp)
     refine Qc hb ?_
     simp only[go_sem,simprocAttr]
     have hv:JN c=if (c.leaf&&!YU c) || (!c.leaf&&!v8 c) || (decide (1<QI c.ul)&&!decide (1<QI c.ls)) then 29 else 0:=by simp [JN,QQ,R8]
     generalize YU c=lo at hv ⊢
     generalize v8 c=io at hv ⊢
     cases hl:c.leaf<;>rw[hl]at hv
     ·cases io
      ·simp at hv
       simp only[go_sem,simprocAttr,Go.undef,hv]
      ·simp only[go_sem,simprocAttr,Go.undef]
       refine QE hb oT rfl ?_ (o0 c) (Ql.flat rfl) rfl fun d h hR=>?_
       ·simp only[go_sem,simprocAttr,hl]
       obtain⟨rfl,rfl⟩:=hR
       refine Qc hb ?_
       simp only[go_sem,simprocAttr,hl]
       cases hu:decide (1<QI c.ul)<;>rw[hu]at hv
       ·simp at hv
        simp only[go_sem,simprocAttr,Go.undef,hv]
       ·simp only[go_sem,simprocAttr,Go.undef]
        refine QE hb YR rfl ?_ (YT c) (Ql.flat rfl) rfl fun d h hR=>?_
        ·simp only[go_sem,simprocAttr,hl]
        obtain⟨rfl,rfl⟩:=hR
        refine Qc hb ?_
        simp only[go_sem,simprocAttr,hl]
        cases hs:decide (1<QI c.ls)<;>rw[hs]at hv<;>simp at hv<;>simp only[go_sem,simprocAttr,Go.undef,hv]
     ·cases lo
      ·simp at hv
       simp only[go_sem,simprocAttr,Go.undef,hv]
      ·simp only[go_sem,simprocAttr,Go.undef]
       refine QE hb oT rfl ?_ (o0 c) (Ql.flat rfl) rfl fun d h hR=>?_
       ·simp only[go_sem,simprocAttr,hl]
       obtain⟨rfl,rfl⟩:=hR
       refine Qc hb ?_
       simp only[go_sem,simprocAttr,hl]
       cases hu:decide (1<QI c.ul)<;>rw[hu]at hv
       ·simp at hv
        simp only[go_sem,simprocAttr,Go.undef,hv]
       ·simp only[go_sem,simprocAttr,Go.undef]
        refine QE hb YR rfl ?_ (YT c) (Ql.flat rfl) rfl fun d h hR=>?_
        ·simp only[go_sem,simprocAttr,hl]
        obtain⟨rfl,rfl⟩:=hR
        refine Qc hb ?_
        simp only[go_sem,simprocAttr,hl]
        cases hs:decide (1<QI c.ls)<;>rw[hs]at hv<;>simp at hv<;>simp only[go_sem,simprocAttr,Go.undef,hv]
def Cv.Nn (c:Cv):Prop:=0≤c.m1∧0≤c.d∧0≤c.m2
def Qj.Nn (c:Qj):Prop:=c.rt.Nn∧c.ls.Nn∧c.ul.Nn
end Go.Fg.X
namespace Go.Fg
open Go.RowKit (Below)
def xL (es:List QM):Prop:=(es.map (·.b)).Pairwise (·<·)
theorem Yb.o5 {Z:Nat→Prop} {h:List Ob} {pl:List Pl} {w:World} {q:IntKind} {c:Nat} {es:List QM} {Q5:List MapEntry} (E:Yb Z h pl w q c es Q5):xL es:=by
 unfold xL
 rw[List.pairwise_iff_getElem]
 intro i j hi hj JV
 simp only[List.length_map]at hi hj
 have hl:=E.len
 obtain⟨_,_,h1,_⟩:=E.at_ i es[i] Q5[i] (List.getElem?_eq_getElem hi) (List.getElem?_eq_getElem (by omega))
 obtain⟨_,_,h2,_⟩:=E.at_ j es[j] Q5[j] (List.getElem?_eq_getElem hj) (List.getElem?_eq_getElem (by omega))
 have:=E.inc i j Q5[i] Q5[j] JV (List.getElem?_eq_getElem (by omega)) (List.getElem?_eq_getElem (by omega))
 simp only[List.getElem_map]
 omega
theorem xL.inj {es:List QM} (B:xL es) {e e':QM} (h:e∈es) (h':e'∈es) (hb:e.b=e'.b):e=e':=by
 unfold xL at B
 rw[List.pairwise_iff_getElem]at B
 obtain⟨i,hi,rfl⟩:=List.getElem_of_mem h
 obtain⟨j,hj,rfl⟩:=List.getElem_of_mem h'
 rcases Nat.lt_trichotomy i j with h1|h1|h1
 ·have:=B i j (by simpa using hi) (by simpa using hj) h1;simp only[List.getElem_map]at this;omega
 ·subst h1;rfl
 ·have:=B j i (by simpa using hj) (by simpa using hi) h1;simp only[List.getElem_map]at this;omega
theorem xL.nodup {es:List QM} (B:xL es):(es.map (·.b)).Nodup:=by
 unfold List.Nodup
 exact List.Pairwise.imp (fun h=>Nat.ne_of_lt h) B
def zy (es:List QM) (seen:List Nat):Nat:=(es.filter fun e=>!seen.contains e.b).length
theorem o6:∀{es:List QM} {seen:List Nat} {e:QM},e∈es→e.b ∉ seen→zy es (seen++[e.b])<zy es seen
 | [],_,_,h,_=>by simp at h
 | x::es,seen,e,h,hs=>by
  have le:∀es:List QM,zy es (seen++[e.b])≤zy es seen:=fun es=>by
   induction es with
   | nil=>exact Nat.le_refl _
   | cons y r ih=>
    simp only[zy,List.filter_cons]at ih ⊢
    by_cases h1:y.b∈seen<;>by_cases h2:y.b=e.b<;>simp_all<;>omega
  rcases List.mem_cons.1 h with rfl|h
  ·have:=le es
   simp only[zy,List.filter_cons]at this ⊢
   simp_all
   omega
  ·have:=o6 h hs
   simp only[zy,List.filter_cons]at this ⊢
   by_cases h1:x.b∈seen<;>by_cases h2:x.b=e.b<;>simp_all<;>omega
section
variable {P:Program} {L:Zh} {base nt:Nat} {w0:Start} {Q:Exit→St→Prop}
theorem QjN {Z:Nat→Prop} {s:St} {pl:List Pl} {a:Act} {w:World} (r:Rel Z base nt s pl a w) {l c:Nat} {es:List QM} {kd:Kd} {q:IntKind} (Ja:kd.ty=1) (Q1:s.h[l]? = some (Km kd q c es)):xL es:=by
 have hl:l<pl.length:=by rw[r.o.len];exact Jv Q1
 cases hp:pl[l] with
 | none=>
  have:=r.o.J2 l _ Q1 (by rw[List.getElem?_eq_getElem hl,hp])
  simp [Km]at this
 | some bq=>
  obtain⟨b,p⟩:=bq
  obtain⟨_,x⟩:=r.o.at_ l _ b p Q1 (by rw[List.getElem?_eq_getElem hl,hp])
  obtain⟨_,Q5,_,E⟩:=LL Ja x
  exact E.o5
theorem QjO {c0:Code} {k:List Item} {s:St} {l c:Nat} {es:List QM} {kd:Kd} {q:IntKind} (Ja:kd.ty=1) (Q1:s.h[l]? = some (Km kd q c es)) (hk:xL es→Qs P base nt w0 Q (.code c0::k) .normal s):Qs P base nt w0 Q (.code c0::k) .normal s:=by
 simp only[Qs]at hk ⊢
 intro Z z pl a w r b
 exact hk (QjN r Ja Q1) Z z pl a w r b
theorem QjP {o:Oper} {s:St} {x:Operand} (ho:o.op=.entry x) {li l c:Nat} {es:List QM} {seen:List Nat} {q:IntKind} {kd:Kd} {e:QM}
  (hx:Qq s.fr x=.mref li 0) (WZ:s.h[li]? = some (VF l c c (seen++[e.b]))) (Ja:kd.ty=1) (Q1:s.h[l]? = some (Km kd q c es)) (he:e∈es):Kt P base nt o s (.tup [.raw (.int q e.k),e.v]):=by
 intro Z pl a w r
 have e1:=r.eval x
 rw[hx]at e1
 obtain⟨o',p,b,h1,h2,h3,h4,h5⟩:=Bb e1
 rw[WZ]at h1;cases h1
 have h5:=h5 rfl
 rw[h5]at h2
 obtain⟨Zf,kh⟩:=r.o.at_ li _ b 0 WZ h2
 obtain⟨_,m,sn,hb,kj,FP⟩:=cK kh
 have hv:a.eval x=.pointer (some ⟨b,0,none⟩):=h3.2
 obtain⟨o2,p2,bm,k1,k2,k3,k4,k5⟩:=Bb FP
 rw[Q1]at k1;cases k1
 have k5:=k5 rfl
 rw[k5]at k2
 have k3:=k3.2
 rw[show (Km kd q c es).kd.ty=1 from Ja]at k3
 have k3:m=bm:=by simpa [Fw] using k3
 subst k3
 obtain⟨FQ,PO⟩:=r.o.at_ l _ m 0 Q1 k2
 obtain⟨_,Q5,Bp,E⟩:=LL Ja PO
 have hl:es.length=Q5.toList.length:=E.len
 obtain⟨j,hj⟩:=List.getElem?_of_mem he
 have Qd:=(List.getElem?_eq_some_iff.1 hj).1
 obtain⟨d1,d2,d3,d4⟩:=E.at_ j e (Q5.toList[j]'(by omega)) hj (List.getElem?_eq_getElem (by omega))
 have Zy:(Q5.toList.map (·.born)).Nodup:=by
  have:Q5.toList.map (·.born)=es.map (·.b):=by
   apply List.ext_getElem (by simp [hl])
   intro i h1 h2
   simp only[List.length_map]at h1 h2
   obtain⟨_,_,g,_⟩:=E.at_ i (es[i]'(by omega)) (Q5.toList[i]'(by omega)) (List.getElem?_eq_getElem (by omega)) (List.getElem?_eq_getElem (by omega))
   simp only[List.getElem_map,g]
  rw[this];exact E.o5.nodup
 have QjQ:sn=(seen.toArray).push (Q5.toList[j]'(by omega)).born:=by
  apply Array.toList_inj.1
  rw[kj,d3];simp
 have Jt:=hb
 rw[QjQ]at Jt
 refine⟨.tuple #[(Q5.toList[j]'(by omega)).key,(Q5.toList[j]'(by omega)).val],?_,fun w' ew=>?_⟩
 ·rw[d1]
  exact .tup _ [.int q e.k,(Q5.toList[j]'(by omega)).val] rfl fun i hi=>match i,hi with
   | 0,_=>.cl _ _ (.raw _)
   | 1,_=>d2
 ·have QV:=run_entry_at (P:=P) w' b m c seen.toArray Q5 c (Q5.toList[j]'(by omega)) (by rw[ew b (q9 Jt)];exact Jt) (by rw[ew m (q9 Bp)];exact Bp) (List.getElem_mem _) Zy
  simp [execOp,ho,hv,QV]
theorem QjR {k:List Item} {dst:Option Nat} {ty:TypeId} {pos:String} {after:Array Edge} {gd:Option (Nat × Bool)} {r:List (Oper × G)} {s:St} {x:Operand} {li l c:Nat} {es:List QM} {seen:List Nat} {q:IntKind} {kd:Kd} {e:QM}
  (hx:Qq s.fr x=.mref li 0) (WZ:s.h[li]? = some (VF l c c (seen++[e.b]))) (Ja:kd.ty=1) (Q1:s.h[l]? = some (Km kd q c es)) (he:e∈es) (ht:Zo nt dst=true)
  (h1:Qs P base nt w0 Q (.ops r::k) .normal ⟨Ze s.fr dst (.tup [.raw (.int q e.k),e.v]),s.h⟩) :
  Qs P base nt w0 Q (.ops ((⟨dst,.entry x,ty,pos,after,gd⟩,none)::r)::k) .normal s:=by
 simp only[Qs]at h1 ⊢
 exact PT (QjP rfl hx WZ Ja Q1 he) ht h1
end
end Go.Fg
namespace Go.Fg
open Go.RowKit (Below)
open Go.Proofs Go.Shelf Go.Sort
def sorted (zs:List Int):List Int:=zs.mergeSort fun x y=>decide (x≤y)
theorem Al (zs:List Int):(sorted zs).length=zs.length:=by simp [sorted]
def YV (off:Nat) (row:Nat→List D) (ts:List Int):Nat→List D:=fun i=>if off≤i∧i<off+ts.length then [.raw (.int .i64 (ts.getD (i - off) 0))] else row i
variable {P:Program} {ρ:Ren}
theorem QjS {w:World} {b n o:Nat} {os:Array Obj} {cur:Array Value} {e:TypeId} {fr:Nat × Nat} (d:Array Int) (hb:w.heap[b]? = some (.cells cur e fr)) :
  (grow (putRow (Value.int .i64) (Sort.ahead w n) b o d) os).heap[b]? = some (.cells (putCells (Value.int .i64) o d cur) e fr):=by
 have hg:b<w.heap.size:=(Array.getElem?_eq_some_iff.1 hb).1
 rw[heap_grow_old _ _ (by simpa using hg)]
 simp [putRow,mapBlock,Sort.ahead,Array.getElem?_modify,hb,onCells]
theorem QjT {w:World} {b n o:Nat} {os:Array Obj} (d:Array Int):w.grownBy (grow (putRow (Value.int .i64) (Sort.ahead w n) b o d) os) (some b):=by
 refine⟨rfl,rfl,rfl,by simp,fun k hk QD=>?_⟩
 rw[heap_grow_old _ _ (by simpa using hk)]
 have:b≠k:=fun e=>QD (by rw[e])
 simp [putRow,mapBlock,Sort.ahead,Array.getElem?_modify,this]
theorem QjU (Ly:Lays.n189 P ρ) {h:List Ob} {l g off N:Nat} {row:Nat→List D} {zs:List Int} (ho:h[l]? = some ⟨.arr,g,1,N,row⟩) (hn:off+zs.length≤N) (hr:∀i,i<zs.length→row (off+i)=[.raw (.int .i64 (zs.getD i 0))]) (hlen:zs.length<4611686018427387904) :
  QH P (ρ.f 189) h [.ref l g off zs.length] (fun d h'=>d=.tup []∧h'=h.set l ⟨.arr,g,1,N,YV off row (sorted zs)⟩):=by
 intro Z base w pl vs QJ hZ R YO hv
 match vs,YO with
 | [v],_=>
 have r0:=hv 0 (by simp)
 obtain⟨o,p,a,cap,e1,h1,h2,h3,h4,h5⟩:=yE r0
 rw[ho]at h1;cases h1
 have e1:v=.slice a zs.length cap:=e1
 have kE:=h5 rfl
 subst e1
 have Qd:l<h.length:=Jv ho
 by_cases h0:zs.length=0
 ·have hz:zs=[]:=List.length_eq_zero_iff.1 h0
  subst hz
  refine(Any.slices_Sort_int_none Ly a cap w).mono ?_
  rintro e w' ⟨rfl,rfl⟩
  have hs:h.set l ⟨.arr,g,1,N,YV off row (sorted [])⟩=h:=by
   have:YV off row (sorted [])=row:=by
    funext i
    have:¬ (off≤i∧i<off+(sorted []).length):=by rw[Al];simp
    unfold YV;rw[if_neg this]
   rw[this]
   apply List.ext_getElem?
   intro i
   by_cases hi:l=i
   ·subst hi;rw[List.getElem?_set_self Qd,ho]
   ·rw[List.getElem?_set_ne hi]
  rw[hs]
  exact⟨_,.tup [],h,pl,rfl,⟨rfl,rfl⟩,R,.tup [] [] rfl (fun i hi=>by simp at hi),Tr.refl _ _ _,.refl _ _⟩
 ·rcases kE with ⟨h6,_⟩|⟨b,q,c,el,rfl,rfl,hb,yO,ZP⟩
  ·exact absurd h6 h0
  ·obtain⟨yC,kh⟩:=R.at_ l _ b q ho h2
   obtain⟨c',Lr,Jt,ZS,Z6,ZR⟩:=kh.cells rfl
   rw[hb]at Jt;cases Jt
   simp only[Nat.mul_one]at yO ZS ZR ⊢
   have vE:∀i,i<zs.length→c[q+off+i]? = some (.int .i64 (zs.getD i 0)):=fun i hi=>by
    obtain⟨u,hu,yR⟩:=ZR (off+i) 0 (by show off+i<N;omega) (by show 0<1;omega)
    have e2:(row (off+i))=_:=hr i hi
    have yR:Qv Z h pl w (nth (row (off+i)) 0) u:=yR
    rw[e2]at yR
    have:=ZD yR
    rw[show q+off+i=q+(off+i+0) by omega,hu,this]
   have hH:Holds (Value.int .i64) w b (q+off) zs.toArray:=by
    intro j hj
    have Ku:j<zs.length:=by simpa using hj
    refine⟨?_,by simp [World.frozen?,hb]⟩
    rw[World.cell?_of_block (w:=w) (w':=w) rfl]
    simp only[World.cell?,hb]
    simp only[Option.isSome_none,Bool.false_eq_true,if_false]
    rw[vE j Ku]
    simp [List.getD_eq_getElem?_getD,Ku]
   refine(Any.slices_Sort_int Ly b (q+off) cap zs w hH (q9 hb) hlen).mono ?_
   rintro e w' ⟨rfl,n,os,hw⟩
   have hG:w.grownBy w' (some b):=by rw[hw];exact QjT _
   have ZX:w'.heap[b]? = some (.cells (putCells (Value.int .i64) (q+off) (sorted zs).toArray c) el (0,0)):=by rw[hw];exact QjS _ hb
   have ZC:(putCells (Value.int .i64) (q+off) (sorted zs).toArray c).size=c.size:=by simp [putCells]
   have hold:∀k,k≠b→k<w.heap.size→w'.heap[k]? = w.heap[k]? := fun k hk Qd=>hG.block k Qd (fun e=>hk (by cases e;rfl))
   have QjV:base≤b:=yC rfl
   have hB:Below base w w':=(Below.refl base w).grown hG QJ (fun k hk=>by cases hk;exact QjV)
   have T:=Tr.Za (w':=w') (o':=⟨.arr,g,1,N,YV off row (sorted zs)⟩) R ho h2 rfl rfl rfl hold (fun c1 Pc e1=>by rw[hb]at e1;cases e1;exact⟨_,ZX,ZC⟩)
   have zz:∀i,i<c.size→(putCells (Value.int .i64) (q+off) (sorted zs).toArray c)[i]? = if q+off≤i∧i<q+off+zs.length then some (.int .i64 ((sorted zs).getD (i - (q+off)) 0)) else c[i]? := fun i hi=>by
    have hl:(sorted zs).toArray.size=zs.length:=by simp [Al]
    simp only[putCells,Array.getElem?_mapIdx,hl,Array.getElem?_eq_getElem hi,Option.map_some]
    split
    ·rename_i V3
     have:i - (q+off)<(sorted zs).length:=by rw[Al];omega
     simp [List.getD_eq_getElem?_getD,this]
    ·rfl
   refine⟨_,.tup [],_,pl,rfl,⟨rfl,rfl⟩,QW.Za (w':=w') (o':=⟨.arr,g,1,N,YV off row (sorted zs)⟩) R ho h2 rfl rfl rfl rfl hold hb ZX ZC (by rw[ZC];simpa using ZS) (fun i hi=>?_) (fun i j hi hj=>?_) rfl,.tup [] [] rfl (fun i hi=>by simp at hi),T,hB⟩
   ·show (YV off row (sorted zs) i).length=1
    unfold YV
    split
    ·rfl
    ·exact Z6 i hi
   ·have hi:i<N:=hi
    have hj:j<1:=hj
    have hj0:j=0:=by omega
    subst hj0
    have hic:q+(i+0)<c.size:=by omega
    show ∃v,(putCells (Value.int .i64) (q+off) (sorted zs).toArray c)[q+(i*1+0)]? = some v∧Qv Z _ pl w' (nth (YV off row (sorted zs) i) 0) v
    rw[Nat.mul_one,zz _ hic]
    have hsr:YV off row (sorted zs) i=if off≤i∧i<off+zs.length then [.raw (.int .i64 ((sorted zs).getD (i - off) 0))] else row i:=by unfold YV;rw[Al]
    rw[hsr]
    by_cases V3:off≤i∧i<off+zs.length
    ·rw[if_pos (by omega),if_pos V3]
     exact⟨_,rfl,by rw[show q+(i+0) - (q+off)=i - off by omega];exact .cl _ _ (.raw _)⟩
    ·rw[if_neg (by omega),if_neg V3]
     obtain⟨u,hu,yR⟩:=ZR i 0 hi hj
     exact⟨u,hu,yR.tr T⟩
end Go.Fg
namespace Go.Fg.X
open Go.Proofs Go.Fg
open Go.Proofs.Tryz
def Qr (L:List Qj) (k:Int):Option Qj:=L.find? fun c=>c.iD==k
def J9 (e:QM):Int × D:=(e.k,e.v)
def VU (c:Qj):Int × D:=(c.iD,Vw c)
def KX (L:List Qj):Prop:=L.Pairwise fun a b=>a.iD<b.iD
structure JQ (es:List QM) (L:List Qj):Prop where
 perm:(es.map J9).Perm (L.map VU)
 sorted:KX L
theorem o7 {α:Type} {f:α→Int}:∀{l:List α},(l.map f).Nodup→∀{x y:α},x∈l→y∈l→f x=f y→x=y
 | [],_,x,_,hx,_,_=>by simp at hx
 | a::l,hn,x,y,hx,hy,e=>by
  simp only[List.map_cons,List.nodup_cons,List.mem_map,not_exists,not_and]at hn
  rcases List.mem_cons.1 hx with h1|h1<;>rcases List.mem_cons.1 hy with h2|h2
  ·rw[h1,h2]
  ·exact absurd (by rw[← e,h1]) (hn.1 y h2)
  ·exact absurd (by rw[e,h2]) (hn.1 x h1)
  ·exact o7 hn.2 h1 h2 e
theorem KX.nd {L:List Qj} (h:KX L):(L.map (·.iD)).Nodup:=by
 unfold List.Nodup
 rw[List.pairwise_map]
 exact List.Pairwise.imp (fun h=>by omega) h
theorem JQ.kJ {es:List QM} {L:List Qj} (T:JQ es L):Vq es:=by
 have h1:es.map (·.k)=(es.map J9).map Prod.fst:=by simp [J9,Function.comp_def]
 have h2:(L.map VU).map Prod.fst=L.map (·.iD):=by simp [VU,Function.comp_def]
 unfold Vq
 rw[h1,(T.perm.map Prod.fst).nodup_iff,h2]
 exact T.sorted.nd
theorem R9:∀{es:List QM},Vq es→∀{k:Int} {v:D},JJ es k=some v↔(k,v)∈es.map J9
 | [],_,k,v=>by simp [JJ]
 | e::es,hn,k,v=>by
  have Va:Vq es:=by unfold Vq at hn ⊢;simp only[List.map_cons,List.nodup_cons]at hn;exact hn.2
  simp only[JJ]
  by_cases h:e.k=k
  ·rw[if_pos h]
   constructor
   ·rintro⟨rfl⟩;simp [J9,h]
   ·intro hm
    simp only[List.map_cons,List.mem_cons]at hm
    rcases hm with hm|hm
    ·simp only[J9,Prod.mk.injEq]at hm;rw[hm.2]
    ·exfalso
     obtain⟨e',Vi,hh⟩:=List.mem_map.1 hm
     simp only[J9,Prod.mk.injEq]at hh
     unfold Vq at hn
     simp only[List.map_cons,List.nodup_cons,List.mem_map,not_exists,not_and]at hn
     exact hn.1 e' Vi (by rw[hh.1,h])
  ·rw[if_neg h,R9 Va]
   simp only[List.map_cons,List.mem_cons]
   constructor
   ·exact fun h=>.inr h
   ·rintro (hm|hm)
    ·simp only[J9,Prod.mk.injEq]at hm;exact absurd hm.1.symm h
    ·exact hm
theorem KY {L:List Qj} (h:KX L) {k:Int} {c:Qj}:Qr L k=some c↔c∈L∧c.iD=k:=by
 constructor
 ·intro e
  exact⟨List.mem_of_find?_eq_some e,by have:=List.find?_some e;simpa using this⟩
 ·rintro⟨hm,rfl⟩
  cases hf:Qr L c.iD with
  | none=>
   have:=List.find?_eq_none.1 hf c hm
   simp at this
  | some d=>
   have h1:=List.mem_of_find?_eq_some hf
   have h2:d.iD=c.iD:=by have:=List.find?_some hf;simpa using this
   rw[o7 h.nd h1 hm h2]
theorem Am {L:List Qj} {k:Int}:Qr L k=none↔∀c∈L,c.iD≠k:=by
 simp [Qr,List.find?_eq_none]
theorem JQ.look {es:List QM} {L:List Qj} (T:JQ es L) (k:Int):JJ es k=(Qr L k).map Vw:=by
 cases hf:Qr L k with
 | some c=>
  obtain⟨h1,h2⟩:=(KY T.sorted).1 hf
  rw[Option.map_some,R9 T.kJ,T.perm.mem_iff]
  exact List.mem_map.2 ⟨c,h1,by simp [VU,h2]⟩
 | none=>
  rw[Option.map_none]
  cases ha:JJ es k with
  | none=>rfl
  | some v=>
   rw[R9 T.kJ,T.perm.mem_iff]at ha
   obtain⟨c,hc,e⟩:=List.mem_map.1 ha
   simp only[VU,Prod.mk.injEq]at e
   exact absurd e.1 (Am.1 hf c hc)
theorem JQ.len {es:List QM} {L:List Qj} (T:JQ es L):es.length=L.length:=by
 have:=T.perm.length_eq
 simpa using this
theorem JQ.nil:JQ [] []:=⟨by simp,by simp [KX]⟩
def Kn:List Qj→Qj→List Qj
 | [],x=>[x]
 | c::r,x=>if x.iD<c.iD then x::c::r else if c.iD=x.iD then x::r else c::Kn r x
def Vb (L:List Qj) (k:Int):List Qj:=L.filter fun c=>c.iD != k
theorem GK {α:Type} {p:α→Bool} {l:List α} (h:∀x∈l,p x=true):l.filter p=l:=List.filter_eq_self.2 h
theorem BM:∀{L:List Qj} (x:Qj),KX L→(Kn L x).Perm (x::Vb L x.iD)
 | [],x,_=>by simp [Kn,Vb]
 | c::r,x,h=>by
  have hr:KX r:=List.Pairwise.of_cons h
  have hc:∀d∈r,c.iD<d.iD:=fun d hd=>(List.pairwise_cons.1 h).1 d hd
  simp only[Kn]
  by_cases h1:x.iD<c.iD
  ·rw[if_pos h1]
   have:Vb (c::r) x.iD=c::r:=GK fun d hd=>by
    rcases List.mem_cons.1 hd with rfl|hd
    ·simp;omega
    ·have:=hc d hd;simp;omega
   rw[this]
  ·rw[if_neg h1]
   by_cases h2:c.iD=x.iD
   ·rw[if_pos h2]
    have e1:Vb r x.iD=r:=GK fun d hd=>by have:=hc d hd;simp;omega
    have:Vb (c::r) x.iD=r:=by unfold Vb at e1 ⊢;rw[List.filter_cons_of_neg (by simp [h2]),e1]
    rw[this]
   ·rw[if_neg h2]
    have:Vb (c::r) x.iD=c::Vb r x.iD:=by unfold Vb;rw[List.filter_cons_of_pos (by simp [h2])]
    rw[this]
    exact((BM x hr).cons c).trans (List.Perm.swap x c _)
theorem DX:∀{L:List Qj} (x:Qj),KX L→KX (Kn L x)
 | [],x,_=>by simp [Kn,KX]
 | c::r,x,h=>by
  have hr:KX r:=List.Pairwise.of_cons h
  have hc:∀d∈r,c.iD<d.iD:=fun d hd=>(List.pairwise_cons.1 h).1 d hd
  simp only[Kn]
  by_cases h1:x.iD<c.iD
  ·rw[if_pos h1]
   exact List.pairwise_cons.2 ⟨fun d hd=>by
    rcases List.mem_cons.1 hd with rfl|hd
    ·exact h1
    ·have:=hc d hd;omega,h⟩
  ·rw[if_neg h1]
   by_cases h2:c.iD=x.iD
   ·rw[if_pos h2]
    exact List.pairwise_cons.2 ⟨fun d hd=>by have:=hc d hd;omega,hr⟩
   ·rw[if_neg h2]
    refine List.pairwise_cons.2 ⟨fun d hd=>?_,DX x hr⟩
    have:=(BM x hr).mem_iff.1 hd
    rcases List.mem_cons.1 this with rfl|JE
    ·omega
    ·exact hc d (List.mem_filter.1 JE).1
theorem Sa {L:List Qj} (k:Int) (h:KX L):KX (Vb L k):=List.Pairwise.filter _ h
theorem o8:∀{es:List QM} (k:Int) (v:D),Vq es→(∃u,JJ es k=some u)→((je es k v).map J9).Perm ((k,v)::(es.map J9).filter fun p=>p.1 != k)
 | [],k,v,_,h=>by simp [JJ]at h
 | e::es,k,v,hn,h=>by
  have Jc:=hn
  unfold Vq at Jc
  simp only[List.map_cons,List.nodup_cons,List.mem_map,not_exists,not_and]at Jc
  simp only[je]
  by_cases he:e.k=k
  ·rw[if_pos he]
   have e1:(es.map J9).filter (fun p=>p.1 != k)=es.map J9:=GK fun p hp=>by
    obtain⟨e',Vi,rfl⟩:=List.mem_map.1 hp
    have:=Jc.1 e' Vi
    simp [J9];omega
   have:((e::es).map J9).filter (fun p=>p.1 != k)=es.map J9:=by rw[List.map_cons,List.filter_cons_of_neg (by simp [J9,he]),e1]
   rw[this]
   simp [J9]
  ·rw[if_neg he]
   have h2:∃u,JJ es k=some u:=by simpa only [JJ,if_neg he] using h
   have:((e::es).map J9).filter (fun p=>p.1 != k)=J9 e::(es.map J9).filter (fun p=>p.1 != k):=by rw[List.map_cons,List.filter_cons_of_pos (by simp [J9,he])]
   rw[this,List.map_cons]
   exact((o8 k v Jc.2 h2).cons _).trans (List.Perm.swap _ _ _)
theorem QjZ {es:List QM} {L:List Qj} (T:JQ es L) (q:IntKind) (c:Nat) (x:Qj):∃c' es',Ka q c es x.iD (Vw x)=QG q c' es'∧JQ es' (Kn L x):=by
 have hp:((Kn L x).map VU).Perm ((x.iD,Vw x)::(L.map VU).filter fun p=>p.1 != x.iD):=by
  have:=(BM x T.sorted).map VU
  rw[List.map_cons]at this
  refine this.trans ?_
  have:(L.map VU).filter (fun p=>p.1 != x.iD)=(Vb L x.iD).map VU:=by
   rw[List.filter_map];rfl
  rw[this]
  exact List.Perm.refl _
 have hf:=T.perm.filter fun p=>p.1 != x.iD
 unfold Ka
 cases ha:JJ es x.iD with
 | some u=>exact⟨c,_,rfl,⟨(o8 x.iD (Vw x) T.kJ ⟨u,ha⟩).trans ((hf.cons _).trans hp.symm),DX x T.sorted⟩⟩
 | none=>
  refine⟨c+1,_,rfl,⟨?_,DX x T.sorted⟩⟩
  have e1:(es.map J9).filter (fun p=>p.1 != x.iD)=es.map J9:=GK fun p hp=>by
   obtain⟨e',Vi,rfl⟩:=List.mem_map.1 hp
   have:=(FN ha).1 e' Vi
   simp [J9];omega
  rw[e1]at hf
  rw[List.map_append]
  refine List.perm_append_comm.trans ?_
  exact(hf.cons (x.iD,Vw x)).trans hp.symm
theorem o9:∀{es:List QM} (k:Int),Vq es→((ZQ es k).map J9)=((es.map J9).filter fun p=>p.1 != k)
 | [],k,_=>rfl
 | e::es,k,hn=>by
  have Jc:=hn
  unfold Vq at Jc
  simp only[List.map_cons,List.nodup_cons,List.mem_map,not_exists,not_and]at Jc
  simp only[ZQ]
  by_cases he:e.k=k
  ·rw[if_pos he,List.map_cons,List.filter_cons_of_neg (by simp [J9,he])]
   exact(GK fun p hp=>by
    obtain⟨e',Vi,rfl⟩:=List.mem_map.1 hp
    have:=Jc.1 e' Vi
    simp [J9];omega).symm
  ·rw[if_neg he,List.map_cons,List.map_cons,List.filter_cons_of_pos (by simp [J9,he]),o9 k Jc.2]
theorem pb {es:List QM} {L:List Qj} (T:JQ es L) (k:Int):JQ (ZQ es k) (Vb L k):=by
 refine⟨?_,Sa k T.sorted⟩
 rw[o9 k T.kJ]
 have:(L.map VU).filter (fun p=>p.1 != k)=(Vb L k).map VU:=by rw[List.filter_map];rfl
 rw[← this]
 exact T.perm.filter _
theorem pc {zs ts:List Int} (h:zs.Perm ts) (hs:ts.Pairwise (·<·)):sorted zs=ts:=by
 refine List.Perm.eq_of_pairwise (le:=fun a b=>a≤b) (fun a b _ _ h1 h2=>by omega) ?_ (hs.imp (fun h=>by omega)) ((List.mergeSort_perm _ _).trans h)
 have:=List.pairwise_mergeSort (le:=fun x y:Int=>decide (x≤y)) (fun a b c h1 h2=>by simp at *;omega) (fun a b=>by simp;omega) zs
 exact this.imp (fun h=>by simpa using h)
section
variable (h:List Ob) (t m c:Nat) {es:List QM} {L:List Qj} (T:JQ es L)
 (ht:(h.map Ob.ro)[t]? = some ⟨.KF,0,1,1,fun _=>[.mref m 0]⟩) (hm:(h.map Ob.ro)[m]? = some (QG .i64 c es).ro)
include T ht hm
theorem pe (id:Int):QP prog 56 h [.ptr t 0 0 0,Qb id] (fun d=>d=.tup [Vw ((Qr L id).getD default),Qb (if (Qr L id).isSome then 0 else 6)]):=by
 have hk:=T.look id
 cases hf:Qr L id with
 | none=>
  rw[hf,Option.map_none]at hk
  refine Zi Qe 200 func56 rfl ntmps56 results56 rfl fun base w pl F hF QS hb=>?_
  rw[← hF]at ht hm
  have QY:=Qd ht
  have QO:=Qd hm
  simp only[go_sem,simprocAttr,Qa,ht,QY,hm,QO,hk]
  exact⟨_,rfl,rfl⟩
 | some x=>
  rw[hf,Option.map_some]at hk
  refine Zi Qe 200 func56 rfl ntmps56 results56 rfl fun base w pl F hF QS hb=>?_
  rw[← hF]at ht hm
  have QY:=Qd ht
  have QO:=Qd hm
  simp only[go_sem,simprocAttr,Qa,ht,QY,hm,QO,hk]
  exact⟨_,rfl,rfl⟩
end
def JR (F H:List Ob):Prop:=∃g,H=F++g
theorem JR.refl (F:List Ob):JR F F:=⟨[],by simp⟩
theorem JR.app {F H:List Ob} (h:JR F H) (g:List Ob):JR F (H++g):=by
 obtain⟨x,rfl⟩:=h
 exact⟨x++g,by simp⟩
theorem JR.set {F H:List Ob} (h:JR F H) {lo:Nat} (hl:F.length≤lo) (o:Ob):JR F (H.set lo o):=by
 obtain⟨x,rfl⟩:=h
 exact⟨x.set (lo - F.length) o,by rw[List.set_append_right _ _ hl]⟩
theorem JR.len {F H:List Ob} (h:JR F H):F.length≤H.length:=by
 obtain⟨x,rfl⟩:=h
 simp
theorem JR.get {F H:List Ob} (h:JR F H) {l:Nat} {o:Ob} (e:F[l]? = some o):H[l]? = some o:=by
 obtain⟨x,rfl⟩:=h
 rw[QU (Qd e)];exact e
def Z4 (n:Nat) (H:List Ob) (d:D) (L:List Int):Prop:=(d=.nil∧L=[])∨∃lo g off row,d=.ref lo g off L.length∧(n≤lo∧off=0)∧H[lo]? = some ⟨.arr,g,1,off+L.length,row⟩∧∀i,i<L.length→row (off+i)=[Qb (L.getD i 0)]
theorem Z4.app {n:Nat} {H:List Ob} {d:D} {L:List Int} (h:Z4 n H d L) (g:List Ob):Z4 n (H++g) d L:=by
 rcases h with h|⟨lo,gg,off,row,h1,h2,h3,h4⟩
 ·exact .inl h
 ·exact .inr ⟨lo,gg,off,row,h1,h2,by rw[QU (Qd h3)];exact h3,h4⟩
theorem Z4.base {F h g:List Ob} {d:D} {L:List Int} (hl:F.length=h.length) (x:Z4 F.length (F++g) d L):Z4 h.length (h++g) d L:=by
 rcases x with x|⟨lo,gg,off,row,h1,h2,h3,h4⟩
 ·exact .inl x
 ·refine .inr ⟨lo,gg,off,row,h1,by omega,?_,h4⟩
  rw[List.getElem?_append_right (by omega)]at h3 ⊢
  rw[← hl];exact h3
theorem Z4.done {F h H:List Ob} {d:D} {L:List Int} (hl:F.length=h.length) (hx:JR F H) (x:Z4 F.length H d L):∃g,H=F++g∧Z4 h.length (h++g) d L:=by
 obtain⟨g,rfl⟩:=hx
 exact⟨g,rfl,x.base hl⟩
theorem BN {dn:List Int} {off:Nat} {row:Nat→List D} {v:Int} (hr:∀i,i<dn.length→row (off+i)=[Qb (dn.getD i 0)]):∀i,i<(dn++[v]).length→Jx dn.length off row (fun _=>[Qb v]) (0+i)=[Qb ((dn++[v]).getD i 0)]:=fun i hi=>by
 rw[Nat.zero_add]
 simp at hi
 by_cases h1:i<dn.length
 ·rw[yL h1,hr i h1];simp [h1,List.getElem?_append_left h1]
 ·have:i=dn.length:=by omega
  subst this
  rw[w6 (Nat.le_refl _)];simp
theorem BO {h:List Ob} {l:Nat} {o:Ob} (e:h[l]? = some o.ro):(h.map Ob.ro)[l]? = some o.ro:=by have:=ZA e;rwa [ro_ro]at this
def ZI (L:List Qj):Nat→Int→List Int
 | 0,_=>[]
 | n+1,id=>match Qr L id with
  | none=>[]
  | some c=>id::ZI L n c.parent
def Ends (L:List Qj):Nat→Int→Prop
 | 0,id=>Qr L id=none
 | n+1,id=>match Qr L id with
  | none=>True
  | some c=>Ends L n c.parent
structure Qj0 (t:Nat) (L:List Qj) (N:Nat) (id:Int) (F:List Ob) (n:Nat) (s:St):Prop where
 ex:∃dn cur d H,dn++ZI L n cur=ZI L N id∧dn.length+n≤N+1∧Ends L n cur∧JR F H∧Z4 F.length H d dn∧s=⟨[(0,.ptr t 0 0 0),(1,Qb cur),(5,d)],H⟩
section
variable (h:List Ob) (t m c:Nat) {es:List QM} {L:List Qj} (T:JQ es L)
 (ht:(h.map Ob.ro)[t]? = some ⟨.KF,0,1,1,fun _=>[.mref m 0]⟩) (hm:(h.map Ob.ro)[m]? = some (QG .i64 c es).ro)
include T ht hm
theorem pf (id:Int) (N:Nat) (hN:N<1000000) (hE:Ends L N id):J8 prog 37 h [.ptr t 0 0 0,Qb id] (fun d g=>Z4 h.length (h++g) d (ZI L N id)):=by
 refine Yk Qe 200 func37 rfl ntmps37 results37 rfl fun base w pl F hF QS hb=>?_
 rw[← hF]at ht hm
 have QY:=Qd ht
 have QO:=Qd hm
 simp only[go_sem,simprocAttr,Qa,ht,QY,hm,QO]
 refine Dt (Qj0 t L N id F) N (s0:=⟨[(0,.ptr t 0 0 0),(1,Qb id),(5,.nil)],F⟩) (Qk.frame (by simp only[go_sem,simprocAttr])) ⟨[],id,.nil,F,rfl,by simp,hE,JR.refl F,.inl ⟨rfl,rfl⟩,rfl⟩ ?_
 rintro n s ⟨dn,cur,d,H,h1,h2,h3,hx,hs,rfl⟩
 have hFH:=hx.len
 have Ym:=hx.get ht
 have KH:=hx.get hm
 have DY:=Qd Ym
 have wa:=Qd KH
 have hg:=pe H t m c T (ZA Ym) (BO KH) cur
 refine Qc hb ?_
 simp only[go_sem,simprocAttr,Qa]
 cases hf:Qr L cur with
 | none=>
  rw[hf]at hg
  simp only[Option.isSome_none,Bool.false_eq_true,if_false]at hg
  refine QK hb YQ rfl ?_ hg rfl fun d hR=>?_
  ·simp only[go_sem,simprocAttr,Qa,Ym,KH,DY,wa]
  subst hR
  refine Qc hb ?_
  simp only[go_sem,simprocAttr,Qa,Ym,KH,DY,wa]
  have e0:ZI L n cur=[]:=by cases n with
   | zero=>rfl
   | succ n=>simp only[ZI,hf]
  rw[e0,List.append_nil]at h1
  rw[← h1]
  exact Z4.done QS (hx.app _) (hs.app _)
 | some x=>
  rw[hf]at hg
  simp only[Option.isSome_some,if_true,Option.getD_some]at hg
  obtain⟨n,rfl⟩:∃n',n=n'+1:=by
   cases n with
   | zero=>rw[Ends,hf]at h3;cases h3
   | succ n=>exact⟨n,rfl⟩
  have Sb:Ends L n x.parent:=by simpa only [Ends,hf] using h3
  have ZB:(dn++[cur])++ZI L n x.parent=ZI L N id:=by rw[← h1];simp only[ZI,hf,List.append_assoc,List.singleton_append]
  rcases hs with ⟨rfl,rfl⟩|⟨lo,g,off,row,rfl,Zr,ho,hr⟩
  ·refine QK hb YQ rfl ?_ hg rfl fun d hR=>?_
   ·simp only[go_sem,simprocAttr,Qa,Ym,KH,DY,wa]
   subst hR
   refine Qc hb ?_
   simp only[go_sem,simprocAttr,Qa,Ym,KH,DY,wa]
   refine⟨n,⟨[(0,.ptr t 0 0 0),(1,Qb x.parent),(5,.ref (H.length+2) 0 0 1)],_⟩,by omega,Qk.frame (by simp only[go_sem,simprocAttr]),⟨⟨[cur],x.parent,_,_,ZB,by simp at h2 ⊢;omega,Sb,hx.app _,.inr ⟨H.length+2,0,0,_,rfl,by omega,by rw[KW rfl];rfl,fun i hi=>?_⟩,rfl⟩⟩⟩
   have:i=0:=by simp at hi;omega
   subst this;rfl
  ·have Qf:=Qd ho
   refine QK hb YQ rfl ?_ hg rfl fun d hR=>?_
   ·simp only[go_sem,simprocAttr,Qa,Ym,KH,DY,wa,ho,Qf]
   subst hR
   refine Qc hb ?_
   simp only[go_sem,simprocAttr,Qa,Ym,KH,DY,wa,ho,Qf]
   refine⟨by omega,n,⟨[(0,.ptr t 0 0 0),(1,Qb x.parent),(5,.ref lo (g+1) 0 (dn.length+1))],_⟩,by omega,Qk.frame (by simp only[go_sem,simprocAttr]),⟨⟨dn++[cur],x.parent,_,_,ZB,?_,Sb,?_,?_,rfl⟩⟩⟩
   ·simp at h2 ⊢;omega
   ·exact(hx.set Zr.1 _).app _
   ·refine .inr ⟨lo,g+1,0,_,by simp,by omega,?_,BN hr⟩
    rw[QU (by simpa using Qf),Qw Qf]
    simp [Qb]
end
def V4 (L:List Qj) (id:Int):Bool:=id==0 || decide (1<QI ((Qr L id).getD default).ls)
section
variable (h:List Ob) (t m c:Nat) {es:List QM} {L:List Qj} (T:JQ es L)
 (ht:(h.map Ob.ro)[t]? = some ⟨.KF,0,1,1,fun _=>[.mref m 0]⟩) (hm:(h.map Ob.ro)[m]? = some (QG .i64 c es).ro)
include T ht hm
theorem DZ (id:Int) (N:Nat) (hN:N<1000000) (hE:Ends L N id):QP prog 221 h [.ptr t 0 0 0,Qb id] (fun d=>d=Qb (ZI L N id).length):=by
 refine Zi Qe 200 func221 rfl ntmps221 results221 rfl fun base w pl F hF QS hb=>?_
 rw[← hF]at ht hm
 have QY:=Qd ht
 have QO:=Qd hm
 simp only[go_sem,simprocAttr,Qa,ht,QY,hm,QO]
 refine Ad hb MJ rfl ?_ (pf F t m c T (ZA ht) (BO hm) id N hN hE) rfl fun d g2 hs=>?_
 ·simp only[go_sem,simprocAttr]
 rcases hs with ⟨rfl,h0⟩|⟨lo,g,off,row,rfl,Zr,ho,hr⟩
 ·refine Qc hb ?_
  simp only[go_sem,simprocAttr,Qa,h0]
  exact⟨_,rfl⟩
 ·have Qf:=Qd ho
  refine Qc hb ?_
  simp only[go_sem,simprocAttr,Qa,ho,Qf]
  exact⟨_,rfl⟩
theorem Nb (id:Int):QP prog 220 h [.ptr t 0 0 0,Qb id] (fun d=>d=QN (V4 L id)):=by
 by_cases h0:id=0
 ·have e:V4 L id=true:=by simp [V4,h0]
  rw[e]
  refine Zi Qe 200 func220 rfl ntmps220 results220 rfl fun base w pl F hF QS hb=>?_
  rw[← hF]at ht hm
  have QY:=Qd ht
  have QO:=Qd hm
  simp only[go_sem,simprocAttr,Qa,ht,QY,hm,QO,XO h0]
  exact⟨[],by simp⟩
 ·have hk:=T.look id
  have e:V4 L id=decide (1<QI ((Qr L id).getD default).ls):=by simp [V4,h0]
  rw[e]
  cases hf:Qr L id with
  | none=>
   rw[hf,Option.map_none]at hk
   refine Zi Qe 200 func220 rfl ntmps220 results220 rfl fun base w pl F hF QS hb=>?_
   rw[← hF]at ht hm
   have QY:=Qd ht
   have QO:=Qd hm
   simp only[go_sem,simprocAttr,Qa,ht,QY,hm,QO,hk,VG h0]
   refine QE hb YR rfl ?_ (YT ⟨0,0,false,⟨0,0,0⟩,⟨0,0,0⟩,⟨0,0,0⟩,0,0⟩) (Ql.flat rfl) rfl fun d h hR=>?_
   ·simp only[go_sem,simprocAttr,Qa]
   obtain⟨rfl,rfl⟩:=hR
   refine Qc hb ?_
   simp only[go_sem,simprocAttr,Qa]
   exact⟨[],(List.append_nil F).symm,rfl⟩
  | some x=>
   rw[hf,Option.map_some]at hk
   refine Zi Qe 200 func220 rfl ntmps220 results220 rfl fun base w pl F hF QS hb=>?_
   rw[← hF]at ht hm
   have QY:=Qd ht
   have QO:=Qd hm
   simp only[go_sem,simprocAttr,Qa,ht,QY,hm,QO,hk,VG h0]
   refine QE hb YR rfl ?_ (YT x) (Ql.flat rfl) rfl fun d h hR=>?_
   ·simp only[go_sem,simprocAttr,Qa]
   obtain⟨rfl,rfl⟩:=hR
   refine Qc hb ?_
   simp only[go_sem,simprocAttr,Qa]
   exact⟨[],by simp⟩
end
def Qm (L:List Qj) (g:Qj→Bool) (k:Int):Bool:=((Qr L k).map g).getD false
theorem Qj1 {es:List QM} {seen:List Nat} {b:Nat} (p:QM→Bool) (h:∀e∈es,e.b≠b):(es.filter fun x=>(seen++[b]).contains x.b&&p x)=es.filter fun x=>seen.contains x.b&&p x:=by
 apply List.filter_congr
 intro x hx
 have:=h x hx
 simp [this]
theorem pg:∀{es:List QM} {seen:List Nat} {e:QM} (p:QM→Bool),(es.map (·.b)).Nodup→e∈es→e.b ∉ seen→(es.filter fun x=>(seen++[e.b]).contains x.b&&p x).Perm (if p e then e::es.filter (fun x=>seen.contains x.b&&p x) else es.filter fun x=>seen.contains x.b&&p x)
 | [],_,_,_,_,h,_=>by simp at h
 | x::es,seen,e,p,hn,h,hs=>by
  simp only[List.map_cons,List.nodup_cons,List.mem_map,not_exists,not_and]at hn
  rcases List.mem_cons.1 h with h1|h1
  ·subst h1
   have e1:=Qj1 (seen:=seen) (b:=e.b) p (es:=es) fun y hy he=>hn.1 y hy he
   have hc:seen.contains e.b=false:=by simpa using hs
   rw[List.filter_cons,List.filter_cons,e1]
   simp only[hc,Bool.false_and,Bool.false_eq_true,if_false]
   have:(seen++[e.b]).contains e.b=true:=by simp
   rw[this,Bool.true_and]
  ·have ih:=pg p hn.2 h1 hs
   have QD:x.b≠e.b:=fun he=>hn.1 e h1 he.symm
   have hc:(seen++[e.b]).contains x.b=seen.contains x.b:=by simp [QD]
   rw[List.filter_cons,List.filter_cons,hc]
   by_cases h2:(seen.contains x.b&&p x)=true
   ·rw[if_pos h2,if_pos h2]
    by_cases h3:p e=true
    ·rw[if_pos h3]at ih ⊢
     exact(ih.cons x).trans (List.Perm.swap _ _ _)
    ·rw[if_neg h3]at ih ⊢
     exact ih.cons x
   ·rw[if_neg h2,if_neg h2]
    exact ih
theorem JQ.qF {es:List QM} {L:List Qj} (T:JQ es L) {e:QM} (he:e∈es):∃x,Qr L e.k=some x∧e.v=Vw x∧x.iD=e.k:=by
 have:J9 e∈L.map VU:=T.perm.mem_iff.1 (List.mem_map.2 ⟨e,he,rfl⟩)
 obtain⟨x,hx,e1⟩:=List.mem_map.1 this
 simp only[VU,J9,Prod.mk.injEq]at e1
 exact⟨x,(KY T.sorted).2 ⟨hx,e1.1⟩,e1.2.symm,e1.1⟩
theorem JQ.pick {es:List QM} {L:List Qj} (T:JQ es L) (g:Qj→Bool):((es.filter fun e=>Qm L g e.k).map (·.k)).Perm ((L.filter g).map (·.iD)):=by
 have h1:=(T.perm.filter fun p=>Qm L g p.1).map Prod.fst
 have e1:((es.map J9).filter fun p=>Qm L g p.1).map Prod.fst=(es.filter fun e=>Qm L g e.k).map (·.k):=by
  rw[List.filter_map,List.map_map];rfl
 have e2:((L.map VU).filter fun p=>Qm L g p.1).map Prod.fst=(L.filter g).map (·.iD):=by
  rw[List.filter_map,List.map_map]
  have:L.filter ((fun p=>Qm L g p.1) ∘ VU)=L.filter g:=List.filter_congr fun x hx=>by
   have:=(KY T.sorted).2 ⟨hx,rfl⟩
   simp [Qm,VU,this]
  rw[this];rfl
 rw[e1,e2]at h1
 exact h1
theorem Qj2 {L:List Qj} (h:KX L) (g:Qj→Bool):((L.filter g).map (·.iD)).Pairwise (·<·):=by
 rw[List.pairwise_map]
 exact List.Pairwise.filter g h
open Go.Shelf in
theorem Qj3 {P:Program} {ρ:Ren} (Ly:Lays.n189 P ρ) (h:List Ob):QH P (ρ.f 189) h [.nil] (fun d h'=>d=.tup []∧h'=h):=by
 intro Z base w pl vs QJ hZ R YO hv
 match vs,YO with
 | [v],_=>
 obtain⟨a,e1⟩:=yD (hv 0 (by simp))
 have e1:v=_:=e1
 subst e1
 refine(Any.slices_Sort_int_none Ly a 0 w).mono ?_
 rintro e w' ⟨rfl,rfl⟩
 exact⟨_,.tup [],h,pl,rfl,⟨rfl,rfl⟩,R,.tup [] [] rfl (fun i hi=>by simp at hi),Tr.refl _ _ _,.refl _ _⟩
open Go.Shelf in
def Tryz.Qj4:Go.Shelf.Ren:=⟨fun|189=>132|125=>191|257=>190|128=>241|129=>242|294=>232|295=>233|296=>234|297=>235|298=>236|299=>237|216=>238|300=>239|301=>240|328=>277|329=>278|330=>279|331=>280|332=>281|215=>282|343=>289|n=>n,fun|28=>57|3=>3|46=>282|0=>0|51=>339|53=>25|4=>4|183=>333|182=>332|131=>204|5=>5|9=>9|218=>366|222=>369|228=>378|229=>84|n=>n,fun|n=>n⟩
theorem ph:Go.Proofs.Lays.n189 prog Tryz.Qj4:={
 mixed:=by kernel_rfl
 f125:=func191.trans (congrArg some (by kernel_rfl))
 f128:=func241.trans (congrArg some (by kernel_rfl))
 f129:=func242.trans (congrArg some (by kernel_rfl))
 f189:=func132.trans (congrArg some (by kernel_rfl))
 f215:=func282.trans (congrArg some (by kernel_rfl))
 f216:=func238.trans (congrArg some (by kernel_rfl))
 f257:=func190.trans (congrArg some (by kernel_rfl))
 f294:=func232.trans (congrArg some (by kernel_rfl))
 f295:=func233.trans (congrArg some (by kernel_rfl))
 f296:=func234.trans (congrArg some (by kernel_rfl))
 f297:=func235.trans (congrArg some (by kernel_rfl))
 f298:=func236.trans (congrArg some (by kernel_rfl))
 f299:=func237.trans (congrArg some (by kernel_rfl))
 f300:=func239.trans (congrArg some (by kernel_rfl))
 f301:=func240.trans (congrArg some (by kernel_rfl))
 f328:=func277.trans (congrArg some (by kernel_rfl))
 f329:=func278.trans (congrArg some (by kernel_rfl))
 f330:=func279.trans (congrArg some (by kernel_rfl))
 f331:=func280.trans (congrArg some (by kernel_rfl))
 f332:=func281.trans (congrArg some (by kernel_rfl))
 f343:=func289.trans (congrArg some (by kernel_rfl))
 t0:=underlying0
 a0:=isAgg0
 z0:=sizeOf0
 v0:=zeroValue0
 t3:=underlying3
 a3:=isAgg3
 z3:=sizeOf3
 v3:=zeroValue3
 t4:=underlying4
 a4:=isAgg4
 z4:=sizeOf4
 v4:=zeroValue4
 t5:=underlying5
 a5:=isAgg5
 z5:=sizeOf5
 v5:=zeroValue5
 t9:=underlying9
 a9:=isAgg9
 z9:=sizeOf9
 v9:=zeroValue9
 t28:=underlying57
 a28:=isAgg57
 z28:=sizeOf57
 v28:=zeroValue57
 t46:=underlying282
 a46:=isAgg282
 z46:=sizeOf282
 v46:=zeroValue282
 t51:=underlying339
 a51:=isAgg339
 z51:=sizeOf339
 v51:=zeroValue339
 t53:=underlying25
 a53:=isAgg25
 z53:=sizeOf25
 v53:=zeroValue25
 t131:=underlying204
 a131:=isAgg204
 z131:=sizeOf204
 v131:=zeroValue204
 t182:=underlying332
 a182:=isAgg332
 z182:=sizeOf332
 v182:=zeroValue332
 t183:=underlying333
 a183:=isAgg333
 z183:=sizeOf333
 v183:=zeroValue333
 t218:=underlying366
 a218:=isAgg366
 z218:=sizeOf366
 v218:=zeroValue366
 t222:=underlying369
 a222:=isAgg369
 z222:=sizeOf369
 v222:=zeroValue369
 t228:=underlying378
 a228:=isAgg378
 z228:=sizeOf378
 v228:=zeroValue378
 t229:=underlying84
 a229:=isAgg84
 z229:=sizeOf84
 v229:=zeroValue84 }
theorem pk {h:List Ob} {l g off N:Nat} {row:Nat→List D} {zs:List Int} (ho:h[l]? = some ⟨.arr,g,1,N,row⟩) (hn:off+zs.length≤N) (hr:∀i,i<zs.length→row (off+i)=[.raw (.int .i64 (zs.getD i 0))]) (hlen:zs.length<4611686018427387904) :
  QH prog 132 h [.ref l g off zs.length] (fun d h'=>d=.tup []∧h'=h.set l ⟨.arr,g,1,N,YV off row (sorted zs)⟩):=QjU ph ho hn hr hlen
theorem pn (h:List Ob):QH prog 132 h [.nil] (fun d h'=>d=.tup []∧h'=h):=Qj3 ph h
theorem xM (d:D):Vt d d:=by unfold Vt;split<;>first|exact rfl|simp_all
theorem wc:∀l:List D,Xo l l
 | []=>trivial
 | d::r=>⟨xM d,wc r⟩
def GL (F:List Ob) (f nf:Nat) (QC:List D) (g:Qj→Bool):Prop:=∀(h:List Ob) (c:Qj),JR F h→QP prog f h (Z8 nf QC [Vw c]) (fun d=>d=QN (g c))
structure Qj5 (t m c:Nat) (es:List QM) (L:List Qj) (gk:Qj→Bool) (so:D) (F:List Ob) (n:Nat) (s:St):Prop where
 ex:∃seen d out H,zy es seen=n∧JR F H∧Z4 F.length H d out∧out.Perm ((es.filter fun e=>seen.contains e.b&&Qm L gk e.k).map (·.k))∧H[F.length]? = some (VF m c c seen) ∧
  s=⟨[(0,.ptr t 0 0 0),(1,so),(5,d),(14,.mref F.length 0)],H⟩
section
variable (h:List Ob) (t m c:Nat) {es:List QM} {L:List Qj} (T:JQ es L) (hlen:L.length<1000000)
 (ht:(h.map Ob.ro)[t]? = some ⟨.KF,0,1,1,fun _=>[.mref m 0]⟩) (hm:(h.map Ob.ro)[m]? = some (QG .i64 c es).ro)
include T ht hm hlen
theorem Nf (so:D) (f nf:Nat) (QC:List D) (hf:Qp prog f) (JY:Kb so=some (f,nf,QC)) (gk:Qj→Bool) (hg:GL (h.map Ob.ro) f nf QC gk) :
  J8 prog 61 h [.ptr t 0 0 0,so] (fun d g=>Z4 h.length (h++g) d ((L.filter gk).map (·.iD))):=by
 refine Yk Qe 200 func61 rfl ntmps61 results61 rfl fun base w pl F hF QS hb=>?_
 rw[← hF]at ht hm
 have QY:=Qd ht
 have QO:=Qd hm
 simp only[go_sem,simprocAttr,Qa,ht,QY,hm,QO]
 refine QjO (kd:=.Fv) (q:=.i64) (l:=m) (c:=c) (es:=es) rfl (by simp only[go_sem,simprocAttr,Qa,hm,QO];rfl) fun hB=>?_
 refine Dt (Qj5 t m c es L gk so F) (zy es []) (s0:=⟨[(0,.ptr t 0 0 0),(1,so),(5,.nil),(14,.mref F.length 0)],F++[VF m c c []]⟩) (Qk.frame (by simp only[go_sem,simprocAttr])) ⟨[],.nil,[],_,rfl,⟨_,rfl⟩,.inl ⟨rfl,rfl⟩,by simp,by rw[Kc rfl];rfl,rfl⟩ ?_
 rintro n s ⟨seen,d,out,H,hn,hx,hs,hp,WZ,rfl⟩
 have KH:=hx.get hm
 have wa:=Qd KH
 have Qj6:=Qd WZ
 refine Qc hb ?_
 simp only[go_sem,simprocAttr,Qa]
 refine Qeu hb (li:=F.length) (l:=m) (c:=c) (es:=es) (seen:=seen) (q:=.i64) (kd:=.Fv) rfl WZ rfl KH rfl (fun Vr=>?_) (fun e he yV=>?_)
 ·refine Qc hb ?_
  simp only[go_sem,simprocAttr,Qa]
  have Ae:sorted out=(L.filter gk).map (·.iD):=by
   refine pc (hp.trans ?_) (Qj2 T.sorted gk)
   have:(es.filter fun e=>seen.contains e.b&&Qm L gk e.k)=es.filter fun e=>Qm L gk e.k:=List.filter_congr fun e he=>by
    have:seen.contains e.b=true:=by simpa using Vr e he
    rw[this,Bool.true_and]
   rw[this]
   exact T.pick gk
  have zA:out.length<4611686018427387904:=by
   have h1:out.length=((L.filter gk).map (·.iD)).length:=by rw[← Ae,Al]
   have h2:=List.length_filter_le gk L
   rw[List.length_map]at h1
   omega
  rcases hs with ⟨rfl,rfl⟩|⟨lo,g,off,row,rfl,Zr,ho,hr⟩
  ·refine Qc hb ?_
   simp only[go_sem,simprocAttr,Qa]
   refine QT hb MM rfl ?_ (pn H) rfl fun d h hR=>?_
   ·simp only[go_sem,simprocAttr]
   obtain⟨rfl,rfl⟩:=hR
   refine Qc hb ?_
   simp only[go_sem,simprocAttr]
   exact Z4.done QS hx (.inl ⟨rfl,by rw[← Ae];simp [sorted]⟩)
  ·have Qf:=Qd ho
   refine Qc hb ?_
   simp only[go_sem,simprocAttr,Qa]
   refine QT hb MM rfl ?_ (pk ho (Nat.le_refl _) hr zA) rfl fun d h hR=>?_
   ·simp only[go_sem,simprocAttr]
   obtain⟨rfl,rfl⟩:=hR
   refine Qc hb ?_
   simp only[go_sem,simprocAttr]
   refine Z4.done QS (hx.set Zr.1 _) ?_
   have Sc:((L.filter gk).map (·.iD)).length=out.length:=by rw[← Ae,Al]
   refine .inr ⟨lo,g,off,YV off row (sorted out),?_,Zr,?_,?_⟩
   ·rw[Sc]
   ·rw[Sc];exact Qw Qf
   ·rw[Ae]
    intro i hi
    unfold YV
    rw[if_pos (by omega),show off+i - off=i by omega]
    rfl
 ·obtain⟨x,hfx,Bh,QQ⟩:=T.qF he
  rw[Bh]
  have Dw:Qm L gk e.k=gk x:=by simp [Qm,hfx]
  obtain⟨H',An⟩:∃H',H'=H.set F.length (VF m c c (seen++[e.b])):=⟨_,rfl⟩
  have zf:JR F H':=by rw[An];exact hx.set (Nat.le_refl _) _
  have Ea:H'[F.length]? = some (VF m c c (seen++[e.b])):=by rw[An];exact Qw Qj6
  have po:Z4 F.length H' d out:=by
   rcases hs with hs|⟨lo,g,off,row,h1,h2,h3,h4⟩
   ·exact .inl hs
   ·refine .inr ⟨lo,g,off,row,h1,h2,?_,h4⟩
    rw[An,Qt (by rintro rfl;rw[WZ]at h3;cases h3)]
    exact h3
  have xN:=zf.get hm
  have Ng:=Qd xN
  have Sd:=Qd Ea
  have Zj:=pg (fun e=>Qm L gk e.k) hB.nodup he yV
  have GM:=o6 he yV
  rw[← An]
  refine Qc hb ?_
  simp only[go_sem,simprocAttr,Qa]
  refine Qc hb ?_
  simp only[go_sem,simprocAttr,Qa]
  refine QjR (li:=F.length) (l:=m) (c:=c) (es:=es) (seen:=seen) (q:=.i64) (kd:=.Fv) (e:=e) rfl Ea rfl xN he rfl ?_
  rw[Bh]
  refine Qc hb ?_
  simp only[go_sem,simprocAttr,Qa]
  refine Qc hb ?_
  simp only[go_sem,simprocAttr,Qa]
  refine QK hb hf JY ?_ (hg _ x ?_) rfl fun d2 hR=>?_
  ·simp only[go_sem,simprocAttr]
   exact wc _
  ·rw[← hF];exact zf.app _
  subst hR
  refine Qc hb ?_
  have zA:out.length≤es.length:=by
   have h1:=hp.length_eq
   rw[List.length_map]at h1
   rw[h1];exact List.length_filter_le _ _
  have Qt0:=T.len
  simp only[Dw]at Zj
  cases pq:gk x
  ·simp only[pq,Bool.false_eq_true,if_false]at Zj
   simp only[go_sem,simprocAttr,Qa]
   exact⟨zy es (seen++[e.b]),⟨[(0,.ptr t 0 0 0),(1,so),(5,d),(14,.mref F.length 0)],_⟩,by omega,Qk.frame (by simp only[go_sem,simprocAttr]),⟨⟨seen++[e.b],d,out,_,rfl,zf.app _,po.app _,hp.trans (Zj.map _).symm,by rw[QU Sd];exact Ea,rfl⟩⟩⟩
  ·simp only[pq,if_true]at Zj
   have Nh:(out++[e.k]).Perm ((es.filter fun x=>(seen++[e.b]).contains x.b&&Qm L gk x.k).map (·.k)):=by
    refine(List.perm_append_comm.trans ?_).trans (Zj.map _).symm
    exact hp.cons e.k
   rcases po with ⟨rfl,rfl⟩|⟨lo,g,off,row,rfl,Zr,ho,hr⟩
   ·simp only[go_sem,simprocAttr,Qa]
    refine⟨zy es (seen++[e.b]),⟨[(0,.ptr t 0 0 0),(1,so),(5,.ref (H'.length+2) 0 0 1),(14,.mref F.length 0)],_⟩,by omega,Qk.frame (by simp only[go_sem,simprocAttr]),⟨⟨seen++[e.b],_,[e.k],_,rfl,zf.app _,?_,Nh,by rw[QU Sd];exact Ea,rfl⟩⟩⟩
    have:=zf.len
    refine .inr ⟨H'.length+2,0,0,_,rfl,by omega,by rw[KW rfl];rfl,fun i hi=>?_⟩
    have:i=0:=by simp at hi;omega
    subst this;rfl
   ·have Qf:=Qd ho
    have QD:F.length≠lo:=by rintro rfl;rw[Ea]at ho;cases ho
    simp only[go_sem,simprocAttr,Qa,ho,Qf]
    refine⟨by omega,zy es (seen++[e.b]),⟨[(0,.ptr t 0 0 0),(1,so),(5,.ref lo (g+1) 0 (out.length+1)),(14,.mref F.length 0)],_⟩,by omega,Qk.frame (by simp only[go_sem,simprocAttr]),⟨⟨seen++[e.b],_,out++[e.k],_,rfl,?_,?_,Nh,?_,rfl⟩⟩⟩
    ·exact(zf.set Zr.1 _).app _
    ·refine .inr ⟨lo,g+1,0,_,by simp,by omega,?_,BN hr⟩
     rw[QU (by simpa using Qf),Qw Qf]
     simp [Qb]
    ·rw[QU (by simpa using Sd),Qt (Ne.symm QD)];exact Ea
end
theorem Vc {h t:List Ob} {l:Nat} {o:Ob} (e:h[l]? = some o):((h++t).map Ob.ro)[l]? = some o.ro:=ZA (by rw[QU (Qd e)];exact e)
theorem Z4.le {n n':Nat} {H:List Ob} {d:D} {L:List Int} (x:Z4 n H d L) (hn:n'≤n):Z4 n' H d L:=by
 rcases x with x|⟨lo,gg,off,row,h1,h2,h3,h4⟩
 ·exact .inl x
 ·exact .inr ⟨lo,gg,off,row,h1,by omega,h3,h4⟩
theorem Qj8 (h:List Ob) (lb:Nat) (id:Int) (x:Qj) (hl:(h.map Ob.ro)[lb]? = some ⟨.KF,0,1,1,fun _=>[Qb id]⟩):QP prog 66 h [Vw x,.ptr lb 0 0 0] (fun d=>d=QN (x.parent==id)):=by
 refine Zi Qe 200 func66 rfl ntmps66 results66 rfl fun base w pl F hF QS hb=>?_
 rw[← hF]at hl
 have Eb:=Qd hl
 simp only[go_sem,simprocAttr,Qa,hl,Eb]
 exact⟨_,rfl⟩
def KZ (L:List Qj) (id:Int):List Int:=(L.filter fun x=>x.parent==id).map (·.iD)
section
variable (h:List Ob) (t m c:Nat) {es:List QM} {L:List Qj} (T:JQ es L) (hlen:L.length<1000000)
 (ht:(h.map Ob.ro)[t]? = some ⟨.KF,0,1,1,fun _=>[.mref m 0]⟩) (hm:(h.map Ob.ro)[m]? = some (QG .i64 c es).ro)
include T ht hm hlen
theorem Se (id:Int):J8 prog 23 h [.ptr t 0 0 0,Qb id] (fun d g=>Z4 h.length (h++g) d (KZ L id)):=by
 refine Yk Qe 200 func23 rfl ntmps23 results23 rfl fun base w pl F hF QS hb=>?_
 rw[← hF]at ht hm
 have QY:=Qd ht
 have QO:=Qd hm
 simp only[go_sem,simprocAttr,Qa,ht,QY,hm,QO]
 have hx:JR F (F++([⟨.one,0,1,1,fun _=>[Qb id]⟩]:List Ob)):=⟨_,rfl⟩
 have hT:GL ((F++([⟨.one,0,1,1,fun _=>[Qb id]⟩]:List Ob)).map Ob.ro) 66 0 [.ptr F.length 0 0 0] (fun x=>x.parent==id):=fun h' x zf=>Qj8 h' F.length id x (by
  have e:=zf.get (l:=F.length) (o:=⟨.KF,0,1,1,fun _=>[Qb id]⟩) (by rw[List.map_append,Kc (by simp)];rfl)
  exact ZA e)
 refine Ad hb MK rfl ?_ (Nf _ t m c T hlen (ZA (hx.get ht)) (BO (hx.get hm)) (.clo 66 0 [.ptr F.length 0 0 0]) 66 0 [.ptr F.length 0 0 0] QiC rfl _ hT) rfl fun d g hs=>?_
 ·simp only[go_sem,simprocAttr]
 refine Qc hb ?_
 simp only[go_sem,simprocAttr,Qa]
 have Ji:=hs.le (n':=F.length) (by simp)
 rw[List.append_assoc]at Ji
 exact Z4.done QS ⟨_,rfl⟩ Ji
def kN (L:List Qj) (x:Qj) (dp:Nat):Int:=
 if JN x≠0 then JN x
 else if (Qr L x.iD).isSome then 8
 else if L.length=64 then 5
 else if (x.parent≠0∧(Qr L x.parent).isNone)∨((Qr L x.parent).getD default).leaf=true then 23
 else if 1<QI x.ls∧V4 L x.parent=false then 29
 else if dp=16 then 25
 else 0
end
section
variable (h:List Ob) (t m c:Nat) {es:List QM} {L:List Qj} (T:JQ es L) (hlen:L.length<1000000)
 (ht:h[t]? = some ⟨.one,0,1,1,fun _=>[.mref m 0]⟩) (hm:h[m]? = some (QG .i64 c es))
include T ht hm hlen
structure KI (h:List Ob) (t m:Nat) (L:List Qj) (h':List Ob):Prop where
 ex:∃c es,h'[t]? = some ⟨.one,0,1,1,fun _=>[.mref m 0]⟩∧h'[m]? = some (QG .i64 c es)∧JQ es L
 len:h.length≤h'.length
 JP:∀l,l<h.length→l≠m→h'[l]? = h[l]?
omit T hlen in
theorem KI.same (T:JQ es L) (g:List Ob):KI h t m L (h++g):=
 ⟨⟨c,es,by rw[QU (Qd ht)];exact ht,by rw[QU (Qd hm)];exact hm,T⟩,by simp,fun l hl _=>QU hl⟩
omit hlen in
theorem KI.Za (x:Qj) (g:List Ob):KI h t m (Kn L x) (h.set m (Ka .i64 c es x.iD (Vw x))++g):=by
 obtain⟨c',es',e,T'⟩:=QjZ T .i64 c x
 have QO:=Qd hm
 have QY:=Qd ht
 have QD:m≠t:=by rintro rfl;rw[ht]at hm;cases hm
 rw[e]
 refine⟨⟨c',es',?_,?_,T'⟩,by simp,fun l hl Jf=>?_⟩
 ·rw[QU (by simpa using QY),Qt QD];exact ht
 ·rw[QU (by simpa using QO),Qw QO]
 ·rw[QU (by simpa using hl),Qt (Ne.symm Jf)]
omit hlen in
theorem Qj9 (x:Qj) (N:Nat) (hN:N<1000000) (hE:Ends L N x.parent):QH prog 183 h [.ptr t 0 0 0,Vw x] (fun d h'=>d=Qb (kN L x (ZI L N x.parent).length)∧KI h t m (if kN L x (ZI L N x.parent).length=0 then Kn L x else L) h'):=by
 have hk:=T.look x.iD
 have ZE:=T.look x.parent
 have WY:=T.len
 have QY:=Qd ht
 have QO:=Qd hm
 obtain⟨E,WB⟩:∃E,E=kN L x (ZI L N x.parent).length:=⟨_,rfl⟩
 rw[← WB]
 have bad:∀g:List Ob,E≠0→KI h t m (if E=0 then Kn L x else L) (h++g):=fun g QD=>by rw[if_neg QD];exact KI.same h t m c ht hm T g
 refine QX Qe 200 func183 rfl ntmps183 results183 rfl fun base w pl hb=>?_
 have QY:=Qd ht
 have QO:=Qd hm
 simp only[go_sem,simprocAttr,Qa,ht,QY,hm,QO]
 refine QE hb oK rfl ?_ (o4 x) (Ql.flat rfl) rfl fun d h hR=>?_
 ·simp only[go_sem,simprocAttr,Qa]
 obtain⟨rfl,rfl⟩:=hR
 refine Qc hb ?_
 simp only[go_sem,simprocAttr,Qa]
 by_cases h0:JN x=0
 case neg=>
  have e:E=JN x:=by rw[WB,kN,if_pos h0]
  simp only[go_sem,simprocAttr,Qa,VG h0,bne]
  exact⟨by rw[e],bad _ (by rw[e];exact h0)⟩
 simp only[go_sem,simprocAttr,Qa,XO h0,bne]
 cases wg:Qr L x.iD with
 | some y=>
  have e:E=8:=by rw[WB,kN,if_neg (by simpa using h0),if_pos (by simp [wg])]
  rw[wg,Option.map_some]at hk
  refine QA Qe hb 200 mixed [(0,true),(1,true),(2,true),(3,true),(4,true),(5,true),(6,true),(7,true),(8,true),(9,true),(10,false),(11,false),(12,true)] (by kernel_rfl) (by kernel_rfl) ?_
  simp only[go_sem,simprocAttr,Qa,ht,hm,QY,QO,hk]
  cases YW:Qr L x.parent with
  | none=>
   rw[YW,Option.map_none]at ZE
   refine QA Qe hb 200 mixed [(0,true),(1,true),(2,true),(3,true),(4,true),(5,true),(6,true),(7,true),(8,true),(9,true),(10,false),(11,false),(12,true)] (by kernel_rfl) (by kernel_rfl) ?_
   simp only[go_sem,simprocAttr,Qa,ht,hm,QY,QO,ZE]
   exact⟨by rw[e],bad _ (by rw[e];decide)⟩
  | some z=>
   rw[YW,Option.map_some]at ZE
   refine QA Qe hb 200 mixed [(0,true),(1,true),(2,true),(3,true),(4,true),(5,true),(6,true),(7,true),(8,true),(9,true),(10,false),(11,false),(12,true)] (by kernel_rfl) (by kernel_rfl) ?_
   simp only[go_sem,simprocAttr,Qa,ht,hm,QY,QO,ZE]
   exact⟨by rw[e],bad _ (by rw[e];decide)⟩
 | none=>
  rw[wg,Option.map_none]at hk
  refine QA Qe hb 200 mixed [(0,true),(1,true),(2,true),(3,true),(4,true),(5,true),(6,true),(7,true),(8,true),(9,true),(10,false),(11,false),(12,true)] (by kernel_rfl) (by kernel_rfl) ?_
  simp only[go_sem,simprocAttr,Qa,ht,hm,QY,QO,hk]
  have a1:E=(if L.length=64 then 5 else if (x.parent≠0∧(Qr L x.parent).isNone)∨((Qr L x.parent).getD default).leaf=true then 23 else if 1<QI x.ls∧V4 L x.parent=false then 29 else if (ZI L N x.parent).length=16 then 25 else 0):=by
   rw[WB,kN,if_neg (by simpa using h0),if_neg (by simp [wg])]
  by_cases BP:L.length=64
  ·have e:E=5:=by rw[a1,if_pos BP]
   have xO:((es.length:Int)==64)=true:=by simp;omega
   cases YW:Qr L x.parent with
   | none=>
    rw[YW,Option.map_none]at ZE
    refine QA Qe hb 200 mixed [(0,true),(1,true),(2,true),(3,true),(4,true),(5,true),(6,true),(7,true),(8,true),(9,true),(10,false),(11,false),(12,true)] (by kernel_rfl) (by kernel_rfl) ?_
    simp only[go_sem,simprocAttr,Qa,ht,hm,QY,QO,ZE,xO]
    exact⟨by rw[e],bad _ (by rw[e];decide)⟩
   | some z=>
    rw[YW,Option.map_some]at ZE
    refine QA Qe hb 200 mixed [(0,true),(1,true),(2,true),(3,true),(4,true),(5,true),(6,true),(7,true),(8,true),(9,true),(10,false),(11,false),(12,true)] (by kernel_rfl) (by kernel_rfl) ?_
    simp only[go_sem,simprocAttr,Qa,ht,hm,QY,QO,ZE,xO]
    exact⟨by rw[e],bad _ (by rw[e];decide)⟩
  rw[if_neg BP]at a1
  have xO:((es.length:Int)==64)=false:=by simp;omega
  cases YW:Qr L x.parent with
  | none=>
   rw[YW,Option.map_none]at ZE
   by_cases qC:x.parent=0
   ·refine QA Qe hb 200 mixed [(0,true),(1,true),(2,true),(3,true),(4,true),(5,true),(6,true),(7,true),(8,true),(9,true),(10,false),(11,false),(12,true)] (by kernel_rfl) (by kernel_rfl) ?_
    simp only[go_sem,simprocAttr,Qa,ht,hm,QY,QO,ZE,xO,XO qC,bne]
    have a2:E=(if 1<QI x.ls∧V4 L x.parent=false then 29 else if (ZI L N x.parent).length=16 then 25 else 0):=by rw[a1,if_neg (by rw[YW];rintro (⟨h1,_⟩|h1);exact h1 qC;cases h1)]
    refine QE hb YR rfl ?_ (YT x) (Ql.flat rfl) rfl fun d h hR=>?_
    ·simp only[go_sem,simprocAttr,Qa]
    obtain⟨rfl,rfl⟩:=hR
    refine Qc hb ?_
    simp only[go_sem,simprocAttr,Qa]
    cases Zl:decide (1<QI x.ls)
    ·simp only[go_sem,simprocAttr,Qa,Go.undef]
     refine QK hb DU rfl ?_ (DZ _ t m c T (Vc ht) (Vc hm) x.parent N hN hE) rfl fun d hR=>?_
     ·simp only[go_sem,simprocAttr,Qa]
     subst hR
     refine Qc hb ?_
     simp only[go_sem,simprocAttr,Qa]
     by_cases hd:(ZI L N x.parent).length=16
     ·have e:E=25:=by rw[a2,if_neg (by simp at Zl;omega),if_pos hd]
      have JE:(((ZI L N x.parent).length:Int)==16)=true:=by simp;omega
      simp only[go_sem,simprocAttr,Qa,JE]
      exact⟨by rw[e],bad _ (by rw[e];decide)⟩
     ·have e:E=0:=by rw[a2,if_neg (by simp at Zl;omega),if_neg hd]
      have JE:(((ZI L N x.parent).length:Int)==16)=false:=by simp;omega
      simp only[go_sem,simprocAttr,Qa,JE]
      refine QA Qe hb 200 mixed [(0,true),(1,true),(2,true),(3,true),(4,true),(5,true),(6,true),(7,false)] (by kernel_rfl) (by kernel_rfl) ?_
      simp only[go_sem,simprocAttr,Qa,ht,hm,QY,QO]
      rw[if_pos e]
      exact⟨by rw[e],KI.Za h t m c T ht hm x _⟩
    ·simp only[go_sem,simprocAttr,Qa,Go.undef]
     refine QK hb MT rfl ?_ (Nb _ t m c T (Vc ht) (Vc hm) x.parent) rfl fun d hR=>?_
     ·simp only[go_sem,simprocAttr,Qa]
     subst hR
     refine Qc hb ?_
     simp only[go_sem,simprocAttr,Qa]
     cases Ji:V4 L x.parent
     ·have e:E=29:=by rw[a2,if_pos ⟨by simpa using Zl,Ji⟩]
      simp only[go_sem,simprocAttr,Qa,Go.undef]
      exact⟨by rw[e],bad _ (by rw[e];decide)⟩
     ·simp only[go_sem,simprocAttr,Qa,Go.undef]
      refine QK hb DU rfl ?_ (DZ _ t m c T (Vc ht) (Vc hm) x.parent N hN hE) rfl fun d hR=>?_
      ·simp only[go_sem,simprocAttr,Qa]
      subst hR
      refine Qc hb ?_
      simp only[go_sem,simprocAttr,Qa]
      by_cases hd:(ZI L N x.parent).length=16
      ·have e:E=25:=by rw[a2,if_neg (by rw[Ji];simp),if_pos hd]
       have JE:(((ZI L N x.parent).length:Int)==16)=true:=by simp;omega
       simp only[go_sem,simprocAttr,Qa,JE]
       exact⟨by rw[e],bad _ (by rw[e];decide)⟩
      ·have e:E=0:=by rw[a2,if_neg (by rw[Ji];simp),if_neg hd]
       have JE:(((ZI L N x.parent).length:Int)==16)=false:=by simp;omega
       simp only[go_sem,simprocAttr,Qa,JE]
       refine QA Qe hb 200 mixed [(0,true),(1,true),(2,true),(3,true),(4,true),(5,true),(6,true),(7,false)] (by kernel_rfl) (by kernel_rfl) ?_
       simp only[go_sem,simprocAttr,Qa,ht,hm,QY,QO]
       rw[if_pos e]
       exact⟨by rw[e],KI.Za h t m c T ht hm x _⟩
   ·have e:E=23:=by rw[a1,if_pos (.inl ⟨qC,by simp [YW]⟩)]
    refine QA Qe hb 200 mixed [(0,true),(1,true),(2,true),(3,true),(4,true),(5,true),(6,true),(7,true),(8,true),(9,true),(10,false),(11,false),(12,true)] (by kernel_rfl) (by kernel_rfl) ?_
    simp only[go_sem,simprocAttr,Qa,ht,hm,QY,QO,ZE,xO,VG qC,bne]
    exact⟨by rw[e],bad _ (by rw[e];decide)⟩
  | some z=>
   rw[YW,Option.map_some]at ZE
   cases hz:z.leaf with
   | true=>
    have e:E=23:=by rw[a1,if_pos (.inr (by simp [YW,hz]))]
    by_cases qC:x.parent=0
    ·refine QA Qe hb 200 mixed [(0,true),(1,true),(2,true),(3,true),(4,true),(5,true),(6,true),(7,true),(8,true),(9,true),(10,false),(11,false),(12,true)] (by kernel_rfl) (by kernel_rfl) ?_
     simp only[go_sem,simprocAttr,Qa,ht,hm,QY,QO,ZE,xO,XO qC,bne,hz]
     exact⟨by rw[e],bad _ (by rw[e];decide)⟩
    ·refine QA Qe hb 200 mixed [(0,true),(1,true),(2,true),(3,true),(4,true),(5,true),(6,true),(7,true),(8,true),(9,true),(10,false),(11,false),(12,true)] (by kernel_rfl) (by kernel_rfl) ?_
     simp only[go_sem,simprocAttr,Qa,ht,hm,QY,QO,ZE,xO,VG qC,bne,hz]
     exact⟨by rw[e],bad _ (by rw[e];decide)⟩
   | false=>
    by_cases qC:x.parent=0
    ·refine QA Qe hb 200 mixed [(0,true),(1,true),(2,true),(3,true),(4,true),(5,true),(6,true),(7,true),(8,true),(9,true),(10,false),(11,false),(12,true)] (by kernel_rfl) (by kernel_rfl) ?_
     simp only[go_sem,simprocAttr,Qa,ht,hm,QY,QO,ZE,xO,XO qC,bne,hz]
     have a2:E=(if 1<QI x.ls∧V4 L x.parent=false then 29 else if (ZI L N x.parent).length=16 then 25 else 0):=by rw[a1,if_neg (by rw[YW];rintro (⟨h1,_⟩|h1);exact h1 qC;exact absurd h1 (by simp [hz]))]
     refine QE hb YR rfl ?_ (YT x) (Ql.flat rfl) rfl fun d h hR=>?_
     ·simp only[go_sem,simprocAttr,Qa]
     obtain⟨rfl,rfl⟩:=hR
     refine Qc hb ?_
     simp only[go_sem,simprocAttr,Qa]
     cases Zl:decide (1<QI x.ls)
     ·simp only[go_sem,simprocAttr,Qa,Go.undef]
      refine QK hb DU rfl ?_ (DZ _ t m c T (Vc ht) (Vc hm) x.parent N hN hE) rfl fun d hR=>?_
      ·simp only[go_sem,simprocAttr,Qa]
      subst hR
      refine Qc hb ?_
      simp only[go_sem,simprocAttr,Qa]
      by_cases hd:(ZI L N x.parent).length=16
      ·have e:E=25:=by rw[a2,if_neg (by simp at Zl;omega),if_pos hd]
       have JE:(((ZI L N x.parent).length:Int)==16)=true:=by simp;omega
       simp only[go_sem,simprocAttr,Qa,JE]
       exact⟨by rw[e],bad _ (by rw[e];decide)⟩
      ·have e:E=0:=by rw[a2,if_neg (by simp at Zl;omega),if_neg hd]
       have JE:(((ZI L N x.parent).length:Int)==16)=false:=by simp;omega
       simp only[go_sem,simprocAttr,Qa,JE]
       refine QA Qe hb 200 mixed [(0,true),(1,true),(2,true),(3,true),(4,true),(5,true),(6,true),(7,false)] (by kernel_rfl) (by kernel_rfl) ?_
       simp only[go_sem,simprocAttr,Qa,ht,hm,QY,QO]
       rw[if_pos e]
       exact⟨by rw[e],KI.Za h t m c T ht hm x _⟩
     ·simp only[go_sem,simprocAttr,Qa,Go.undef]
      refine QK hb MT rfl ?_ (Nb _ t m c T (Vc ht) (Vc hm) x.parent) rfl fun d hR=>?_
      ·simp only[go_sem,simprocAttr,Qa]
      subst hR
      refine Qc hb ?_
      simp only[go_sem,simprocAttr,Qa]
      cases Ji:V4 L x.parent
      ·have e:E=29:=by rw[a2,if_pos ⟨by simpa using Zl,Ji⟩]
       simp only[go_sem,simprocAttr,Qa,Go.undef]
       exact⟨by rw[e],bad _ (by rw[e];decide)⟩
      ·simp only[go_sem,simprocAttr,Qa,Go.undef]
       refine QK hb DU rfl ?_ (DZ _ t m c T (Vc ht) (Vc hm) x.parent N hN hE) rfl fun d hR=>?_
       ·simp only[go_sem,simprocAttr,Qa]
       subst hR
       refine Qc hb ?_
       simp only[go_sem,simprocAttr,Qa]
       by_cases hd:(ZI L N x.parent).length=16
       ·have e:E=25:=by rw[a2,if_neg (by rw[Ji];simp),if_pos hd]
        have JE:(((ZI L N x.parent).length:Int)==16)=true:=by simp;omega
        simp only[go_sem,simprocAttr,Qa,JE]
        exact⟨by rw[e],bad _ (by rw[e];decide)⟩
       ·have e:E=0:=by rw[a2,if_neg (by rw[Ji];simp),if_neg hd]
        have JE:(((ZI L N x.parent).length:Int)==16)=false:=by simp;omega
        simp only[go_sem,simprocAttr,Qa,JE]
        refine QA Qe hb 200 mixed [(0,true),(1,true),(2,true),(3,true),(4,true),(5,true),(6,true),(7,false)] (by kernel_rfl) (by kernel_rfl) ?_
        simp only[go_sem,simprocAttr,Qa,ht,hm,QY,QO]
        rw[if_pos e]
        exact⟨by rw[e],KI.Za h t m c T ht hm x _⟩
    ·refine QA Qe hb 200 mixed [(0,true),(1,true),(2,true),(3,true),(4,true),(5,true),(6,true),(7,true),(8,true),(9,true),(10,false),(11,false),(12,true)] (by kernel_rfl) (by kernel_rfl) ?_
     simp only[go_sem,simprocAttr,Qa,ht,hm,QY,QO,ZE,xO,VG qC,bne,hz]
     have a2:E=(if 1<QI x.ls∧V4 L x.parent=false then 29 else if (ZI L N x.parent).length=16 then 25 else 0):=by rw[a1,if_neg (by simp [YW,hz])]
     refine QE hb YR rfl ?_ (YT x) (Ql.flat rfl) rfl fun d h hR=>?_
     ·simp only[go_sem,simprocAttr,Qa]
     obtain⟨rfl,rfl⟩:=hR
     refine Qc hb ?_
     simp only[go_sem,simprocAttr,Qa]
     cases Zl:decide (1<QI x.ls)
     ·simp only[go_sem,simprocAttr,Qa,Go.undef]
      refine QK hb DU rfl ?_ (DZ _ t m c T (Vc ht) (Vc hm) x.parent N hN hE) rfl fun d hR=>?_
      ·simp only[go_sem,simprocAttr,Qa]
      subst hR
      refine Qc hb ?_
      simp only[go_sem,simprocAttr,Qa]
      by_cases hd:(ZI L N x.parent).length=16
      ·have e:E=25:=by rw[a2,if_neg (by simp at Zl;omega),if_pos hd]
       have JE:(((ZI L N x.parent).length:Int)==16)=true:=by simp;omega
       simp only[go_sem,simprocAttr,Qa,JE]
       exact⟨by rw[e],bad _ (by rw[e];decide)⟩
      ·have e:E=0:=by rw[a2,if_neg (by simp at Zl;omega),if_neg hd]
       have JE:(((ZI L N x.parent).length:Int)==16)=false:=by simp;omega
       simp only[go_sem,simprocAttr,Qa,JE]
       refine QA Qe hb 200 mixed [(0,true),(1,true),(2,true),(3,true),(4,true),(5,true),(6,true),(7,false)] (by kernel_rfl) (by kernel_rfl) ?_
       simp only[go_sem,simprocAttr,Qa,ht,hm,QY,QO]
       rw[if_pos e]
       exact⟨by rw[e],KI.Za h t m c T ht hm x _⟩
     ·simp only[go_sem,simprocAttr,Qa,Go.undef]
      refine QK hb MT rfl ?_ (Nb _ t m c T (Vc ht) (Vc hm) x.parent) rfl fun d hR=>?_
      ·simp only[go_sem,simprocAttr,Qa]
      subst hR
      refine Qc hb ?_
      simp only[go_sem,simprocAttr,Qa]
      cases Ji:V4 L x.parent
      ·have e:E=29:=by rw[a2,if_pos ⟨by simpa using Zl,Ji⟩]
       simp only[go_sem,simprocAttr,Qa,Go.undef]
       exact⟨by rw[e],bad _ (by rw[e];decide)⟩
      ·simp only[go_sem,simprocAttr,Qa,Go.undef]
       refine QK hb DU rfl ?_ (DZ _ t m c T (Vc ht) (Vc hm) x.parent N hN hE) rfl fun d hR=>?_
       ·simp only[go_sem,simprocAttr,Qa]
       subst hR
       refine Qc hb ?_
       simp only[go_sem,simprocAttr,Qa]
       by_cases hd:(ZI L N x.parent).length=16
       ·have e:E=25:=by rw[a2,if_neg (by rw[Ji];simp),if_pos hd]
        have JE:(((ZI L N x.parent).length:Int)==16)=true:=by simp;omega
        simp only[go_sem,simprocAttr,Qa,JE]
        exact⟨by rw[e],bad _ (by rw[e];decide)⟩
       ·have e:E=0:=by rw[a2,if_neg (by rw[Ji];simp),if_neg hd]
        have JE:(((ZI L N x.parent).length:Int)==16)=false:=by simp;omega
        simp only[go_sem,simprocAttr,Qa,JE]
        refine QA Qe hb 200 mixed [(0,true),(1,true),(2,true),(3,true),(4,true),(5,true),(6,true),(7,false)] (by kernel_rfl) (by kernel_rfl) ?_
        simp only[go_sem,simprocAttr,Qa,ht,hm,QY,QO]
        rw[if_pos e]
        exact⟨by rw[e],KI.Za h t m c T ht hm x _⟩
end
def kO (L:List Qj) (id:Int):Int:=if (Qr L id).isNone then 6 else if KZ L id≠[] then 23 else 0
section
variable (h:List Ob) (t m c:Nat) {es:List QM} {L:List Qj} (T:JQ es L) (hlen:L.length<1000000)
 (ht:h[t]? = some ⟨.one,0,1,1,fun _=>[.mref m 0]⟩) (hm:h[m]? = some (QG .i64 c es))
include T ht hm hlen
omit hlen T in
theorem KI.put {c':Nat} {es':List QM} {L':List Qj} (T':JQ es' L') (g:List Ob):KI h t m L' (h.set m (QG .i64 c' es')++g):=by
 have QO:=Qd hm
 have QY:=Qd ht
 have QD:m≠t:=by rintro rfl;rw[ht]at hm;cases hm
 refine⟨⟨c',es',?_,?_,T'⟩,by simp,fun l hl Jf=>?_⟩
 ·rw[QU (by simpa using QY),Qt QD];exact ht
 ·rw[QU (by simpa using QO),Qw QO]
 ·rw[QU (by simpa using hl),Qt (Ne.symm Jf)]
theorem Qka (id:Int):QH prog 186 h [.ptr t 0 0 0,Qb id] (fun d h'=>d=Qb (kO L id)∧KI h t m (if kO L id=0 then Vb L id else L) h'):=by
 have hk:=T.look id
 have QY:=Qd ht
 have QO:=Qd hm
 obtain⟨E,WB⟩:∃E,E=kO L id:=⟨_,rfl⟩
 rw[← WB]
 have bad:∀g:List Ob,E≠0→KI h t m (if E=0 then Vb L id else L) (h++g):=fun g QD=>by rw[if_neg QD];exact KI.same h t m c ht hm T g
 cases hf:Qr L id with
 | none=>
  have e:E=6:=by rw[WB,kO,if_pos (by simp [hf])]
  rw[hf,Option.map_none]at hk
  refine QX Qe 200 func186 rfl ntmps186 results186 rfl fun base w pl hb=>?_
  have QY:=Qd ht
  have QO:=Qd hm
  simp only[go_sem,simprocAttr,Qa,ht,QY,hm,QO,hk]
  exact⟨by rw[e],bad _ (by rw[e];decide)⟩
 | some x=>
  rw[hf,Option.map_some]at hk
  have a1:E=if KZ L id≠[] then 23 else 0:=by rw[WB,kO,if_neg (by simp [hf])]
  refine QX Qe 200 func186 rfl ntmps186 results186 rfl fun base w pl hb=>?_
  have QY:=Qd ht
  have QO:=Qd hm
  simp only[go_sem,simprocAttr,Qa,ht,QY,hm,QO,hk]
  refine Ad hb Ru rfl ?_ (Se _ t m c T hlen (Vc ht) (Vc hm) id) rfl fun d g hs=>?_
  ·simp only[go_sem,simprocAttr]
  rcases hs with ⟨rfl,h0⟩|⟨lo,gn,off,row,rfl,Zr,ho,hr⟩
  ·have e:E=0:=by rw[a1,if_neg (by simp [h0])]
   refine Qc hb ?_
   simp only[go_sem,simprocAttr,Qa,ht,hm,QY,QO]
   rw[if_pos e]
   exact⟨by rw[e],KI.put h t m c ht hm (pb T id) _⟩
  ·have Qf:=Qd ho
   refine Qc hb ?_
   by_cases h0:KZ L id=[]
   ·have e:E=0:=by rw[a1,if_neg (by simp [h0])]
    simp only[go_sem,simprocAttr,Qa,ht,hm,QY,QO,ho,Qf,h0]
    rw[if_pos e]
    exact⟨by rw[e],KI.put h t m c ht hm (pb T id) _⟩
   ·have e:E=23:=by rw[a1,if_pos h0]
    have j9:0<(KZ L id).length:=List.length_pos_iff.2 h0
    have V5:(0:Int)<((KZ L id).length:Int):=by omega
    simp only[go_sem,simprocAttr,Qa,ht,hm,QY,QO,ho,Qf,V5,decide_eq_true V5]
    exact⟨by rw[e],bad _ (by rw[e];decide)⟩
end
theorem Sf (h:List Ob):(h.map Ob.ro).map Ob.ro=h.map Ob.ro:=by rw[List.map_map];exact List.map_congr_left fun o _=>ro_ro o
def pw (F:List Ob) (f nf:Nat) (QC:List D) (g:Int→Bool):Prop:=∀(h:List Ob) (n:Int),JR F h→QP prog f h (Z8 nf QC [Qb n]) (fun d=>d=QN (g n))
def qG (g:Int→Bool) (l:List Int):Int:=match l.findIdx? g with
 | some i=>i
 | none=>-1
theorem Sg {g:Int→Bool} {l:List Int} {k:Nat} (hk:k<l.length) (h:∀i,i<k→g (l.getD i 0)=false) (hg:g (l.getD k 0)=true):qG g l=k:=by
 have e:l.findIdx? g=some k:=by
  rw[List.findIdx?_eq_some_iff_getElem]
  refine⟨hk,by simpa [List.getD_eq_getElem?_getD,hk] using hg,fun i hi=>?_⟩
  have:=h i hi
  simpa [List.getD_eq_getElem?_getD,show i<l.length by omega] using this
 rw[qG,e]
theorem Si {g:Int→Bool} {l:List Int} (h:∀i,i<l.length→g (l.getD i 0)=false):qG g l=-1:=by
 have e:l.findIdx? g=none:=by
  rw[List.findIdx?_eq_none_iff]
  intro x hx
  obtain⟨i,hi,rfl⟩:=List.getElem_of_mem hx
  have:=h i hi
  simpa [List.getD_eq_getElem?_getD,hi] using this
 rw[qG,e]
section
variable (h:List Ob) (l:List Int) (lo gn off:Nat) (row:Nat→List D) (hlen:l.length<1000000) (ho:(h.map Ob.ro)[lo]? = some ⟨.yA,gn,1,off+l.length,row⟩) (hr:∀i,i<l.length→row (off+i)=[Qb (l.getD i 0)])
include hlen ho hr
theorem Qkb (so:D) (f nf:Nat) (QC:List D) (hf:Qp prog f) (JY:Kb so=some (f,nf,QC)) (gk:Int→Bool) (hg:pw (h.map Ob.ro) f nf QC gk) :
  QP prog 134 h [.ref lo gn off l.length,so] (fun d=>d=Qb (qG gk l)):=by
 refine Zi Qe 200 func134 rfl ntmps134 results134 rfl fun base w pl F hF QS hb=>?_
 rw[← hF]at ho
 have Qf:=Qd ho
 simp only[go_sem,simprocAttr,Qa,ho,Qf]
 refine Zv (fun k s=>(∀i,i<k→gk (l.getD i 0)=false)∧s=⟨[(0,.ref lo gn off l.length),(1,so),(7,Qb l.length),(8,Qb k)],F⟩) l.length (Qk.frame (by simp only[go_sem,simprocAttr])) ⟨fun i hi=>absurd hi (by omega),rfl⟩ ?_
 rintro k s hk ⟨hn,rfl⟩
 refine Qc hb ?_
 simp only[go_sem,simprocAttr,Qa]
 have Qf:=Qd ho
 have Q3:=JX (show k<4611686018427387904 by omega)
 first|refine vT hk (fun Qn=>?_) (fun Qn=>?_)|refine vU hk (fun Qn=>?_) (fun Qn=>?_)
 ·have Sj:=hr k Qn
  have jr:off+k<off+l.length:=by omega
  simp only[go_sem,simprocAttr,Qa,ho,Qf,Qn,Sj,jr]
  refine QK hb hf JY ?_ (hg F (l.getD k 0) (by rw[← hF];exact JR.refl F)) rfl fun d2 hR=>?_
  ·simp only[go_sem,simprocAttr]
   exact wc _
  subst hR
  refine Qc hb ?_
  cases XP:gk (l.getD k 0)
  ·simp only[go_sem,simprocAttr,Qa]
   refine⟨Qn,_,Qk.frame (by simp only[go_sem,simprocAttr,Q3]),fun i hi=>?_,rfl⟩
   by_cases h1:i<k
   ·exact hn i h1
   ·have:i=k:=by omega
    subst this;exact XP
  ·rw[Sg Qn hn XP]
   simp only[go_sem,simprocAttr,Qa]
   exact⟨[],(List.append_nil F).symm⟩
 ·have Qn:k=l.length:=by omega
  subst Qn
  simp only[go_sem,simprocAttr,Nat.lt_irrefl]
  rw[Si hn]
  refine Qc hb ?_
  simp only[go_sem,simprocAttr,Qa]
  exact⟨[],(List.append_nil F).symm⟩
theorem Qkc (so:D) (f nf:Nat) (QC:List D) (hf:Qp prog f) (JY:Kb so=some (f,nf,QC)) (gk:Int→Bool) (hg:pw (h.map Ob.ro) f nf QC gk) :
  QP prog 52 h [.ref lo gn off l.length,so] (fun d=>d=QN (decide (0≤qG gk l))):=by
 refine Zi Qe 200 func52 rfl ntmps52 results52 rfl fun base w pl F hF QS hb=>?_
 rw[← hF]at ho
 have Qf:=Qd ho
 simp only[go_sem,simprocAttr,Qa,ho,Qf]
 refine QK hb GB rfl ?_ (Qkb F l lo gn off row hlen (ZA ho) hr so f nf QC hf JY gk (fun h' n hx=>?_)) rfl fun d2 hR=>?_
 ·simp only[go_sem,simprocAttr]
  exact xM so
 ·rw[hF,Sf]at hx
  exact hg h' n hx
 subst hR
 refine Qc hb ?_
 simp only[go_sem,simprocAttr,Qa]
 exact⟨[],(List.append_nil F).symm⟩
end
theorem pz (h:List Ob) (so:D):QP prog 134 h [.nil,so] (fun d=>d=Qb (-1)):=by
 refine Zi Qe 200 func134 rfl ntmps134 results134 rfl fun base w pl F hF QS hb=>?_
 simp only[go_sem,simprocAttr,Qa]
 refine Zv (fun k s=>s=⟨[(7,Qb 0),(8,Qb 0)],F⟩) 0 (Qk.frame (by simp only[go_sem,simprocAttr])) rfl ?_
 rintro k s hk rfl
 refine Qc hb ?_
 simp only[go_sem,simprocAttr,Qa]
 refine Qc hb ?_
 simp only[go_sem,simprocAttr,Qa]
 exact⟨[],(List.append_nil F).symm⟩
theorem Qkd (h:List Ob) (so:D):QP prog 52 h [.nil,so] (fun d=>d=QN false):=by
 refine Zi Qe 200 func52 rfl ntmps52 results52 rfl fun base w pl F hF QS hb=>?_
 simp only[go_sem,simprocAttr,Qa]
 refine QK hb GB rfl ?_ (pz F so) rfl fun d2 hR=>?_
 ·simp only[go_sem,simprocAttr]
  exact xM so
 subst hR
 refine Qc hb ?_
 simp only[go_sem,simprocAttr,Qa]
 exact⟨[],(List.append_nil F).symm⟩
theorem GN (g:Int→Bool) (l:List Int):decide (0≤qG g l)=l.any g:=by
 unfold qG
 cases h:l.findIdx? g with
 | some i=>
  have:=List.findIdx?_eq_some_iff_getElem.1 h
  obtain⟨h1,h2,_⟩:=this
  have e:l.any g=true:=List.any_eq_true.2 ⟨_,List.getElem_mem h1,h2⟩
  rw[e];simp
 | none=>
  have:=List.findIdx?_eq_none_iff.1 h
  have e:l.any g=false:=by rw[List.any_eq_false];intro x hx;simp [this x hx]
  rw[e];decide
def qH (L:List Qj) (id:Int):Bool:=decide (1<QI ((Qr L id).getD default).ls)
def kP (L:List Qj) (x:Qj):Int:=
 if JN x≠0 then JN x
 else if (Qr L x.iD).isNone then 6
 else if x.parent≠((Qr L x.iD).getD default).parent∨x.leaf≠((Qr L x.iD).getD default).leaf then 1
 else if (1<QI x.ls∧V4 L x.parent=false)∨(¬ 1<QI x.ls∧(KZ L x.iD).any (qH L)=true) then 29
 else 0
section
variable (h:List Ob) (t m c tb:Nat) {es:List QM} {L:List Qj} (T:JQ es L)
 (ht:(h.map Ob.ro)[t]? = some ⟨.KF,0,1,1,fun _=>[.mref m 0]⟩) (hm:(h.map Ob.ro)[m]? = some (QG .i64 c es).ro)
 (Zf:(h.map Ob.ro)[tb]? = some ⟨.KF,0,1,1,fun _=>[.ptr t 0 0 0]⟩)
include T ht hm Zf
theorem Qke (id:Int):QP prog 222 h [Qb id,.ptr tb 0 0 0] (fun d=>d=QN (qH L id)):=by
 have hk:=T.look id
 unfold qH
 cases hf:Qr L id with
 | none=>
  rw[hf,Option.map_none]at hk
  refine Zi Qe 200 func222 rfl ntmps222 results222 rfl fun base w pl F hF QS hb=>?_
  rw[← hF]at ht hm Zf
  have QY:=Qd ht
  have QO:=Qd hm
  have qI:=Qd Zf
  simp only[go_sem,simprocAttr,Qa,ht,QY,hm,QO,Zf,qI,hk]
  refine QE hb YR rfl ?_ (YT ⟨0,0,false,⟨0,0,0⟩,⟨0,0,0⟩,⟨0,0,0⟩,0,0⟩) (Ql.flat rfl) rfl fun d h hR=>?_
  ·simp only[go_sem,simprocAttr,Qa]
  obtain⟨rfl,rfl⟩:=hR
  refine Qc hb ?_
  simp only[go_sem,simprocAttr,Qa]
  exact⟨[],(List.append_nil F).symm,rfl⟩
 | some x=>
  rw[hf,Option.map_some]at hk
  refine Zi Qe 200 func222 rfl ntmps222 results222 rfl fun base w pl F hF QS hb=>?_
  rw[← hF]at ht hm Zf
  have QY:=Qd ht
  have QO:=Qd hm
  have qI:=Qd Zf
  simp only[go_sem,simprocAttr,Qa,ht,QY,hm,QO,Zf,qI,hk]
  refine QE hb YR rfl ?_ (YT x) (Ql.flat rfl) rfl fun d h hR=>?_
  ·simp only[go_sem,simprocAttr,Qa]
  obtain⟨rfl,rfl⟩:=hR
  refine Qc hb ?_
  simp only[go_sem,simprocAttr,Qa]
  exact⟨[],by simp⟩
end
section
variable (h:List Ob) (t m c:Nat) {es:List QM} {L:List Qj} (T:JQ es L) (hlen:L.length<1000000)
 (ht:h[t]? = some ⟨.one,0,1,1,fun _=>[.mref m 0]⟩) (hm:h[m]? = some (QG .i64 c es))
include T ht hm hlen
theorem Qkf (x:Qj):QH prog 184 h [.ptr t 0 0 0,Vw x] (fun d h'=>d=Qb (kP L x)∧KI h t m (if kP L x=0 then Kn L x else L) h'):=by
 have hk:=T.look x.iD
 have QY:=Qd ht
 have QO:=Qd hm
 obtain⟨E,WB⟩:∃E,E=kP L x:=⟨_,rfl⟩
 rw[← WB]
 have bad:∀g:List Ob,E≠0→KI h t m (if E=0 then Kn L x else L) (h++g):=fun g QD=>by rw[if_neg QD];exact KI.same h t m c ht hm T g
 refine QX Qe 200 func184 rfl ntmps184 results184 rfl fun base w pl hb=>?_
 have QY:=Qd ht
 have QO:=Qd hm
 simp only[go_sem,simprocAttr,Qa,ht,QY,hm,QO]
 refine QE hb oK rfl ?_ (o4 x) (Ql.flat rfl) rfl fun d h hR=>?_
 ·simp only[go_sem,simprocAttr,Qa]
 obtain⟨rfl,rfl⟩:=hR
 refine Qc hb ?_
 simp only[go_sem,simprocAttr,Qa]
 by_cases h0:JN x=0
 case neg=>
  have e:E=JN x:=by rw[WB,kP,if_pos h0]
  simp only[go_sem,simprocAttr,Qa,VG h0,bne]
  exact⟨by rw[e],bad _ (by rw[e];exact h0)⟩
 simp only[go_sem,simprocAttr,Qa,XO h0,bne]
 cases wg:Qr L x.iD with
 | none=>
  have e:E=6:=by rw[WB,kP,if_neg (by simpa using h0),if_pos (by simp [wg])]
  rw[wg,Option.map_none]at hk
  refine QA Qe hb 200 mixed [(0,true),(1,true),(2,true),(3,true),(4,true),(5,true),(6,true),(7,true),(8,true),(9,true),(10,false),(11,false),(12,true)] (by kernel_rfl) (by kernel_rfl) ?_
  simp only[go_sem,simprocAttr,Qa,ht,hm,QY,QO,hk]
  exact⟨by rw[e],bad _ (by rw[e];decide)⟩
 | some y=>
  rw[wg,Option.map_some]at hk
  have a1:E=(if x.parent≠y.parent∨x.leaf≠y.leaf then 1 else if (1<QI x.ls∧V4 L x.parent=false)∨(¬ 1<QI x.ls∧(KZ L x.iD).any (qH L)=true) then 29 else 0):=by
   rw[WB,kP,if_neg (by simpa using h0),if_neg (by simp [wg]),wg];rfl
  by_cases hp:x.parent=y.parent
  case neg=>
   have e:E=1:=by rw[a1,if_pos (.inl hp)]
   refine QA Qe hb 200 mixed [(0,true),(1,true),(2,true),(3,true),(4,true),(5,true),(6,true),(7,true),(8,true),(9,true),(10,false),(11,false),(12,true)] (by kernel_rfl) (by kernel_rfl) ?_
   simp only[go_sem,simprocAttr,Qa,ht,hm,QY,QO,hk,VG hp,bne]
   exact⟨by rw[e],bad _ (by rw[e];decide)⟩
  by_cases hl:x.leaf=y.leaf
  case neg=>
   have e:E=1:=by rw[a1,if_pos (.inr hl)]
   have Jf:(x.leaf==y.leaf)=false:=by simpa using hl
   refine QA Qe hb 200 mixed [(0,true),(1,true),(2,true),(3,true),(4,true),(5,true),(6,true),(7,true),(8,true),(9,true),(10,false),(11,false),(12,true)] (by kernel_rfl) (by kernel_rfl) ?_
   simp only[go_sem,simprocAttr,Qa,ht,hm,QY,QO,hk,XO hp,bne,Jf]
   exact⟨by rw[e],bad _ (by rw[e];decide)⟩
  have Jf:(x.leaf==y.leaf)=true:=by simpa using hl
  rw[if_neg (by simp [hp,hl])]at a1
  refine QA Qe hb 200 mixed [(0,true),(1,true),(2,true),(3,true),(4,true),(5,true),(6,true),(7,true),(8,true),(9,true),(10,false),(11,false),(12,true)] (by kernel_rfl) (by kernel_rfl) ?_
  simp only[go_sem,simprocAttr,Qa,ht,hm,QY,QO,hk,XO hp,bne,Jf]
  refine QE hb YR rfl ?_ (YT x) (Ql.flat rfl) rfl fun d h hR=>?_
  ·simp only[go_sem,simprocAttr,Qa]
  obtain⟨rfl,rfl⟩:=hR
  refine Qc hb ?_
  simp only[go_sem,simprocAttr,Qa]
  cases Zl:decide (1<QI x.ls)
  ·have Ec:¬ 1<QI x.ls:=by simpa using Zl
   simp only[go_sem,simprocAttr,Qa,Go.undef]
   refine QE hb YR rfl ?_ (YT x) (Ql.flat rfl) rfl fun d h hR=>?_
   ·simp only[go_sem,simprocAttr,Qa,Zl,Go.undef]
   obtain⟨rfl,rfl⟩:=hR
   refine Qc hb ?_
   simp only[go_sem,simprocAttr,Qa,Zl,Go.undef]
   refine Ad hb Ru rfl ?_ (Se _ t m c T hlen (Vc ht) (Vc hm) x.iD) rfl fun d g hs=>?_
   ·simp only[go_sem,simprocAttr]
   rcases hs with ⟨rfl,Ed⟩|⟨lo,gn,off,row,rfl,Zr,ho,hr⟩
   ·have e:E=0:=by rw[a1,if_neg (by rintro (⟨h1,_⟩|⟨_,h1⟩);exact Ec h1;rw[Ed]at h1;simp at h1)]
    refine Qc hb ?_
    simp only[go_sem,simprocAttr,Qa,ht,hm,QY,QO]
    refine QK hb Gz rfl ?_ (Qkd _ (.clo 222 0 [.ptr h.length 0 0 0])) rfl fun d hR=>?_
    ·simp only[go_sem,simprocAttr,Qa,Go.undef]
    subst hR
    refine Qc hb ?_
    simp only[go_sem,simprocAttr,Qa,Go.undef]
    refine QA Qe hb 200 mixed [(0,true),(1,true),(2,true),(3,true),(4,true),(5,true),(6,true),(7,false)] (by kernel_rfl) (by kernel_rfl) ?_
    simp only[go_sem,simprocAttr,Qa,ht,hm,QY,QO]
    rw[if_pos e]
    exact⟨by rw[e],KI.Za h t m c T ht hm x _⟩
   ·refine Qc hb ?_
    have ZP:(KZ L x.iD).length<1000000:=by
     have:=List.length_filter_le (fun y:Qj=>y.parent==x.iD) L
     unfold KZ;rw[List.length_map];omega
    rw[List.append_assoc]at ho
    simp only[go_sem,simprocAttr,Qa,ht,hm,QY,QO]
    refine QK hb Gz rfl ?_ (Qkc _ (KZ L x.iD) lo gn off row ZP (ZA ho) hr (.clo 222 0 [.ptr h.length 0 0 0]) 222 0 [.ptr h.length 0 0 0] Qjd rfl (qH L) (fun h' n hx=>Qke h' t m c h.length T (ZA (hx.get (Vc ht))) (BO (hx.get (Vc hm))) (ZA (hx.get (ZA (o:=⟨.one,0,1,1,fun _=>[.ptr t 0 0 0]⟩) (by rw[Kc rfl];rfl)))) n)) rfl fun d hR=>?_
    ·simp only[go_sem,simprocAttr,Qa,Go.undef,GN]
    subst hR
    refine Qc hb ?_
    simp only[go_sem,simprocAttr,Qa,Go.undef,GN]
    cases xP:(KZ L x.iD).any (qH L)
    ·have e:E=0:=by rw[a1,if_neg (by rw[xP];simp [Ec])]
     simp only[go_sem,simprocAttr,Qa,Go.undef]
     refine QA Qe hb 200 mixed [(0,true),(1,true),(2,true),(3,true),(4,true),(5,true),(6,true),(7,false)] (by kernel_rfl) (by kernel_rfl) ?_
     simp only[go_sem,simprocAttr,Qa,ht,hm,QY,QO]
     rw[if_pos e]
     exact⟨by rw[e],KI.Za h t m c T ht hm x _⟩
    ·have e:E=29:=by rw[a1,if_pos (.inr ⟨Ec,xP⟩)]
     simp only[go_sem,simprocAttr,Qa,Go.undef]
     exact⟨by rw[e],bad _ (by rw[e];decide)⟩
  ·have Ec:1<QI x.ls:=by simpa using Zl
   simp only[go_sem,simprocAttr,Qa,Go.undef]
   refine QK hb MT rfl ?_ (Nb _ t m c T (Vc ht) (Vc hm) x.parent) rfl fun d hR=>?_
   ·simp only[go_sem,simprocAttr,Qa]
   subst hR
   refine Qc hb ?_
   simp only[go_sem,simprocAttr,Qa]
   cases Ji:V4 L x.parent
   ·have e:E=29:=by rw[a1,if_pos (.inl ⟨Ec,Ji⟩)]
    simp only[go_sem,simprocAttr,Qa,Go.undef]
    exact⟨by rw[e],bad _ (by rw[e];decide)⟩
   ·have e:E=0:=by rw[a1,if_neg (by rw[Ji];simp [Ec])]
    simp only[go_sem,simprocAttr,Qa,Go.undef]
    refine QE hb YR rfl ?_ (YT x) (Ql.flat rfl) rfl fun d h hR=>?_
    ·simp only[go_sem,simprocAttr,Qa,Zl,Go.undef]
    obtain⟨rfl,rfl⟩:=hR
    refine Qc hb ?_
    simp only[go_sem,simprocAttr,Qa,Zl,Go.undef]
    refine QA Qe hb 200 mixed [(0,true),(1,true),(2,true),(3,true),(4,true),(5,true),(6,true),(7,false)] (by kernel_rfl) (by kernel_rfl) ?_
    simp only[go_sem,simprocAttr,Qa,ht,hm,QY,QO]
    rw[if_pos e]
    exact⟨by rw[e],KI.Za h t m c T ht hm x _⟩
end
theorem js {L:List Qj} (h:KX L) (x:Qj) (k:Int):Qr (Kn L x) k=if k=x.iD then some x else Qr L k:=by
 have hr:=DX x h
 have hm:=fun c=>(BM x h).mem_iff (a:=c)
 by_cases hk:k=x.iD
 ·rw[if_pos hk]
  exact(KY hr).2 ⟨(hm x).2 (by simp),hk.symm⟩
 ·rw[if_neg hk]
  cases hf:Qr L k with
  | some c=>
   obtain⟨h1,h2⟩:=(KY h).1 hf
   exact(KY hr).2 ⟨(hm c).2 (List.mem_cons.2 (.inr (List.mem_filter.2 ⟨h1,by simp;omega⟩))),h2⟩
  | none=>
   rw[Am]at hf ⊢
   intro c hc
   rcases List.mem_cons.1 ((hm c).1 hc) with rfl|hc
   ·exact fun e=>hk e.symm
   ·exact hf c (List.mem_filter.1 hc).1
theorem GO {L:List Qj} (h:KX L) (k0 k:Int):Qr (Vb L k0) k=if k=k0 then none else Qr L k:=by
 have hr:=Sa k0 h
 by_cases hk:k=k0
 ·rw[if_pos hk,Am]
  intro c hc
  have:=(List.mem_filter.1 hc).2
  simp at this;omega
 ·rw[if_neg hk]
  cases hf:Qr L k with
  | some c=>
   obtain⟨h1,h2⟩:=(KY h).1 hf
   exact(KY hr).2 ⟨List.mem_filter.2 ⟨h1,by simp;omega⟩,h2⟩
  | none=>
   rw[Am]at hf ⊢
   exact fun c hc=>hf c (List.mem_filter.1 hc).1
theorem Ends.succ {L:List Qj}:∀{n:Nat} {id:Int},Ends L n id→Ends L (n+1) id
 | 0,id,h=>by simp only[Ends]at h ⊢;rw[h];trivial
 | n+1,id,h=>by
  rw[Ends]at h ⊢
  cases hf:Qr L id with
  | none=>trivial
  | some c=>rw[hf]at h;exact Ends.succ h
theorem Ends.le {L:List Qj} {n k:Nat} {id:Int} (h:Ends L n id) (hk:n≤k):Ends L k id:=by
 induction hk with
 | refl=>exact h
 | step _ ih=>exact ih.succ
theorem pA {L:List Qj}:∀{n:Nat} {id:Int},Ends L n id→ZI L (n+1) id=ZI L n id
 | 0,id,h=>by simp only[Ends]at h;simp only[ZI,h]
 | n+1,id,h=>by
  rw[Ends]at h
  rw[ZI]
  conv=>rhs;rw[ZI]
  cases hf:Qr L id with
  | none=>rfl
  | some c=>rw[hf]at h;simp only[pA h]
theorem kQ {L:List Qj}:∀{n:Nat} {id:Int},(ZI L n id).length≤n
 | 0,_=>Nat.le_refl _
 | n+1,id=>by
  rw[ZI]
  cases Qr L id with
  | none=>exact Nat.zero_le _
  | some c=>have:=kQ (L:=L) (n:=n) (id:=c.parent);simp only[List.length_cons];omega
theorem Ends.short {L:List Qj}:∀{n k:Nat} {id:Int},Ends L n id→(ZI L n id).length≤k→Ends L k id
 | 0,k,id,h,_=>h.le (Nat.zero_le _)
 | n+1,k,id,h,hk=>by
  rw[Ends]at h
  rw[ZI]at hk
  cases hf:Qr L id with
  | none=>cases k with
   | zero=>exact hf
   | succ k=>rw[Ends,hf];trivial
  | some c=>
   rw[hf]at h hk
   simp only[List.length_cons]at hk
   cases k with
   | zero=>omega
   | succ k=>rw[Ends,hf];exact Ends.short h (by omega)
structure TreeInv (L:List Qj):Prop where
 rising:KX L
 ids:∀c∈L,1≤c.iD
 par:∀c∈L,c.parent=0∨(Qr L c.parent).isSome=true
 ends:∀id,Ends L 16 id
theorem TreeInv.nil:TreeInv []:=⟨by simp [KX],by simp,by simp,fun id=>by simp [Ends,Qr]⟩
theorem right_id {x:Qj} (h:JN x=0):1≤x.iD∧x.iD≤65536∧x.parent≠x.iD:=by
 have h2:xK x=true:=by
  cases h3:xK x with
  | true=>rfl
  | false=>rw[JN,h3]at h;simp at h
 simp [xK,jq]at h2
 exact⟨h2.1.1.1,h2.1.1.2,h2.2⟩
theorem Ni {L:List Qj} (h:KX L) (x:Qj) {k:Int} (hk:(Qr L k).isSome=true):(Qr (Kn L x) k).isSome=true:=by
 rw[js h];split
 ·rfl
 ·exact hk
theorem jt {L:List Qj} (h:KX L) (x:Qj) {c:Qj} (hc:c∈Kn L x):c=x∨c∈L:=by
 rcases List.mem_cons.1 ((BM x h).mem_iff.1 hc) with h1|h1
 ·exact .inl h1
 ·exact .inr (List.mem_filter.1 h1).1
theorem TreeInv.add {L:List Qj} (I:TreeInv L) {x:Qj} (h0:JN x=0) (h1:Qr L x.iD=none) (h2:x.parent=0∨(Qr L x.parent).isSome=true) (h3:(ZI L 16 x.parent).length≠16):TreeInv (Kn L x):=by
 obtain⟨i1,_,i3⟩:=right_id h0
 have key:∀n id,id≠x.iD→Ends L n id→Ends (Kn L x) n id:=by
  intro n
  induction n with
  | zero=>intro id QQ h;rw[Ends]at h ⊢;rw[js I.rising,if_neg QQ];exact h
  | succ n ih=>
   intro id QQ h
   rw[Ends]at h ⊢
   rw[js I.rising,if_neg QQ]
   cases hf:Qr L id with
   | none=>trivial
   | some c=>
    rw[hf]at h
    refine ih _ ?_ h
    rcases I.par c ((KY I.rising).1 hf).1 with hp|hp
    ·rw[hp];omega
    ·intro e;rw[e,h1]at hp;cases hp
 refine⟨DX x I.rising,fun c hc=>?_,fun c hc=>?_,fun id=>?_⟩
 ·rcases jt I.rising x hc with rfl|hc
  ·exact i1
  ·exact I.ids c hc
 ·rcases jt I.rising x hc with rfl|hc
  ·exact h2.imp id fun h=>Ni I.rising c h
  ·exact(I.par c hc).imp id fun h=>Ni I.rising x h
 ·by_cases QQ:id=x.iD
  ·subst QQ
   rw[Ends,js I.rising,if_pos rfl]
   refine key 15 _ i3 ((I.ends x.parent).short ?_)
   have:=kQ (L:=L) (n:=16) (id:=x.parent)
   omega
  ·exact key 16 id QQ (I.ends id)
theorem TreeInv.del {L:List Qj} (I:TreeInv L) {k0:Int} (h:KZ L k0=[]):TreeInv (Vb L k0):=by
 have Z9:∀c∈L,c.parent≠k0:=fun c hc e=>by
  have:c∈L.filter (fun y=>y.parent==k0):=List.mem_filter.2 ⟨hc,by simp [e]⟩
  have h2:(L.filter fun y=>y.parent==k0)=[]:=by simpa [KZ] using h
  rw[h2]at this;simp at this
 refine⟨Sa k0 I.rising,fun c hc=>I.ids c (List.mem_filter.1 hc).1,fun c hc=>?_,fun id=>?_⟩
 ·have qv:=(List.mem_filter.1 hc).1
  exact(I.par c qv).imp id fun hp=>by rw[GO I.rising,if_neg (Z9 c qv)];exact hp
 ·have key:∀n id,Ends L n id→Ends (Vb L k0) n id:=by
   intro n
   induction n with
   | zero=>intro id h;rw[Ends]at h ⊢;rw[GO I.rising];split<;>simp [h]
   | succ n ih=>
    intro id h
    rw[Ends]at h ⊢
    rw[GO I.rising]
    by_cases QQ:id=k0
    ·rw[if_pos QQ];trivial
    ·rw[if_neg QQ]
     cases hf:Qr L id with
     | none=>trivial
     | some c=>rw[hf]at h;exact ih _ h
  exact key 16 id (I.ends id)
theorem TreeInv.set {L:List Qj} (I:TreeInv L) {x y:Qj} (h0:JN x=0) (h1:Qr L x.iD=some y) (h2:x.parent=y.parent):TreeInv (Kn L x):=by
 obtain⟨i1,_,i3⟩:=right_id h0
 have key:∀n id,Ends L n id→Ends (Kn L x) n id:=by
  intro n
  induction n with
  | zero=>
   intro id h
   rw[Ends]at h ⊢
   rw[js I.rising]
   by_cases QQ:id=x.iD
   ·subst QQ;rw[h1]at h;cases h
   ·rw[if_neg QQ];exact h
  | succ n ih=>
   intro id h
   rw[Ends]at h ⊢
   rw[js I.rising]
   by_cases QQ:id=x.iD
   ·subst QQ;rw[if_pos rfl];rw[h1]at h;show Ends (Kn L x) n x.parent;rw[h2];exact ih _ h
   ·rw[if_neg QQ]
    cases hf:Qr L id with
    | none=>trivial
    | some c=>rw[hf]at h;exact ih _ h
 refine⟨DX x I.rising,fun c hc=>?_,fun c hc=>?_,fun id=>key 16 id (I.ends id)⟩
 ·rcases jt I.rising x hc with rfl|hc
  ·exact i1
  ·exact I.ids c hc
 ·rcases jt I.rising x hc with rfl|hc
  ·rw[h2]
   exact(I.par y ((KY I.rising).1 h1).1).imp id fun h=>Ni I.rising c h
  ·exact(I.par c hc).imp id fun h=>Ni I.rising x h
def up (T:List Qj) (id:Int):List Int:=ZI T 16 id
structure JD (T:List Qj):Prop extends TreeInv T where
 right:∀c∈T,JN c=0
 XN:∀c∈T,c.parent≠0→∃d,Qr T c.parent=some d∧d.leaf=false
 Nj:∀c∈T,1<QI c.ls→c.parent≠0→qH T c.parent=true
 len:T.length≤64
section
variable {T:List Qj} (I:JD T)
include I
theorem Sk (id:Int):up T id=match Qr T id with|none=>[]|some c=>id::up T c.parent:=by
 have h1:=pA (I.ends id)
 unfold up
 rw[← h1,ZI]
 all_goals (cases Qr T id<;>rfl)
theorem JS {id:Int} {c:Qj} (h:Qr T id=some c):up T id=id::up T c.parent:=by rw[Sk I,h]
theorem GP {id:Int} (h:Qr T id=none):up T id=[]:=by rw[Sk I,h]
theorem Qkg {id:Int} {c:Qj} (h:Qr T id=some c):c.iD=id:=((KY I.rising).1 h).2
theorem zB {id:Int} {c:Qj} (h:Qr T id=some c):c∈T:=((KY I.rising).1 h).1
theorem BQ:Qr T 0=none:=Am.2 fun c hc e=>by have:=I.ids c hc;omega
theorem BR:up T 0=[]:=GP I (BQ I)
omit I in
theorem BS {id j:Int} (h:j∈up T id):(Qr T j).isSome=true:=by
 have:∀n id,j∈ZI T n id→(Qr T j).isSome=true:=by
  intro n
  induction n with
  | zero=>intro id h;cases h
  | succ n ih=>
   intro id h
   rw[ZI]at h
   cases hf:Qr T id with
   | none=>rw[hf]at h;cases h
   | some c=>
    rw[hf]at h
    rcases List.mem_cons.1 h with rfl|h
    ·rw[hf];rfl
    ·exact ih _ h
 exact this 16 id h
theorem GQ {a p:Int} (h:p∈up T a):∃l,up T a=l++up T p:=by
 generalize hn:(up T a).length=n
 induction n using Nat.strongRecOn generalizing a with
 | ind n ih=>
  cases hf:Qr T a with
  | none=>rw[GP I hf]at h;cases h
  | some c=>
   have e:=JS I hf
   rw[e]at h hn
   rcases List.mem_cons.1 h with rfl|h
   ·exact⟨[],rfl⟩
   ·obtain⟨l,hl⟩:=ih _ (by simp only[List.length_cons]at hn;omega) h rfl
    exact⟨a::l,by rw[e,hl];rfl⟩
theorem up_sub {a p q:Int} (h:p∈up T a) (h2:q∈up T p):q∈up T a:=by
 obtain⟨l,e⟩:=GQ I h
 rw[e];exact List.mem_append_right _ h2
theorem VH {id:Int} {c:Qj} (h:Qr T id=some c):id∈up T id:=by rw[JS I h];simp
theorem GR (id:Int):(up T id).Nodup:=by
 generalize hn:(up T id).length=n
 induction n using Nat.strongRecOn generalizing id with
 | ind n ih=>
  cases hf:Qr T id with
  | none=>rw[GP I hf];simp
  | some c=>
   have e:=JS I hf
   rw[e]at hn ⊢
   rw[List.nodup_cons]
   refine⟨fun h=>?_,ih _ (by simp only[List.length_cons]at hn;omega) _ rfl⟩
   obtain⟨l,hl⟩:=GQ I h
   have:=congrArg List.length hl
   rw[e]at this
   simp only[List.length_append,List.length_cons]at this
   omega
theorem Nk {a p:Int} (h:p∈up T a) (QD:a≠p):∃i c,i∈up T a∧Qr T i=some c∧c.parent=p:=by
 generalize hn:(up T a).length=n
 induction n using Nat.strongRecOn generalizing a with
 | ind n ih=>
  cases hf:Qr T a with
  | none=>rw[GP I hf]at h;cases h
  | some c=>
   have e:=JS I hf
   rw[e]at h hn
   rcases List.mem_cons.1 h with rfl|h
   ·exact absurd rfl QD
   ·by_cases h2:c.parent=p
    ·exact⟨a,c,by rw[e];simp,hf,h2⟩
    ·obtain⟨i,d,h3,h4⟩:=ih _ (by simp only[List.length_cons]at hn;omega) h h2 rfl
     exact⟨i,d,by rw[e];simp [h3],h4⟩
theorem Qkh {a i j:Int} {c d:Qj} (hi:i∈up T a) (hj:j∈up T a) (ci:Qr T i=some c) (dj:Qr T j=some d) (e:c.parent=d.parent):i=j:=by
 obtain⟨l,hl⟩:=GQ I hi
 obtain⟨m,hm⟩:=GQ I hj
 have e1:=congrArg List.length (JS I ci)
 have e2:=congrArg List.length (JS I dj)
 have e3:(up T i).length=(up T j).length:=by rw[e1,e2,e];rfl
 have e4:=hl.symm.trans hm
 obtain⟨_,e5⟩:=List.append_inj' e4 e3
 rw[JS I ci,JS I dj]at e5
 exact(List.cons.inj e5).1
def Zu (T:List Qj) (A:List Int) (id:Int):Bool:=A.any fun a=>(up T a).contains id
omit I in
theorem V6 {A:List Int} {id:Int}:Zu T A id=true↔∃a∈A,id∈up T a:=by simp [Zu]
def W6 (T:List Qj) (A:List Int) (p i:Int):Bool:=(match Qr T i with|some c=>c.parent==p|none=>false)&&Zu T A i
omit I in
theorem qJ {A:List Int} {p i:Int}:W6 T A p i=true↔∃c,Qr T i=some c∧c.parent=p∧Zu T A i=true:=by
 unfold W6
 cases Qr T i with
 | none=>simp
 | some c=>simp
def zC (T:List Qj) (A:List Int):Prop:=∀a∈A,∃c,Qr T a=some c∧c.leaf=true∧1<QI c.ls
theorem BT {A:List Int} {i p:Int} (h:Zu T A i=true) (hp:p∈up T i):Zu T A p=true:=by
 obtain⟨a,ha,hi⟩:=V6.1 h
 exact V6.2 ⟨a,ha,up_sub I hi hp⟩
theorem pB {A:List Int} (hA:zC T A) {p:Int} {d:Qj} (hp:Qr T p=some d) (hd:d.leaf=false):Zu T A p=true↔∃i,W6 T A p i=true:=by
 constructor
 ·intro h
  obtain⟨a,ha,Sl⟩:=V6.1 h
  obtain⟨c,h1,h2,h3⟩:=hA a ha
  have QD:a≠p:=by rintro rfl;rw[h1]at hp;cases hp;rw[h2]at hd;cases hd
  obtain⟨i,c,h4,h5,h6⟩:=Nk I Sl QD
  exact⟨i,qJ.2 ⟨c,h5,h6,V6.2 ⟨a,ha,h4⟩⟩⟩
 ·rintro⟨i,hi⟩
  obtain⟨c,h1,h2,h3⟩:=qJ.1 hi
  have V5:p∈up T i:=by
   rw[JS I h1,h2]
   exact List.mem_cons_of_mem _ (VH I hp)
  exact BT I h3 V5
def VI (T:List Qj) (A:List Int) (leaf:Int):List Int:=(up T leaf).takeWhile fun i=>!Zu T A i
theorem pC {id:Int} {c:Qj} (h:Qr T id=some c) (hs:1<QI c.ls):∀i∈up T id,∃d,Qr T i=some d∧1<QI d.ls:=by
 generalize hn:(up T id).length=n
 induction n using Nat.strongRecOn generalizing id c with
 | ind n ih=>
  have e:=JS I h
  rw[e]at hn ⊢
  intro i hi
  rcases List.mem_cons.1 hi with rfl|hi
  ·exact⟨c,h,hs⟩
  ·by_cases h0:c.parent=0
   ·rw[h0,BR I]at hi;cases hi
   ·obtain⟨d,hd,_⟩:=I.XN c (zB I h) h0
    have Ji:=I.Nj c (zB I h) hs h0
    unfold qH at Ji
    rw[hd]at Ji
    exact ih _ (by simp only[List.length_cons]at hn;omega) hd (by simpa using Ji) rfl i hi
end
section
variable {T:List Qj} (I:JD T)
def XQ (T:List Qj) (A:List Int) (dn:List Int) (p i:Int):Bool:=W6 T A p i || (dn.contains i&&(match Qr T i with|some c=>c.parent==p|none=>false))
def Yn (T:List Qj) (A:List Int) (dn:List Int) (p i:Int):Bool:=W6 T A p i&&!dn.contains i
include I
theorem GS {A dn:List Int} {p i:Int}:XQ T A dn p i=true↔W6 T A p i=true∨(i∈dn∧∃c,Qr T i=some c∧c.parent=p):=by
 unfold XQ
 cases Qr T i with
 | none=>simp
 | some c=>simp
theorem Qki {a i:Int} {l m:List Int} {c:Qj} (h:up T a=l++i::m) (hi:Qr T i=some c):m=up T c.parent:=by
 have hm:i∈up T a:=by rw[h];simp
 obtain⟨l2,h2⟩:=GQ I hm
 rw[JS I hi]at h2
 have nd:=GR I a
 have e:=h.symm.trans h2
 have n2:=nd
 rw[h]at nd
 rw[h2]at n2
 have h3:l=l2:=by
  have a1:∀x∈l,x≠i:=fun x hx e=>by
   subst e
   rw[List.nodup_append]at nd
   exact nd.2.2 x hx x (by simp) rfl
  have a2:∀x∈l2,x≠i:=fun x hx e=>by
   subst e
   rw[List.nodup_append]at n2
   exact n2.2.2 x hx x (by simp) rfl
  clear h h2 nd n2 hm
  induction l generalizing l2 with
  | nil=>cases l2 with
   | nil=>rfl
   | cons y l2=>simp only[List.nil_append,List.cons_append,List.cons.injEq]at e;exact absurd e.1.symm (a2 y (by simp))
  | cons x l ih=>cases l2 with
   | nil=>simp only[List.nil_append,List.cons_append,List.cons.injEq]at e;exact absurd e.1 (a1 x (by simp))
   | cons y l2=>
    simp only[List.cons_append,List.cons.injEq]at e
    rw[e.1,ih l2 e.2 (fun x hx=>a1 x (by simp [hx])) (fun x hx=>a2 x (by simp [hx]))]
 subst h3
 have:=List.append_cancel_left e
 exact(List.cons.inj this).2
theorem Qkj {A:List Int} (hA:zC T A) {leaf id:Int} {dn:List Int} {c:Qj} (hu:up T leaf=dn++up T id) (hc:Qr T id=some c) (hn:∀i∈dn++[id],Zu T A i=false) :
  (∃i,XQ T A dn c.parent i=true)↔∃i,W6 T A c.parent i=true:=by
 constructor
 ·rintro⟨i,hi⟩
  rcases (GS I).1 hi with h|⟨h1,d,h2,h3⟩
  ·exact⟨i,h⟩
  ·exfalso
   have e1:i=id:=Qkh I (a:=leaf) (by rw[hu];simp [h1]) (by rw[hu];exact List.mem_append_right _ (VH I hc)) h2 hc h3
   subst e1
   have nd:=GR I leaf
   rw[hu,List.nodup_append]at nd
   exact nd.2.2 i h1 i (VH I hc) rfl
 ·rintro⟨i,hi⟩
  exact⟨i,(GS I).2 (.inl hi)⟩
theorem Qkk {A dn:List Int} {id:Int} {c:Qj} (hc:Qr T id=some c) (p i:Int):XQ T A (dn++[id]) p i=if p=c.parent∧i=id then true else XQ T A dn p i:=by
 rw[Bool.eq_iff_iff,GS I]
 split
 ·rename_i h
  obtain⟨rfl,rfl⟩:=h
  simp [hc]
 ·rename_i h
  rw[GS I]
  constructor
  ·rintro (h1|⟨h1,d,h2,h3⟩)
   ·exact .inl h1
   ·rcases List.mem_append.1 h1 with h1|h1
    ·exact .inr ⟨h1,d,h2,h3⟩
    ·simp only[List.mem_singleton]at h1
     subst h1
     rw[h2]at hc;cases hc
     exact absurd ⟨h3.symm,rfl⟩ h
  ·rintro (h1|⟨h1,d,h2,h3⟩)
   ·exact .inl h1
   ·exact .inr ⟨List.mem_append_left _ h1,d,h2,h3⟩
omit I in
theorem Qkl (T:List Qj) (A:List Int) (p i:Int):XQ T A [] p i=W6 T A p i:=by simp [XQ]
theorem Qkm {A:List Int} (hA:zC T A) {leaf id:Int} {dn:List Int} {c:Qj} (hu:up T leaf=dn++up T id) (hc:Qr T id=some c) (hn:∀i∈dn++[id],Zu T A i=false) (he:c.parent=0∨Zu T A c.parent=true) :
  dn++[id]=VI T A leaf∧∀p i,XQ T A (dn++[id]) p i=W6 T (leaf::A) p i:=by
 have zw:up T leaf=(dn++[id])++up T c.parent:=by rw[hu,JS I hc];simp
 have Ao:∀j∈up T c.parent,Zu T A j=true:=fun j hj=>by
  rcases he with he|he
  ·rw[he,BR I]at hj;cases hj
  ·exact BT I he hj
 refine⟨?_,fun p i=>?_⟩
 ·unfold VI
  rw[zw,List.takeWhile_append_of_pos (fun i hi=>by rw[hn i hi];rfl)]
  have:(up T c.parent).takeWhile (fun i=>!Zu T A i)=[]:=by
   cases hq:up T c.parent with
   | nil=>rfl
   | cons x q=>rw[List.takeWhile_cons,Ao x (by rw[hq];simp)];rfl
  rw[this,List.append_nil]
 ·rw[Bool.eq_iff_iff,GS I,qJ (A:=leaf::A)]
  have Yo:∀j,Zu T (leaf::A) j=true↔j∈up T leaf∨Zu T A j=true:=fun j=>by
   rw[V6,V6];simp
  constructor
  ·rintro (h|⟨h1,d,h2,h3⟩)
   ·obtain⟨d,h2,h3,h4⟩:=qJ.1 h
    exact⟨d,h2,h3,(Yo i).2 (.inr h4)⟩
   ·exact⟨d,h2,h3,(Yo i).2 (.inl (by rw[zw];exact List.mem_append_left _ h1))⟩
  ·rintro⟨d,h2,h3,h4⟩
   rcases (Yo i).1 h4 with h4|h4
   ·rw[zw]at h4
    rcases List.mem_append.1 h4 with h4|h4
    ·exact .inr ⟨h4,d,h2,h3⟩
    ·exact .inl (qJ.2 ⟨d,h2,h3,Ao i h4⟩)
   ·exact .inl (qJ.2 ⟨d,h2,h3,h4⟩)
end
def Z1 (A:List Int) (leaf:Int):List Int:=A.filter fun a=>a != leaf
section
variable {T:List Qj} (I:JD T)
theorem BU {A:List Int} {leaf:Int} (hl:leaf∈A) (j:Int):Zu T A j=true↔j∈up T leaf∨Zu T (Z1 A leaf) j=true:=by
 rw[V6,V6]
 constructor
 ·rintro⟨a,ha,hj⟩
  by_cases h:a=leaf
  ·subst h;exact .inl hj
  ·exact .inr ⟨a,List.mem_filter.2 ⟨ha,by simpa using h⟩,hj⟩
 ·rintro (h|⟨a,ha,hj⟩)
  ·exact⟨leaf,hl,h⟩
  ·exact⟨a,(List.mem_filter.1 ha).1,hj⟩
theorem zC.off {A:List Int} (h:zC T A) (leaf:Int):zC T (Z1 A leaf):=fun a ha=>h a (List.mem_filter.1 ha).1
theorem Ee {A dn:List Int} {p i:Int}:Yn T A dn p i=true↔W6 T A p i=true∧i ∉ dn:=by simp [Yn]
include I
theorem pD {A:List Int} (hA:zC T A) {leaf id:Int} (hl:leaf∈A) {dn:List Int} {c:Qj} (hu:up T leaf=dn++up T id) (hc:Qr T id=some c) (hn:∀i∈dn++[id],Zu T (Z1 A leaf) i=false) (h0:c.parent≠0) :
  (∃i,Yn T A (dn++[id]) c.parent i=true)↔Zu T (Z1 A leaf) c.parent=true:=by
 have zw:up T leaf=(dn++[id])++up T c.parent:=by rw[hu,JS I hc];simp
 obtain⟨d,hd,xQ⟩:=I.XN c (zB I hc) h0
 constructor
 ·rintro⟨i,hi⟩
  obtain⟨h1,h2⟩:=Ee.1 hi
  obtain⟨e,h3,h4,h5⟩:=qJ.1 h1
  have V5:c.parent∈up T i:=by rw[JS I h3,h4];exact List.mem_cons_of_mem _ (VH I hd)
  rcases (BU hl i).1 h5 with h6|h6
  ·exfalso
   rw[zw]at h6
   rcases List.mem_append.1 h6 with h6|h6
   ·exact h2 h6
   ·have nd:=GR I i
    rw[JS I h3,h4,List.nodup_cons]at nd
    exact nd.1 h6
  ·exact BT I h6 V5
 ·intro h
  obtain⟨a,ha,Sl⟩:=V6.1 h
  obtain⟨e,h1,h2,h3⟩:=hA.off leaf a ha
  have QD:a≠c.parent:=by rintro rfl;rw[h1]at hd;cases hd;rw[h2]at xQ;cases xQ
  obtain⟨i,f,h4,h5,h6⟩:=Nk I Sl QD
  have h7:Zu T (Z1 A leaf) i=true:=V6.2 ⟨a,ha,h4⟩
  refine⟨i,Ee.2 ⟨qJ.2 ⟨f,h5,h6,(BU hl i).2 (.inr h7)⟩,fun h8=>?_⟩⟩
  rw[hn i h8]at h7;cases h7
theorem Qkn {A:List Int} {leaf id:Int} (hl:leaf∈A) {dn:List Int} {c:Qj} (hu:up T leaf=dn++up T id) (hc:Qr T id=some c) (hn:∀i∈dn++[id],Zu T (Z1 A leaf) i=false) (he:c.parent=0∨Zu T (Z1 A leaf) c.parent=true) :
  dn++[id]=VI T (Z1 A leaf) leaf∧∀p i,Yn T A (dn++[id]) p i=W6 T (Z1 A leaf) p i:=by
 have zw:up T leaf=(dn++[id])++up T c.parent:=by rw[hu,JS I hc];simp
 have Ao:∀j∈up T c.parent,Zu T (Z1 A leaf) j=true:=fun j hj=>by
  rcases he with he|he
  ·rw[he,BR I]at hj;cases hj
  ·exact BT I he hj
 refine⟨?_,fun p i=>?_⟩
 ·unfold VI
  rw[zw,List.takeWhile_append_of_pos (fun i hi=>by rw[hn i hi];rfl)]
  have:(up T c.parent).takeWhile (fun i=>!Zu T (Z1 A leaf) i)=[]:=by
   cases hq:up T c.parent with
   | nil=>rfl
   | cons x q=>rw[List.takeWhile_cons,Ao x (by rw[hq];simp)];rfl
  rw[this,List.append_nil]
 ·rw[Bool.eq_iff_iff,Ee,qJ,qJ]
  constructor
  ·rintro⟨⟨d,h2,h3,h4⟩,h5⟩
   refine⟨d,h2,h3,?_⟩
   rcases (BU hl i).1 h4 with h6|h6
   ·rw[zw]at h6
    rcases List.mem_append.1 h6 with h6|h6
    ·exact absurd h6 h5
    ·exact Ao i h6
   ·exact h6
  ·rintro⟨d,h2,h3,h4⟩
   refine⟨⟨d,h2,h3,(BU hl i).2 (.inr h4)⟩,fun h5=>?_⟩
   rw[hn i h5]at h4;cases h4
end
@[go_sem] def u64 (n:Nat):D:=.raw (.int .u64 n)
@[go_sem] theorem wl0:IntKind.i64.wrap 0=0:=by decide
@[go_sem] theorem wl1:IntKind.i64.wrap 1=1:=by decide
@[go_sem] theorem wl2:IntKind.i64.wrap 2=2:=by decide
@[go_sem] theorem wl3:IntKind.i64.wrap 3=3:=by decide
@[go_sem] theorem wl4:IntKind.i64.wrap 4=4:=by decide
def never:Nat:=9223372036854775808
attribute [go_sem] Go.undef
theorem BV (a b:Nat):IntKind.u64.wrap ((a:Int)+(b:Int))=(((a+b) % 18446744073709551616:Nat):Int):=by rw[IntKind.wrap_u64];omega
theorem GU (a b:Nat):IntKind.u64.wrap ((a:Int)*(b:Int))=((a*b % 18446744073709551616:Nat):Int):=by rw[IntKind.wrap_u64,← Int.natCast_mul];omega
theorem Sm (a b:Nat) (h:b≤18446744073709551616):IntKind.u64.wrap ((a:Int) - (b:Int))=(((a+18446744073709551616 - b) % 18446744073709551616:Nat):Int):=by rw[IntKind.wrap_u64];omega
theorem No (a b:Nat) (h:b≤a) (ha:a<18446744073709551616):IntKind.u64.wrap ((a:Int) - (b:Int))=((a - b:Nat):Int):=by rw[IntKind.wrap_u64];omega
theorem pE (a b:Nat) (h:a+b<18446744073709551616):IntKind.u64.wrap ((a:Int)+(b:Int))=((a+b:Nat):Int):=by rw[IntKind.wrap_u64];omega
theorem Qko (a b:Nat) (h:a*b<18446744073709551616):IntKind.u64.wrap ((a:Int)*(b:Int))=((a*b:Nat):Int):=by rw[GU,Nat.mod_eq_of_lt h]
theorem BW (a s:Nat):((a:Int).fdiv (2 ^ s))=((a / 2 ^ s:Nat):Int):=by
 have h:((2:Int) ^ s)=((2 ^ s:Nat):Int):=by simp
 rw[h,Int.fdiv_eq_ediv_of_nonneg _ (Int.natCast_nonneg _),Int.natCast_ediv]
theorem Qkp (a:Nat) (ha:a<18446744073709551616):bits .and .u64 (a:Int) 4294967295=((a % 4294967296:Nat):Int):=by
 have:=u64_and_nat a 4294967295 ha (by decide)
 rw[show ((4294967295:Nat):Int)=4294967295 from rfl]at this
 rw[this,show (4294967295:Nat)=2 ^ 32 - 1 from rfl,Nat.and_two_pow_sub_one_eq_mod]
theorem Qkq (x y:Nat) (hx:x<4294967296) (hy:y<4294967296):bits .or .u64 ((x*4294967296:Nat):Int) (y:Int)=((x*4294967296+y:Nat):Int):=by
 rw[u64_or_nat _ _ (by omega) (by omega),nat_join 32 _ _ (by rw[show (2:Nat) ^ 32=4294967296 from rfl];omega) (by simpa using hy)]
theorem Ef (a:Nat) (ha:a<18446744073709551616):a / 9223372036854775808=0∨a / 9223372036854775808=1:=by omega
theorem Np (a b:Nat) (ha:a<18446744073709551616) (hb:b<18446744073709551616):(a &&& b) / 9223372036854775808=(a / 9223372036854775808) &&& (b / 9223372036854775808):=by
 rw[show (9223372036854775808:Nat)=2 ^ 63 from rfl,← Nat.shiftRight_eq_div_pow,Nat.shiftRight_and_distrib,Nat.shiftRight_eq_div_pow,Nat.shiftRight_eq_div_pow]
theorem Sn (a b:Nat) (ha:a<18446744073709551616) (hb:b<18446744073709551616):(a ||| b) / 9223372036854775808=(a / 9223372036854775808) ||| (b / 9223372036854775808):=by
 rw[show (9223372036854775808:Nat)=2 ^ 63 from rfl,← Nat.shiftRight_eq_div_pow,Nat.shiftRight_or_distrib,Nat.shiftRight_eq_div_pow,Nat.shiftRight_eq_div_pow]
theorem Sp (a b:Nat) (ha:a<18446744073709551616) (hb:b<18446744073709551616):(a ^^^ b) / 9223372036854775808=(a / 9223372036854775808) ^^^ (b / 9223372036854775808):=by
 rw[show (9223372036854775808:Nat)=2 ^ 63 from rfl,← Nat.shiftRight_eq_div_pow,Nat.shiftRight_xor_distrib,Nat.shiftRight_eq_div_pow,Nat.shiftRight_eq_div_pow]
theorem Qkr (a b c x y z u v:Nat) (ha:a<18446744073709551616) (hb:b<18446744073709551616) (hc:c<2) (hl:u=(a+18446744073709551616 - b+18446744073709551616 - c) % 18446744073709551616)
  (hx:x=a / 9223372036854775808) (hy:y=b / 9223372036854775808) (hz:z=u / 9223372036854775808) (hv:v=(1 ^^^ x) &&& y ||| ((1 ^^^ (x ^^^ y)) &&& z)):v=if a<b+c then 1 else 0:=by
 have h1:=Ef a ha
 have h2:=Ef b hb
 have h3:=Ef u (by omega)
 rw[← hx]at h1;rw[← hy]at h2;rw[← hz]at h3
 rcases h1 with h1|h1<;>rcases h2 with h2|h2<;>rcases h3 with h3|h3<;>(rw[h1,h2,h3]at hv;simp at hv;subst hv;split<;>omega)
theorem Qks (a b c x y z u v:Nat) (ha:a<18446744073709551616) (hb:b<18446744073709551616) (hc:c<2) (hl:u=(a+b+c) % 18446744073709551616)
  (hx:x=a / 9223372036854775808) (hy:y=b / 9223372036854775808) (hz:z=u / 9223372036854775808) (hv:v=x &&& y ||| ((x ||| y) &&& (1 - z))):v=if 18446744073709551616≤a+b+c then 1 else 0:=by
 have h1:=Ef a ha
 have h2:=Ef b hb
 have h3:=Ef u (by omega)
 rw[← hx]at h1;rw[← hy]at h2;rw[← hz]at h3
 rcases h1 with h1|h1<;>rcases h2 with h2|h2<;>rcases h3 with h3|h3<;>(rw[h1,h2,h3]at hv;simp at hv;subst hv;split<;>omega)
end Go.Fg.X
namespace Go.Fg.X
open Go.Proofs Go.Fg
structure It where
 ka:Nat
 ki:Int
 va:Nat
 vi:Int
deriving DecidableEq
instance:Inhabited It:=⟨⟨0,0,0,0⟩⟩
@[go_sem] def It.cells (x:It):List D:=[u64 x.ka,Qb x.ki,u64 x.va,Qb x.vi]
def Z7 (a:Nat) (i:Int) (b:Nat) (j:Int):Prop:=a<b∨(a=b∧i<j)
instance (a:Nat) (i:Int) (b:Nat) (j:Int):Decidable (Z7 a i b j):=inferInstanceAs (Decidable (_∨_))
def It.lt (x y:It):Prop:=Z7 x.ka x.ki y.ka y.ki
instance (x y:It):Decidable (x.lt y):=inferInstanceAs (Decidable (Z7 _ _ _ _))
def W7 (a:Nat) (i:Int) (b:Nat) (j:Int):Int:=if a=b∧i=j then 0 else if Z7 a i b j then -1 else 1
def XR (a b:It):It:=if W7 b.va b.vi a.va a.vi<0∨(W7 b.va b.vi a.va a.vi=0∧W7 b.ka b.ki a.ka a.ki<0) then b else a
inductive Tr where
 | nil
 | node (loc:Nat) (it:It) (l r:Tr)
deriving Inhabited
namespace Tr
def list:Tr→List It
 | .nil=>[]
 | .node _ it l r=>l.list++it::r.list
def QB:Tr→List Nat
 | .nil=>[]
 | .node loc _ l r=>loc::(l.QB++r.QB)
def high:Tr→Nat
 | .nil=>0
 | .node _ _ l r=>1+max l.high r.high
def size:Tr→Nat
 | .nil=>0
 | .node _ _ l r=>1+l.size+r.size
def ptr:Tr→D
 | .nil=>.raw (.pointer none)
 | .node loc _ _ _=>.ptr loc 0 0 0
@[go_sem] theorem Ap:Tr.nil.ptr=.raw (.pointer none):=rfl
@[go_sem] theorem wh (loc:Nat) (it:It) (l r:Tr):(Tr.node loc it l r).ptr=.ptr loc 0 0 0:=rfl
@[go_sem] theorem Qt6 (t:Tr):VV t.ptr=some [t.ptr]:=by cases t<;>rfl
@[go_sem] theorem Qt7 (t:Tr):t.ptr.JU=true:=by cases t<;>rfl
@[go_sem] theorem Qt8 (t:Tr):Vt t.ptr t.ptr=True:=by cases t<;>simp [Vt,ptr]
def least:Tr→It
 | .nil=>default
 | .node _ it l r=>match l,r with
  | .nil,.nil=>it
  | .nil,.node a b c d=>XR it (least (.node a b c d))
  | .node a b c d,.nil=>XR it (least (.node a b c d))
  | .node a b c d,.node a' b' c' d'=>XR (XR it (least (.node a b c d))) (least (.node a' b' c' d'))
theorem kR:∀t:Tr,t.list.length=t.size
 | .nil=>rfl
 | .node _ _ l r=>by simp only[list,size,List.length_append,List.length_cons,kR l,kR r];omega
theorem Eg:∀t:Tr,t.high≤t.size
 | .nil=>Nat.le_refl _
 | .node _ _ l r=>by have:=Eg l;have:=Eg r;simp only[high,size];omega
end Tr
@[go_sem] def Qkt (it:It) (p q:D) (le:It) (hi n:Int):List D:=[u64 it.ka,Qb it.ki,u64 it.va,Qb it.vi,p,q,u64 le.ka,Qb le.ki,u64 le.va,Qb le.vi,Qb hi,Qb n]
@[go_sem] def xR (it:It) (p q:D) (le:It) (hi n:Int):Ob:=⟨.one,0,12,1,fun _=>Qkt it p q le hi n⟩
def JF (h:List Ob):Tr→Prop
 | .nil=>True
 | .node loc it l r=>h[loc]? = some (xR it l.ptr r.ptr (Tr.node loc it l r).least ((Tr.node loc it l r).high:Nat) ((Tr.node loc it l r).size:Nat))∧JF h l∧JF h r
theorem JF.frame {h h':List Ob}:∀{t:Tr},JF h t→(∀l∈t.QB,h'[l]? = h[l]?)→JF h' t
 | .nil,_,_=>trivial
 | .node loc it l r,⟨h1,h2,h3⟩,e=>⟨by rw[e loc (by simp [Tr.QB])];exact h1,h2.frame fun x hx=>e x (by simp [Tr.QB,hx]),h3.frame fun x hx=>e x (by simp [Tr.QB,hx])⟩
theorem JF.lt {h:List Ob}:∀{t:Tr},JF h t→∀l∈t.QB,l<h.length
 | .nil,_,l,hl=>by cases hl
 | .node loc it l r,⟨h1,h2,h3⟩,x,hx=>by
  simp only[Tr.QB,List.mem_cons,List.mem_append]at hx
  rcases hx with rfl|hx|hx
  ·exact Jv h1
  ·exact h2.lt x hx
  ·exact h3.lt x hx
def Xs (h:List Ob):Tr→Prop
 | .nil=>True
 | .node loc it l r=>(h.map Ob.ro)[loc]? = some (xR it l.ptr r.ptr (Tr.node loc it l r).least ((Tr.node loc it l r).high:Nat) ((Tr.node loc it l r).size:Nat)).ro∧Xs h l∧Xs h r
theorem JF.toR {h:List Ob}:∀{t:Tr},JF h t→Xs h t
 | .nil,_=>trivial
 | .node _ _ _ _,⟨h1,h2,h3⟩=>⟨ZA h1,h2.toR,h3.toR⟩
theorem Xs.more {h h':List Ob} (e:∀(l:Nat) (o:Ob),(h.map Ob.ro)[l]? = some o→(h'.map Ob.ro)[l]? = some o):∀{t:Tr},Xs h t→Xs h' t
 | .nil,_=>trivial
 | .node _ _ _ _,⟨h1,h2,h3⟩=>⟨e _ _ h1,h2.more e,h3.more e⟩
theorem Aq {h F g:List Ob} (hF:F=h.map Ob.ro) (l:Nat) (o:Ob) (e:(h.map Ob.ro)[l]? = some o):((F++g).map Ob.ro)[l]? = some o:=by
 subst hF
 have h1:l<(h.map Ob.ro).length:=Jv e
 rw[List.map_append,List.getElem?_append_left (by simpa using h1),List.map_map]
 rw[List.getElem?_map]at e ⊢
 cases hh:h[l]? with
 | none=>rw[hh]at e;cases e
 | some u=>rw[hh]at e;cases e;simp [ro_ro]
structure XS (h:List Ob) (t:Tr) (L:List It) (h':List Ob) (t':Tr):Prop where
 is:JF h' t'
 list:t'.list=L
 nd:t'.QB.Nodup
 mem:∀l∈t'.QB,l∈t.QB∨h.length≤l
 keep:∀l,l<h.length→l ∉ t.QB→h'[l]? = h[l]?
 len:h.length≤h'.length
theorem XS.refl {h:List Ob} {t:Tr} (i:JF h t) (n:t.QB.Nodup):XS h t t.list h t:=⟨i,rfl,n,fun _ h=>.inl h,fun _ _ _=>rfl,Nat.le_refl _⟩
theorem XS.trans {h h' XE:List Ob} {t t' t'':Tr} {L L':List It} (a:XS h t L h' t') (b:XS h' t' L' XE t''):XS h t L' XE t'':=
 ⟨b.is,b.list,b.nd,fun l hl=>by
  rcases b.mem l hl with h1|h1
  ·exact a.mem l h1
  ·exact .inr (Nat.le_trans a.len h1),fun l hl hn=>by
  rw[b.keep l (Nat.lt_of_lt_of_le hl a.len) fun h1=>by
   rcases a.mem l h1 with h2|h2
   ·exact hn h2
   ·omega]
  exact a.keep l hl hn,Nat.le_trans a.len b.len⟩
def It.Wn (x y:It):Prop:=Z7 x.va x.vi y.va y.vi∨(x.va=y.va∧x.vi=y.vi∧Z7 x.ka x.ki y.ka y.ki)
instance (x y:It):Decidable (x.Wn y):=inferInstanceAs (Decidable (_∨_))
theorem kS (a:Nat) (i:Int):¬ Z7 a i a i:=by unfold Z7;omega
theorem Ar {a:Nat} {i:Int} {b:Nat} {j:Int} {c:Nat} {k:Int} (h:Z7 a i b j) (h2:Z7 b j c k):Z7 a i c k:=by unfold Z7 at *;omega
theorem Eh (a:Nat) (i:Int) (b:Nat) (j:Int):Z7 a i b j∨(a=b∧i=j)∨Z7 b j a i:=by unfold Z7;omega
theorem Sq {a:Nat} {i:Int} {b:Nat} {j:Int}:W7 a i b j<0↔Z7 a i b j:=by
 unfold W7
 by_cases h:a=b∧i=j
 ·rw[if_pos h];obtain⟨rfl,rfl⟩:=h;exact⟨fun h=>by omega,fun h=>absurd h (kS _ _)⟩
 ·rw[if_neg h]
  by_cases h2:Z7 a i b j
  ·rw[if_pos h2];exact⟨fun _=>h2,fun _=>by omega⟩
  ·rw[if_neg h2];exact⟨fun h=>by omega,fun h=>absurd h h2⟩
theorem pF {a:Nat} {i:Int} {b:Nat} {j:Int}:W7 a i b j=0↔a=b∧i=j:=by
 unfold W7
 by_cases h:a=b∧i=j
 ·rw[if_pos h];exact⟨fun _=>h,fun _=>rfl⟩
 ·rw[if_neg h]
  by_cases h2:Z7 a i b j
  ·rw[if_pos h2];exact⟨fun h=>by omega,fun h1=>absurd h1 h⟩
  ·rw[if_neg h2];exact⟨fun h=>by omega,fun h1=>absurd h1 h⟩
theorem Qku {a:Nat} {i:Int} {b:Nat} {j:Int}:0<W7 a i b j↔Z7 b j a i:=by
 have h1:=@Sq a i b j
 have h2:=@pF a i b j
 have h3:=Eh a i b j
 constructor
 ·intro h
  rcases h3 with h3|h3|h3
  ·have:=h1.2 h3;omega
  ·have:=h2.2 h3;omega
  ·exact h3
 ·intro h
  have n1:¬ W7 a i b j<0:=fun h4=>kS _ _ (Ar h (h1.1 h4))
  have n2:¬ W7 a i b j=0:=fun h4=>by obtain⟨rfl,rfl⟩:=h2.1 h4;exact kS _ _ h
  omega
theorem pG (a b:It):XR a b=if b.Wn a then b else a:=by
 have h:(W7 b.va b.vi a.va a.vi<0∨(W7 b.va b.vi a.va a.vi=0∧W7 b.ka b.ki a.ka a.ki<0))↔b.Wn a:=by
  rw[Sq,pF,Sq,It.Wn,and_assoc]
 unfold XR
 by_cases hb:b.Wn a
 ·rw[if_pos (h.2 hb),if_pos hb]
 ·rw[if_neg (fun h1=>hb (h.1 h1)),if_neg hb]
theorem GV (a:It):¬ a.Wn a:=fun h=>by
 rcases h with h|⟨_,_,h⟩<;>exact kS _ _ h
theorem pH {a b c:It} (h:a.Wn b) (h2:b.Wn c):a.Wn c:=by
 rcases h with h|⟨e1,e2,h⟩<;>rcases h2 with h2|⟨e3,e4,h2⟩
 ·exact .inl (Ar h h2)
 ·exact .inl (by rw[← e3,← e4];exact h)
 ·exact .inl (by rw[e1,e2];exact h2)
 ·exact .inr ⟨e1.trans e3,e2.trans e4,Ar h h2⟩
theorem pI (a b:It):a.Wn b∨a=b∨b.Wn a:=by
 rcases Eh a.va a.vi b.va b.vi with h|⟨h1,h2⟩|h
 ·exact .inl (.inl h)
 ·rcases Eh a.ka a.ki b.ka b.ki with h|⟨h3,h4⟩|h
  ·exact .inl (.inr ⟨h1,h2,h⟩)
  ·refine .inr (.inl ?_);cases a;cases b;simp_all
  ·exact .inr (.inr (.inr ⟨h1.symm,h2.symm,h⟩))
 ·exact .inr (.inr (.inl h))
theorem pJ (a b:It):(XR a b=a∧¬ b.Wn a)∨(XR a b=b∧b.Wn a):=by
 rw[pG]
 by_cases h:b.Wn a
 ·rw[if_pos h];exact .inr ⟨rfl,h⟩
 ·rw[if_neg h];exact .inl ⟨rfl,h⟩
theorem Qkv (a b:It):¬ a.Wn (XR a b)∧¬ b.Wn (XR a b):=by
 rcases pJ a b with ⟨e,h⟩|⟨e,h⟩<;>rw[e]
 ·exact⟨GV _,h⟩
 ·exact⟨fun h2=>GV _ (pH h h2),GV _⟩
structure J4 (x:It) (L:List It):Prop where
 mem:x∈L
 le:∀y∈L,¬ y.Wn x
theorem J4.uniq {x y:It} {L:List It} (a:J4 x L) (b:J4 y L):x=y:=by
 rcases pI x y with h|h|h
 ·exact absurd h (b.le x a.mem)
 ·exact h
 ·exact absurd h (a.le y b.mem)
theorem J4.one (x:It):J4 x [x]:=⟨by simp,fun y hy=>by simp only[List.mem_singleton]at hy;subst hy;exact GV _⟩
theorem J4.join {x y:It} {L M:List It} (a:J4 x L) (b:J4 y M):J4 (XR x y) (L++M):=by
 obtain⟨h1,h2⟩:=Qkv x y
 have pK:∀{p q r:It},¬ p.Wn q→¬ q.Wn r→¬ p.Wn r:=fun {p q r} h h2 h3=>by
  rcases pI q p with h4|h4|h4
  ·exact h2 (pH h4 h3)
  ·subst h4;exact h2 h3
  ·exact h h4
 refine⟨?_,fun z hz=>?_⟩
 ·rcases pJ x y with ⟨e,_⟩|⟨e,_⟩<;>rw[e]
  ·exact List.mem_append_left _ a.mem
  ·exact List.mem_append_right _ b.mem
 ·rcases List.mem_append.1 hz with hz|hz
  ·exact pK (a.le z hz) h1
  ·exact pK (b.le z hz) h2
theorem J4.perm {x:It} {L M:List It} (a:J4 x L) (h:∀y,y∈M↔y∈L):J4 x M:=⟨(h x).2 a.mem,fun y hy=>a.le y ((h y).1 hy)⟩
theorem Tr.Ei:∀(t:Tr),t≠.nil→J4 t.least t.list
 | .nil,h=>absurd rfl h
 | .node _ it .nil .nil,_=>J4.one it
 | .node _ it .nil (.node a b c d),_=>by
  have:=Tr.Ei (.node a b c d) (by simp)
  exact((J4.one it).join this).perm fun y=>by simp [Tr.list]
 | .node _ it (.node a b c d) .nil,_=>by
  have:=Tr.Ei (.node a b c d) (by simp)
  exact((J4.one it).join this).perm fun y=>by simp [Tr.list];constructor<;>(intro h;rcases h with h|h|h|h<;>simp [h])
 | .node _ it (.node a b c d) (.node a' b' c' d'),_=>by
  have h1:=Tr.Ei (.node a b c d) (by simp)
  have h2:=Tr.Ei (.node a' b' c' d') (by simp)
  refine(((J4.one it).join h1).join h2).perm fun y=>?_
  simp only[Tr.list,List.mem_append,List.mem_cons,List.mem_singleton]
  grind
end Go.Fg.X
namespace Go.Fg.X
open Go.Proofs Go.Fg
open Go.Proofs.Tryz
def JG (L:List It):Prop:=L.Pairwise It.lt
theorem It.lt_trans {a b c:It} (h:a.lt b) (h2:b.lt c):a.lt c:=Ar h h2
theorem xS {L M:List It} {x:It}:JG (L++x::M)↔JG L∧JG M∧(∀y∈L,y.lt x)∧(∀y∈M,x.lt y):=by
 unfold JG
 rw[List.pairwise_append,List.pairwise_cons]
 constructor
 ·rintro⟨h1,⟨h2,h3⟩,h4⟩
  exact⟨h1,h3,fun y hy=>h4 y hy x (by simp),h2⟩
 ·rintro⟨h1,h2,h3,h4⟩
  refine⟨h1,⟨h4,h2⟩,fun a ha b hb=>?_⟩
  rcases List.mem_cons.1 hb with rfl|hb
  ·exact h3 a ha
  ·exact It.lt_trans (h3 a ha) (h4 b hb)
def kU (a:Nat) (i:Int) (x:It):Bool:=x.ka==a&&x.ki==i
def V7 (a:Nat) (i:Int) (L:List It):Option It:=L.find? (kU a i)
def VJ (x:It):List It→List It
 | []=>[x]
 | y::r=>if y.lt x then y::VJ x r else x::y::r
def Vd (a:Nat) (i:Int) (L:List It):List It:=L.filter fun x=>!kU a i x
theorem qK {a:Nat} {i:Int} {x:It}:kU a i x=true↔x.ka=a∧x.ki=i:=by simp [kU]
theorem pL (a:Nat) (i:Int) (L M:List It) (x:It) (hs:JG (L++x::M)) :
  V7 a i (L++x::M)=if x.ka=a∧x.ki=i then some x else if Z7 x.ka x.ki a i then V7 a i M else V7 a i L:=by
 obtain⟨_,_,hl,hm⟩:=xS.1 hs
 unfold V7
 rw[List.find?_append,List.find?_cons]
 have nL:(x.ka=a∧x.ki=i)∨Z7 x.ka x.ki a i→L.find? (kU a i)=none:=fun h=>by
  rw[List.find?_eq_none]
  intro y hy hk
  obtain⟨e1,e2⟩:=qK.1 hk
  have h3:Z7 y.ka y.ki x.ka x.ki:=hl y hy
  rw[e1,e2]at h3
  rcases h with ⟨rfl,rfl⟩|h
  ·exact kS _ _ h3
  ·exact kS _ _ (Ar h h3)
 have nM:Z7 a i x.ka x.ki→M.find? (kU a i)=none:=fun h=>by
  rw[List.find?_eq_none]
  intro y hy hk
  obtain⟨e1,e2⟩:=qK.1 hk
  have h3:Z7 x.ka x.ki y.ka y.ki:=hm y hy
  rw[e1,e2]at h3
  exact kS _ _ (Ar h h3)
 by_cases h1:x.ka=a∧x.ki=i
 ·rw[if_pos h1,qK.2 h1,nL (.inl h1)];rfl
 ·have hk:kU a i x=false:=by rw[Bool.eq_false_iff];exact fun h=>h1 (qK.1 h)
  rw[if_neg h1,hk]
  by_cases h2:Z7 x.ka x.ki a i
  ·rw[if_pos h2,nL (.inr h2)];rfl
  ·rw[if_neg h2,nM (by rcases Eh x.ka x.ki a i with h|h|h;exact absurd h h2;exact absurd h h1;exact h)]
   simp
theorem Qkw (y:It) (L M:List It) (x:It) (hs:JG (L++x::M)) (hn:¬ (x.ka=y.ka∧x.ki=y.ki)) :
  VJ y (L++x::M)=if x.lt y then L++x::VJ y M else VJ y L++x::M:=by
 obtain⟨_,_,hl,hm⟩:=xS.1 hs
 by_cases h:x.lt y
 ·rw[if_pos h]
  have:∀l:List It,(∀z∈l,z.lt y)→VJ y (l++x::M)=l++x::VJ y M:=by
   intro l hl
   induction l with
   | nil=>simp only[List.nil_append,VJ,if_pos h]
   | cons z l ih=>simp only[List.cons_append,VJ,if_pos (hl z (by simp)),ih fun w hw=>hl w (by simp [hw])]
  exact this L fun z hz=>It.lt_trans (hl z hz) h
 ·rw[if_neg h]
  have:∀l:List It,VJ y (l++x::M)=VJ y l++x::M:=by
   intro l
   induction l with
   | nil=>simp only[List.nil_append,VJ,if_neg h,List.cons_append]
   | cons z l ih=>
    simp only[List.cons_append,VJ]
    split
    ·rw[ih,List.cons_append]
    ·simp only[List.cons_append]
  exact this L
theorem pM (a:Nat) (i:Int) (L M:List It) (x:It) (hs:JG (L++x::M)) :
  Vd a i (L++x::M)=if x.ka=a∧x.ki=i then L++M else if Z7 x.ka x.ki a i then L++x::Vd a i M else Vd a i L++x::M:=by
 obtain⟨_,_,hl,hm⟩:=xS.1 hs
 have keep:∀l:List It,(∀y∈l,¬ (y.ka=a∧y.ki=i))→Vd a i l=l:=fun l h=>by
  unfold Vd
  rw[List.filter_eq_self]
  intro y hy
  have:=h y hy
  rw[Bool.not_eq_true',Bool.eq_false_iff]
  exact fun h2=>this (qK.1 h2)
 have Qkx:Vd a i (L++x::M)=Vd a i L++Vd a i (x::M):=by unfold Vd;rw[List.filter_append]
 have kL:(x.ka=a∧x.ki=i)∨Z7 x.ka x.ki a i→Vd a i L=L:=fun h=>keep L fun y hy ⟨e1,e2⟩=>by
  have h3:Z7 y.ka y.ki x.ka x.ki:=hl y hy
  rw[e1,e2]at h3
  rcases h with ⟨rfl,rfl⟩|h
  ·exact kS _ _ h3
  ·exact kS _ _ (Ar h h3)
 have kM:(x.ka=a∧x.ki=i)∨Z7 a i x.ka x.ki→Vd a i M=M:=fun h=>keep M fun y hy ⟨e1,e2⟩=>by
  have h3:Z7 x.ka x.ki y.ka y.ki:=hm y hy
  rw[e1,e2]at h3
  rcases h with ⟨rfl,rfl⟩|h
  ·exact kS _ _ h3
  ·exact kS _ _ (Ar h h3)
 rw[Qkx]
 by_cases h1:x.ka=a∧x.ki=i
 ·have hx:Vd a i (x::M)=Vd a i M:=by unfold Vd;rw[List.filter_cons,qK.2 h1];rfl
  rw[if_pos h1,kL (.inl h1),hx,kM (.inl h1)]
 ·have hk:kU a i x=false:=by rw[Bool.eq_false_iff];exact fun h=>h1 (qK.1 h)
  have hx:Vd a i (x::M)=x::Vd a i M:=by unfold Vd;rw[List.filter_cons,hk];rfl
  rw[if_neg h1,hx]
  by_cases h2:Z7 x.ka x.ki a i
  ·rw[if_pos h2,kL (.inr h2)]
  ·rw[if_neg h2,kM (.inr (by rcases Eh x.ka x.ki a i with h|h|h;exact absurd h h2;exact absurd h h1;exact h))]
theorem As {y x:It}:∀{L:List It},x∈VJ y L↔x=y∨x∈L
 | []=>by simp [VJ]
 | z::L=>by
  simp only[VJ]
  split
  ·rw[List.mem_cons,As,List.mem_cons];grind
  ·rw[List.mem_cons]
theorem Sr {y:It}:∀{L:List It},JG L→V7 y.ka y.ki L=none→JG (VJ y L)
 | [],_,_=>by simp [VJ,JG]
 | z::L,hs,hf=>by
  obtain⟨h1,h2⟩:=List.pairwise_cons.1 hs
  unfold V7 at hf
  rw[List.find?_cons]at hf
  cases hk:kU y.ka y.ki z with
  | true=>rw[hk]at hf;cases hf
  | false=>
   rw[hk]at hf
   have QD:¬ (z.ka=y.ka∧z.ki=y.ki):=fun h=>by rw[qK.2 h]at hk;cases hk
   simp only[VJ]
   split
   ·rename_i hl
    refine List.pairwise_cons.2 ⟨fun w hw=>?_,Sr h2 hf⟩
    rcases As.1 hw with rfl|hw
    ·exact hl
    ·exact h1 w hw
   ·rename_i hl
    have pN:y.lt z:=by
     rcases Eh z.ka z.ki y.ka y.ki with h|h|h
     ·exact absurd h hl
     ·exact absurd h QD
     ·exact h
    refine List.pairwise_cons.2 ⟨fun w hw=>?_,hs⟩
    rcases List.mem_cons.1 hw with rfl|hw
    ·exact pN
    ·exact It.lt_trans pN (h1 w hw)
theorem Qky {a:Nat} {i:Int} {L:List It} (h:JG L):JG (Vd a i L):=List.Pairwise.filter _ h
def Tr.kV (a:Nat) (i:Int) (f:Tr→List It):Tr→List It
 | .nil=>f .nil
 | .node loc it l r=>if it.ka=a∧it.ki=i then f (.node loc it l r) else if Z7 it.ka it.ki a i then l.list++it::r.kV a i f else l.kV a i f++it::r.list
theorem Ss {y:It} {f:Tr→List It} (hf:f .nil=[y]):∀(t:Tr),JG t.list→V7 y.ka y.ki t.list=none→t.kV y.ka y.ki f=VJ y t.list
 | .nil,_,_=>hf
 | .node loc it l r,hs,hn=>by
  obtain⟨s1,s2,_,_⟩:=xS.1 hs
  simp only[Tr.list]at hs hn ⊢
  rw[pL _ _ _ _ _ hs]at hn
  rw[Tr.kV]
  by_cases h1:it.ka=y.ka∧it.ki=y.ki
  ·rw[if_pos h1]at hn;cases hn
  ·rw[if_neg h1]at hn ⊢
   rw[Qkw y _ _ _ hs h1]
   by_cases h2:Z7 it.ka it.ki y.ka y.ki
   ·rw[if_pos h2]at hn ⊢
    rw[if_pos (show it.lt y from h2),Ss hf r s2 hn]
   ·rw[if_neg h2]at hn ⊢
    rw[if_neg (show ¬ it.lt y from h2),Ss hf l s1 hn]
def Tr.BX:Tr→List It
 | .nil=>[]
 | .node _ _ l r=>l.list++r.list
theorem Nq {a:Nat} {i:Int}:∀(t:Tr),JG t.list→t.kV a i Tr.BX=Vd a i t.list
 | .nil,_=>rfl
 | .node loc it l r,hs=>by
  obtain⟨s1,s2,_,_⟩:=xS.1 hs
  simp only[Tr.list]at hs ⊢
  rw[pM _ _ _ _ _ hs,Tr.kV]
  by_cases h1:it.ka=a∧it.ki=i
  ·rw[if_pos h1,if_pos h1];rfl
  ·rw[if_neg h1,if_neg h1]
   by_cases h2:Z7 it.ka it.ki a i
   ·rw[if_pos h2,if_pos h2,Nq r s2]
   ·rw[if_neg h2,if_neg h2,Nq l s1]
def Tr.find (a:Nat) (i:Int):Tr→Tr
 | .nil=>.nil
 | .node loc it l r=>if it.ka=a∧it.ki=i then .node loc it l r else if Z7 it.ka it.ki a i then r.find a i else l.find a i
def Tr.item:Tr→Option It
 | .nil=>none
 | .node _ it _ _=>some it
theorem Tr.GW {a:Nat} {i:Int}:∀(t:Tr),JG t.list→(t.find a i).item=V7 a i t.list
 | .nil,_=>rfl
 | .node loc it l r,hs=>by
  obtain⟨s1,s2,_,_⟩:=xS.1 hs
  simp only[Tr.list]at hs ⊢
  rw[pL _ _ _ _ _ hs,Tr.find]
  by_cases h1:it.ka=a∧it.ki=i
  ·rw[if_pos h1,if_pos h1];rfl
  ·rw[if_neg h1,if_neg h1]
   by_cases h2:Z7 it.ka it.ki a i
   ·rw[if_pos h2,if_pos h2,Tr.GW r s2]
   ·rw[if_neg h2,if_neg h2,Tr.GW l s1]
def Tr.hasB (at_:Nat):Tr→Bool
 | .nil=>false
 | .node a b c d=>decide ((Tr.node a b c d).least.va≤at_)
theorem J4.va {x y:It} {L:List It} (h:J4 x L) (hy:y∈L):x.va≤y.va:=by
 have:=h.le y hy
 unfold It.Wn Z7 at this
 omega
theorem Tr.GX (at_:Nat):∀t:Tr,t.hasB at_=true↔∃x∈t.list,x.va≤at_
 | .nil=>by simp [Tr.hasB,Tr.list]
 | .node a b c d=>by
  have h:=Tr.Ei (.node a b c d) (by simp)
  simp only[Tr.hasB,decide_eq_true_eq]
  constructor
  ·intro h1;exact⟨_,h.mem,h1⟩
  ·rintro⟨x,hx,hv⟩;exact Nat.le_trans (h.va hx) hv
def Tr.first (at_:Nat):Tr→Option It
 | .nil=>none
 | .node _ it l r=>if l.hasB at_ then l.first at_ else if it.va≤at_ then some it else r.first at_
theorem Tr.Nr (at_:Nat):∀t:Tr,t.first at_=t.list.find? fun x=>decide (x.va≤at_)
 | .nil=>rfl
 | .node _ it l r=>by
  simp only[Tr.first,Tr.list]
  rw[List.find?_append,List.find?_cons]
  by_cases h:l.hasB at_=true
  ·rw[if_pos h,Tr.Nr at_ l]
   obtain⟨x,hx,hv⟩:=(Tr.GX at_ l).1 h
   cases hf:l.list.find? fun x=>decide (x.va≤at_) with
   | some y=>rfl
   | none=>exact absurd hv (by simpa using List.find?_eq_none.1 hf x hx)
  ·rw[if_neg h,Tr.Nr at_ r]
   have hn:l.list.find? (fun x=>decide (x.va≤at_))=none:=by
    rw[List.find?_eq_none]
    intro x hx hv
    exact h ((Tr.GX at_ l).2 ⟨x,hx,by simpa using hv⟩)
   rw[hn,Option.none_or]
   by_cases h2:it.va≤at_
   ·rw[if_pos h2,decide_eq_true h2]
   ·rw[if_neg h2,decide_eq_false h2]
def Tr.xT:Tr→It
 | .nil=>default
 | .node _ it l _=>match l with
  | .nil=>it
  | .node a b c d=>Tr.xT (.node a b c d)
theorem Tr.Su:∀t:Tr,t≠.nil→t.list.head? = some t.xT
 | .nil,h=>absurd rfl h
 | .node _ it .nil r,_=>rfl
 | .node _ it (.node a b c d) r,_=>by
  have:=Tr.Su (.node a b c d) (by simp)
  simp only[Tr.list,Tr.xT,List.head?_append]at this ⊢
  rw[this];rfl
def W8 (o:Option It) (i:It):Option It:=match o with
 | none=>some i
 | some a=>some (XR a i)
def Tr.Ko (at_:Nat):Tr→Option It→Option It
 | .nil,o=>o
 | .node _ it l r,o=>if at_<it.ka then l.Ko at_ o else r.Ko at_ (match l with
  | .nil=>W8 o it
  | .node a b c d=>W8 (W8 o it) (Tr.node a b c d).least)
def zD (o:Option It) (L:List It):Prop:=match o with
 | none=>L=[]
 | some x=>J4 x L
theorem zD.take {o:Option It} {L:List It} (h:zD o L) {i:It} {M:List It} (hi:J4 i M):zD (W8 o i) (L++M):=by
 cases o with
 | none=>simp only[zD]at h;subst h;exact hi
 | some a=>exact J4.join h hi
theorem zD.perm {o:Option It} {L M:List It} (h:zD o L) (e:∀y,y∈M↔y∈L):zD o M:=by
 cases o with
 | none=>
  simp only[zD]at h ⊢
  subst h
  exact List.eq_nil_iff_forall_not_mem.2 fun y hy=>by simpa using (e y).1 hy
 | some a=>exact J4.perm h e
theorem Tr.GY (at_:Nat):∀(t:Tr) (o:Option It) (T:List It),JG t.list→zD o T→zD (t.Ko at_ o) (T++t.list.filter fun x=>decide (x.ka≤at_))
 | .nil,o,T,_,h=>by simpa [Tr.Ko,Tr.list] using h
 | .node _ it l r,o,T,hs,h=>by
  obtain⟨s1,s2,hl,hr⟩:=xS.1 (show JG (l.list++it::r.list) from hs)
  have pO:∀{x y:It},x.lt y→x.ka≤y.ka:=fun h=>by
   have h:Z7 _ _ _ _:=h
   unfold Z7 at h;omega
  simp only[Tr.Ko,Tr.list,List.filter_append,List.filter_cons]
  by_cases h1:at_<it.ka
  ·rw[if_pos h1,decide_eq_false (by omega)]
   have hn:r.list.filter (fun x=>decide (x.ka≤at_))=[]:=by
    rw[List.filter_eq_nil_iff]
    intro x hx
    have:=pO (hr x hx)
    simp;omega
   rw[hn]
   have:=Tr.GY at_ l o T s1 h
   simpa using this
  ·rw[if_neg h1,decide_eq_true (by omega)]
   have ha:l.list.filter (fun x=>decide (x.ka≤at_))=l.list:=by
    rw[List.filter_eq_self]
    intro x hx
    have:=pO (hl x hx)
    simp;omega
   rw[ha]
   cases l with
   | nil=>
    have:=Tr.GY at_ r _ _ s2 (h.take (J4.one it))
    simpa [Tr.list] using this
   | node a b c d=>
    have:=Tr.GY at_ r _ _ s2 ((h.take (J4.one it)).take (Tr.Ei (.node a b c d) (by simp)))
    refine this.perm fun y=>?_
    simp only[Tr.list,List.mem_append,List.mem_cons,List.mem_singleton,List.mem_filter,if_true]
    grind
end Go.Fg.X
namespace Go.Fg
open Go.RowKit (Below)
def WC (off len:Nat) (zs:List D) (row:Nat→List D):Nat→List D:=fun k=>bif Nat.ble off k&&Nat.blt k (off+len) then zs else row k
theorem Sv {off len k:Nat} {zs:List D} {row:Nat→List D} (h:k<off):WC off len zs row k=row k:=by
 have:Nat.ble off k=false:=by rw[← Bool.not_eq_true,Nat.ble_eq];omega
 simp [WC,this]
section
variable {P:Program} {L:Zh} {base nt:Nat} {s:St} {o:Oper}
theorem Qkz (hL:Zw P L) {t e:TypeId} {x:Operand} {l g off len a b c:Nat} {z:Value} {zt:List Value} {ob:Ob} (ho:o.op=.call ⟨.builtin .clear,#[x],#[t]⟩) (hx:Qq s.fr x=.ref l g off len) (Q1:s.h[l]? = some ob)
  (hk:ob.kd.A5=false) (hg:ob.gen=g) (hs:ob.sz=1) (hro:ob.kd.ro=false) (hn:off+len≤ob.n) (ht:ty L t=some ⟨.slice e,a,b,zt⟩) {k:TK} (he:ty L e=some ⟨k,1,c,[z]⟩) (hz:z7 z=true) :
  X7 P base nt o s (s.h.set l ⟨ob.kd,ob.gen,ob.sz,ob.n,WC off len [ZT z] ob.row⟩) (.tup []):=by
 refine Be.up ?_ (by simp [calm,ho])
 intro Z pl ac w r Jw
 have hv:=r.eval x
 rw[hx]at hv
 obtain⟨o',p',ad,cap,Sw,Zg,Zs,Zq,X5,KG⟩:=yE hv
 rw[Q1]at Zg;cases Zg
 have hy:=hL _ _ ht
 have KQ:=hL _ _ he
 have hu:P.underlying t=some (.slice e):=zZ hy rfl
 obtain⟨zv,za,XH⟩:=KQ.zeroValue
 have xi:zv.cells=#[z]:=by apply Array.toList_inj.1;rw[za]
 have yM:(Builtin.zeroCells zv.cells len).toList=List.replicate len z:=by
  rw[xi]
  simp [Builtin.zeroCells]
  apply List.ext_getElem
  ·simp
  ·intro i h1 h2
   simp [Nat.mod_one]
 have hrz:∀Z' h' Qi w',Qv Z' h' Qi w' (ZT z) z:=fun Z' h' Qi w'=>
  .cl _ _ (vC _ _ _)
 rcases KG hg.symm with ⟨xU,Ed⟩|⟨bb,q,c0,el,Kl,haa,Zf,Qt9,vD⟩
 ·subst xU
  have ZR:∀i,WC off 0 [ZT z] ob.row i=ob.row i:=fun i=>by
   unfold WC
   cases h1:Nat.ble off i&&Nat.blt i (off+0)
   ·rfl
   ·simp at h1;omega
  have Xl:s.h.set l ⟨ob.kd,ob.gen,ob.sz,ob.n,WC off 0 [ZT z] ob.row⟩=s.h:=by
   have e1:(⟨ob.kd,ob.gen,ob.sz,ob.n,WC off 0 [ZT z] ob.row⟩:Ob)=ob:=by rw[funext ZR]
   rw[e1]
   exact List.ext_getElem? fun i=>by
    by_cases h:l=i
    ·subst h;rw[List.getElem?_set_self (Jv Q1),Q1]
    ·rw[List.getElem?_set_ne h]
  rw[Xl]
  refine⟨.tuple #[],w,pl,.inl ?_,Tr.refl _ _ _,r.o,.tup [] [] rfl (fun i hi=>absurd hi (Nat.not_lt_zero i)),Below.refl _ _⟩
  subst Ed
  cases ad<;>simp [execOp,ho,Sw,resolve,invoke,Go.builtin,Builtin.clear_,run_underlying hu]
 ·subst Kl
  obtain⟨QJ,xx⟩:=r.o.at_ l ob bb q Q1 Zs
  obtain⟨c1,Pc,hb,Bf,Z6,ZR⟩:=xx.cells Zq
  rw[hb]at Zf;cases Zf
  have Ja:∀c2:Nat→List D,(⟨ob.kd,ob.gen,ob.sz,ob.n,c2⟩:Ob).kd=ob.kd:=fun _=>rfl
  obtain⟨w',c',g1,g2,g3,g4,g5,g6,g7,g8,g9⟩:=Lm (P:=P) bb el (List.replicate len z) 0 (q+off*ob.sz) w c0 hb (by simp;rw[hs]at Bf ⊢;omega) (fun k hk=>by
   have ZE:k<len:=by simpa using hk
   have:QL (List.replicate len z) k=z:=by simp [QL,List.getD_eq_getElem?_getD,ZE]
   rw[this];exact hz)
  have T:Tr s.h pl w (s.h.set l ⟨ob.kd,ob.gen,ob.sz,ob.n,WC off len [ZT z] ob.row⟩) pl w':=Tr.Za r.o Q1 Zs rfl rfl rfl (fun k hk _=>g5 k hk) (fun c2 el2 e2=>by rw[hb]at e2;cases e2;exact⟨c',g2,g3⟩)
  refine⟨.tuple #[],w',pl,.inl ?_,T,?_,.tup [] [] rfl (fun i hi=>absurd hi (Nat.not_lt_zero i)),FE (QJ hro) g5 g6 g7 g8 g9⟩
  ·subst haa
   by_cases xU:len=0
   ·subst xU
    have e1:w'=w:=by
     have:(storeCells ⟨bb,q+off*ob.sz,none⟩ (List.replicate 0 z) 0).run P w=.ok () w:=by simp [storeCells]
     rw[g1]at this;cases this;rfl
    rw[e1]
    simp [execOp,ho,Sw,resolve,invoke,Go.builtin,Builtin.clear_,run_underlying hu]
   ·obtain⟨m,rfl⟩:∃m,len=m+1:=⟨len - 1,by omega⟩
    simp [execOp,ho,Sw,resolve,invoke,Go.builtin,Builtin.clear_,run_underlying hu,XH,yM,g1]
  ·refine QW.Za (hro:=rfl) r.o Q1 Zs Zq Zq rfl rfl (fun k hk _=>g5 k hk) hb g2 g3 (by rw[g3];exact Bf) (fun k hk=>?_) (fun k m hk hm=>?_)
   ·show (WC off len [ZT z] ob.row k).length=ob.sz
    unfold WC
    cases Nat.ble off k&&Nat.blt k (off+len)
    ·exact Z6 k hk
    ·simp [hs]
   ·have ZE:k<ob.n:=hk
    have KH:m<ob.sz:=hm
    show ∃v,c'[q+(k*ob.sz+m)]? = some v∧Qv Z _ pl w' (nth (WC off len [ZT z] ob.row k) m) v
    rw[hs]at KH
    have FQ:m=0:=by omega
    subst FQ
    have Ns:k*ob.sz+0=k:=by rw[hs];omega
    have QkC:q+off*ob.sz+0=q+off:=by rw[hs];omega
    rw[g4,Ns,QkC]
    simp only[List.length_replicate]
    by_cases V3:off≤k∧k<off+len
    ·rw[if_pos (by omega)]
     have e1:WC off len [ZT z] ob.row k=[ZT z]:=by simp [WC,Gg,QdZ,V3.1,V3.2]
     rw[e1]
     exact⟨z,by rw[List.getElem?_replicate,if_pos (by omega)],hrz _ _ _ _⟩
    ·rw[if_neg (by omega)]
     have e1:WC off len [ZT z] ob.row k=ob.row k:=by
      unfold WC
      cases h:(Nat.ble off k&&Nat.blt k (off+len))
      ·rfl
      ·simp at h;omega
     rw[e1]
     obtain⟨v,yJ,qt⟩:=ZR k 0 ZE (by omega)
     rw[Ns]at yJ
     exact⟨v,yJ,qt.tr T⟩
end
section
variable {P:Program} {L:Zh} {base nt:Nat} {w0:Start} {Q:Exit→St→Prop}
theorem Sx (hL:Zw P L) (hb:base≤w0.w.heap.size) {k:List Item} {dst:Option Nat} {BY:TypeId} {pos:String} {after:Array Edge} {gd:Option (Nat × Bool)} {r:List (Oper × G)} {s:St} {t e:TypeId} {x:Operand} {l g off len a b c:Nat} {z:Value} {zt:List Value} {ob:Ob}
  (hx:Qq s.fr x=.ref l g off len) (Q1:s.h[l]? = some ob)
  (hk:ob.kd.A5=false) (hg:ob.gen=g) (hs:ob.sz=1) (hro:ob.kd.ro=false) (hn:off+len≤ob.n) (ht:ty L t=some ⟨.slice e,a,b,zt⟩) {tk:TK} (he:ty L e=some ⟨tk,1,c,[z]⟩) (hz:z7 z=true) (hd:Zo nt dst=true)
  (h1:Qs P base nt w0 Q (.ops r::k) .normal ⟨Ze s.fr dst (.tup []),s.h.set l ⟨ob.kd,ob.gen,ob.sz,ob.n,WC off len [ZT z] ob.row⟩⟩) :
  Qs P base nt w0 Q (.ops ((⟨dst,.call ⟨.builtin .clear,#[x],#[t]⟩,BY,pos,after,gd⟩,none)::r)::k) .normal s:=by
 simp only[Qs]at h1 ⊢
 exact LU hb (Qkz hL rfl hx Q1 hk hg hs hro hn ht he hz) hd h1
end
theorem QH.cut {P:Program} {f:FuncId} {F:List Ob} {args:List D} {R R':D→List Ob→Prop} (hf:QH P f F args R)
  (hr:∀d h,R d h→∃l o n',h[l]? = some o∧o.kd.ty=0∧n'≤o.n∧R' d (h.set l ⟨o.kd,o.gen,o.sz,n',o.row⟩)):QH P f F args R':=by
 intro Z base w pl vs h1 h2 h3 hl hc
 refine(hf Z base w pl vs h1 h2 h3 hl hc).mono fun e w' he=>?_
 obtain⟨v,d,h,Qi,rfl,hR,hO,hV,hT,hB⟩:=he
 obtain⟨l,o,n',ho,hk,hn,hR'⟩:=hr _ _ hR
 have hl:=Jv ho
 have key:∀(x:Nat) (u:Ob),h[x]? = some u→∃u',(h.set l ⟨o.kd,o.gen,o.sz,n',o.row⟩)[x]? = some u'∧u'.gen=u.gen∧u'.sz=u.sz∧u'.kd.ty=u.kd.ty:=fun x u e=>by
  by_cases hx:l=x
  ·subst hx
   rw[ho]at e;cases e
   exact⟨_,List.getElem?_set_self hl,rfl,rfl,rfl⟩
  ·exact⟨u,by rw[List.getElem?_set_ne hx];exact e,rfl,rfl,rfl⟩
 refine⟨v,d,_,Qi,rfl,hR',⟨by simp [hO.len],hO.inj,fun x u e ep=>?_,fun x u b q e ep=>?_⟩,hV.vW key,⟨hT.JP,fun x u p e ep=>?_,fun x u u' b q e e' hg ep c el hc=>?_⟩,hB⟩
 ·by_cases hx:l=x
  ·subst hx
   rw[List.getElem?_set_self hl]at e;cases e
   have:=hO.J2 l o ho ep
   show n'=0
   omega
  ·rw[List.getElem?_set_ne hx]at e
   exact hO.J2 x u e ep
 ·by_cases hx:l=x
  ·subst hx
   rw[List.getElem?_set_self hl]at e;cases e
   obtain⟨g1,xx⟩:=hO.at_ l o b q ho ep
   obtain⟨c,el,c1,c2,c3,c4⟩:=xx.cells hk
   refine⟨g1,.CY hk ⟨c,el,c1,?_,fun i hi=>c3 i (Nat.lt_of_lt_of_le hi hn),fun i j hi hj=>?_⟩⟩
   ·have:=Nat.mul_le_mul_right o.sz hn
    show q+n'*o.sz≤c.size
    omega
   ·obtain⟨u,hu,hr⟩:=c4 i j (Nat.lt_of_lt_of_le hi hn) hj
    exact⟨u,hu,hr.vW key⟩
  ·rw[List.getElem?_set_ne hx]at e
   obtain⟨g1,xx⟩:=hO.at_ x u b q e ep
   exact⟨g1,xx.to rfl rfl rfl rfl (fun _ _=>rfl) fun i j v _ _ hr=>hr.vW key⟩
 ·obtain⟨u',p',a1,a2,a3,a4,a5⟩:=hT.obj x u p e ep
  obtain⟨u2,b1,b2,b3,b4⟩:=key x u' a1
  exact⟨u2,p',b1,a2,by omega,by rw[b4,a4],fun hh=>by rw[b3];exact a5 (by omega)⟩
 ·obtain⟨u1,p',a1,a2,a3,a4,a5⟩:=hT.obj x u _ e ep
  obtain⟨u2,b1,b2,b3,b4⟩:=key x u1 a1
  rw[e']at b1;cases b1
  exact hT.shape x u u1 b q e a1 (by omega) ep c el hc
section
variable {P:Program} {L:Zh} {base nt:Nat} {s:St} {o:Oper}
theorem QkE (hL:Zw P L) {t:TypeId} {x:Operand} (ho:o.op=.call ⟨.builtin .cap,#[x],#[t]⟩) (hx:Qq s.fr x=.nil) {e a b:Nat} {zt:List Value} (ht:ty L t=some ⟨.slice e,a,b,zt⟩):Kt P base nt o s (.raw (.int .i64 0)):=by
 intro Z pl ac w r
 have hr:=r.eval x
 rw[hx]at hr
 obtain⟨a0,hv⟩:=yD hr
 refine⟨_,.cl _ _ (.raw _),fun w' _=>?_⟩
 rw[X6 ho]
 simp [builtin,hv,Builtin.cap_,run_underlying (zZ (hL _ _ ht) rfl),goInt]
theorem QkF {t ti e:TypeId} {ty0:TypeId} {y:Ty} {k kn:IntKind} (ht:P.underlying t=some (.slice e)) (GZ:P.underlying ti=some (.int kn)) (hy:KP P e y) (hz:y.zero.length=y.size) (hs:0<y.size) (w:World) (b:Option Addr) (n:Nat)
  (h0:0<n) (X8:n≤4294967296) (XG:y.bytes≤1024) :
  ∃YK rest,(Builtin.append_ #[t,ti] ty0 #[.slice b 0 0,.int k n]).run P w=.ok (.slice (some ⟨w.heap.size,0,none⟩) n YK) (w.drew.alloc (.cells ((flat n y.size fun _ j=>QL y.zero j).toArray++rest) e))∧n≤YK∧rest.size=(YK - n)*y.size:=by
 obtain⟨z,za,XH⟩:=hy.zeroValue
 obtain⟨i,hi,ja,Wz⟩:=hy.typeInfo w
 have ZH:∀w,(typeInfo e).run P w=.ok i w:=fun w=>by
  have h4:=hy.info
  cases hx:P.info? e with
  | none=>rw[hx]at h4;cases h4
  | some k=>
   simp [typeInfo,hx]at hi ⊢
   exact hi
 refine⟨grownCap w n 0 e,Builtin.zeroCells z.cells (grownCap w n 0 e - n),?_,grownCap_ge _ _ _ _,by rw[Pu];congr 1;rw[← hz,← za];simp⟩
 have hn:¬ n=0:=by omega
 have hw:IntKind.i64.wrap (n:Int)=n:=by rw[IntKind.wrap_i64];omega
 have Pv:¬ (9223372036854775807<(n:Int)):=by omega
 have hmul:n*y.bytes≤4294967296*1024:=Nat.mul_le_mul X8 XG
 have Pw:¬ (281474976710656<Builtin.nextslicecap n 0*i.bytes):=by rw[nextslicecap_zero h0,Wz];omega
 have Sy:¬ (281474976710656<(n:Int)*(i.bytes:Int)):=by
  rw[← Int.natCast_mul,Wz]
  omega
 have G0:¬ ((n:Int)<0):=by omega
 have yV:¬ (n*y.size=0):=Nat.mul_ne_zero hn (by omega)
 have xh:z.cells.size=y.size:=by rw[← hz,← za];simp
 have Yp:(flat n y.size fun _ j=>QL y.zero j).toArray=Builtin.zeroCells z.cells n:=by
  apply Array.ext
  ·rw[Pu,xh];simp [WX]
  ·intro j h1 h2
   simp only[List.size_toArray,WX]at h1
   obtain⟨d1,d2,d3⟩:=div_lt h1
   have Sz:y.zero=z.cells.toList:=za.symm
   have hj:j % y.size<z.cells.size:=by rw[xh];exact d2
   simp [flat,Builtin.zeroCells,QL,Sz,List.getD_eq_getElem?_getD,xh,hj]
   rw[getElem!_pos z.cells _ hj,Array.getElem?_eq_getElem hj];rfl
 rw[Yp]
 cases b<;>simp [Builtin.append_,run_underlying ht,run_underlying GZ,hy.sizeOf,ZH,XH,asInt,asIntOf,hw,hn,G0,yV,Pv,Pw,Sy,Question.forced,Builtin.firstCells,loadCells,loadCellsFrom,newRow,grownCap,askRoom,mark,Sem.run]
theorem QkG (hL:Zw P L) {t ti e:TypeId} {x0 x:Operand} {n:Nat} {kn:IntKind} {a b c d:Nat} {zt zi:List Value} {y:Ty} {k:IntKind} (ho:o.op=.call ⟨.builtin .append,#[x0,x],#[t,ti]⟩) (jZ:Qq s.fr x0=.nil) (hx:Qq s.fr x=.raw (.int k n))
  (ht:ty L t=some ⟨.slice e,a,b,zt⟩) (GZ:ty L ti=some ⟨.int kn,c,d,zi⟩) (KQ:ty L e=some y) (hz:y.zero.length=y.size) (hs:0<y.size) (h0:0<n) (X8:n≤4294967296) (XG:y.bytes≤1024) :
  X7 P base nt o s (s.h++[⟨.arr,0,y.size,n,fun _=>y.zero.map ZT⟩]) (.ref s.h.length 0 0 n):=by
 refine Be.up ?_ (by simp [calm,ho])
 intro Z pl ac w r Jw
 have j0:=r.eval x0
 have xg:=r.eval x
 rw[jZ]at j0
 rw[hx]at xg
 obtain⟨a0,Df⟩:=yD j0
 have hv:=ZD xg
 have hy:=hL _ _ KQ
 have Q4:pl.length=s.h.length:=r.o.len
 obtain⟨YK,rest,QV,yO,X9⟩:=QkF (ty0:=o.type) (k:=k) (zZ (hL _ _ ht) rfl) (wW (hL _ _ GZ) rfl) hy hz hs w a0 n h0 X8 XG
 have e1:∀b,b<w.heap.size→(w.drew.alloc (.cells ((flat n y.size fun _ j=>QL y.zero j).toArray++rest) e)).heap[b]? = w.heap[b]? := fun b hb=>qs w.drew _ b hb
 have ZX:(w.drew.alloc (.cells ((flat n y.size fun _ j=>QL y.zero j).toArray++rest) e)).heap[w.heap.size]? = some (.cells ((flat n y.size fun _ j=>QL y.zero j).toArray++rest) e (0,0)):=heap_alloc_new w.drew _
 have T:Tr s.h pl w (s.h++[⟨.arr,0,y.size,n,fun _=>y.zero.map ZT⟩]) (pl++[some (w.heap.size,0)]) (w.drew.alloc (.cells ((flat n y.size fun _ j=>QL y.zero j).toArray++rest) e)):=Tr.push r.o e1 _ _ (by intro b q h;simp at h;omega)
 refine⟨.slice (some ⟨w.heap.size,0,none⟩) n YK,_,_,.inl ?_,T,QW.push r.o e1 _ rfl (Nat.le_refl _) Jw ZX (by simp [WX]) (fun i hi=>by simp [hz]) (fun i j hi hj=>⟨QL y.zero j,?_,?_⟩),.ref _ _ _ _ ⟨.arr,0,y.size,n,fun _=>y.zero.map ZT⟩ (some (w.heap.size,0)) _ _ (by simp) (by rw[← Q4];simp) rfl (Nat.le_refl _) (fun _=>.inr ⟨w.heap.size,0,_,_,rfl,by simp,ZX,?_,yO⟩),((Below.refl base w).drew).alloc Jw _⟩
 ·rw[X6 ho]
  have:(Array.map ac.eval #[x0,x])=#[.slice a0 0 0,.int k n]:=by simp [Df,hv]
  rw[this]
  simp only[builtin,Sem.run_bind,QV,Result.andThen_ok,Sem.run_pure]
 ·have hg:=yK (vs:=fun _ j=>QL y.zero j) hi hj
  have Qd:=(List.getElem?_eq_some_iff.1 hg).1
  rw[Nat.zero_add,Array.getElem?_append_left (by simpa using Qd)]
  simpa using hg
 ·have Xt:j<y.zero.length:=by rw[hz];exact hj
  have:nth (y.zero.map ZT) j=ZT (QL y.zero j):=by simp [nth,QL,List.getD_eq_getElem?_getD,Xt]
  show Qv Z _ _ _ (nth (y.zero.map ZT) j) _
  rw[this]
  exact .cl _ _ (vC _ _ _)
 ·simp only[Nat.zero_add,Array.size_append,List.size_toArray,WX,X9]
  rw[← Nat.add_mul];exact Nat.mul_le_mul_right _ (by omega)
end
section
variable {P:Program} {L:Zh} {base nt:Nat} {w0:Start} {Q:Exit→St→Prop}
theorem SA (hL:Zw P L) {k:List Item} {dst:Option Nat} {BY:TypeId} {pos:String} {after:Array Edge} {gd:Option (Nat × Bool)} {r:List (Oper × G)} {s:St} {t e a b:Nat} {x:Operand} {zt:List Value}
  (hx:Qq s.fr x=.nil) (ht:ty L t=some ⟨.slice e,a,b,zt⟩) (hd:Zo nt dst=true) (h1:Qs P base nt w0 Q (.ops r::k) .normal ⟨Ze s.fr dst (.raw (.int .i64 0)),s.h⟩) :
  Qs P base nt w0 Q (.ops ((⟨dst,.call ⟨.builtin .cap,#[x],#[t]⟩,BY,pos,after,gd⟩,none)::r)::k) .normal s:=by
 simp only[Qs]at h1 ⊢
 exact PT (QkE hL rfl hx ht) hd h1
theorem QkH (hL:Zw P L) (hb:base≤w0.w.heap.size) {k:List Item} {dst:Option Nat} {BY:TypeId} {pos:String} {after:Array Edge} {gd:Option (Nat × Bool)} {r:List (Oper × G)} {s:St} {t ti e:TypeId} {x0 x:Operand} {n:Nat} {kn:IntKind} {a b c d:Nat} {zt zi:List Value} {y:Ty} {ki:IntKind}
  (jZ:Qq s.fr x0=.nil) (hx:Qq s.fr x=.raw (.int ki n)) (ht:ty L t=some ⟨.slice e,a,b,zt⟩) (GZ:ty L ti=some ⟨.int kn,c,d,zi⟩) (KQ:ty L e=some y) (hz:y.zero.length=y.size) (hs:0<y.size) (h0:0<n) (X8:n≤4294967296) (XG:y.bytes≤1024) (hd:Zo nt dst=true)
  (h1:Qs P base nt w0 Q (.ops r::k) .normal ⟨Ze s.fr dst (.ref s.h.length 0 0 n),s.h++[⟨.arr,0,y.size,n,fun _=>y.zero.map ZT⟩]⟩) :
  Qs P base nt w0 Q (.ops ((⟨dst,.call ⟨.builtin .append,#[x0,x],#[t,ti]⟩,BY,pos,after,gd⟩,none)::r)::k) .normal s:=by
 simp only[Qs]at h1 ⊢
 exact LU hb (QkG hL rfl jZ hx ht GZ KQ hz hs h0 X8 XG) hd h1
end
section
variable {P:Program} {L:Zh} {base nt:Nat} {s:St} {o:Oper}
end
section
variable {P:Program} {L:Zh} {base nt:Nat} {w0:Start} {Q:Exit→St→Prop}
end
section
variable {Z:Nat→Prop}
theorem Qv.pP {h:List Ob} {pl:List Pl} {w:World} {l:Nat} {o:Ob} {p:Pl} (ho:h[l]? = some o) (hp:pl[l]? = some p) (hk:o.kd.ty=0) {d:D} {v:Value} (r:Qv Z h pl w d v):Qv Z (h.set l o.gone) (pl.set l none) w d v:=by
 have Q4:∀(l':Nat),l'≠l→(pl.set l none)[l']? = pl[l']? := fun l' qu=>by rw[List.getElem?_set_ne (Ne.symm qu)]
 have F8:∀b,Vh pl b→Vh (pl.set l none) b:=fun b hb l' q e=>by
  by_cases e1:l'=l
  ·subst e1;rw[List.getElem?_set_self (KN hp)]at e;cases e
  ·rw[Q4 l' e1]at e;exact hb l' q e
 have Wh:∀b,free Z pl b→free Z (pl.set l none) b:=fun b hb=>⟨hb.1,F8 b hb.2⟩
 have jc:(h.set l o.gone)[l]? = some o.gone:=List.getElem?_set_self (Jv ho)
 have pQ:(pl.set l none)[l]? = some none:=List.getElem?_set_self (KN hp)
 induction r with
 | cl d v hc=>exact .cl _ _ (hc.mono fun b hb _=>⟨Wh b hb,rfl⟩)
 | ref l' g off len o' p' a cap Zg Zs Zq hg hs=>
  by_cases e:l'=l
  ·subst e
   rw[ho]at Zg;cases Zg
   exact .ref _ g off len o.gone none a cap jc pQ rfl (by simp [Ob.gone];omega) (fun h1=>by simp [Ob.gone]at h1;omega)
  ·exact .ref _ g off len o' p' a cap (by rw[List.getElem?_set_ne (Ne.symm e)];exact Zg) (by rw[Q4 l' e];exact Zs) Zq hg hs
 | ptr l' g i j o' p' a Zg Zs Zq hg hs=>
  by_cases e:l'=l
  ·subst e
   rw[ho]at Zg;cases Zg
   exact .ptr _ g i j o.gone none a jc pQ rfl (by simp [Ob.gone];omega) (fun h1=>by simp [Ob.gone]at h1;omega)
  ·exact .ptr _ g i j o' p' a (by rw[List.getElem?_set_ne (Ne.symm e)];exact Zg) (by rw[Q4 l' e];exact Zs) Zq hg hs
 | mref l' g o' p' b Zg Zs Zq hg hs=>
  by_cases e:l'=l
  ·subst e
   rw[ho]at Zg;cases Zg
   exact absurd hk Zq.1
  ·exact .mref _ g o' p' b (by rw[List.getElem?_set_ne (Ne.symm e)];exact Zg) (by rw[Q4 l' e];exact Zs) Zq hg hs
 | clo f nf cs vs hl hr ih=>exact .clo f nf cs vs hl ih
 | agg cs vs hl hr ih=>exact .agg cs vs hl ih
 | tup cs vs hl hr ih=>exact .tup cs vs hl ih
end
def pR (F h:List Ob):Prop:=∀(l:Nat) (o:Ob),F[l]? = some o→∃o',h[l]? = some o'∧o'.gen=o.gen
theorem Qk.Nt {w0:Start} (hF:w0.pl.length=w0.F.length) {fr:List (Nat × D)} {h:List Ob} (QkI:pR w0.F h) (t l:Nat) (hl:w0.F.length≤l) {o:Ob} {off len:Nat} (ht:get fr t=.ref l o.gen off len) (ho:h[l]? = some o) (hn:off+len≤o.n) (hk:o.kd.ty=0) (ZP:∀i,i<o.n→(o.row i).all D.ko=true) :
  Qk w0 ⟨fr,h⟩ ⟨put fr t (.imm o.sz len (rowFrom off o.row)),h.set l o.gone⟩:=by
 intro Z z base nt pl a w r b
 have hlen:pl.length=h.length:=r.o.len
 have pS:l<pl.length:=by have h1:=Jv ho;omega
 have hp:pl[l]? = some pl[l]:=List.getElem?_eq_getElem pS
 generalize cv:pl[l]=p at hp
 have QkJ:∀bb q:Nat,p=some (bb,q)→w0.w.heap.size≤bb:=fun bb q e=>by
  subst e
  rcases Nat.lt_or_ge bb w0.w.heap.size with Qd|xn
  ·exfalso
   have V8:¬ Vh w0.pl bb:=fun ha=>(b.2.1.JP bb ha Qd).1 l q hp
   obtain⟨l0,h1⟩:=Classical.not_forall.1 V8
   obtain⟨q0,h2⟩:=Classical.not_forall.1 h1
   have h3:=Classical.not_not.1 h2
   have xU:l0<w0.F.length:=by rw[← hF];exact KN h3
   obtain⟨o1,p1,k1,k2,k3,k4,k5⟩:=b.2.1.obj l0 _ _ (List.getElem?_eq_getElem xU) h3
   obtain⟨o2,k6,k7⟩:=QkI l0 _ (List.getElem?_eq_getElem xU)
   rw[k6]at k1;cases k1
   obtain⟨_,k8⟩:=k5 k7
   subst k8
   have:=r.o.inj l0 l bb q0 q k2 hp
   omega
  ·exact xn
 have KG:∀bb q,p=some (bb,q)→Z bb∧(∀l' q',pl[l']? = some (some (bb,q'))→l'=l)∧Fx Z h pl w o bb q:=fun bb q e=>by
  have h1:=QkJ bb q e
  subst e
  exact⟨b.2.2.own l bb q hp h1,fun l' q' e'=>r.o.inj _ _ _ _ _ e' hp,(r.o.at_ l o bb q ho hp).2.cells hk⟩
 have Q4:∀(l':Nat),l'≠l→(pl.set l none)[l']? = pl[l']? := fun l' qu=>by rw[List.getElem?_set_ne (Ne.symm qu)]
 have jc:(pl.set l none)[l]? = some none:=List.getElem?_set_self pS
 have Ej:∀l' bb q:Nat,(pl.set l none)[l']? = some (some (bb,q))→l'≠l∧pl[l']? = some (some (bb,q)):=fun l' bb q e=>by
  by_cases e1:l'=l
  ·subst e1;rw[jc]at e;cases e
  ·exact⟨e1,by rw[← Q4 l' e1];exact e⟩
 have hh:∀(l':Nat) (o':Ob),l'≠l→h[l']? = some o'→∃u:Ob,(h.set l o.gone)[l']? = some u∧u.gen=o'.gen∧u.sz=o'.sz∧u.kd.ty=o'.kd.ty:=fun l' o' QD e=>
  ⟨o',by rw[List.getElem?_set_ne (Ne.symm QD)];exact e,rfl,rfl,rfl⟩
 have K:vL w0.F.length h pl (h.set l o.gone) (pl.set l none):=⟨fun b' Jt l' q e=>Jt l' q (Ej _ _ _ e).2,fun l' o' p' qu Zg Zs=>by
  have QD:l'≠l:=by omega
  exact⟨o',by rw[List.getElem?_set_ne (Ne.symm QD)];exact Zg,by rw[Q4 l' QD];exact Zs,rfl,rfl,rfl⟩⟩
 refine⟨pl.set l none,⟨r.nt,r.defers,fun u=>?_,⟨by simp [hlen],fun l1 l2 bb q q' e1 e2=>r.o.inj l1 l2 bb q q' (Ej _ _ _ e1).2 (Ej _ _ _ e2).2,fun l1 o1 h1 e1=>?_,fun l1 o1 bb q h1 e1=>?_⟩⟩,b.keep K⟩
 ·show Qv Z _ _ w (get (put fr t _) u) _
  rw[yB]
  by_cases e:u=t
  ·subst e
   rw[if_pos rfl]
   have h1:=(r.fr u).fz ho hp hk KG ZP hh
   rw[ht]at h1
   have h2:Nat.ble (off+len) o.n=true:=by rw[Nat.ble_eq];exact hn
   simpa only [D.fz,Nat.beq_refl,h2,Bool.and_self,cond_true] using h1
  ·rw[if_neg e];exact(r.fr u).pP ho hp hk
 ·by_cases e2:l1=l
  ·subst e2
   rw[List.getElem?_set_self (by omega)]at h1
   cases h1;rfl
  ·rw[List.getElem?_set_ne (Ne.symm e2)]at h1
   rw[Q4 l1 e2]at e1
   exact r.o.J2 l1 o1 h1 e1
 ·obtain⟨QD,e2⟩:=Ej _ _ _ e1
  rw[List.getElem?_set_ne (Ne.symm QD)]at h1
  obtain⟨g1,x⟩:=r.o.at_ l1 o1 bb q h1 e2
  exact⟨g1,x.to rfl rfl rfl rfl (fun i _=>rfl) fun i j v hi hj hr=>hr.pP ho hp hk⟩
mutual
theorem QkK {k l g n sz:Nat} {row:Nat→List D} (hk:k≤l):∀{d:D},d.upto k=true→d.fz l g n sz row=d
 | .raw _,_=>rfl
 | .nil,_=>rfl
 | .undef,_=>rfl
 | .imm _ _ _,_=>rfl
 | .ip _,_=>rfl
 | .ref l' _ _ _,h=>by
  simp only[D.upto,Nat.blt_eq]at h
  have:Nat.beq l' l=false:=by rw[← Bool.not_eq_true,Nat.beq_eq];omega
  simp only[D.fz,this,cond_false]
 | .ptr l' _ _ _,h=>by
  simp only[D.upto,Nat.blt_eq]at h
  have:Nat.beq l' l=false:=by rw[← Bool.not_eq_true,Nat.beq_eq];omega
  simp only[D.fz,this,cond_false]
 | .mref l' _,h=>by
  simp only[D.upto,Nat.blt_eq]at h
  have:Nat.beq l' l=false:=by rw[← Bool.not_eq_true,Nat.beq_eq];omega
  simp only[D.fz,this,cond_false]
 | .clo _ _ cs,h=>by simp only[D.upto]at h;simp only[D.fz,Nu hk h]
 | .agg cs,h=>by simp only[D.upto]at h;simp only[D.fz,Nu hk h]
 | .tup cs,h=>by simp only[D.upto]at h;simp only[D.fz,Nu hk h]
theorem Nu {k l g n sz:Nat} {row:Nat→List D} (hk:k≤l):∀{cs:List D},zl k cs=true→Yj l g n sz row cs=cs
 | [],_=>rfl
 | d::r,h=>by
  simp only[zl,Bool.and_eq_true]at h
  simp only[Yj,QkK hk h.1,Nu hk h.2]
end
section
variable {P:Program} {base nt:Nat} {w0:Start}
end
section
variable {P:Program} {base nt:Nat} {w0:Start} {Q:Exit→St→Prop}
end
section
variable {P:Program} {base nt:Nat} {w0:Start} {Q:Exit→St→Prop}
end
end Go.Fg
namespace Go.Fg
section
variable {P:Program} {base nt:Nat} {w0:Start} {Q:Exit→St→Prop} {k:List Item} {s:St}
def Ek (P:Program) (base nt:Nat) (w0:Start) (Q:Exit→St→Prop) (k:List Item) (c:Code):Nat→Exit→St→Prop
 | 0,.normal,_=>False
 | n+1,.normal,s=>Qs P base nt w0 (Ek P base nt w0 Q k c n) [.code c] .normal s
 | _,e,s=>Qs P base nt w0 Q k e s
@[go_sem] theorem Qub {c:Code} {n:Nat}:Ek P base nt w0 Q k c (n+1) .normal s=Qs P base nt w0 (Ek P base nt w0 Q k c n) [.code c] .normal s:=JC rfl
@[go_sem] theorem Quc {c:Code} {n j:Nat}:Ek P base nt w0 Q k c n (.exit j) s=Qs P base nt w0 Q k (.exit j) s:=JC (by cases n<;>rfl)
@[go_sem] theorem Qud {c:Code} {n:Nat}:Ek P base nt w0 Q k c n .ret s=Qs P base nt w0 Q k .ret s:=JC (by cases n<;>rfl)
theorem wi (n:Nat) {c:Code} (h:Qs P base nt w0 (Ek P base nt w0 Q k c n) [.code c] .normal s):Qs P base nt w0 Q (.code (.loop c)::k) .normal s:=by
 simp only[Qs]
 intro Z z pl a w r b
 refine wp_loop_rounds (n+1) ?_
 induction n generalizing s pl a w with
 | zero=>
  simp only[Qs]at h
  rw[rounds_succ]
  refine Code.wp_mono (fun e a w q=>?_) (h Z z pl a w r b)
  obtain⟨s',Qi,h1,h2,h3⟩:=q
  cases e with
  | normal=>exact h1.elim
  | _=>exact⟨s',Qi,h1,h2,h3⟩
 | succ n ih=>
  simp only[Qs]at h
  rw[rounds_succ]
  refine Code.wp_mono (fun e a w q=>?_) (h Z z pl a w r b)
  obtain⟨s',Qi,h1,h2,h3⟩:=q
  cases e with
  | normal=>exact ih h1 Qi a w h2 h3
  | _=>exact⟨s',Qi,h1,h2,h3⟩
end
end Go.Fg
