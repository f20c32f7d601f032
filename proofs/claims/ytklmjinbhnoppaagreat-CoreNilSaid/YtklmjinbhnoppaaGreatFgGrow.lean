/- Contracts and laws on the way to the statement. No conditions. -/
import Derived.Test.YtklmjinbhnoppaaGreatFgHeap
import Derived.Test.YtklmjinbhnoppaaGreatProg
import Derived.KernelRfl
import Derived.Deep.Slices
import Derived.ChangeArms
import Derived.OpenShut
import Derived.ProofKit
import Derived.ChangeOld
import Derived.Below
import Derived.WideShapes
import Derived.Shelf.Sort.Plain
import Derived.Shelf.Slices.In.SortNone
import Derived.Lib.SortBridge
import Derived.Laws.BitsAllLaws
set_option maxRecDepth 100000
set_option maxHeartbeats 16000000
set_option linter.unusedVariables false
set_option linter.unusedSimpArgs false
set_option linter.unusedSectionVars false
namespace Go.Fg.X
open Go.Proofs Go.Fg
@[go_sem] def zi:Value:=.int .i64 0
@[go_sem] def zu:Value:=.int .u64 0
@[go_sem] def zh:Value:=.int .u16 0
@[go_sem] def zb:Value:=.bool false
@[go_sem] def zp:Value:=.pointer none
@[go_sem] def zc:Value:=.int .u8 0
@[go_sem] def zs:Value:=.slice none 0 0
@[go_sem] def zm:Value:=.map none
@[go_sem] def Y1:Ty:=⟨.fn,1,8,[.nilFunc]⟩
@[go_sem] def Y2:Ty:=⟨.int .i64,1,8,[zi]⟩
@[go_sem] def Y3:Ty:=⟨.int .i64,1,8,[zi]⟩
@[go_sem] def Y4:Ty:=⟨.bool,1,1,[zb]⟩
@[go_sem] def Y5:Ty:=⟨.int .u8,1,1,[zc]⟩
@[go_sem] def Y9:Ty:=⟨.str,1,16,[.string ByteArray.empty]⟩
@[go_sem] def bt:Ty:=⟨.int .u64,1,8,[zu]⟩
@[go_sem] def bu:Ty:=⟨.ptr 405,1,8,[zp]⟩
@[go_sem] def bw:Ty:=⟨.iface,1,16,[.nilIface]⟩
@[go_sem] def bx:Ty:=⟨.int .i32,1,4,[.int .i32 0]⟩
@[go_sem] def bA:Ty:=⟨.struct [(0,3),(1,3)],2,16,[zi,zi]⟩
@[go_sem] def bB:Ty:=⟨.struct [(0,3),(1,3)],2,16,[zi,zi]⟩
@[go_sem] def bC:Ty:=⟨.slice 36,1,24,[zs]⟩
@[go_sem] def bD:Ty:=⟨.int .u64,1,8,[zu]⟩
@[go_sem] def bE:Ty:=⟨.fn,1,8,[.nilFunc]⟩
@[go_sem] def bF:Ty:=⟨.fn,1,8,[.nilFunc]⟩
@[go_sem] def bG:Ty:=⟨.fn,1,8,[.nilFunc]⟩
@[go_sem] def bH:Ty:=⟨.int .u16,1,2,[zh]⟩
@[go_sem] def bI:Ty:=⟨.array 4 29,4,8,[zh,zh,zh,zh]⟩
@[go_sem] def bJ:Ty:=⟨.array 4 29,4,8,[zh,zh,zh,zh]⟩
@[go_sem] def bK:Ty:=⟨.struct [(0,25),(1,3),(2,31)],6,24,[zu,zi,zh,zh,zh,zh]⟩
@[go_sem] def bL:Ty:=⟨.struct [(0,25),(1,3),(2,31)],6,24,[zu,zi,zh,zh,zh,zh]⟩
@[go_sem] def bM:Ty:=⟨.slice 100,1,24,[zs]⟩
@[go_sem] def bN:Ty:=⟨.struct [(0,3),(1,25),(2,3),(3,33),(9,4),(10,34)],11,80,[zi,zu,zi,zu,zi,zh,zh,zh,zh,zb,zs]⟩
@[go_sem] def bO:Ty:=⟨.struct [(0,3),(1,25),(2,3),(3,33),(9,4),(10,34)],11,80,[zi,zu,zi,zu,zi,zh,zh,zh,zh,zb,zs]⟩
@[go_sem] def bT:Ty:=⟨.ptr 107,1,8,[zp]⟩
@[go_sem] def bU:Ty:=⟨.int .i64,1,8,[zi]⟩
@[go_sem] def bV:Ty:=⟨.fn,1,8,[.nilFunc]⟩
@[go_sem] def bW:Ty:=⟨.fn,1,8,[.nilFunc]⟩
@[go_sem] def bX:Ty:=⟨.struct [(0,3),(1,33),(7,4)],8,40,[zi,zu,zi,zh,zh,zh,zh,zb]⟩
@[go_sem] def bY:Ty:=⟨.struct [(0,3),(1,33),(7,4)],8,40,[zi,zu,zi,zh,zh,zh,zh,zb]⟩
@[go_sem] def bZ:Ty:=⟨.fn,1,8,[.nilFunc]⟩
@[go_sem] def cn:Ty:=⟨.fn,1,8,[.nilFunc]⟩
@[go_sem] def cr:Ty:=⟨.fn,1,8,[.nilFunc]⟩
@[go_sem] def ct:Ty:=⟨.slice 33,1,24,[zs]⟩
@[go_sem] def cu:Ty:=⟨.fn,1,8,[.nilFunc]⟩
@[go_sem] def cv:Ty:=⟨.fn,1,8,[.nilFunc]⟩
@[go_sem] def cw:Ty:=⟨.fn,1,8,[.nilFunc]⟩
@[go_sem] def cz:Ty:=⟨.fn,1,8,[.nilFunc]⟩
@[go_sem] def cA:Ty:=⟨.fn,1,8,[.nilFunc]⟩
@[go_sem] def cB:Ty:=⟨.ptr 218,1,8,[zp]⟩
@[go_sem] def cC:Ty:=⟨.fn,1,8,[.nilFunc]⟩
@[go_sem] def cD:Ty:=⟨.slice 3,1,24,[zs]⟩
@[go_sem] def cE:Ty:=⟨.fn,1,8,[.nilFunc]⟩
@[go_sem] def cF:Ty:=⟨.struct [(0,25),(1,25),(2,25)],3,24,[zu,zu,zu]⟩
@[go_sem] def cG:Ty:=⟨.struct [(0,25),(1,25),(2,25)],3,24,[zu,zu,zu]⟩
@[go_sem] def cH:Ty:=⟨.struct [(0,3),(1,3),(2,4),(3,60),(6,60),(9,60),(12,3),(13,3)],14,112,[zi,zi,zb,zu,zu,zu,zu,zu,zu,zu,zu,zu,zi,zi]⟩
@[go_sem] def cI:Ty:=⟨.struct [(0,3),(1,3),(2,4),(3,60),(6,60),(9,60),(12,3),(13,3)],14,112,[zi,zi,zb,zu,zu,zu,zu,zu,zu,zu,zu,zu,zi,zi]⟩
@[go_sem] def cJ:Ty:=⟨.struct [(0,25),(1,25)],2,16,[zu,zu]⟩
@[go_sem] def cK:Ty:=⟨.struct [(0,25),(1,25)],2,16,[zu,zu]⟩
@[go_sem] def cM:Ty:=⟨.struct [(0,25),(1,64),(3,25)],4,32,[zu,zu,zu,zu]⟩
@[go_sem] def cO:Ty:=⟨.struct [(0,25),(1,64),(3,25)],4,32,[zu,zu,zu,zu]⟩
@[go_sem] def cP:Ty:=⟨.struct [(0,66),(4,66),(8,4)],9,72,[zu,zu,zu,zu,zu,zu,zu,zu,zb]⟩
@[go_sem] def cQ:Ty:=⟨.struct [(0,66),(4,66),(8,4)],9,72,[zu,zu,zu,zu,zu,zu,zu,zu,zb]⟩
@[go_sem] def cR:Ty:=⟨.struct [(0,4),(1,68),(10,68),(19,25),(20,25),(21,25)],22,176,[zb,zu,zu,zu,zu,zu,zu,zu,zu,zb,zu,zu,zu,zu,zu,zu,zu,zu,zb,zu,zu,zu]⟩
@[go_sem] def cS:Ty:=⟨.struct [(0,4),(1,68),(10,68),(19,25),(20,25),(21,25)],22,176,[zb,zu,zu,zu,zu,zu,zu,zu,zu,zb,zu,zu,zu,zu,zu,zu,zu,zu,zb,zu,zu,zu]⟩
@[go_sem] def cT:Ty:=⟨.struct [(0,4),(1,68),(10,25)],11,88,[zb,zu,zu,zu,zu,zu,zu,zu,zu,zb,zu]⟩
@[go_sem] def cU:Ty:=⟨.struct [(0,4),(1,68),(10,25)],11,88,[zb,zu,zu,zu,zu,zu,zu,zu,zu,zb,zu]⟩
@[go_sem] def cV:Ty:=⟨.struct [(0,4),(1,68),(10,25)],11,88,[zb,zu,zu,zu,zu,zu,zu,zu,zu,zb,zu]⟩
@[go_sem] def cW:Ty:=⟨.struct [(0,4),(1,68),(10,25)],11,88,[zb,zu,zu,zu,zu,zu,zu,zu,zu,zb,zu]⟩
@[go_sem] def cX:Ty:=⟨.struct [(0,25),(1,25),(2,25),(3,25),(4,25),(5,25)],6,48,[zu,zu,zu,zu,zu,zu]⟩
@[go_sem] def cY:Ty:=⟨.struct [(0,25),(1,25),(2,25),(3,25),(4,25),(5,25)],6,48,[zu,zu,zu,zu,zu,zu]⟩
@[go_sem] def cZ:Ty:=⟨.struct [(0,62),(14,4),(15,25),(16,70),(38,72),(49,74),(60,25),(61,76)],67,536,[zi,zi,zb,zu,zu,zu,zu,zu,zu,zu,zu,zu,zi,zi,zb,zu,zb,zu,zu,zu,zu,zu,zu,zu,zu,zb,zu,zu,zu,zu,zu,zu,zu,zu,zb,zu,zu,zu,zb,zu,zu,zu,zu,zu,zu,zu,zu,zb,zu,zb,zu,zu,zu,zu,zu,zu,zu,zu,zb,zu,zu,zu,zu,zu,zu,zu,zu]⟩
@[go_sem] def db:Ty:=⟨.struct [(0,62),(14,4),(15,25),(16,70),(38,72),(49,74),(60,25),(61,76)],67,536,[zi,zi,zb,zu,zu,zu,zu,zu,zu,zu,zu,zu,zi,zi,zb,zu,zb,zu,zu,zu,zu,zu,zu,zu,zu,zb,zu,zu,zu,zu,zu,zu,zu,zu,zb,zu,zu,zu,zb,zu,zu,zu,zu,zu,zu,zu,zu,zb,zu,zb,zu,zu,zu,zu,zu,zu,zu,zu,zb,zu,zu,zu,zu,zu,zu,zu,zu]⟩
@[go_sem] def dc:Ty:=⟨.fn,1,8,[.nilFunc]⟩
@[go_sem] def de:Ty:=⟨.fn,1,8,[.nilFunc]⟩
@[go_sem] def df:Ty:=⟨.fn,1,8,[.nilFunc]⟩
@[go_sem] def dh:Ty:=⟨.fn,1,8,[.nilFunc]⟩
@[go_sem] def dt:Ty:=⟨.fn,1,8,[.nilFunc]⟩
@[go_sem] def dw:Ty:=⟨.fn,1,8,[.nilFunc]⟩
@[go_sem] def dB:Ty:=⟨.fn,1,8,[.nilFunc]⟩
@[go_sem] def dC:Ty:=⟨.slice 162,1,24,[zs]⟩
@[go_sem] def dD:Ty:=⟨.struct [(0,23),(2,88),(3,25),(4,25)],5,56,[zi,zi,zs,zu,zu]⟩
@[go_sem] def dF:Ty:=⟨.struct [(0,23),(2,88),(3,25),(4,25)],5,56,[zi,zi,zs,zu,zu]⟩
@[go_sem] def dG:Ty:=⟨.struct [(0,90),(5,3),(6,33),(12,4),(13,4)],14,96,[zi,zi,zs,zu,zu,zi,zu,zi,zh,zh,zh,zh,zb,zb]⟩
@[go_sem] def dH:Ty:=⟨.struct [(0,90),(5,3),(6,33),(12,4),(13,4)],14,96,[zi,zi,zs,zu,zu,zi,zu,zi,zh,zh,zh,zh,zb,zb]⟩
@[go_sem] def dI:Ty:=⟨.fn,1,8,[.nilFunc]⟩
@[go_sem] def dJ:Ty:=⟨.struct [(0,90),(5,3),(6,3)],7,72,[zi,zi,zs,zu,zu,zi,zi]⟩
@[go_sem] def dK:Ty:=⟨.struct [(0,90),(5,3),(6,3)],7,72,[zi,zi,zs,zu,zu,zi,zi]⟩
@[go_sem] def dL:Ty:=⟨.fn,1,8,[.nilFunc]⟩
@[go_sem] def dM:Ty:=⟨.fn,1,8,[.nilFunc]⟩
@[go_sem] def dN:Ty:=⟨.fn,1,8,[.nilFunc]⟩
@[go_sem] def dO:Ty:=⟨.struct [(0,3),(1,62)],15,120,[zi,zi,zi,zb,zu,zu,zu,zu,zu,zu,zu,zu,zu,zi,zi]⟩
@[go_sem] def dP:Ty:=⟨.struct [(0,3),(1,62)],15,120,[zi,zi,zi,zb,zu,zu,zu,zu,zu,zu,zu,zu,zu,zi,zi]⟩
@[go_sem] def dQ:Ty:=⟨.fn,1,8,[.nilFunc]⟩
@[go_sem] def dR:Ty:=⟨.map 3 112,1,8,[zm]⟩
@[go_sem] def dS:Ty:=⟨.ptr 224,1,8,[zp]⟩
@[go_sem] def dU:Ty:=⟨.ptr 199,1,8,[zp]⟩
@[go_sem] def dV:Ty:=⟨.map 3 108,1,8,[zm]⟩
@[go_sem] def dW:Ty:=⟨.struct [(0,23),(2,55),(3,102),(4,103),(5,104),(6,105),(7,25),(8,25)],9,72,[zi,zi,zp,zm,zp,zp,zm,zu,zu]⟩
@[go_sem] def dX:Ty:=⟨.struct [(0,23),(2,55),(3,102),(4,103),(5,104),(6,105),(7,25),(8,25)],9,72,[zi,zi,zp,zm,zp,zp,zm,zu,zu]⟩
@[go_sem] def dY:Ty:=⟨.ptr 202,1,8,[zp]⟩
@[go_sem] def dZ:Ty:=⟨.fn,1,8,[.nilFunc]⟩
@[go_sem] def eh:Ty:=⟨.fn,1,8,[.nilFunc]⟩
@[go_sem] def ei:Ty:=⟨.ptr 117,1,8,[zp]⟩
@[go_sem] def eo:Ty:=⟨.fn,1,8,[.nilFunc]⟩
@[go_sem] def eu:Ty:=⟨.ptr 208,1,8,[zp]⟩
@[go_sem] def ez:Ty:=⟨.struct [(0,115),(1,62),(15,25),(16,70),(38,72),(49,74)],60,480,[zp,zi,zi,zb,zu,zu,zu,zu,zu,zu,zu,zu,zu,zi,zi,zu,zb,zu,zu,zu,zu,zu,zu,zu,zu,zb,zu,zu,zu,zu,zu,zu,zu,zu,zb,zu,zu,zu,zb,zu,zu,zu,zu,zu,zu,zu,zu,zb,zu,zb,zu,zu,zu,zu,zu,zu,zu,zu,zb,zu]⟩
@[go_sem] def eA:Ty:=⟨.struct [(0,115),(1,62),(15,25),(16,70),(38,72),(49,74)],60,480,[zp,zi,zi,zb,zu,zu,zu,zu,zu,zu,zu,zu,zu,zi,zi,zu,zb,zu,zu,zu,zu,zu,zu,zu,zu,zb,zu,zu,zu,zu,zu,zu,zu,zu,zb,zu,zu,zu,zb,zu,zu,zu,zu,zu,zu,zu,zu,zb,zu,zb,zu,zu,zu,zu,zu,zu,zu,zu,zb,zu]⟩
@[go_sem] def eB:Ty:=⟨.fn,1,8,[.nilFunc]⟩
@[go_sem] def eC:Ty:=⟨.fn,1,8,[.nilFunc]⟩
@[go_sem] def eD:Ty:=⟨.fn,1,8,[.nilFunc]⟩
@[go_sem] def eE:Ty:=⟨.fn,1,8,[.nilFunc]⟩
@[go_sem] def eF:Ty:=⟨.fn,1,8,[.nilFunc]⟩
@[go_sem] def eG:Ty:=⟨.fn,1,8,[.nilFunc]⟩
@[go_sem] def eI:Ty:=⟨.fn,1,8,[.nilFunc]⟩
@[go_sem] def eJ:Ty:=⟨.fn,1,8,[.nilFunc]⟩
@[go_sem] def eK:Ty:=⟨.fn,1,8,[.nilFunc]⟩
@[go_sem] def eL:Ty:=⟨.fn,1,8,[.nilFunc]⟩
@[go_sem] def eM:Ty:=⟨.fn,1,8,[.nilFunc]⟩
@[go_sem] def eN:Ty:=⟨.fn,1,8,[.nilFunc]⟩
@[go_sem] def eO:Ty:=⟨.fn,1,8,[.nilFunc]⟩
@[go_sem] def eP:Ty:=⟨.fn,1,8,[.nilFunc]⟩
@[go_sem] def eQ:Ty:=⟨.fn,1,8,[.nilFunc]⟩
@[go_sem] def eR:Ty:=⟨.fn,1,8,[.nilFunc]⟩
@[go_sem] def eS:Ty:=⟨.fn,1,8,[.nilFunc]⟩
@[go_sem] def eT:Ty:=⟨.fn,1,8,[.nilFunc]⟩
@[go_sem] def eU:Ty:=⟨.fn,1,8,[.nilFunc]⟩
@[go_sem] def eV:Ty:=⟨.fn,1,8,[.nilFunc]⟩
@[go_sem] def eW:Ty:=⟨.fn,1,8,[.nilFunc]⟩
@[go_sem] def eX:Ty:=⟨.fn,1,8,[.nilFunc]⟩
@[go_sem] def eY:Ty:=⟨.fn,1,8,[.nilFunc]⟩
@[go_sem] def eZ:Ty:=⟨.fn,1,8,[.nilFunc]⟩
@[go_sem] def fa:Ty:=⟨.array 4 25,4,32,[zu,zu,zu,zu]⟩
@[go_sem] def fb:Ty:=⟨.array 4 25,4,32,[zu,zu,zu,zu]⟩
@[go_sem] def fc:Ty:=⟨.struct [(0,25),(1,147),(5,25)],6,48,[zu,zu,zu,zu,zu,zu]⟩
@[go_sem] def fe:Ty:=⟨.struct [(0,25),(1,147),(5,25)],6,48,[zu,zu,zu,zu,zu,zu]⟩
@[go_sem] def ff:Ty:=⟨.struct [(0,149),(6,149),(12,4)],13,104,[zu,zu,zu,zu,zu,zu,zu,zu,zu,zu,zu,zu,zb]⟩
@[go_sem] def fg:Ty:=⟨.struct [(0,149),(6,149),(12,4)],13,104,[zu,zu,zu,zu,zu,zu,zu,zu,zu,zu,zu,zu,zb]⟩
@[go_sem] def fh:Ty:=⟨.struct [(0,4),(1,151),(14,151),(27,25),(28,25),(29,25)],30,240,[zb,zu,zu,zu,zu,zu,zu,zu,zu,zu,zu,zu,zu,zb,zu,zu,zu,zu,zu,zu,zu,zu,zu,zu,zu,zu,zb,zu,zu,zu]⟩
@[go_sem] def fi:Ty:=⟨.struct [(0,4),(1,151),(14,151),(27,25),(28,25),(29,25)],30,240,[zb,zu,zu,zu,zu,zu,zu,zu,zu,zu,zu,zu,zu,zb,zu,zu,zu,zu,zu,zu,zu,zu,zu,zu,zu,zu,zb,zu,zu,zu]⟩
@[go_sem] def fj:Ty:=⟨.struct [(0,4),(1,151),(14,25)],15,120,[zb,zu,zu,zu,zu,zu,zu,zu,zu,zu,zu,zu,zu,zb,zu]⟩
@[go_sem] def fk:Ty:=⟨.struct [(0,4),(1,151),(14,25)],15,120,[zb,zu,zu,zu,zu,zu,zu,zu,zu,zu,zu,zu,zu,zb,zu]⟩
@[go_sem] def fm:Ty:=⟨.struct [(0,4),(1,151),(14,25)],15,120,[zb,zu,zu,zu,zu,zu,zu,zu,zu,zu,zu,zu,zu,zb,zu]⟩
@[go_sem] def fo:Ty:=⟨.struct [(0,4),(1,151),(14,25)],15,120,[zb,zu,zu,zu,zu,zu,zu,zu,zu,zu,zu,zu,zu,zb,zu]⟩
@[go_sem] def fp:Ty:=⟨.array 6 25,6,48,[zu,zu,zu,zu,zu,zu]⟩
@[go_sem] def fq:Ty:=⟨.struct [(0,3),(1,3),(2,48),(3,158)],9,88,[zi,zi,zs,zu,zu,zu,zu,zu,zu]⟩
@[go_sem] def ft:Ty:=⟨.struct [(0,3),(1,3),(2,48),(3,158)],9,88,[zi,zi,zs,zu,zu,zu,zu,zu,zu]⟩
@[go_sem] def fu:Ty:=⟨.struct [(0,62),(14,25),(15,153),(45,155),(60,157),(75,160)],84,688,[zi,zi,zb,zu,zu,zu,zu,zu,zu,zu,zu,zu,zi,zi,zu,zb,zu,zu,zu,zu,zu,zu,zu,zu,zu,zu,zu,zu,zb,zu,zu,zu,zu,zu,zu,zu,zu,zu,zu,zu,zu,zb,zu,zu,zu,zb,zu,zu,zu,zu,zu,zu,zu,zu,zu,zu,zu,zu,zb,zu,zb,zu,zu,zu,zu,zu,zu,zu,zu,zu,zu,zu,zu,zb,zu,zi,zi,zs,zu,zu,zu,zu,zu,zu]⟩
@[go_sem] def fv:Ty:=⟨.struct [(0,62),(14,25),(15,153),(45,155),(60,157),(75,160)],84,688,[zi,zi,zb,zu,zu,zu,zu,zu,zu,zu,zu,zu,zi,zi,zu,zb,zu,zu,zu,zu,zu,zu,zu,zu,zu,zu,zu,zu,zb,zu,zu,zu,zu,zu,zu,zu,zu,zu,zu,zu,zu,zb,zu,zu,zu,zb,zu,zu,zu,zu,zu,zu,zu,zu,zu,zu,zu,zu,zb,zu,zb,zu,zu,zu,zu,zu,zu,zu,zu,zu,zu,zu,zu,zb,zu,zi,zi,zs,zu,zu,zu,zu,zu,zu]⟩
@[go_sem] def fw:Ty:=⟨.fn,1,8,[.nilFunc]⟩
@[go_sem] def fx:Ty:=⟨.slice 62,1,24,[zs]⟩
@[go_sem] def fy:Ty:=⟨.fn,1,8,[.nilFunc]⟩
@[go_sem] def fA:Ty:=⟨.fn,1,8,[.nilFunc]⟩
@[go_sem] def fB:Ty:=⟨.fn,1,8,[.nilFunc]⟩
@[go_sem] def fC:Ty:=⟨.fn,1,8,[.nilFunc]⟩
@[go_sem] def fD:Ty:=⟨.fn,1,8,[.nilFunc]⟩
@[go_sem] def fF:Ty:=⟨.fn,1,8,[.nilFunc]⟩
@[go_sem] def fG:Ty:=⟨.fn,1,8,[.nilFunc]⟩
@[go_sem] def fH:Ty:=⟨.fn,1,8,[.nilFunc]⟩
@[go_sem] def fI:Ty:=⟨.fn,1,8,[.nilFunc]⟩
@[go_sem] def fJ:Ty:=⟨.fn,1,8,[.nilFunc]⟩
@[go_sem] def fK:Ty:=⟨.fn,1,8,[.nilFunc]⟩
@[go_sem] def fM:Ty:=⟨.fn,1,8,[.nilFunc]⟩
@[go_sem] def fN:Ty:=⟨.struct [(0,164),(1,3),(2,3)],3,40,[zs,zi,zi]⟩
@[go_sem] def fO:Ty:=⟨.struct [(0,164),(1,3),(2,3)],3,40,[zs,zi,zi]⟩
@[go_sem] def fQ:Ty:=⟨.fn,1,8,[.nilFunc]⟩
@[go_sem] def fR:Ty:=⟨.fn,1,8,[.nilFunc]⟩
@[go_sem] def fS:Ty:=⟨.fn,1,8,[.nilFunc]⟩
@[go_sem] def fT:Ty:=⟨.fn,1,8,[.nilFunc]⟩
@[go_sem] def fU:Ty:=⟨.fn,1,8,[.nilFunc]⟩
@[go_sem] def fV:Ty:=⟨.fn,1,8,[.nilFunc]⟩
@[go_sem] def fW:Ty:=⟨.fn,1,8,[.nilFunc]⟩
@[go_sem] def fX:Ty:=⟨.fn,1,8,[.nilFunc]⟩
@[go_sem] def fY:Ty:=⟨.fn,1,8,[.nilFunc]⟩
@[go_sem] def fZ:Ty:=⟨.fn,1,8,[.nilFunc]⟩
@[go_sem] def gh:Ty:=⟨.fn,1,8,[.nilFunc]⟩
@[go_sem] def gi:Ty:=⟨.struct [(0,25),(1,3)],2,16,[zu,zi]⟩
@[go_sem] def gj:Ty:=⟨.struct [(0,25),(1,3)],2,16,[zu,zi]⟩
@[go_sem] def gl:Ty:=⟨.struct [(0,192),(2,192)],4,32,[zu,zi,zu,zi]⟩
@[go_sem] def gp:Ty:=⟨.struct [(0,192),(2,192)],4,32,[zu,zi,zu,zi]⟩
@[go_sem] def gq:Ty:=⟨.ptr 270,1,8,[zp]⟩
@[go_sem] def gr:Ty:=⟨.map 3 194,1,8,[zm]⟩
@[go_sem] def gu:Ty:=⟨.struct [(0,196),(1,197)],2,16,[zp,zm]⟩
@[go_sem] def gv:Ty:=⟨.struct [(0,196),(1,197)],2,16,[zp,zm]⟩
@[go_sem] def gw:Ty:=⟨.ptr 277,1,8,[zp]⟩
@[go_sem] def gy:Ty:=⟨.struct [(0,206),(1,3),(2,3),(3,76)],9,72,[zp,zi,zi,zu,zu,zu,zu,zu,zu]⟩
@[go_sem] def gz:Ty:=⟨.struct [(0,206),(1,3),(2,3),(3,76)],9,72,[zp,zi,zi,zu,zu,zu,zu,zu,zu]⟩
@[go_sem] def gA:Ty:=⟨.fn,1,8,[.nilFunc]⟩
@[go_sem] def gB:Ty:=⟨.fn,1,8,[.nilFunc]⟩
@[go_sem] def gC:Ty:=⟨.fn,1,8,[.nilFunc]⟩
@[go_sem] def gD:Ty:=⟨.fn,1,8,[.nilFunc]⟩
@[go_sem] def gE:Ty:=⟨.fn,1,8,[.nilFunc]⟩
@[go_sem] def gF:Ty:=⟨.fn,1,8,[.nilFunc]⟩
@[go_sem] def gG:Ty:=⟨.fn,1,8,[.nilFunc]⟩
@[go_sem] def gH:Ty:=⟨.map 3 62,1,8,[zm]⟩
@[go_sem] def gI:Ty:=⟨.struct [(0,216)],1,8,[zm]⟩
@[go_sem] def gJ:Ty:=⟨.struct [(0,216)],1,8,[zm]⟩
@[go_sem] def gK:Ty:=⟨.fn,1,8,[.nilFunc]⟩
@[go_sem] def gL:Ty:=⟨.map 3 226,1,8,[zm]⟩
@[go_sem] def gM:Ty:=⟨.map 3 3,1,8,[zm]⟩
@[go_sem] def gN:Ty:=⟨.map 3 221,1,8,[zm]⟩
@[go_sem] def gO:Ty:=⟨.struct [(0,220),(1,221),(2,222)],3,24,[zm,zm,zm]⟩
@[go_sem] def gP:Ty:=⟨.struct [(0,220),(1,221),(2,222)],3,24,[zm,zm,zm]⟩
@[go_sem] def gQ:Ty:=⟨.struct [(0,3),(1,3)],2,16,[zi,zi]⟩
@[go_sem] def gR:Ty:=⟨.struct [(0,3),(1,3)],2,16,[zi,zi]⟩
@[go_sem] def gS:Ty:=⟨.fn,1,8,[.nilFunc]⟩
@[go_sem] def gT:Ty:=⟨.fn,1,8,[.nilFunc]⟩
@[go_sem] def gU:Ty:=⟨.fn,1,8,[.nilFunc]⟩
@[go_sem] def gV:Ty:=⟨.fn,1,8,[.nilFunc]⟩
@[go_sem] def gW:Ty:=⟨.fn,1,8,[.nilFunc]⟩
@[go_sem] def gX:Ty:=⟨.fn,1,8,[.nilFunc]⟩
@[go_sem] def gY:Ty:=⟨.slice 60,1,24,[zs]⟩
@[go_sem] def gZ:Ty:=⟨.fn,1,8,[.nilFunc]⟩
@[go_sem] def hY:Ty:=⟨.fn,1,8,[.nilFunc]⟩
@[go_sem] def ie:Ty:=⟨.fn,1,8,[.nilFunc]⟩
@[go_sem] def ig:Ty:=⟨.fn,1,8,[.nilFunc]⟩
@[go_sem] def ij:Ty:=⟨.fn,1,8,[.nilFunc]⟩
@[go_sem] def ik:Ty:=⟨.fn,1,8,[.nilFunc]⟩
@[go_sem] def iq:Ty:=⟨.fn,1,8,[.nilFunc]⟩
@[go_sem] def iu:Ty:=⟨.fn,1,8,[.nilFunc]⟩
@[go_sem] def iv:Ty:=⟨.fn,1,8,[.nilFunc]⟩
@[go_sem] def iw:Ty:=⟨.struct [(0,164),(1,3)],2,32,[zs,zi]⟩
@[go_sem] def iz:Ty:=⟨.struct [(0,164),(1,3)],2,32,[zs,zi]⟩
@[go_sem] def iA:Ty:=⟨.fn,1,8,[.nilFunc]⟩
@[go_sem] def iB:Ty:=⟨.fn,1,8,[.nilFunc]⟩
@[go_sem] def iC:Ty:=⟨.fn,1,8,[.nilFunc]⟩
@[go_sem] def iE:Ty:=⟨.fn,1,8,[.nilFunc]⟩
@[go_sem] def iF:Ty:=⟨.fn,1,8,[.nilFunc]⟩
@[go_sem] def iG:Ty:=⟨.fn,1,8,[.nilFunc]⟩
@[go_sem] def iH:Ty:=⟨.ptr 273,1,8,[zp]⟩
@[go_sem] def iI:Ty:=⟨.struct [(0,268)],1,8,[zp]⟩
@[go_sem] def iJ:Ty:=⟨.struct [(0,268)],1,8,[zp]⟩
@[go_sem] def iK:Ty:=⟨.array 2 268,2,16,[zp,zp]⟩
@[go_sem] def iL:Ty:=⟨.struct [(0,194),(4,271),(6,194),(10,3),(11,3)],12,96,[zu,zi,zu,zi,zp,zp,zu,zi,zu,zi,zi,zi]⟩
@[go_sem] def iM:Ty:=⟨.struct [(0,194),(4,271),(6,194),(10,3),(11,3)],12,96,[zu,zi,zu,zi,zp,zp,zu,zi,zu,zi,zi,zi]⟩
@[go_sem] def iN:Ty:=⟨.fn,1,8,[.nilFunc]⟩
@[go_sem] def iO:Ty:=⟨.fn,1,8,[.nilFunc]⟩
@[go_sem] def iP:Ty:=⟨.struct [(0,48),(1,3),(2,3)],3,40,[zs,zi,zi]⟩
@[go_sem] def iQ:Ty:=⟨.struct [(0,48),(1,3),(2,3)],3,40,[zs,zi,zi]⟩
@[go_sem] def iR:Ty:=⟨.fn,1,8,[.nilFunc]⟩
@[go_sem] def iS:Ty:=⟨.array 2 66,8,64,[zu,zu,zu,zu,zu,zu,zu,zu]⟩
@[go_sem] def iT:Ty:=⟨.fn,1,8,[.nilFunc]⟩
@[go_sem] def iU:Ty:=⟨.fn,1,8,[.nilFunc]⟩
@[go_sem] def iV:Ty:=⟨.int .u64,1,8,[zu]⟩
@[go_sem] def iW:Ty:=⟨.fn,1,8,[.nilFunc]⟩
@[go_sem] def iX:Ty:=⟨.fn,1,8,[.nilFunc]⟩
@[go_sem] def iY:Ty:=⟨.fn,1,8,[.nilFunc]⟩
@[go_sem] def iZ:Ty:=⟨.fn,1,8,[.nilFunc]⟩
@[go_sem] def la:Ty:=⟨.int .i64,1,8,[zi]⟩
@[go_sem] def ld:Ty:=⟨.fn,1,8,[.nilFunc]⟩
@[go_sem] def lg:Ty:=⟨.fn,1,8,[.nilFunc]⟩
@[go_sem] def lh:Ty:=⟨.slice 57,1,24,[zs]⟩
@[go_sem] def lj:Ty:=⟨.fn,1,8,[.nilFunc]⟩
@[go_sem] def ln:Ty:=⟨.fn,1,8,[.nilFunc]⟩
@[go_sem] def lu:Ty:=⟨.fn,1,8,[.nilFunc]⟩
@[go_sem] def lz:Ty:=⟨.fn,1,8,[.nilFunc]⟩
@[go_sem] def lA:Ty:=⟨.fn,1,8,[.nilFunc]⟩
@[go_sem] def lB:Ty:=⟨.fn,1,8,[.nilFunc]⟩
@[go_sem] def lC:Ty:=⟨.fn,1,8,[.nilFunc]⟩
@[go_sem] def lD:Ty:=⟨.fn,1,8,[.nilFunc]⟩
@[go_sem] def lE:Ty:=⟨.fn,1,8,[.nilFunc]⟩
@[go_sem] def lF:Ty:=⟨.struct [(0,25),(1,4)],2,16,[zu,zb]⟩
@[go_sem] def lG:Ty:=⟨.slice 25,1,24,[zs]⟩
@[go_sem] def lH:Ty:=⟨.fn,1,8,[.nilFunc]⟩
@[go_sem] def lI:Ty:=⟨.int .i64,1,8,[zi]⟩
@[go_sem] def lJ:Ty:=⟨.int .u32,1,4,[.int .u32 0]⟩
@[go_sem] def lK:Ty:=⟨.array 3 60,9,72,[zu,zu,zu,zu,zu,zu,zu,zu,zu]⟩
@[go_sem] def lL:Ty:=⟨.fn,1,8,[.nilFunc]⟩
@[go_sem] def lM:Ty:=⟨.int .u64,1,8,[zu]⟩
@[go_sem] def lN:Ty:=⟨.ptr 3,1,8,[zp]⟩
@[go_sem] def lO:Ty:=⟨.ptr 366,1,8,[zp]⟩
def lay:Zd:=[(1,Y1),(2,Y2),(3,Y3),(4,Y4),(5,Y5),(9,Y9),(12,bt),(17,bu),(20,bw),(21,bx),(22,bA),(23,bB),(24,bC),(25,bD),(26,bE),(27,bF),(28,bG),(29,bH),(30,bI),(31,bJ),(32,bK),(33,bL),(34,bM),(35,bN),(36,bO),(37,bT),(38,bU),(40,bV),(41,bW),(42,bX),(43,bY),(45,bZ),(46,cn),(47,cr),(48,ct),(49,cu),(51,cv),(52,cw),(53,cz),(54,cA),(55,cB),(56,cC),(57,cD),(58,cE),(59,cF),(60,cG),(61,cH),(62,cI),(63,cJ),(64,cK),(65,cM),(66,cO),(67,cP),(68,cQ),(69,cR),(70,cS),(71,cT),(72,cU),(73,cV),(74,cW),(75,cX),(76,cY),(77,cZ),(78,db),(80,dc),(81,de),(82,df),(83,dh),(85,dt),(86,dw),(87,dB),(88,dC),(89,dD),(90,dF),(91,dG),(92,dH),(93,dI),(94,dJ),(95,dK),(96,dL),(97,dM),(98,dN),(99,dO),(100,dP),(101,dQ),(102,dR),(103,dS),(104,dU),(105,dV),(106,dW),(107,dX),(108,dY),(109,dZ),(111,eh),(112,ei),(114,eo),(115,eu),(116,ez),(117,eA),(118,eB),(119,eC),(120,eD),(121,eE),(122,eF),(123,eG),(124,eI),(125,eJ),(127,eK),(128,eL),(130,eM),(131,eN),(132,eO),(133,eP),(134,eQ),(136,eR),(137,eS),(139,eT),(140,eU),(141,eV),(142,eW),(143,eX),(144,eY),(145,eZ),(146,fa),(147,fb),(148,fc),(149,fe),(150,ff),(151,fg),(152,fh),(153,fi),(154,fj),(155,fk),(156,fm),(157,fo),(158,fp),(159,fq),(160,ft),(161,fu),(162,fv),(163,fw),(164,fx),(165,fy),(166,fA),(167,fB),(168,fC),(169,fD),(170,fF),(171,fG),(172,fH),(173,fI),(175,fJ),(176,fK),(177,fM),(178,fN),(179,fO),(180,fQ),(181,fR),(182,fS),(183,fT),(184,fU),(185,fV),(186,fW),(187,fX),(188,fY),(189,fZ),(190,gh),(191,gi),(192,gj),(193,gl),(194,gp),(196,gq),(197,gr),(199,gu),(202,gv),(206,gw),(207,gy),(208,gz),(209,gA),(210,gB),(211,gC),(212,gD),(213,gE),(214,gF),(215,gG),(216,gH),(217,gI),(218,gJ),(219,gK),(220,gL),(221,gM),(222,gN),(223,gO),(224,gP),(225,gQ),(226,gR),(227,gS),(229,gT),(230,gU),(231,gV),(232,gW),(233,gX),(234,gY),(235,gZ),(236,hY),(237,ie),(238,ig),(239,ij),(240,ik),(241,iq),(258,iu),(259,iv),(260,iw),(261,iz),(262,iA),(263,iB),(264,iC),(265,iE),(266,iF),(267,iG),(268,iH),(269,iI),(270,iJ),(271,iK),(272,iL),(273,iM),(274,iN),(275,iO),(276,iP),(277,iQ),(278,iR),(279,iS),(280,iT),(281,iU),(282,iV),(283,iW),(287,iX),(288,iY),(289,iZ),(291,la),(293,ld),(294,lg),(295,lh),(296,lj),(297,ln),(298,lu),(299,lz),(301,lA),(304,lB),(305,lC),(306,lD),(307,lE),(308,lF),(315,lG),(323,lH),(332,lI),(339,lJ),(358,lK),(365,lL),(366,lM),(369,lN),(378,lO)]
theorem lP {P:Program}:∀ {L:Zd},L.map (fun p=>(P.underlying p.1).map TK.of)=L.map (fun p=>some p.2.k)→L.map (fun p=>(P.info? p.1).map fun i=>(i.size,i.bytes,i.zero.map fun z=>z.cells.toList))=L.map (fun p=>some (p.2.size,p.2.bytes,some p.2.zero))→L.map (fun p=>((P.info? p.1).bind (·.zero)).map Hm)=L.map (fun p=>some p.2.k.agg)→Zr P L
 | [],_,_,_=>.nil _
 | (_,_)::_,h1,h2,h3=>.cons ⟨(List.cons.inj h1).1,(List.cons.inj h2).1,(List.cons.inj h3).1⟩ (lP (List.cons.inj h1).2 (List.cons.inj h2).2 (List.cons.inj h3).2)
theorem kP:Zr Tryz.prog lay:=lP (by kernel_rfl) (by kernel_rfl) (by kernel_rfl)
theorem L1:ty lay 1=some Y1:=rfl
theorem L2:ty lay 2=some Y2:=rfl
theorem L3:ty lay 3=some Y3:=rfl
theorem L4:ty lay 4=some Y4:=rfl
theorem L5:ty lay 5=some Y5:=rfl
theorem L9:ty lay 9=some Y9:=rfl
theorem L12:ty lay 12=some bt:=rfl
theorem L17:ty lay 17=some bu:=rfl
theorem L20:ty lay 20=some bw:=rfl
theorem L21:ty lay 21=some bx:=rfl
theorem L22:ty lay 22=some bA:=rfl
theorem L23:ty lay 23=some bB:=rfl
theorem L24:ty lay 24=some bC:=rfl
theorem L25:ty lay 25=some bD:=rfl
theorem L26:ty lay 26=some bE:=rfl
theorem L27:ty lay 27=some bF:=rfl
theorem L28:ty lay 28=some bG:=rfl
theorem L29:ty lay 29=some bH:=rfl
theorem L30:ty lay 30=some bI:=rfl
theorem L31:ty lay 31=some bJ:=rfl
theorem L32:ty lay 32=some bK:=rfl
theorem L33:ty lay 33=some bL:=rfl
theorem L34:ty lay 34=some bM:=rfl
theorem L35:ty lay 35=some bN:=rfl
theorem L36:ty lay 36=some bO:=rfl
theorem L37:ty lay 37=some bT:=rfl
theorem L38:ty lay 38=some bU:=rfl
theorem L40:ty lay 40=some bV:=rfl
theorem L41:ty lay 41=some bW:=rfl
theorem L42:ty lay 42=some bX:=rfl
theorem L43:ty lay 43=some bY:=rfl
theorem L45:ty lay 45=some bZ:=rfl
theorem L46:ty lay 46=some cn:=rfl
theorem L47:ty lay 47=some cr:=rfl
theorem L48:ty lay 48=some ct:=rfl
theorem L49:ty lay 49=some cu:=rfl
theorem L51:ty lay 51=some cv:=rfl
theorem L52:ty lay 52=some cw:=rfl
theorem L53:ty lay 53=some cz:=rfl
theorem L54:ty lay 54=some cA:=rfl
theorem L55:ty lay 55=some cB:=rfl
theorem L56:ty lay 56=some cC:=rfl
theorem L57:ty lay 57=some cD:=rfl
theorem L58:ty lay 58=some cE:=rfl
theorem L59:ty lay 59=some cF:=rfl
theorem L60:ty lay 60=some cG:=rfl
theorem L61:ty lay 61=some cH:=rfl
theorem L62:ty lay 62=some cI:=rfl
theorem L63:ty lay 63=some cJ:=rfl
theorem L64:ty lay 64=some cK:=rfl
theorem L65:ty lay 65=some cM:=rfl
theorem L66:ty lay 66=some cO:=rfl
theorem L67:ty lay 67=some cP:=rfl
theorem L68:ty lay 68=some cQ:=rfl
theorem L69:ty lay 69=some cR:=rfl
theorem L70:ty lay 70=some cS:=rfl
theorem L71:ty lay 71=some cT:=rfl
theorem L72:ty lay 72=some cU:=rfl
theorem L73:ty lay 73=some cV:=rfl
theorem L74:ty lay 74=some cW:=rfl
theorem L75:ty lay 75=some cX:=rfl
theorem L76:ty lay 76=some cY:=rfl
theorem L77:ty lay 77=some cZ:=rfl
theorem L78:ty lay 78=some db:=rfl
theorem L80:ty lay 80=some dc:=rfl
theorem L81:ty lay 81=some de:=rfl
theorem L82:ty lay 82=some df:=rfl
theorem L83:ty lay 83=some dh:=rfl
theorem L85:ty lay 85=some dt:=rfl
theorem L86:ty lay 86=some dw:=rfl
theorem L87:ty lay 87=some dB:=rfl
theorem L88:ty lay 88=some dC:=rfl
theorem L89:ty lay 89=some dD:=rfl
theorem L90:ty lay 90=some dF:=rfl
theorem L91:ty lay 91=some dG:=rfl
theorem L92:ty lay 92=some dH:=rfl
theorem L93:ty lay 93=some dI:=rfl
theorem L94:ty lay 94=some dJ:=rfl
theorem L95:ty lay 95=some dK:=rfl
theorem L96:ty lay 96=some dL:=rfl
theorem L97:ty lay 97=some dM:=rfl
theorem L98:ty lay 98=some dN:=rfl
theorem L99:ty lay 99=some dO:=rfl
theorem QdU:ty lay 100=some dP:=rfl
theorem QdV:ty lay 101=some dQ:=rfl
theorem QdW:ty lay 102=some dR:=rfl
theorem QdX:ty lay 103=some dS:=rfl
theorem QdY:ty lay 104=some dU:=rfl
theorem QdZ:ty lay 105=some dV:=rfl
theorem Qd0:ty lay 106=some dW:=rfl
theorem Qd1:ty lay 107=some dX:=rfl
theorem Qd2:ty lay 108=some dY:=rfl
theorem Qd3:ty lay 109=some dZ:=rfl
theorem Qd4:ty lay 111=some eh:=rfl
theorem Qd5:ty lay 112=some ei:=rfl
theorem Qd6:ty lay 114=some eo:=rfl
theorem Qd7:ty lay 115=some eu:=rfl
theorem Qd8:ty lay 116=some ez:=rfl
theorem Qd9:ty lay 117=some eA:=rfl
theorem Qea:ty lay 118=some eB:=rfl
theorem Qeb:ty lay 119=some eC:=rfl
theorem Qec:ty lay 120=some eD:=rfl
theorem Qed:ty lay 121=some eE:=rfl
theorem Qee:ty lay 122=some eF:=rfl
theorem Qef:ty lay 123=some eG:=rfl
theorem Qeg:ty lay 124=some eI:=rfl
theorem Qeh:ty lay 125=some eJ:=rfl
theorem Qei:ty lay 127=some eK:=rfl
theorem Qej:ty lay 128=some eL:=rfl
theorem Qek:ty lay 130=some eM:=rfl
theorem Qel:ty lay 131=some eN:=rfl
theorem Qem:ty lay 132=some eO:=rfl
theorem Qen:ty lay 133=some eP:=rfl
theorem Qeo:ty lay 134=some eQ:=rfl
theorem Qep:ty lay 136=some eR:=rfl
theorem Qeq:ty lay 137=some eS:=rfl
theorem Qer:ty lay 139=some eT:=rfl
theorem Qes:ty lay 140=some eU:=rfl
theorem Qet:ty lay 141=some eV:=rfl
theorem Qeu:ty lay 142=some eW:=rfl
theorem Qev:ty lay 143=some eX:=rfl
theorem Qew:ty lay 144=some eY:=rfl
theorem Qex:ty lay 145=some eZ:=rfl
theorem Qey:ty lay 146=some fa:=rfl
theorem Qez:ty lay 147=some fb:=rfl
theorem QeA:ty lay 148=some fc:=rfl
theorem QeB:ty lay 149=some fe:=rfl
theorem QeC:ty lay 150=some ff:=rfl
theorem QeD:ty lay 151=some fg:=rfl
theorem QeE:ty lay 152=some fh:=rfl
theorem QeF:ty lay 153=some fi:=rfl
theorem QeG:ty lay 154=some fj:=rfl
theorem QeH:ty lay 155=some fk:=rfl
theorem QeI:ty lay 156=some fm:=rfl
theorem QeJ:ty lay 157=some fo:=rfl
theorem QeK:ty lay 158=some fp:=rfl
theorem QeL:ty lay 159=some fq:=rfl
theorem QeM:ty lay 160=some ft:=rfl
theorem QeN:ty lay 161=some fu:=rfl
theorem QeO:ty lay 162=some fv:=rfl
theorem QeP:ty lay 163=some fw:=rfl
theorem QeQ:ty lay 164=some fx:=rfl
theorem QeR:ty lay 165=some fy:=rfl
theorem QeS:ty lay 166=some fA:=rfl
theorem QeT:ty lay 167=some fB:=rfl
theorem QeU:ty lay 168=some fC:=rfl
theorem QeV:ty lay 169=some fD:=rfl
theorem QeW:ty lay 170=some fF:=rfl
theorem QeX:ty lay 171=some fG:=rfl
theorem QeY:ty lay 172=some fH:=rfl
theorem QeZ:ty lay 173=some fI:=rfl
theorem Qe0:ty lay 175=some fJ:=rfl
theorem Qe1:ty lay 176=some fK:=rfl
theorem Qe2:ty lay 177=some fM:=rfl
theorem Qe3:ty lay 178=some fN:=rfl
theorem Qe4:ty lay 179=some fO:=rfl
theorem Qe5:ty lay 180=some fQ:=rfl
theorem Qe6:ty lay 181=some fR:=rfl
theorem Qe7:ty lay 182=some fS:=rfl
theorem Qe8:ty lay 183=some fT:=rfl
theorem Qe9:ty lay 184=some fU:=rfl
theorem Qfa:ty lay 185=some fV:=rfl
theorem Qfb:ty lay 186=some fW:=rfl
theorem Qfc:ty lay 187=some fX:=rfl
theorem Qfd:ty lay 188=some fY:=rfl
theorem Qfe:ty lay 189=some fZ:=rfl
theorem Qff:ty lay 190=some gh:=rfl
theorem Qfg:ty lay 191=some gi:=rfl
theorem Qfh:ty lay 192=some gj:=rfl
theorem Qfi:ty lay 193=some gl:=rfl
theorem Qfj:ty lay 194=some gp:=rfl
theorem Qfk:ty lay 196=some gq:=rfl
theorem Qfl:ty lay 197=some gr:=rfl
theorem Qfm:ty lay 199=some gu:=rfl
theorem Qfn:ty lay 202=some gv:=rfl
theorem Qfo:ty lay 206=some gw:=rfl
theorem Qfp:ty lay 207=some gy:=rfl
theorem Qfq:ty lay 208=some gz:=rfl
theorem Qfr:ty lay 209=some gA:=rfl
theorem Qfs:ty lay 210=some gB:=rfl
theorem Qft:ty lay 211=some gC:=rfl
theorem Qfu:ty lay 212=some gD:=rfl
theorem Qfv:ty lay 213=some gE:=rfl
theorem Qfw:ty lay 214=some gF:=rfl
theorem Qfx:ty lay 215=some gG:=rfl
theorem Qfy:ty lay 216=some gH:=rfl
theorem Qfz:ty lay 217=some gI:=rfl
theorem QfA:ty lay 218=some gJ:=rfl
theorem QfB:ty lay 219=some gK:=rfl
theorem QfC:ty lay 220=some gL:=rfl
theorem QfD:ty lay 221=some gM:=rfl
theorem QfE:ty lay 222=some gN:=rfl
theorem QfF:ty lay 223=some gO:=rfl
theorem QfG:ty lay 224=some gP:=rfl
theorem QfH:ty lay 225=some gQ:=rfl
theorem QfI:ty lay 226=some gR:=rfl
theorem QfJ:ty lay 227=some gS:=rfl
theorem QfK:ty lay 229=some gT:=rfl
theorem QfL:ty lay 230=some gU:=rfl
theorem QfM:ty lay 231=some gV:=rfl
theorem QfN:ty lay 232=some gW:=rfl
theorem QfO:ty lay 233=some gX:=rfl
theorem QfP:ty lay 234=some gY:=rfl
theorem QfQ:ty lay 235=some gZ:=rfl
theorem QfR:ty lay 236=some hY:=rfl
theorem QfS:ty lay 237=some ie:=rfl
theorem QfT:ty lay 238=some ig:=rfl
theorem QfU:ty lay 239=some ij:=rfl
theorem QfV:ty lay 240=some ik:=rfl
theorem QfW:ty lay 241=some iq:=rfl
theorem QfX:ty lay 258=some iu:=rfl
theorem QfY:ty lay 259=some iv:=rfl
theorem QfZ:ty lay 260=some iw:=rfl
theorem Qf0:ty lay 261=some iz:=rfl
theorem Qf1:ty lay 262=some iA:=rfl
theorem Qf2:ty lay 263=some iB:=rfl
theorem Qf3:ty lay 264=some iC:=rfl
theorem Qf4:ty lay 265=some iE:=rfl
theorem Qf5:ty lay 266=some iF:=rfl
theorem Qf6:ty lay 267=some iG:=rfl
theorem Qf7:ty lay 268=some iH:=rfl
theorem Qf8:ty lay 269=some iI:=rfl
theorem Qf9:ty lay 270=some iJ:=rfl
theorem Qga:ty lay 271=some iK:=rfl
theorem Qgb:ty lay 272=some iL:=rfl
theorem Qgc:ty lay 273=some iM:=rfl
theorem Qgd:ty lay 274=some iN:=rfl
theorem Qge:ty lay 275=some iO:=rfl
theorem Qgf:ty lay 276=some iP:=rfl
theorem Qgg:ty lay 277=some iQ:=rfl
theorem Qgh:ty lay 278=some iR:=rfl
theorem Qgi:ty lay 279=some iS:=rfl
theorem Qgj:ty lay 280=some iT:=rfl
theorem Qgk:ty lay 281=some iU:=rfl
theorem Qgl:ty lay 282=some iV:=rfl
theorem Qgm:ty lay 283=some iW:=rfl
theorem Qgn:ty lay 287=some iX:=rfl
theorem Qgo:ty lay 288=some iY:=rfl
theorem Qgp:ty lay 289=some iZ:=rfl
theorem Qgq:ty lay 291=some la:=rfl
theorem Qgr:ty lay 293=some ld:=rfl
theorem Qgs:ty lay 294=some lg:=rfl
theorem Qgt:ty lay 295=some lh:=rfl
theorem Qgu:ty lay 296=some lj:=rfl
theorem Qgv:ty lay 297=some ln:=rfl
theorem Qgw:ty lay 298=some lu:=rfl
theorem Qgx:ty lay 299=some lz:=rfl
theorem Qgy:ty lay 301=some lA:=rfl
theorem Qgz:ty lay 304=some lB:=rfl
theorem QgA:ty lay 305=some lC:=rfl
theorem QgB:ty lay 306=some lD:=rfl
theorem QgC:ty lay 307=some lE:=rfl
theorem QgD:ty lay 308=some lF:=rfl
theorem QgE:ty lay 315=some lG:=rfl
theorem QgF:ty lay 323=some lH:=rfl
theorem QgG:ty lay 332=some lI:=rfl
theorem QgH:ty lay 339=some lJ:=rfl
theorem QgI:ty lay 358=some lK:=rfl
theorem QgJ:ty lay 365=some lL:=rfl
theorem QgK:ty lay 366=some lM:=rfl
theorem QgL:ty lay 369=some lN:=rfl
theorem QgM:ty lay 378=some lO:=rfl
def ZF:xR:=[(22,[0,0]),(23,[0,0]),(30,[0,0,0,0]),(31,[0,0,0,0]),(32,[0,0,0,0,0,0]),(33,[0,0,0,0,0,0]),(42,[0,0,0,0,0,0,0,1]),(43,[0,0,0,0,0,0,0,1]),(59,[0,0,0]),(60,[0,0,0]),(61,[0,0,1,0,0,0,0,0,0,0,0,0,0,0]),(62,[0,0,1,0,0,0,0,0,0,0,0,0,0,0]),(63,[0,0]),(64,[0,0]),(65,[0,0,0,0]),(66,[0,0,0,0]),(67,[0,0,0,0,0,0,0,0,1]),(68,[0,0,0,0,0,0,0,0,1]),(69,[1,0,0,0,0,0,0,0,0,1,0,0,0,0,0,0,0,0,1,0,0,0]),(70,[1,0,0,0,0,0,0,0,0,1,0,0,0,0,0,0,0,0,1,0,0,0]),(71,[1,0,0,0,0,0,0,0,0,1,0]),(72,[1,0,0,0,0,0,0,0,0,1,0]),(73,[1,0,0,0,0,0,0,0,0,1,0]),(74,[1,0,0,0,0,0,0,0,0,1,0]),(75,[0,0,0,0,0,0]),(76,[0,0,0,0,0,0]),(77,[0,0,1,0,0,0,0,0,0,0,0,0,0,0,1,0,1,0,0,0,0,0,0,0,0,1,0,0,0,0,0,0,0,0,1,0,0,0,1,0,0,0,0,0,0,0,0,1,0,1,0,0,0,0,0,0,0,0,1,0,0,0,0,0,0,0,0]),(78,[0,0,1,0,0,0,0,0,0,0,0,0,0,0,1,0,1,0,0,0,0,0,0,0,0,1,0,0,0,0,0,0,0,0,1,0,0,0,1,0,0,0,0,0,0,0,0,1,0,1,0,0,0,0,0,0,0,0,1,0,0,0,0,0,0,0,0]),(99,[0,0,0,1,0,0,0,0,0,0,0,0,0,0,0]),(100,[0,0,0,1,0,0,0,0,0,0,0,0,0,0,0]),(146,[0,0,0,0]),(147,[0,0,0,0]),(148,[0,0,0,0,0,0]),(149,[0,0,0,0,0,0]),(150,[0,0,0,0,0,0,0,0,0,0,0,0,1]),(151,[0,0,0,0,0,0,0,0,0,0,0,0,1]),(152,[1,0,0,0,0,0,0,0,0,0,0,0,0,1,0,0,0,0,0,0,0,0,0,0,0,0,1,0,0,0]),(153,[1,0,0,0,0,0,0,0,0,0,0,0,0,1,0,0,0,0,0,0,0,0,0,0,0,0,1,0,0,0]),(154,[1,0,0,0,0,0,0,0,0,0,0,0,0,1,0]),(155,[1,0,0,0,0,0,0,0,0,0,0,0,0,1,0]),(156,[1,0,0,0,0,0,0,0,0,0,0,0,0,1,0]),(157,[1,0,0,0,0,0,0,0,0,0,0,0,0,1,0]),(158,[0,0,0,0,0,0]),(191,[0,0]),(192,[0,0]),(193,[0,0,0,0]),(194,[0,0,0,0]),(225,[0,0]),(226,[0,0]),(279,[0,0,0,0,0,0,0,0]),(308,[0,1]),(358,[0,0,0,0,0,0,0,0,0])]
theorem lQ {P:Program}:∀ {E:xR},E.map (fun p=>Xj P 60 p.1)=E.map (fun p=>some p.2)→E.map (fun p=>P.eqGuardType P.depth p.1)=E.map (fun _=>false)→E.map (fun p=>match P.underlying p.1 with | some (.struct _) | some (.array _ _)=>true | _=>false)=E.map (fun _=>true)→vT P E
 | [],_,_,_=>.nil _
 | (_,_)::_,h1,h2,h3=>.cons ⟨(List.cons.inj h1).1,(List.cons.inj h2).1,(List.cons.inj h3).1⟩ (lQ (List.cons.inj h1).2 (List.cons.inj h2).2 (List.cons.inj h3).2)
theorem QgN:vT Tryz.prog ZF:=lQ (by kernel_rfl) (by kernel_rfl) (by kernel_rfl)
theorem E22:ZA ZF 22=some [0,0]:=rfl
theorem E23:ZA ZF 23=some [0,0]:=rfl
theorem E30:ZA ZF 30=some [0,0,0,0]:=rfl
theorem E31:ZA ZF 31=some [0,0,0,0]:=rfl
theorem E32:ZA ZF 32=some [0,0,0,0,0,0]:=rfl
theorem E33:ZA ZF 33=some [0,0,0,0,0,0]:=rfl
theorem E42:ZA ZF 42=some [0,0,0,0,0,0,0,1]:=rfl
theorem E43:ZA ZF 43=some [0,0,0,0,0,0,0,1]:=rfl
theorem E59:ZA ZF 59=some [0,0,0]:=rfl
theorem E60:ZA ZF 60=some [0,0,0]:=rfl
theorem E61:ZA ZF 61=some [0,0,1,0,0,0,0,0,0,0,0,0,0,0]:=rfl
theorem E62:ZA ZF 62=some [0,0,1,0,0,0,0,0,0,0,0,0,0,0]:=rfl
theorem E63:ZA ZF 63=some [0,0]:=rfl
theorem E64:ZA ZF 64=some [0,0]:=rfl
theorem E65:ZA ZF 65=some [0,0,0,0]:=rfl
theorem E66:ZA ZF 66=some [0,0,0,0]:=rfl
theorem E67:ZA ZF 67=some [0,0,0,0,0,0,0,0,1]:=rfl
theorem E68:ZA ZF 68=some [0,0,0,0,0,0,0,0,1]:=rfl
theorem E69:ZA ZF 69=some [1,0,0,0,0,0,0,0,0,1,0,0,0,0,0,0,0,0,1,0,0,0]:=rfl
theorem E70:ZA ZF 70=some [1,0,0,0,0,0,0,0,0,1,0,0,0,0,0,0,0,0,1,0,0,0]:=rfl
theorem E71:ZA ZF 71=some [1,0,0,0,0,0,0,0,0,1,0]:=rfl
theorem E72:ZA ZF 72=some [1,0,0,0,0,0,0,0,0,1,0]:=rfl
theorem E73:ZA ZF 73=some [1,0,0,0,0,0,0,0,0,1,0]:=rfl
theorem E74:ZA ZF 74=some [1,0,0,0,0,0,0,0,0,1,0]:=rfl
theorem E75:ZA ZF 75=some [0,0,0,0,0,0]:=rfl
theorem E76:ZA ZF 76=some [0,0,0,0,0,0]:=rfl
theorem E77:ZA ZF 77=some [0,0,1,0,0,0,0,0,0,0,0,0,0,0,1,0,1,0,0,0,0,0,0,0,0,1,0,0,0,0,0,0,0,0,1,0,0,0,1,0,0,0,0,0,0,0,0,1,0,1,0,0,0,0,0,0,0,0,1,0,0,0,0,0,0,0,0]:=rfl
theorem E78:ZA ZF 78=some [0,0,1,0,0,0,0,0,0,0,0,0,0,0,1,0,1,0,0,0,0,0,0,0,0,1,0,0,0,0,0,0,0,0,1,0,0,0,1,0,0,0,0,0,0,0,0,1,0,1,0,0,0,0,0,0,0,0,1,0,0,0,0,0,0,0,0]:=rfl
theorem E99:ZA ZF 99=some [0,0,0,1,0,0,0,0,0,0,0,0,0,0,0]:=rfl
theorem Qhh:ZA ZF 100=some [0,0,0,1,0,0,0,0,0,0,0,0,0,0,0]:=rfl
theorem Qhi:ZA ZF 146=some [0,0,0,0]:=rfl
theorem Qhj:ZA ZF 147=some [0,0,0,0]:=rfl
theorem Qhk:ZA ZF 148=some [0,0,0,0,0,0]:=rfl
theorem Qhl:ZA ZF 149=some [0,0,0,0,0,0]:=rfl
theorem Qhm:ZA ZF 150=some [0,0,0,0,0,0,0,0,0,0,0,0,1]:=rfl
theorem Qhn:ZA ZF 151=some [0,0,0,0,0,0,0,0,0,0,0,0,1]:=rfl
theorem Qho:ZA ZF 152=some [1,0,0,0,0,0,0,0,0,0,0,0,0,1,0,0,0,0,0,0,0,0,0,0,0,0,1,0,0,0]:=rfl
theorem Qhp:ZA ZF 153=some [1,0,0,0,0,0,0,0,0,0,0,0,0,1,0,0,0,0,0,0,0,0,0,0,0,0,1,0,0,0]:=rfl
theorem Qhq:ZA ZF 154=some [1,0,0,0,0,0,0,0,0,0,0,0,0,1,0]:=rfl
theorem Qhr:ZA ZF 155=some [1,0,0,0,0,0,0,0,0,0,0,0,0,1,0]:=rfl
theorem Qhs:ZA ZF 156=some [1,0,0,0,0,0,0,0,0,0,0,0,0,1,0]:=rfl
theorem Qht:ZA ZF 157=some [1,0,0,0,0,0,0,0,0,0,0,0,0,1,0]:=rfl
theorem Qhu:ZA ZF 158=some [0,0,0,0,0,0]:=rfl
theorem Qhv:ZA ZF 191=some [0,0]:=rfl
theorem Qhw:ZA ZF 192=some [0,0]:=rfl
theorem Qhx:ZA ZF 193=some [0,0,0,0]:=rfl
theorem Qhy:ZA ZF 194=some [0,0,0,0]:=rfl
theorem Qhz:ZA ZF 225=some [0,0]:=rfl
theorem QhA:ZA ZF 226=some [0,0]:=rfl
theorem QhB:ZA ZF 279=some [0,0,0,0,0,0,0,0]:=rfl
theorem QhC:ZA ZF 308=some [0,1]:=rfl
theorem QhD:ZA ZF 358=some [0,0,0,0,0,0,0,0,0]:=rfl
def cx:Cx:=⟨lay,ZF⟩
theorem Qe:WA Tryz.prog cx:=⟨kP,QgN⟩
theorem QhE:Qo Tryz.prog 11:=fun a w=>Tryz.call11 a w
theorem lR:Qo Tryz.prog 13:=fun a w=>Tryz.call13 a w
theorem OQ:Qo Tryz.prog 14:=fun a w=>Tryz.call14 a w
theorem QhF:Qo Tryz.prog 15:=fun a w=>Tryz.call15 a w
theorem La:Qo Tryz.prog 16:=fun a w=>Tryz.call16 a w
theorem lS:Qo Tryz.prog 17:=fun a w=>Tryz.call17 a w
theorem QhG:Qo Tryz.prog 18:=fun a w=>Tryz.call18 a w
theorem QhH:Qo Tryz.prog 20:=fun a w=>Tryz.call20 a w
theorem OR:Qo Tryz.prog 21:=fun a w=>Tryz.call21 a w
theorem QhI:Qo Tryz.prog 22:=fun a w=>Tryz.call22 a w
theorem OS:Qo Tryz.prog 23:=fun a w=>Tryz.call23 a w
theorem lT:Qo Tryz.prog 24:=fun a w=>Tryz.call24 a w
theorem QhJ:Qo Tryz.prog 25:=fun a w=>Tryz.call25 a w
theorem QhK:Qo Tryz.prog 26:=fun a w=>Tryz.call26 a w
theorem lU:Qo Tryz.prog 31:=fun a w=>Tryz.call31 a w
theorem QhL:Qo Tryz.prog 32:=fun a w=>Tryz.call32 a w
theorem lV:Qo Tryz.prog 33:=fun a w=>Tryz.call33 a w
theorem lW:Qo Tryz.prog 34:=fun a w=>Tryz.call34 a w
theorem QhM:Qo Tryz.prog 35:=fun a w=>Tryz.call35 a w
theorem QhN:Qo Tryz.prog 36:=fun a w=>Tryz.call36 a w
theorem Lb:Qo Tryz.prog 37:=fun a w=>Tryz.call37 a w
theorem QhO:Qo Tryz.prog 38:=fun a w=>Tryz.call38 a w
theorem OT:Qo Tryz.prog 39:=fun a w=>Tryz.call39 a w
theorem QhP:Qo Tryz.prog 40:=fun a w=>Tryz.call40 a w
theorem Cz:Qo Tryz.prog 41:=fun a w=>Tryz.call41 a w
theorem QhQ:Qo Tryz.prog 42:=fun a w=>Tryz.call42 a w
theorem OU:Qo Tryz.prog 43:=fun a w=>Tryz.call43 a w
theorem QhR:Qo Tryz.prog 44:=fun a w=>Tryz.call44 a w
theorem QhS:Qo Tryz.prog 45:=fun a w=>Tryz.call45 a w
theorem lX:Qo Tryz.prog 46:=fun a w=>Tryz.call46 a w
theorem lY:Qo Tryz.prog 47:=fun a w=>Tryz.call47 a w
theorem QhT:Qo Tryz.prog 48:=fun a w=>Tryz.call48 a w
theorem QhU:Qo Tryz.prog 49:=fun a w=>Tryz.call49 a w
theorem QhV:Qo Tryz.prog 50:=fun a w=>Tryz.call50 a w
theorem lZ:Qo Tryz.prog 51:=fun a w=>Tryz.call51 a w
theorem Fs:Qo Tryz.prog 52:=fun a w=>Tryz.call52 a w
theorem QhW:Qo Tryz.prog 53:=fun a w=>Tryz.call53 a w
theorem OV:Qo Tryz.prog 54:=fun a w=>Tryz.call54 a w
theorem OW:Qo Tryz.prog 55:=fun a w=>Tryz.call55 a w
theorem Yr:Qo Tryz.prog 56:=fun a w=>Tryz.call56 a w
theorem QhX:Qo Tryz.prog 57:=fun a w=>Tryz.call57 a w
theorem OX:Qo Tryz.prog 58:=fun a w=>Tryz.call58 a w
theorem QhY:Qo Tryz.prog 60:=fun a w=>Tryz.call60 a w
theorem Lc:Qo Tryz.prog 61:=fun a w=>Tryz.call61 a w
theorem QhZ:Qo Tryz.prog 62:=fun a w=>Tryz.call62 a w
theorem Ft:Qo Tryz.prog 63:=fun a w=>Tryz.call63 a w
theorem Qh0:Qo Tryz.prog 64:=fun a w=>Tryz.call64 a w
theorem Qh1:Qo Tryz.prog 66:=fun a w=>Tryz.call66 a w
theorem l5:Qo Tryz.prog 101:=fun a w=>Tryz.call101 a w
theorem l6:Qo Tryz.prog 102:=fun a w=>Tryz.call102 a w
theorem OY:Qo Tryz.prog 103:=fun a w=>Tryz.call103 a w
theorem l7:Qo Tryz.prog 104:=fun a w=>Tryz.call104 a w
theorem Qh2:Qo Tryz.prog 105:=fun a w=>Tryz.call105 a w
theorem Qh3:Qo Tryz.prog 106:=fun a w=>Tryz.call106 a w
theorem Qh4:Qo Tryz.prog 107:=fun a w=>Tryz.call107 a w
theorem OZ:Qo Tryz.prog 108:=fun a w=>Tryz.call108 a w
theorem Ld:Qo Tryz.prog 109:=fun a w=>Tryz.call109 a w
theorem jE:Qo Tryz.prog 110:=fun a w=>Tryz.call110 a w
theorem kQ:Qo Tryz.prog 111:=fun a w=>Tryz.call111 a w
theorem Qh5:Qo Tryz.prog 112:=fun a w=>Tryz.call112 a w
theorem l9:Qo Tryz.prog 113:=fun a w=>Tryz.call113 a w
theorem Qh6:Qo Tryz.prog 114:=fun a w=>Tryz.call114 a w
theorem mg:Qo Tryz.prog 115:=fun a w=>Tryz.call115 a w
theorem mh:Qo Tryz.prog 116:=fun a w=>Tryz.call116 a w
theorem Qh7:Qo Tryz.prog 117:=fun a w=>Tryz.call117 a w
theorem mi:Qo Tryz.prog 118:=fun a w=>Tryz.call118 a w
theorem Qh8:Qo Tryz.prog 119:=fun a w=>Tryz.call119 a w
theorem Qh9:Qo Tryz.prog 120:=fun a w=>Tryz.call120 a w
theorem mj:Qo Tryz.prog 121:=fun a w=>Tryz.call121 a w
theorem Ys:Qo Tryz.prog 122:=fun a w=>Tryz.call122 a w
theorem Qia:Qo Tryz.prog 123:=fun a w=>Tryz.call123 a w
theorem Qib:Qo Tryz.prog 124:=fun a w=>Tryz.call124 a w
theorem Qic:Qo Tryz.prog 125:=fun a w=>Tryz.call125 a w
theorem Qid:Qo Tryz.prog 126:=fun a w=>Tryz.call126 a w
theorem Qie:Qo Tryz.prog 127:=fun a w=>Tryz.call127 a w
theorem Qif:Qo Tryz.prog 128:=fun a w=>Tryz.call128 a w
theorem Qig:Qo Tryz.prog 129:=fun a w=>Tryz.call129 a w
theorem Qih:Qo Tryz.prog 130:=fun a w=>Tryz.call130 a w
theorem Qii:Qo Tryz.prog 131:=fun a w=>Tryz.call131 a w
theorem Le:Qo Tryz.prog 132:=fun a w=>Tryz.call132 a w
theorem mm:Qo Tryz.prog 133:=fun a w=>Tryz.call133 a w
theorem Fu:Qo Tryz.prog 134:=fun a w=>Tryz.call134 a w
theorem Qij:Qo Tryz.prog 135:=fun a w=>Tryz.call135 a w
theorem Qik:Qo Tryz.prog 136:=fun a w=>Tryz.call136 a w
theorem Qil:Qo Tryz.prog 137:=fun a w=>Tryz.call137 a w
theorem mn:Qo Tryz.prog 138:=fun a w=>Tryz.call138 a w
theorem Qim:Qo Tryz.prog 139:=fun a w=>Tryz.call139 a w
theorem Qin:Qo Tryz.prog 140:=fun a w=>Tryz.call140 a w
theorem Qio:Qo Tryz.prog 141:=fun a w=>Tryz.call141 a w
theorem mq:Qo Tryz.prog 142:=fun a w=>Tryz.call142 a w
theorem Qip:Qo Tryz.prog 143:=fun a w=>Tryz.call143 a w
theorem Qiq:Qo Tryz.prog 144:=fun a w=>Tryz.call144 a w
theorem mr:Qo Tryz.prog 164:=fun a w=>Tryz.call164 a w
theorem mu:Qo Tryz.prog 165:=fun a w=>Tryz.call165 a w
theorem CA:Qo Tryz.prog 166:=fun a w=>Tryz.call166 a w
theorem Qir:Qo Tryz.prog 167:=fun a w=>Tryz.call167 a w
theorem O1:Qo Tryz.prog 168:=fun a w=>Tryz.call168 a w
theorem mv:Qo Tryz.prog 169:=fun a w=>Tryz.call169 a w
theorem Qis:Qo Tryz.prog 170:=fun a w=>Tryz.call170 a w
theorem Lf:Qo Tryz.prog 171:=fun a w=>Tryz.call171 a w
theorem Lg:Qo Tryz.prog 172:=fun a w=>Tryz.call172 a w
theorem O3:Qo Tryz.prog 173:=fun a w=>Tryz.call173 a w
theorem O5:Qo Tryz.prog 174:=fun a w=>Tryz.call174 a w
theorem O6:Qo Tryz.prog 175:=fun a w=>Tryz.call175 a w
theorem mw:Qo Tryz.prog 176:=fun a w=>Tryz.call176 a w
theorem my:Qo Tryz.prog 177:=fun a w=>Tryz.call177 a w
theorem Lh:Qo Tryz.prog 178:=fun a w=>Tryz.call178 a w
theorem Li:Qo Tryz.prog 179:=fun a w=>Tryz.call179 a w
theorem O7:Qo Tryz.prog 180:=fun a w=>Tryz.call180 a w
theorem mz:Qo Tryz.prog 181:=fun a w=>Tryz.call181 a w
theorem wv:Qo Tryz.prog 182:=fun a w=>Tryz.call182 a w
theorem Qit:Qo Tryz.prog 183:=fun a w=>Tryz.call183 a w
theorem Qiu:Qo Tryz.prog 184:=fun a w=>Tryz.call184 a w
theorem Qiv:Qo Tryz.prog 185:=fun a w=>Tryz.call185 a w
theorem Qiw:Qo Tryz.prog 186:=fun a w=>Tryz.call186 a w
theorem Lj:Qo Tryz.prog 187:=fun a w=>Tryz.call187 a w
theorem mA:Qo Tryz.prog 188:=fun a w=>Tryz.call188 a w
theorem mB:Qo Tryz.prog 189:=fun a w=>Tryz.call189 a w
theorem mC:Qo Tryz.prog 191:=fun a w=>Tryz.call191 a w
theorem Qix:Qo Tryz.prog 192:=fun a w=>Tryz.call192 a w
theorem Qiy:Qo Tryz.prog 193:=fun a w=>Tryz.call193 a w
theorem Qiz:Qo Tryz.prog 194:=fun a w=>Tryz.call194 a w
theorem wx:Qo Tryz.prog 206:=fun a w=>Tryz.call206 a w
theorem O8:Qo Tryz.prog 207:=fun a w=>Tryz.call207 a w
theorem Pa:Qo Tryz.prog 208:=fun a w=>Tryz.call208 a w
theorem Pb:Qo Tryz.prog 209:=fun a w=>Tryz.call209 a w
theorem QiA:Qo Tryz.prog 210:=fun a w=>Tryz.call210 a w
theorem mD:Qo Tryz.prog 211:=fun a w=>Tryz.call211 a w
theorem mE:Qo Tryz.prog 212:=fun a w=>Tryz.call212 a w
theorem Fv:Qo Tryz.prog 213:=fun a w=>Tryz.call213 a w
theorem QiB:Qo Tryz.prog 214:=fun a w=>Tryz.call214 a w
theorem kR:Qo Tryz.prog 215:=fun a w=>Tryz.call215 a w
theorem QiC:Qo Tryz.prog 216:=fun a w=>Tryz.call216 a w
theorem mF:Qo Tryz.prog 217:=fun a w=>Tryz.call217 a w
theorem Fw:Qo Tryz.prog 218:=fun a w=>Tryz.call218 a w
theorem mG:Qo Tryz.prog 219:=fun a w=>Tryz.call219 a w
theorem Lk:Qo Tryz.prog 220:=fun a w=>Tryz.call220 a w
theorem CC:Qo Tryz.prog 221:=fun a w=>Tryz.call221 a w
theorem QiD:Qo Tryz.prog 222:=fun a w=>Tryz.call222 a w
theorem QiE:Qo Tryz.prog 223:=fun a w=>Tryz.call223 a w
theorem QiF:Qo Tryz.prog 224:=fun a w=>Tryz.call224 a w
theorem CD:Qo Tryz.prog 225:=fun a w=>Tryz.call225 a w
theorem QiG:Qo Tryz.prog 226:=fun a w=>Tryz.call226 a w
theorem QiH:Qo Tryz.prog 227:=fun a w=>Tryz.call227 a w
theorem QiI:Qo Tryz.prog 228:=fun a w=>Tryz.call228 a w
theorem mH:Qo Tryz.prog 229:=fun a w=>Tryz.call229 a w
theorem QiJ:Qo Tryz.prog 230:=fun a w=>Tryz.call230 a w
theorem QiK:Qo Tryz.prog 231:=fun a w=>Tryz.call231 a w
theorem QiL:Qo Tryz.prog 242:=fun a w=>Tryz.call242 a w
theorem mI:Qo Tryz.prog 258:=fun a w=>Tryz.call258 a w
theorem mJ:Qo Tryz.prog 259:=fun a w=>Tryz.call259 a w
theorem mK:Qo Tryz.prog 260:=fun a w=>Tryz.call260 a w
theorem mL:Qo Tryz.prog 261:=fun a w=>Tryz.call261 a w
theorem mM:Qo Tryz.prog 262:=fun a w=>Tryz.call262 a w
theorem Pc:Qo Tryz.prog 263:=fun a w=>Tryz.call263 a w
theorem XX:Qo Tryz.prog 264:=fun a w=>Tryz.call264 a w
theorem mN:Qo Tryz.prog 265:=fun a w=>Tryz.call265 a w
theorem mO:Qo Tryz.prog 266:=fun a w=>Tryz.call266 a w
theorem Ll:Qo Tryz.prog 267:=fun a w=>Tryz.call267 a w
theorem mP:Qo Tryz.prog 268:=fun a w=>Tryz.call268 a w
theorem QiM:Qo Tryz.prog 269:=fun a w=>Tryz.call269 a w
theorem QiN:Qo Tryz.prog 270:=fun a w=>Tryz.call270 a w
theorem QiO:Qo Tryz.prog 271:=fun a w=>Tryz.call271 a w
theorem QiP:Qo Tryz.prog 272:=fun a w=>Tryz.call272 a w
theorem mQ:Qo Tryz.prog 273:=fun a w=>Tryz.call273 a w
theorem QiQ:Qo Tryz.prog 274:=fun a w=>Tryz.call274 a w
theorem QiR:Qo Tryz.prog 275:=fun a w=>Tryz.call275 a w
theorem QiS:Qo Tryz.prog 276:=fun a w=>Tryz.call276 a w
theorem QiT:Qo Tryz.prog 278:=fun a w=>Tryz.call278 a w
theorem QiU:Qo Tryz.prog 279:=fun a w=>Tryz.call279 a w
theorem CE:Qo Tryz.prog 287:=fun a w=>Tryz.call287 a w
theorem Pd:Qo Tryz.prog 288:=fun a w=>Tryz.call288 a w
theorem QiV:Qo Tryz.prog 293:=fun a w=>Tryz.call293 a w
theorem QiW:Qo Tryz.prog 294:=fun a w=>Tryz.call294 a w
theorem QiX:Qo Tryz.prog 295:=fun a w=>Tryz.call295 a w
theorem QiY:Qo Tryz.prog 296:=fun a w=>Tryz.call296 a w
theorem QiZ:Qo Tryz.prog 297:=fun a w=>Tryz.call297 a w
theorem Qi0:Qo Tryz.prog 298:=fun a w=>Tryz.call298 a w
theorem Yt:Qo Tryz.prog 299:=fun a w=>Tryz.call299 a w
theorem Qi1:Qo Tryz.prog 300:=fun a w=>Tryz.call300 a w
theorem Qi2:Qo Tryz.prog 301:=fun a w=>Tryz.call301 a w
theorem mR:Qo Tryz.prog 304:=fun a w=>Tryz.call304 a w
theorem Pe:Qo Tryz.prog 305:=fun a w=>Tryz.call305 a w
theorem Pf:Qo Tryz.prog 306:=fun a w=>Tryz.call306 a w
theorem Qi3:Qo Tryz.prog 307:=fun a w=>Tryz.call307 a w
theorem Pg:Qo Tryz.prog 308:=fun a w=>Tryz.call308 a w
attribute [go_sem] cx L1 L2 L3 L4 L5 L9 L12 L17 L20 L21 L22 L23 L24 L25 L26 L27 L28 L29 L30 L31 L32 L33 L34 L35 L36 L37 L38 L40 L41 L42 L43 L45 L46 L47 L48 L49 L51 L52 L53 L54 L55 L56 L57 L58 L59 L60 L61 L62 L63 L64 L65 L66 L67 L68 L69 L70 L71 L72 L73 L74 L75 L76 L77 L78 L80 L81 L82 L83 L85 L86 L87 L88 L89 L90 L91 L92 L93 L94 L95 L96 L97 L98 L99 QdU QdV QdW QdX QdY QdZ Qd0 Qd1 Qd2 Qd3 Qd4 Qd5 Qd6 Qd7 Qd8 Qd9 Qea Qeb Qec Qed Qee Qef Qeg Qeh Qei Qej Qek Qel Qem Qen Qeo Qep Qeq Qer Qes Qet Qeu Qev Qew Qex Qey Qez QeA QeB QeC QeD QeE QeF QeG QeH QeI QeJ QeK QeL QeM QeN QeO QeP QeQ QeR QeS QeT QeU QeV QeW QeX QeY QeZ Qe0 Qe1 Qe2 Qe3 Qe4 Qe5 Qe6 Qe7 Qe8 Qe9 Qfa Qfb Qfc Qfd Qfe Qff Qfg Qfh Qfi Qfj Qfk Qfl Qfm Qfn Qfo Qfp Qfq Qfr Qfs Qft Qfu Qfv Qfw Qfx Qfy Qfz QfA QfB QfC QfD QfE QfF QfG QfH QfI QfJ QfK QfL QfM QfN QfO QfP QfQ QfR QfS QfT QfU QfV QfW QfX QfY QfZ Qf0 Qf1 Qf2 Qf3 Qf4 Qf5 Qf6 Qf7 Qf8 Qf9 Qga Qgb Qgc Qgd Qge Qgf Qgg Qgh Qgi Qgj Qgk Qgl Qgm Qgn Qgo Qgp Qgq Qgr Qgs Qgt Qgu Qgv Qgw Qgx Qgy Qgz QgA QgB QgC QgD QgE QgF QgG QgH QgI QgJ QgK QgL QgM E22 E23 E30 E31 E32 E33 E42 E43 E59 E60 E61 E62 E63 E64 E65 E66 E67 E68 E69 E70 E71 E72 E73 E74 E75 E76 E77 E78 E99 Qhh Qhi Qhj Qhk Qhl Qhm Qhn Qho Qhp Qhq Qhr Qhs Qht Qhu Qhv Qhw Qhx Qhy Qhz QhA QhB QhC QhD
theorem Qc {base nt} {w0:Start} {Q} {k} {s} (hb:base≤w0.w.heap.size) (h:hx Tryz.prog base w0 Q cx nt 200 k s):Qs Tryz.prog base nt w0 Q k .normal s:=Co Qe hb 200 h
theorem QF {base nt} {w0:Start} {K} {l} {s} (hb:base≤w0.w.heap.size) (h:JO Tryz.prog base w0 cx nt K l s):AX Tryz.prog base nt w0 K l s:=Qcc Qe hb h
end Go.Fg.X
namespace Go.Fg
open Go.RowKit (Below)
def Rd (P:Program) (t:TypeId) {α:Type} (ok:α→Prop) (enc:α→List D):Prop:=
 ∀ {H:Type} {en:TypeId × Value→H} {w:World} {base:Nat} {held:Bool} (m:Nat) (cs:List Value) (x:DataW H × List MemPlace),DataW.trod en P w base (fun _=>true) held m t cs=some x →
  ∃ a,ok a∧(enc a).length=cs.length∧∀ j,j<cs.length→Cl (fun _=>True) w (nth (enc a) j) (QJ cs j)
theorem Rd.int {P:Program} {t:TypeId} (k:IntKind) (ht:P.underlying t=some (.int k)):Rd P t (fun n:Int=>(Lit.int k n).wf=true) (fun n=>[.raw (.int k n)]):=by
 intro H en w base held m cs x h
 obtain ⟨n,rfl,_,hw⟩:=DataW.trod_int ht h
 refine ⟨n,hw,rfl,fun j hj=>?_⟩
 obtain rfl:j=0:=by simpa using hj
 exact .raw _
theorem Rd.bool {P:Program} {t:TypeId} (ht:P.underlying t=some .bool):Rd P t (fun _:Bool=>True) (fun n=>[.raw (.bool n)]):=by
 intro H en w base held m cs x h
 obtain ⟨n,rfl,_⟩:=DataW.trod_bool ht h
 refine ⟨n,trivial,rfl,fun j hj=>?_⟩
 obtain rfl:j=0:=by simpa using hj
 exact .raw _
theorem Rd.str {P:Program} {t:TypeId} (ht:P.underlying t=some .string):Rd P t (fun s:ByteArray=>s.size≤maxLen) (fun n=>[.raw (.string n)]):=by
 intro H en w base held m cs x h
 obtain ⟨n,rfl,_,hw⟩:=DataW.trod_string ht h
 refine ⟨n,hw,rfl,fun j hj=>?_⟩
 obtain rfl:j=0:=by simpa using hj
 exact .raw _
theorem Rd.map {P:Program} {t:TypeId} {α β:Type} {ok:α→Prop} {enc:α→List D} (r:Rd P t ok enc) (g:α→β) {yj:β→Prop} {W1:β→List D} (he:∀ a,W1 (g a)=enc a) (ho:∀ a,ok a→yj (g a)):Rd P t yj W1:=by
 intro H en w base held m cs x h
 obtain ⟨a,h1,h2,h3⟩:=r m cs x h
 exact ⟨g a,ho a h1,by rw[he];exact h2,by rw[he];exact h3⟩
def JX (P:Program) (fs:List Field) (off ZV:Nat) {α:Type} (ok:α→Prop) (enc:α→List D):Prop:=
 ∀ {H:Type} {en:TypeId × Value→H} {w:World} {base:Nat} {held:Bool} (m:Nat) (cs:List Value),cs.length=ZV →
  (∀ f∈fs,∃ x,DataW.trod en P w base (fun _=>true) held m f.type ((cs.drop f.offset).take (P.cellsOf f.type))=some x) →
  ∃ a,ok a∧off+(enc a).length=ZV∧∀ j,off+j<ZV→Cl (fun _=>True) w (nth (enc a) j) (QJ cs (off+j))
theorem JX.nil {P:Program} {ZV:Nat}:JX P [] ZV ZV (fun _:Unit=>True) (fun _=>[]):=by
 intro H en w base held m cs hl h
 exact ⟨(),trivial,rfl,fun j hj=>by omega⟩
theorem JX.cons {P:Program} {f:Field} {fs:List Field} {off Er ZV:Nat} {α β:Type} {ok:α→Prop} {enc:α→List D} {yj:β→Prop} {W1:β→List D} (r:Rd P f.type ok enc) (rs:JX P fs Er ZV yj W1)
  (ho:f.offset=off) (hc:off+P.cellsOf f.type=Er) (ht:Er≤ZV):JX P (f::fs) off ZV (fun ab:α × β=>ok ab.1∧yj ab.2) (fun ab=>enc ab.1++W1 ab.2):=by
 intro H en w base held m cs hl h
 obtain ⟨x,hx⟩:=h f (by simp)
 obtain ⟨a,a1,a2,a3⟩:=r m _ x hx
 obtain ⟨b,b1,b2,b3⟩:=rs m cs hl fun g hg=>h g (by simp [hg])
 have hlen:((cs.drop f.offset).take (P.cellsOf f.type)).length=P.cellsOf f.type:=by simp;omega
 rw[hlen] at a2 a3
 refine ⟨(a,b),⟨a1,b1⟩,by simp;omega,fun j hj=>?_⟩
 by_cases h1:j<P.cellsOf f.type
 ·have:=a3 j h1
  have e1:nth (enc a++W1 b) j=nth (enc a) j:=N1 (by omega)
  have e2:QJ ((cs.drop f.offset).take (P.cellsOf f.type)) j=QJ cs (off+j):=by
   simp only[QJ,List.getD_eq_getElem?_getD,List.getElem?_take,if_pos h1,List.getElem?_drop,ho]
  show Cl _ w (nth (enc a++W1 b) j) _
  rw[e1,← e2];exact this
 ·have e1:nth (enc a++W1 b) j=nth (W1 b) (j - P.cellsOf f.type):=by rw[N2 (by omega),a2]
  have:=b3 (j - P.cellsOf f.type) (by omega)
  show Cl _ w (nth (enc a++W1 b) j) _
  rw[e1,show off+j=Er+(j - P.cellsOf f.type) by omega];exact this
theorem Rd.struct {P:Program} {t:TypeId} {fs:Array Field} {ZV:Nat} {α:Type} {ok:α→Prop} {enc:α→List D} (ht:P.underlying t=some (.struct fs)) (hc:P.cellsOf t=ZV) (r:JX P fs.toList 0 ZV ok enc):Rd P t ok enc:=by
 intro H en w base held m cs x h
 obtain ⟨xs,m',rfl,_,hl,Xk,hf⟩:=DataW.trod_struct ht h
 obtain ⟨a,a1,a2,a3⟩:=r m' cs (by omega) fun f hf'=>by
  obtain ⟨i,hi⟩:=List.getElem?_of_mem hf'
  have ZE:fs[i]? = some f:=by simpa using hi
  have Qd:i<xs.length:=by rw[Xk];exact (Array.getElem?_eq_some_iff.1 ZE).1
  exact ⟨xs[i],by rw[hf i f ZE];exact List.getElem?_eq_getElem Qd⟩
 exact ⟨a,a1,by omega,fun j hj=>by have:=a3 j (by omega);rwa [Nat.zero_add] at this⟩
def jF (P:Program) (e:TypeId) (i n:Nat) {α:Type} (ok:α→Prop) (enc:α→List D):Prop:=
 ∀ {H:Type} {en:TypeId × Value→H} {w:World} {base:Nat} {held:Bool} (m:Nat) (cs:List Value),cs.length=n*P.cellsOf e →
  (∀ k,k<n→∃ x,DataW.trod en P w base (fun _=>true) held m e ((cs.drop (k*P.cellsOf e)).take (P.cellsOf e))=some x) →
  ∃ a,ok a∧i*P.cellsOf e+(enc a).length=n*P.cellsOf e∧∀ j,i*P.cellsOf e+j<n*P.cellsOf e→Cl (fun _=>True) w (nth (enc a) j) (QJ cs (i*P.cellsOf e+j))
theorem jF.nil {P:Program} {e:TypeId} {n:Nat}:jF P e n n (fun _:Unit=>True) (fun _=>[]):=by
 intro H en w base held m cs hl h
 exact ⟨(),trivial,rfl,fun j hj=>by omega⟩
theorem jF.cons {P:Program} {e:TypeId} {i n:Nat} {α β:Type} {ok:α→Prop} {enc:α→List D} {yj:β→Prop} {W1:β→List D} (hi:i<n) (r:Rd P e ok enc) (rs:jF P e (i+1) n yj W1) :
  jF P e i n (fun ab:α × β=>ok ab.1∧yj ab.2) (fun ab=>enc ab.1++W1 ab.2):=by
 intro H en w base held m cs hl h
 obtain ⟨x,hx⟩:=h i hi
 obtain ⟨a,a1,a2,a3⟩:=r m _ x hx
 obtain ⟨b,b1,b2,b3⟩:=rs m cs hl h
 have hm:=Nat.mul_le_mul_right (P.cellsOf e) (show i+1≤n from hi)
 rw[Nat.add_mul,Nat.one_mul] at hm
 rw[Nat.add_mul,Nat.one_mul] at b2 b3
 have hlen:((cs.drop (i*P.cellsOf e)).take (P.cellsOf e)).length=P.cellsOf e:=by simp;omega
 rw[hlen] at a2 a3
 refine ⟨(a,b),⟨a1,b1⟩,by simp;omega,fun j hj=>?_⟩
 by_cases h1:j<P.cellsOf e
 ·have:=a3 j h1
  have e1:nth (enc a++W1 b) j=nth (enc a) j:=N1 (by omega)
  have e2:QJ ((cs.drop (i*P.cellsOf e)).take (P.cellsOf e)) j=QJ cs (i*P.cellsOf e+j):=by
   simp only[QJ,List.getD_eq_getElem?_getD,List.getElem?_take,if_pos h1,List.getElem?_drop]
  show Cl _ w (nth (enc a++W1 b) j) _
  rw[e1,← e2];exact this
 ·have e1:nth (enc a++W1 b) j=nth (W1 b) (j - P.cellsOf e):=by rw[N2 (by omega),a2]
  have:=b3 (j - P.cellsOf e) (by omega)
  show Cl _ w (nth (enc a++W1 b) j) _
  rw[e1,show i*P.cellsOf e+j=i*P.cellsOf e+P.cellsOf e+(j - P.cellsOf e) by omega];exact this
theorem Rd.array {P:Program} {t e:TypeId} {n:Nat} {α:Type} {ok:α→Prop} {enc:α→List D} (ht:P.underlying t=some (.array n e)) (hc:P.cellsOf t=n*P.cellsOf e) (r:jF P e 0 n ok enc):Rd P t ok enc:=by
 intro H en w base held m cs x h
 obtain ⟨xs,m',rfl,_,hl,Xk,hf⟩:=DataW.trod_array ht h
 obtain ⟨a,a1,a2,a3⟩:=r m' cs (by omega) fun k hk=>by
  have Qd:k<xs.length:=by omega
  exact ⟨xs[k],by rw[hf k hk];exact List.getElem?_eq_getElem Qd⟩
 simp only[Nat.zero_mul,Nat.zero_add] at a2 a3
 exact ⟨a,a1,by omega,fun j hj=>a3 j (by omega)⟩
theorem Rd.slice {P:Program} {t e:TypeId} {α:Type} [Inhabited α] {ok:α→Prop} {enc:α→List D} (sz:Nat) (ht:P.underlying t=some (.slice e)) (hc:P.cellsOf e=sz) (jn:0<sz) (r:Rd P e ok enc) :
  Rd P t (fun l:List α=>l.length≤maxLen∧∀ a∈l,ok a) (fun l=>[.imm sz l.length fun i=>enc (l.getD i default)]):=by
 intro H en w base held m cs x h
 rcases Deep.open_slice ht h with ⟨rfl,_⟩ | ⟨a,len,cap,m,n',D',Pl,rfl,hb,hl,hm,Lm,_,hel⟩
 ·refine ⟨[],⟨by simp,by simp⟩,rfl,fun j hj=>?_⟩
  obtain rfl:j=0:=by simpa using hj
  exact .imm _ _ _ _ _ 0 0 (fun _ _=>Go.undef) (fun h=>by simp at h) (by simp) (fun i hi=>by simp at hi) (fun i j hi=>by simp at hi) (fun i j hi=>by simp at hi)
 ·simp only[if_true] at Lm
  have key:∀ i,∃ ac:α × List Value,i<len→ok ac.1∧(enc ac.1).length=sz∧ac.2.length=sz∧(∀ j,j<sz→w.cell? (a.add (i*sz+j))=some (QJ ac.2 j))∧∀ j,j<sz→Cl (fun _=>True) w (nth (enc ac.1) j) (QJ ac.2 j):=fun i=>by
   by_cases hi:i<len
   ·obtain ⟨Zs,h1,h2⟩:=hel i (by omega)
    obtain ⟨x,hx,Xk,Lo⟩:=r n' Zs _ h2
    obtain ⟨_,hlen,ko⟩:=World.cells?_some h1
    have Jd:Zs.length=sz:=by omega
    refine ⟨(x,Zs),fun _=>⟨hx,(by show (enc x).length=sz;omega),Jd,fun j hj=>?_,fun j hj=>Lo j (by omega)⟩⟩
    have:=ko j (by omega)
    rw[Deep.add_add,hc] at this
    rw[this]
    simp [QJ,List.getD_eq_getElem?_getD,List.getElem?_eq_getElem (show j<Zs.length by omega)]
   ·exact ⟨(default,[]),fun h=>absurd h hi⟩
  obtain ⟨f,hf⟩:=Classical.axiomOfChoice key
  have hlen:((List.range len).map fun i=>(f i).1).length=len:=by simp
  have VV:∀ i,i<len→((List.range len).map fun i=>(f i).1).getD i default=(f i).1:=fun i hi=>by simp [List.getD_eq_getElem?_getD,hi]
  refine ⟨(List.range len).map fun i=>(f i).1,⟨by rw[hlen];omega,fun x hx=>?_⟩,rfl,fun j hj=>?_⟩
  ·obtain ⟨i,hi,rfl⟩:=List.mem_map.1 hx
   exact (hf i (List.mem_range.1 hi)).1
  ·obtain rfl:j=0:=by simpa using hj
   show Cl _ w (.imm sz ((List.range len).map fun i=>(f i).1).length fun i=>enc (((List.range len).map fun i=>(f i).1).getD i default)) (.slice (some a) len cap)
   rw[hlen]
   have mS:0<len→a=⟨a.block,a.off,none⟩:=fun h0=>by
    have h1:=(hf 0 h0).2.2.2.1 0 jn
    have h2:=World.cell?_spot h1
    obtain ⟨b,o,sp⟩:=a
    simp [Addr.add] at h2
    subst h2;rfl
   refine .imm _ _ _ _ _ a.block a.off (fun i j=>QJ (f i).2 j) (fun h0=>by rw[← mS h0]) hl (fun i hi=>?_) (fun i j hi hj=>⟨trivial,?_⟩) (fun i j hi hj=>?_)
   ·rw[VV i hi];exact (hf i hi).2.1
   ·have h1:=(hf i hi).2.2.2.1 j hj
    rw[mS (by omega)] at h1
    rw[← h1]
    congr 1
    simp only[Addr.add]
    split <;> simp_all
   ·rw[VV i hi];exact (hf i hi).2.2.2.2 j hj
theorem Rd.one {P:Program} {t:TypeId} {α:Type} {ok:α→Prop} {enc:α→D} (r:Rd P t ok fun a=>[enc a]) {H:Type} {en:TypeId × Value→H} {w:World} {base:Nat} {held:Bool} {v:Value} {d:DataW H} {ps:List MemPlace}
  (h:DataW.Trod en P w base (fun _=>true) held t v d ps) (hv:v.cells.toList=[v]):∃ a,ok a∧Cl (fun _=>True) w (enc a) v:=by
 obtain ⟨m,hm⟩:=h
 rw[hv] at hm
 obtain ⟨a,h1,h2,h3⟩:=r m _ _ hm
 exact ⟨a,h1,h3 0 (by simp)⟩
theorem Rd.many {P:Program} {t:TypeId} {α:Type} {ok:α→Prop} {enc:α→List D} (r:Rd P t ok enc) {H:Type} {en:TypeId × Value→H} {w:World} {base:Nat} {held:Bool} {cs:Array Value} {d:DataW H} {ps:List MemPlace}
  (h:DataW.Trod en P w base (fun _=>true) held t (.agg cs) d ps):∃ a,ok a∧Cl (fun _=>True) w (.agg (enc a)) (.agg cs):=by
 obtain ⟨m,hm⟩:=h
 have e:(Value.agg cs).cells.toList=cs.toList:=rfl
 rw[e] at hm
 obtain ⟨a,h1,h2,h3⟩:=r m _ _ hm
 have:=Cl.agg (N:=fun _=>True) (w:=w) (enc a) cs.toList h2.symm (fun i hi=>h3 i (by omega))
 exact ⟨a,h1,by simpa using this⟩
theorem Qi6 {P:Program} {f:FuncId} {ds:List D} (h:Q7 P f ds fun d h=>d=.raw (.bool true)∧h=[]) (W:World) (vs:List Value) (hl:vs.length=ds.length) (hc:∀ i,i<ds.length→Cl (fun _=>True) W (nth ds i) (QJ vs i)) :
  Calls P f vs.toArray W fun e W'=>e=.returned (.bool true)∧Below W.heap.size W W':=by
 refine (h (fun _=>True) W.heap.size W [] vs (Nat.le_refl _) (fun _ _=>trivial) ⟨rfl,fun l l' b q q' e=>by simp at e,fun l o e=>by simp at e,fun l o b q e=>by simp at e⟩ hl (fun i hi=>.cl _ _ ((hc i hi).mono fun b _ _=>⟨⟨trivial,fun l q e=>by simp at e⟩,rfl⟩))).mono fun e W' he=>?_
 obtain ⟨v,d,h',Qg,rfl,⟨rfl,rfl⟩,_,hv,_,hb⟩:=he
 rw[ZC hv];exact ⟨rfl,hb⟩
end Go.Fg
namespace Go.Fg.X
open Go.Proofs Go.Fg
def mT (k:IntKind) (l:List Int):Nat→List D:=fun i=>[.raw (.int k (l.getD i 0))]
@[go_sem] theorem Qi7 (k:IntKind) (l:List Int) (i:Nat):mT k l i=[.raw (.int k (l.getD i 0))]:=rfl
structure Cf where
 t:Int
 VJ:Int
instance:Inhabited Cf:=⟨⟨0,0⟩⟩
@[go_sem] def Cf.cells (x:Cf):List D:=[.raw (.int .i64 x.t),.raw (.int .i64 x.VJ)]
def Cf.rows (l:List Cf):Nat→List D:=fun i=>(l.getD i default).cells
@[go_sem] theorem Cf.kS (l:List Cf) (i:Nat):Cf.rows l i=(l.getD i default).cells:=rfl
def Cf.Ok (x:Cf):Prop:=(Lit.int .i64 x.t).wf=true∧(Lit.int .i64 x.VJ).wf=true∧True
structure Cv where
 m1:Int
 d:Int
 m2:Int
instance:Inhabited Cv:=⟨⟨0,0,0⟩⟩
@[go_sem] def Cv.cells (x:Cv):List D:=[.raw (.int .u64 x.m1),.raw (.int .u64 x.d),.raw (.int .u64 x.m2)]
def Cv.rows (l:List Cv):Nat→List D:=fun i=>(l.getD i default).cells
@[go_sem] theorem Cv.kS (l:List Cv) (i:Nat):Cv.rows l i=(l.getD i default).cells:=rfl
def Cv.Ok (x:Cv):Prop:=(Lit.int .u64 x.m1).wf=true∧(Lit.int .u64 x.d).wf=true∧(Lit.int .u64 x.m2).wf=true∧True
theorem Ph:Rd Tryz.prog 60 Cv.Ok Cv.cells:=
 Rd.map (Rd.struct (ZV:=3) Tryz.underlying60 (by kernel_rfl) (JX.cons (Rd.int .u64 Tryz.underlying25) (JX.cons (Rd.int .u64 Tryz.underlying25) (JX.cons (Rd.int .u64 Tryz.underlying25) JX.nil rfl (by kernel_rfl) (by decide)) rfl (by kernel_rfl) (by decide)) rfl (by kernel_rfl) (by decide))) (fun p=>⟨p.1,p.2.1,p.2.2.1⟩) (fun _=>rfl) (fun _ h=>⟨h.1,h.2.1,h.2.2.1,trivial⟩)
structure Pk where
 iD:Int
 len:Int
 Fx:Int
 Fy:Int
 Fz:Int
 FA:Int
instance:Inhabited Pk:=⟨⟨0,0,0,0,0,0⟩⟩
@[go_sem] def Pk.cells (x:Pk):List D:=[.raw (.int .u64 x.iD),.raw (.int .i64 x.len),.raw (.int .u16 x.Fx),.raw (.int .u16 x.Fy),.raw (.int .u16 x.Fz),.raw (.int .u16 x.FA)]
def Pk.rows (l:List Pk):Nat→List D:=fun i=>(l.getD i default).cells
@[go_sem] theorem Pk.kS (l:List Pk) (i:Nat):Pk.rows l i=(l.getD i default).cells:=rfl
def Pk.Ok (x:Pk):Prop:=(Lit.int .u64 x.iD).wf=true∧(Lit.int .i64 x.len).wf=true∧(Lit.int .u16 x.Fx).wf=true∧(Lit.int .u16 x.Fy).wf=true∧(Lit.int .u16 x.Fz).wf=true∧(Lit.int .u16 x.FA).wf=true∧True
theorem Qi8:Rd Tryz.prog 33 Pk.Ok Pk.cells:=
 Rd.map (Rd.struct (ZV:=6) Tryz.underlying33 (by kernel_rfl) (JX.cons (Rd.int .u64 Tryz.underlying25) (JX.cons (Rd.int .i64 Tryz.underlying3) (JX.cons (Rd.array Tryz.underlying31 (by kernel_rfl) (jF.cons (by decide) (Rd.int .u16 Tryz.underlying29) (jF.cons (by decide) (Rd.int .u16 Tryz.underlying29) (jF.cons (by decide) (Rd.int .u16 Tryz.underlying29) (jF.cons (by decide) (Rd.int .u16 Tryz.underlying29) jF.nil))))) JX.nil rfl (by kernel_rfl) (by decide)) rfl (by kernel_rfl) (by decide)) rfl (by kernel_rfl) (by decide))) (fun p=>⟨p.1,p.2.1,p.2.2.1.1,p.2.2.1.2.1,p.2.2.1.2.2.1,p.2.2.1.2.2.2.1⟩) (fun _=>rfl) (fun _ h=>⟨h.1,h.2.1,h.2.2.1.1,h.2.2.1.2.1,h.2.2.1.2.2.1,h.2.2.1.2.2.2.1,trivial⟩)
structure Qi where
 iD:Int
 parent:Int
 leaf:Bool
 rt:Cv
 ls:Cv
 ul:Cv
 Za:Int
 bytes:Int
instance:Inhabited Qi:=⟨⟨0,0,false,default,default,default,0,0⟩⟩
@[go_sem] def Qi.cells (x:Qi):List D:=[.raw (.int .i64 x.iD),.raw (.int .i64 x.parent),.raw (.bool x.leaf),.raw (.int .u64 x.rt.m1),.raw (.int .u64 x.rt.d),.raw (.int .u64 x.rt.m2),.raw (.int .u64 x.ls.m1),.raw (.int .u64 x.ls.d),.raw (.int .u64 x.ls.m2),.raw (.int .u64 x.ul.m1),.raw (.int .u64 x.ul.d),.raw (.int .u64 x.ul.m2),.raw (.int .i64 x.Za),.raw (.int .i64 x.bytes)]
def Qi.rows (l:List Qi):Nat→List D:=fun i=>(l.getD i default).cells
@[go_sem] theorem Qi.kS (l:List Qi) (i:Nat):Qi.rows l i=(l.getD i default).cells:=rfl
def Qi.Ok (x:Qi):Prop:=(Lit.int .i64 x.iD).wf=true∧(Lit.int .i64 x.parent).wf=true∧True∧Cv.Ok x.rt∧Cv.Ok x.ls∧Cv.Ok x.ul∧(Lit.int .i64 x.Za).wf=true∧(Lit.int .i64 x.bytes).wf=true∧True
theorem Qi9:Rd Tryz.prog 62 Qi.Ok Qi.cells:=
 Rd.map (Rd.struct (ZV:=14) Tryz.underlying62 (by kernel_rfl) (JX.cons (Rd.int .i64 Tryz.underlying3) (JX.cons (Rd.int .i64 Tryz.underlying3) (JX.cons (Rd.bool Tryz.underlying4) (JX.cons Ph (JX.cons Ph (JX.cons Ph (JX.cons (Rd.int .i64 Tryz.underlying3) (JX.cons (Rd.int .i64 Tryz.underlying3) JX.nil rfl (by kernel_rfl) (by decide)) rfl (by kernel_rfl) (by decide)) rfl (by kernel_rfl) (by decide)) rfl (by kernel_rfl) (by decide)) rfl (by kernel_rfl) (by decide)) rfl (by kernel_rfl) (by decide)) rfl (by kernel_rfl) (by decide)) rfl (by kernel_rfl) (by decide))) (fun p=>⟨p.1,p.2.1,p.2.2.1,p.2.2.2.1,p.2.2.2.2.1,p.2.2.2.2.2.1,p.2.2.2.2.2.2.1,p.2.2.2.2.2.2.2.1⟩) (fun _=>rfl) (fun _ h=>⟨h.1,h.2.1,h.2.2.1,h.2.2.2.1,h.2.2.2.2.1,h.2.2.2.2.2.1,h.2.2.2.2.2.2.1,h.2.2.2.2.2.2.2.1,trivial⟩)
structure ZP where
 kind:Int
 cls:Qi
instance:Inhabited ZP:=⟨⟨0,default⟩⟩
@[go_sem] def ZP.cells (x:ZP):List D:=[.raw (.int .i64 x.kind),.raw (.int .i64 x.cls.iD),.raw (.int .i64 x.cls.parent),.raw (.bool x.cls.leaf),.raw (.int .u64 x.cls.rt.m1),.raw (.int .u64 x.cls.rt.d),.raw (.int .u64 x.cls.rt.m2),.raw (.int .u64 x.cls.ls.m1),.raw (.int .u64 x.cls.ls.d),.raw (.int .u64 x.cls.ls.m2),.raw (.int .u64 x.cls.ul.m1),.raw (.int .u64 x.cls.ul.d),.raw (.int .u64 x.cls.ul.m2),.raw (.int .i64 x.cls.Za),.raw (.int .i64 x.cls.bytes)]
def ZP.rows (l:List ZP):Nat→List D:=fun i=>(l.getD i default).cells
@[go_sem] theorem ZP.kS (l:List ZP) (i:Nat):ZP.rows l i=(l.getD i default).cells:=rfl
def ZP.Ok (x:ZP):Prop:=(Lit.int .i64 x.kind).wf=true∧Qi.Ok x.cls∧True
theorem Qja:Rd Tryz.prog 100 ZP.Ok ZP.cells:=
 Rd.map (Rd.struct (ZV:=15) Tryz.underlying100 (by kernel_rfl) (JX.cons (Rd.int .i64 Tryz.underlying3) (JX.cons Qi9 JX.nil rfl (by kernel_rfl) (by decide)) rfl (by kernel_rfl) (by decide))) (fun p=>⟨p.1,p.2.1⟩) (fun _=>rfl) (fun _ h=>⟨h.1,h.2.1,trivial⟩)
structure Act where
 kind:Int
 now:Int
 cls:Int
 wy:Pk
 idle:Bool
 changes:(List ZP)
instance:Inhabited Act:=⟨⟨0,0,0,default,false,[]⟩⟩
@[go_sem] def Act.cells (x:Act):List D:=[.raw (.int .i64 x.kind),.raw (.int .u64 x.now),.raw (.int .i64 x.cls),.raw (.int .u64 x.wy.iD),.raw (.int .i64 x.wy.len),.raw (.int .u16 x.wy.Fx),.raw (.int .u16 x.wy.Fy),.raw (.int .u16 x.wy.Fz),.raw (.int .u16 x.wy.FA),.raw (.bool x.idle),.imm 15 x.changes.length (ZP.rows x.changes)]
def Act.rows (l:List Act):Nat→List D:=fun i=>(l.getD i default).cells
@[go_sem] theorem Act.kS (l:List Act) (i:Nat):Act.rows l i=(l.getD i default).cells:=rfl
def Act.Ok (x:Act):Prop:=(Lit.int .i64 x.kind).wf=true∧(Lit.int .u64 x.now).wf=true∧(Lit.int .i64 x.cls).wf=true∧Pk.Ok x.wy∧True∧(x.changes.length≤maxLen∧∀ a∈x.changes,ZP.Ok a)∧True
theorem Qjb:Rd Tryz.prog 36 Act.Ok Act.cells:=
 Rd.map (Rd.struct (ZV:=11) Tryz.underlying36 (by kernel_rfl) (JX.cons (Rd.int .i64 Tryz.underlying3) (JX.cons (Rd.int .u64 Tryz.underlying25) (JX.cons (Rd.int .i64 Tryz.underlying3) (JX.cons Qi8 (JX.cons (Rd.bool Tryz.underlying4) (JX.cons (Rd.slice 15 Tryz.underlying34 (by kernel_rfl) (by decide) Qja) JX.nil rfl (by kernel_rfl) (by decide)) rfl (by kernel_rfl) (by decide)) rfl (by kernel_rfl) (by decide)) rfl (by kernel_rfl) (by decide)) rfl (by kernel_rfl) (by decide)) rfl (by kernel_rfl) (by decide))) (fun p=>⟨p.1,p.2.1,p.2.2.1,p.2.2.2.1,p.2.2.2.2.1,p.2.2.2.2.2.1⟩) (fun _=>rfl) (fun _ h=>⟨h.1,h.2.1,h.2.2.1,h.2.2.2.1,h.2.2.2.2.1,h.2.2.2.2.2.1,trivial⟩)
@[go_sem] def Qb (n:Int):D:=.raw (.int .i64 n)
@[go_sem] def QN (b:Bool):D:=.raw (.bool b)
@[go_sem] def ints (l:List Int):D:=.imm 1 l.length (mT .i64 l)
structure Ev where
 op:Int
 Xn:Bool
 real:Bool
 at_:Int
 done:Int
 cls:Int
 id:Int
 len:Int
 h0:Int
 h1:Int
 h2:Int
 h3:Int
instance:Inhabited Ev:=⟨⟨0,false,false,0,0,0,0,0,0,0,0,0⟩⟩
@[go_sem] def Ev.cells (e:Ev):List D:=[.raw (.int .i64 e.op),.raw (.bool e.Xn),.raw (.bool e.real),.raw (.int .u64 e.at_),.raw (.int .u64 e.done),.raw (.int .i64 e.cls),.raw (.int .u64 e.id),.raw (.int .i64 e.len),.raw (.int .u16 e.h0),.raw (.int .u16 e.h1),.raw (.int .u16 e.h2),.raw (.int .u16 e.h3)]
def Ev.Ok (x:Ev):Prop:=(Lit.int .i64 x.op).wf=true∧(Lit.int .u64 x.at_).wf=true∧(Lit.int .u64 x.done).wf=true∧(Lit.int .i64 x.cls).wf=true∧(Lit.int .u64 x.id).wf=true∧(Lit.int .i64 x.len).wf=true∧(Lit.int .u16 x.h0).wf=true∧(Lit.int .u16 x.h1).wf=true∧(Lit.int .u16 x.h2).wf=true∧(Lit.int .u16 x.h3).wf=true
def Ev.rows (l:List Ev):Nat→List D:=fun i=>(l.getD i default).cells
@[go_sem] theorem Ev.kS (l:List Ev) (i:Nat):Ev.rows l i=(l.getD i default).cells:=rfl
@[go_sem] def evs (l:List Ev):D:=.imm 12 l.length (Ev.rows l)
theorem wrap64 {n:Int} (h1:-9223372036854775808≤n) (h2:n≤9223372036854775807):IntKind.i64.wrap n=n:=by
 rw[IntKind.wrap_i64];omega
theorem KG {k:Nat} (h:k<4611686018427387904):IntKind.i64.wrap ((k:Int)+1)=((k+1:Nat):Int):=by
 rw[wrap64 (by omega) (by omega)];rfl
theorem bnz {n:Nat} (h:n≠0):((n:Int) == 0)=false:=by simp [h]
theorem dp {n:Nat} (h:n≠0):decide ((0:Int)<n)=true:=by simp;omega
def Qm (d:D):D→List Ob→Prop:=fun d' h=>d'=d∧h=[]
attribute [go_sem] Qm
theorem Qm.flat {d:D} (hd:d.flat=true):∀ d' h,Qm d d' h→d'.flat=true∧∀ o∈h,o.flat:=by
 rintro d' h ⟨rfl,rfl⟩;exact ⟨hd,by simp⟩
theorem getD_take {α:Type} (l:List α) (d:α) (k:Nat) (h:k<l.length):l.take (k+1)=l.take k++[l.getD k d]:=by
 rw[List.take_add_one,List.getElem?_eq_getElem h];simp [List.getD_eq_getElem?_getD,List.getElem?_eq_getElem h]
theorem mixed:Tryz.prog.follows .mixedOrders=true:=by kernel_rfl
theorem getD_map {α β:Type} (f:α→β) (l:List α) (d:α) (e:β) (i:Nat) (h:i<l.length):(l.map f).getD i e=f (l.getD i d):=by simp [List.getD_eq_getElem?_getD,h]
theorem yl {α:Type} (l:List α) (d:α) (i:Nat) (h:i<l.length):l.getD i d∈l:=by simp [List.getD_eq_getElem?_getD,h]
theorem wf_u64 {n:Int} (h:(Lit.int .u64 n).wf=true):0≤n∧n≤18446744073709551615:=by
 simp only[Lit.wf,Bool.and_eq_true,decide_eq_true_eq] at h
 exact h
theorem mU {n:Int} (h1:0≤n) (h2:n≤18446744073709551615):IntKind.u64.wrap n=n:=by rw[IntKind.wrap_u64];omega
@[go_sem] theorem QsM:((0:Nat):Int)=0:=rfl
@[go_sem] theorem QsN:((1:Nat):Int)=1:=rfl
@[go_sem] theorem QsO:((2:Nat):Int)=2:=rfl
@[go_sem] theorem QsP:((3:Nat):Int)=3:=rfl
@[go_sem] theorem QsQ:((4:Nat):Int)=4:=rfl
@[go_sem] theorem QsR:((5:Nat):Int)=5:=rfl
@[go_sem] theorem QsS:((6:Nat):Int)=6:=rfl
@[go_sem] theorem QsT:((7:Nat):Int)=7:=rfl
@[go_sem] theorem QsU:((8:Nat):Int)=8:=rfl
@[go_sem] theorem QsV:((9:Nat):Int)=9:=rfl
@[go_sem] theorem QsW:((10:Nat):Int)=10:=rfl
theorem Xo {a b:Int} (h:a=b):(a == b)=true:=by simp [h]
theorem Vq {a b:Int} (h:a≠b):(a == b)=false:=by simp [h]
end Go.Fg.X
namespace Go.Fg
theorem Qjd {P:Program} {o:Oper} {a:Act} {w:World} {K K':Act→World→Prop} {Q Q':Exit→Act→World→Prop} (hk:∀ a w,K a w→K' a w) (hq:∀ e a w,Q e a w→Q' e a w) (h:o.wp P a w K Q):o.wp P a w K' Q':=by
 unfold Oper.wp at *
 generalize (execOp a.eval o).run P w=r at *
 cases r with
 | ok x w'=>
  cases x <;> simp only[Oper.upon] at h ⊢ <;> first | exact hk _ _ h | exact h | skip
  ·exact h.mono fun e y6 he=>by
    cases e with
    | returned v=>exact hk _ _ he
    | panicked c=>exact hq _ _ _ he
    | outgrown=>obtain ⟨a,w,h⟩:=he;exact ⟨a,w,hq _ _ _ h⟩
  ·exact h.mono fun v y6 he=>hk _ _ he
 | halt x w'=>cases x <;> first | exact h | exact hq _ _ _ h
theorem Lp {P:Program} {Q Q':Exit→Act→World→Prop} (hq:∀ e a w,Q e a w→Q' e a w):∀ (l:List (Oper × G)) (a:Act) (w:World),Wb P Q l a w→Wb P Q' l a w
 | [],a,w,h=>hq _ _ _ h
 | (o,g)::r,a,w,h=>by
  simp only[Wb] at h ⊢
  split at h
  ·rename_i hw
   rw[if_pos hw]
   exact Qjd (fun a w=>Lp hq r a w) hq h
  ·rename_i hw
   rw[if_neg hw]
   exact Lp hq r _ _ h
section
variable {P:Program} {base nt:Nat} {w0:Start} {Q:Exit→St→Prop} {k:List Item} {s s1:St}
def FB (P:Program) (base nt:Nat) (w0:Start) (Q:Exit→St→Prop) (k:List Item) (s1:St):Exit→St→Prop
 | .normal,s=>Ql w0 s s1
 | e,s=>Qs P base nt w0 Q k e s
@[go_sem] theorem QsX:FB P base nt w0 Q k s1 .normal s=Ql w0 s s1:=Jx rfl
@[go_sem] theorem QsY {j:Nat}:FB P base nt w0 Q k s1 (.exit j) s=Qs P base nt w0 Q k (.exit j) s:=Jx rfl
@[go_sem] theorem QsZ:FB P base nt w0 Q k s1 .ret s=Qs P base nt w0 Q k .ret s:=Jx rfl
theorem Pj {x:Item} {c:Code} (s1:St) (h1:Qs P base nt w0 (FB P base nt w0 Q (.code c::k) s1) [x] .normal s) (h2:Qs P base nt w0 Q (.code c::k) .normal s1):Qs P base nt w0 Q (x::.code c::k) .normal s:=by
 cases x with
 | code x=>
  simp only[Qs] at h1
  show A P base nt w0 x _ s
  refine h1.mono fun e s' he=>?_
  cases e with
  | normal=>exact x5 he h2
  | _=>exact he
 | ops l=>
  simp only[Qs] at h1
  show AG P base nt w0 l _ s
  intro Z z pl a w r b
  refine Lp (fun e a' w' ⟨s',Qg,hs,r',b'⟩=>⟨s',Qg,?_,r',b'⟩) _ _ _ (h1 Z z pl a w r b)
  cases e with
  | normal=>exact x5 hs h2
  | _=>exact hs
 | inBlock id=>simp only[Qs] at h1 ⊢;exact x5 h1 h2
 | inScope=>simp only[Qs] at h1 ⊢;exact x5 h1 h2
theorem jG {x:Item} {c:Code} (keep:List Nat) (V:List (Nat × D)) {fr:List (Nat × D)} {h:List Ob} {rest:List (Nat × D)} (hr:IX fr keep=rest)
  (h1:Qs P base nt w0 (FB P base nt w0 Q (.code c::k) ⟨V++rest,h⟩) [x] .normal ⟨fr,h⟩) (h2:Qs P base nt w0 Q (.code c::k) .normal ⟨V++rest,h⟩):Qs P base nt w0 Q (x::.code c::k) .normal ⟨fr,h⟩:=Pj _ h1 h2
@[go_sem] theorem Qs0 {X:Cx}:hx P base w0 Q X nt 0 k s=Qs P base nt w0 Q k .normal s:=by cases k <;> exact Jx rfl
end
end Go.Fg
namespace Go.Fg.X
open Go.Proofs Go.Fg
@[go_sem] def Pm (c:Cv):D:=.agg c.cells
@[go_sem] def Vf (c:Qi):D:=.agg c.cells
def QH (c:Cv):Int:=if c.m1=0∧c.d=0∧c.m2=0 then 1 else if 4294967295<c.m1∨4294967295<c.m2∨1048576<c.d then 0 else if c.d=0∧c.m1=c.m2 then 2 else if 0<c.d∧c.m2<c.m1 then 3 else if 0<c.d∧c.m1=0∧0<c.m2 then 4 else 0
theorem Lq (c:Cv):Q7 Tryz.prog 182 [Pm c] (Qm (Qb (QH c))):=by
 refine Zk 0 Qe 200 Tryz.func182 rfl Tryz.ntmps182 Tryz.results182 rfl fun base w hb=>?_
 simp only[go_sem,simprocAttr]
 repeat' (first | ((first | refine Fc (fun h=>?_) (fun h=>?_) | refine Fe (fun h=>?_) (fun h=>?_) | refine Ff (fun h=>?_) (fun h=>?_) | refine jy (fun h=>?_) (fun h=>?_) | refine Fh (fun h=>?_) (fun h=>?_) | refine Fi (fun h=>?_) (fun h=>?_) | refine Fj (fun h=>?_) (fun h=>?_) | refine E7 (fun h=>?_) (fun h=>?_)) <;> (try simp only[go_sem,simprocAttr])) | (refine And.intro (by omega) ?_;try simp only[go_sem,simprocAttr]))
 all_goals (congr 2;(try simp only[Bool.and_eq_false_iff,beq_eq_false_iff_ne,Bool.and_eq_true,beq_iff_eq,ne_eq] at *);unfold QH;(repeat' split) <;> omega)
theorem Pn (c:Cv):Q7 Tryz.prog 225 [Pm c] (Qm (QN (QH c != 0))):=by
 refine Zk 0 Qe 200 Tryz.func225 rfl Tryz.ntmps225 Tryz.results225 rfl fun base w hb=>?_
 simp only[go_sem,simprocAttr]
 refine QM hb wv rfl ?_ (Lq c) (Qm.flat rfl) rfl fun d h hR=>?_
 ·simp only[go_sem,simprocAttr]
 obtain ⟨rfl,rfl⟩:=hR
 refine Qc hb ?_
 simp only[go_sem,simprocAttr]
theorem Lr (c:Cv):Q7 Tryz.prog 172 [Pm c] (Qm (QN (decide (1<QH c)))):=by
 refine Zk 0 Qe 200 Tryz.func172 rfl Tryz.ntmps172 Tryz.results172 rfl fun base w hb=>?_
 simp only[go_sem,simprocAttr]
 refine QM hb wv rfl ?_ (Lq c) (Qm.flat rfl) rfl fun d h hR=>?_
 ·simp only[go_sem,simprocAttr]
 obtain ⟨rfl,rfl⟩:=hR
 refine Qc hb ?_
 simp only[go_sem,simprocAttr]
theorem wz (c:Qi):Q7 Tryz.prog 111 [Vf c] (Qm (QN (decide (1<QH c.rt)))):=by
 refine Zk 0 Qe 200 Tryz.func111 rfl Tryz.ntmps111 Tryz.results111 rfl fun base w hb=>?_
 simp only[go_sem,simprocAttr]
 refine QM hb Lg rfl ?_ (Lr c.rt) (Qm.flat rfl) rfl fun d h hR=>?_
 ·simp only[go_sem,simprocAttr]
 obtain ⟨rfl,rfl⟩:=hR
 refine Qc hb ?_
 simp only[go_sem,simprocAttr]
theorem Yu (c:Qi):Q7 Tryz.prog 122 [Vf c] (Qm (QN (decide (1<QH c.ls)))):=by
 refine Zk 0 Qe 200 Tryz.func122 rfl Tryz.ntmps122 Tryz.results122 rfl fun base w hb=>?_
 simp only[go_sem,simprocAttr]
 refine QM hb Lg rfl ?_ (Lr c.ls) (Qm.flat rfl) rfl fun d h hR=>?_
 ·simp only[go_sem,simprocAttr]
 obtain ⟨rfl,rfl⟩:=hR
 refine Qc hb ?_
 simp only[go_sem,simprocAttr]
theorem mV (c:Qi):Q7 Tryz.prog 268 [Vf c] (Qm (QN (decide (1<QH c.ul)))):=by
 refine Zk 0 Qe 200 Tryz.func268 rfl Tryz.ntmps268 Tryz.results268 rfl fun base w hb=>?_
 simp only[go_sem,simprocAttr]
 refine QM hb Lg rfl ?_ (Lr c.ul) (Qm.flat rfl) rfl fun d h hR=>?_
 ·simp only[go_sem,simprocAttr]
 obtain ⟨rfl,rfl⟩:=hR
 refine Qc hb ?_
 simp only[go_sem,simprocAttr]
def zF (n a b:Int):Bool:=decide (a≤n) && decide (n≤b)
theorem Ls (n a b:Int):Q7 Tryz.prog 267 [Qb n,Qb a,Qb b] (Qm (QN (zF n a b))):=by
 refine Zk 0 Qe 200 Tryz.func267 rfl Tryz.ntmps267 Tryz.results267 rfl fun base w hb=>?_
 simp only[go_sem,simprocAttr]
 unfold zF
 by_cases h:a≤n
 ·simp only[go_sem,simprocAttr,h]
 ·simp only[go_sem,simprocAttr,h]
def wB (c:Qi):Bool:=zF c.iD 1 65536 && zF c.parent 0 65536 && !(c.parent == c.iD)
def ym (c:Qi):Bool:=(QH c.rt != 0) && ((QH c.ls != 0) && !(QH c.ls == 4)) && ((QH c.ul != 0) && !(QH c.ul == 4))
def Yv (c:Qi):Bool:=zF c.Za 1 64 && zF c.bytes 1 1048576 && (decide (1<QH c.rt) || decide (1<QH c.ls))
def kU (c:Qi):Bool:=c.Za == 0 && c.bytes == 0 && !decide (1<QH c.rt)
def JH (c:Qi):Int:=if !wB c then 1 else if !ym c then 21 else if (c.leaf && !Yv c) || (!c.leaf && !kU c) || (decide (1<QH c.ul) && !decide (1<QH c.ls)) then 29 else 0
structure Qje (c:Qi) (k:Nat) (s:St):Prop where
 h0:0<k→QH c.rt≠0
 h1:1<k→QH c.ls≠0∧QH c.ls≠4
 h2:2<k→QH c.ul≠0∧QH c.ul≠4
 eq:s=⟨[(1,.ptr 0 0 0 0),(2,Qb 0),(30,.agg (c.rt.cells++(c.ls.cells++c.ul.cells))),(31,Qb k)],[⟨.one,0,14,1,fun _=>c.cells⟩]⟩
theorem mW (c:Qi):Q7 Tryz.prog 219 [Vf c] (Qm (Qb (JH c))):=by
 refine Zk 0 Qe 200 Tryz.func219 rfl Tryz.ntmps219 Tryz.results219 rfl fun base w hb=>?_
 simp only[go_sem,simprocAttr]
 refine QM hb Ll rfl ?_ (Ls c.iD 1 65536) (Qm.flat rfl) rfl fun d h hR=>?_
 ·simp only[go_sem,simprocAttr]
 obtain ⟨rfl,rfl⟩:=hR
 refine Qc hb ?_
 simp only[go_sem,simprocAttr]
 cases Je:zF c.iD 1 65536
 ·have:JH c=1:=by simp [JH,wB,Je]
  simp only[go_sem,simprocAttr,this]
 ·simp only[go_sem,simprocAttr]
  refine QM hb Ll rfl ?_ (Ls c.parent 0 65536) (Qm.flat rfl) rfl fun d h hR=>?_
  ·simp only[go_sem,simprocAttr]
  obtain ⟨rfl,rfl⟩:=hR
  refine Qc hb ?_
  simp only[go_sem,simprocAttr]
  cases ZZ:zF c.parent 0 65536
  ·have:JH c=1:=by simp [JH,wB,Je,ZZ]
   simp only[go_sem,simprocAttr,this]
  ·simp only[go_sem,simprocAttr]
   by_cases h3:c.parent=c.iD
   ·have:JH c=1:=by simp [JH,wB,Je,ZZ,h3]
    simp only[go_sem,simprocAttr,Xo h3,this]
   ·simp only[go_sem,simprocAttr,Vq h3]
    have QX:wB c=true:=by simp [wB,Je,ZZ,h3]
    have w1:IntKind.i64.wrap 1=1:=by decide
    have w2:IntKind.i64.wrap 2=2:=by decide
    have w3:IntKind.i64.wrap 3=3:=by decide
    refine ZB (Qje c) 3
     (s0:=⟨[(1,.ptr 0 0 0 0),(2,Qb 0),(30,.agg (c.rt.cells++(c.ls.cells++c.ul.cells))),(31,Qb 0)],[⟨.one,0,14,1,fun _=>c.cells⟩]⟩) (Ql.frame (by simp only[go_sem,simprocAttr])) ⟨by omega,by omega,by omega,rfl⟩ ?_
    rintro k s hk ⟨g0,g1,g2,rfl⟩
    obtain rfl | rfl | rfl | rfl:k=0∨k=1∨k=2∨k=3:=by omega
    ·refine Qc hb ?_
     simp only[go_sem,simprocAttr]
     refine QM hb CD rfl ?_ (Pn c.rt) (Qm.flat rfl) rfl fun d h hR=>?_
     ·simp only[go_sem,simprocAttr]
     obtain ⟨rfl,rfl⟩:=hR
     refine Qc hb ?_
     simp only[go_sem,simprocAttr]
     by_cases r0:QH c.rt=0
     ·have:JH c=21:=by simp [JH,QX,ym,r0]
      simp only[go_sem,simprocAttr,Xo r0,bne,this,Go.undef]
     ·simp only[go_sem,simprocAttr,Vq r0,bne,Go.undef]
      refine ⟨_,Ql.to 1 ⟨?_,by simp only[go_sem,simprocAttr],?_,?_⟩,⟨fun _=>r0,by omega,by omega,rfl⟩⟩ <;> simp only[go_sem,simprocAttr,w1,w2,w3]
    ·refine Qc hb ?_
     simp only[go_sem,simprocAttr]
     refine QM hb CD rfl ?_ (Pn c.ls) (Qm.flat rfl) rfl fun d h hR=>?_
     ·simp only[go_sem,simprocAttr]
     obtain ⟨rfl,rfl⟩:=hR
     refine Qc hb ?_
     simp only[go_sem,simprocAttr]
     by_cases r0:QH c.ls=0
     ·have:JH c=21:=by simp [JH,QX,ym,r0]
      simp only[go_sem,simprocAttr,Xo r0,bne,this,Go.undef]
     ·simp only[go_sem,simprocAttr,Vq r0,bne,Go.undef]
      refine QM hb wv rfl ?_ (Lq c.ls) (Qm.flat rfl) rfl fun d h hR=>?_
      ·simp only[go_sem,simprocAttr]
      obtain ⟨rfl,rfl⟩:=hR
      refine Qc hb ?_
      simp only[go_sem,simprocAttr]
      by_cases r4:QH c.ls=4
      ·have:JH c=21:=by simp [JH,QX,ym,r4]
       simp only[go_sem,simprocAttr,Xo r4,this,Go.undef]
      ·simp only[go_sem,simprocAttr,Vq r4,Go.undef]
       refine ⟨_,Ql.to 1 ⟨?_,by simp only[go_sem,simprocAttr],?_,?_⟩,⟨fun _=>g0 (by omega),fun _=>⟨r0,r4⟩,by omega,rfl⟩⟩ <;> simp only[go_sem,simprocAttr,w1,w2,w3]
    ·refine Qc hb ?_
     simp only[go_sem,simprocAttr]
     refine QM hb CD rfl ?_ (Pn c.ul) (Qm.flat rfl) rfl fun d h hR=>?_
     ·simp only[go_sem,simprocAttr]
     obtain ⟨rfl,rfl⟩:=hR
     refine Qc hb ?_
     simp only[go_sem,simprocAttr]
     by_cases r0:QH c.ul=0
     ·have:JH c=21:=by simp [JH,QX,ym,r0]
      simp only[go_sem,simprocAttr,Xo r0,bne,this,Go.undef]
     ·simp only[go_sem,simprocAttr,Vq r0,bne,Go.undef]
      refine QM hb wv rfl ?_ (Lq c.ul) (Qm.flat rfl) rfl fun d h hR=>?_
      ·simp only[go_sem,simprocAttr]
      obtain ⟨rfl,rfl⟩:=hR
      refine Qc hb ?_
      simp only[go_sem,simprocAttr]
      by_cases r4:QH c.ul=4
      ·have:JH c=21:=by simp [JH,QX,ym,r4]
       simp only[go_sem,simprocAttr,Xo r4,this,Go.undef]
      ·simp only[go_sem,simprocAttr,Vq r4,Go.undef]
       refine ⟨_,Ql.to 1 ⟨?_,by simp only[go_sem,simprocAttr],?_,?_⟩,⟨fun _=>g0 (by omega),fun _=>g1 (by omega),fun _=>⟨r0,r4⟩,rfl⟩⟩ <;> simp only[go_sem,simprocAttr,w1,w2,w3]
    ·have Po:ym c=true:=by
      have a:=g0 (by omega);have b:=g1 (by omega);have d:=g2 (by omega)
      simp [ym,a,b,d]
     clear g0 g1 g2
     refine Qc hb ?_
     simp only[go_sem,simprocAttr]
     first | refine Wc ?_ | skip
     refine jG [1,2] [(5,QN (Yv c))] rfl ?_ ?_
     ·refine Qc hb ?_
      simp only[go_sem,simprocAttr]
      refine QM hb Ll rfl ?_ (Ls c.Za 1 64) (Qm.flat rfl) rfl fun d h hR=>?_
      ·simp only[go_sem,simprocAttr]
      obtain ⟨rfl,rfl⟩:=hR
      refine Qc hb ?_
      simp only[go_sem,simprocAttr]
      cases hp:zF c.Za 1 64
      ·have e:Yv c=false:=by simp [Yv,hp]
       simp only[go_sem,simprocAttr,Go.undef]
       exact Ql.to 1 (by (simp only[go_sem,simprocAttr,e]) <;> simp)
      ·simp only[go_sem,simprocAttr,Go.undef]
       refine QM hb Ll rfl ?_ (Ls c.bytes 1 1048576) (Qm.flat rfl) rfl fun d h hR=>?_
       ·simp only[go_sem,simprocAttr]
       obtain ⟨rfl,rfl⟩:=hR
       refine Qc hb ?_
       simp only[go_sem,simprocAttr]
       cases hq:zF c.bytes 1 1048576
       ·have e:Yv c=false:=by simp [Yv,hp,hq]
        simp only[go_sem,simprocAttr,Go.undef]
        exact Ql.to 1 (by (simp only[go_sem,simprocAttr,e]) <;> simp)
       ·simp only[go_sem,simprocAttr,Go.undef]
        refine QM hb kQ rfl ?_ (wz c) (Qm.flat rfl) rfl fun d h hR=>?_
        ·simp only[go_sem,simprocAttr]
        obtain ⟨rfl,rfl⟩:=hR
        refine Qc hb ?_
        simp only[go_sem,simprocAttr]
        cases hr:decide (1<QH c.rt)
        ·simp only[go_sem,simprocAttr,Go.undef]
         refine QM hb Ys rfl ?_ (Yu c) (Qm.flat rfl) rfl fun d h hR=>?_
         ·simp only[go_sem,simprocAttr]
         obtain ⟨rfl,rfl⟩:=hR
         refine Qc hb ?_
         simp only[go_sem,simprocAttr]
         have e:Yv c=decide (1<QH c.ls):=by simp [Yv,hp,hq,hr]
         exact Ql.to 1 (by (simp only[go_sem,simprocAttr,e]) <;> simp)
        ·have e:Yv c=true:=by simp [Yv,hp,hq,hr]
         simp only[go_sem,simprocAttr,Go.undef]
         exact Ql.to 1 (by (simp only[go_sem,simprocAttr,e]) <;> simp)
     first | refine Wc ?_ | skip
     refine jG [1,2,5] [(6,QN (kU c))] rfl ?_ ?_
     ·refine Qc hb ?_
      simp only[go_sem,simprocAttr]
      by_cases hp:c.Za=0
      ·simp only[go_sem,simprocAttr,Xo hp,Go.undef]
       by_cases hq:c.bytes=0
       ·simp only[go_sem,simprocAttr,Xo hq,Go.undef]
        refine QM hb kQ rfl ?_ (wz c) (Qm.flat rfl) rfl fun d h hR=>?_
        ·simp only[go_sem,simprocAttr]
        obtain ⟨rfl,rfl⟩:=hR
        refine Qc hb ?_
        simp only[go_sem,simprocAttr]
        have e:kU c=!decide (1<QH c.rt):=by simp [kU,hp,hq]
        exact Ql.to 1 (by (simp only[go_sem,simprocAttr,e]) <;> simp)
       ·have e:kU c=false:=by simp [kU,hp,hq]
        simp only[go_sem,simprocAttr,Vq hq,Go.undef]
        exact Ql.to 1 (by (simp only[go_sem,simprocAttr,e]) <;> simp)
      ·have e:kU c=false:=by simp [kU,hp]
       simp only[go_sem,simprocAttr,Vq hp,Go.undef]
       exact Ql.to 1 (by (simp only[go_sem,simprocAttr,e]) <;> simp)
     refine Qc hb ?_
     simp only[go_sem,simprocAttr]
     have hv:JH c=if (c.leaf && !Yv c) || (!c.leaf && !kU c) || (decide (1<QH c.ul) && !decide (1<QH c.ls)) then 29 else 0:=by simp [JH,QX,Po]
     generalize Yv c=lo at hv ⊢
     generalize kU c=io at hv ⊢
     cases hl:c.leaf <;> rw[hl] at hv
     ·cases io
      ·simp at hv
       simp only[go_sem,simprocAttr,Go.undef,hv]
      ·simp only[go_sem,simprocAttr,Go.undef]
       refine QM hb mP rfl ?_ (mV c) (Qm.flat rfl) rfl fun d h hR=>?_
       ·simp only[go_sem,simprocAttr,hl]
       obtain ⟨rfl,rfl⟩:=hR
       refine Qc hb ?_
       simp only[go_sem,simprocAttr,hl]
       cases hu:decide (1<QH c.ul) <;> rw[hu] at hv
       ·simp at hv
        simp only[go_sem,simprocAttr,Go.undef,hv]
       ·simp only[go_sem,simprocAttr,Go.undef]
        refine QM hb Ys rfl ?_ (Yu c) (Qm.flat rfl) rfl fun d h hR=>?_
        ·simp only[go_sem,simprocAttr,hl]
        obtain ⟨rfl,rfl⟩:=hR
        refine Qc hb ?_
        simp only[go_sem,simprocAttr,hl]
        cases hs:decide (1<QH c.ls) <;> rw[hs] at hv <;> simp at hv <;> simp only[go_sem,simprocAttr,Go.undef,hv]
     ·cases lo
      ·simp at hv
       simp only[go_sem,simprocAttr,Go.undef,hv]
      ·simp only[go_sem,simprocAttr,Go.undef]
       refine QM hb mP rfl ?_ (mV c) (Qm.flat rfl) rfl fun d h hR=>?_
       ·simp only[go_sem,simprocAttr,hl]
       obtain ⟨rfl,rfl⟩:=hR
       refine Qc hb ?_
       simp only[go_sem,simprocAttr,hl]
       cases hu:decide (1<QH c.ul) <;> rw[hu] at hv
       ·simp at hv
        simp only[go_sem,simprocAttr,Go.undef,hv]
       ·simp only[go_sem,simprocAttr,Go.undef]
        refine QM hb Ys rfl ?_ (Yu c) (Qm.flat rfl) rfl fun d h hR=>?_
        ·simp only[go_sem,simprocAttr,hl]
        obtain ⟨rfl,rfl⟩:=hR
        refine Qc hb ?_
        simp only[go_sem,simprocAttr,hl]
        cases hs:decide (1<QH c.ls) <;> rw[hs] at hv <;> simp at hv <;> simp only[go_sem,simprocAttr,Go.undef,hv]
def Cv.Nn (c:Cv):Prop:=0≤c.m1∧0≤c.d∧0≤c.m2
def Qi.Nn (c:Qi):Prop:=c.rt.Nn∧c.ls.Nn∧c.ul.Nn
end Go.Fg.X
namespace Go.Fg
open Go.RowKit (Below)
def wC (es:List QK):Prop:=(es.map (·.b)).Pairwise (·<·)
theorem XO.mX {Z:Nat→Prop} {h:List Ob} {pl:List Pl} {w:World} {q:IntKind} {c:Nat} {es:List QK} {Q1:List MapEntry} (E:XO Z h pl w q c es Q1):wC es:=by
 unfold wC
 rw[List.pairwise_iff_getElem]
 intro i j hi hj JN
 simp only[List.length_map] at hi hj
 have hl:=E.len
 obtain ⟨_,_,h1,_⟩:=E.at_ i es[i] Q1[i] (List.getElem?_eq_getElem hi) (List.getElem?_eq_getElem (by omega))
 obtain ⟨_,_,h2,_⟩:=E.at_ j es[j] Q1[j] (List.getElem?_eq_getElem hj) (List.getElem?_eq_getElem (by omega))
 have:=E.inc i j Q1[i] Q1[j] JN (List.getElem?_eq_getElem (by omega)) (List.getElem?_eq_getElem (by omega))
 simp only[List.getElem_map]
 omega
theorem wC.inj {es:List QK} (B:wC es) {e e':QK} (h:e∈es) (h':e'∈es) (hb:e.b=e'.b):e=e':=by
 unfold wC at B
 rw[List.pairwise_iff_getElem] at B
 obtain ⟨i,hi,rfl⟩:=List.getElem_of_mem h
 obtain ⟨j,hj,rfl⟩:=List.getElem_of_mem h'
 rcases Nat.lt_trichotomy i j with h1 | h1 | h1
 ·have:=B i j (by simpa using hi) (by simpa using hj) h1;simp only[List.getElem_map] at this;omega
 ·subst h1;rfl
 ·have:=B j i (by simpa using hj) (by simpa using hi) h1;simp only[List.getElem_map] at this;omega
theorem wC.nodup {es:List QK} (B:wC es):(es.map (·.b)).Nodup:=by
 unfold List.Nodup
 exact List.Pairwise.imp (fun h=>Nat.ne_of_lt h) B
def qH (es:List QK) (seen:List Nat):Nat:=(es.filter fun e=>!seen.contains e.b).length
theorem mY:∀ {es:List QK} {seen:List Nat} {e:QK},e∈es→e.b ∉ seen→qH es (seen++[e.b])<qH es seen
 | [],_,_,h,_=>by simp at h
 | x::es,seen,e,h,hs=>by
  have le:∀ es:List QK,qH es (seen++[e.b])≤qH es seen:=fun es=>by
   induction es with
   | nil=>exact Nat.le_refl _
   | cons y r ih=>
    simp only[qH,List.filter_cons] at ih ⊢
    by_cases h1:y.b∈seen <;> by_cases h2:y.b=e.b <;> simp_all <;> omega
  rcases List.mem_cons.1 h with rfl | h
  ·have:=le es
   simp only[qH,List.filter_cons] at this ⊢
   simp_all
   omega
  ·have:=mY h hs
   simp only[qH,List.filter_cons] at this ⊢
   by_cases h1:x.b∈seen <;> by_cases h2:x.b=e.b <;> simp_all <;> omega
section
variable {P:Program} {L:Zd} {base nt:Nat} {w0:Start} {Q:Exit→St→Prop}
theorem Qjf {Z:Nat→Prop} {s:St} {pl:List Pl} {a:Act} {w:World} (r:Rel Z base nt s pl a w) {l c:Nat} {es:List QK} {kd:Kd} {q:IntKind} (Z9:kd.ty=1) (QY:s.h[l]? = some (Kc kd q c es)):wC es:=by
 have hl:l<pl.length:=by rw[r.o.len];exact Jr QY
 cases hp:pl[l] with
 | none=>
  have:=r.o.JU l _ QY (by rw[List.getElem?_eq_getElem hl,hp])
  simp [Kc] at this
 | some bq=>
  obtain ⟨b,p⟩:=bq
  obtain ⟨_,x⟩:=r.o.at_ l _ b p QY (by rw[List.getElem?_eq_getElem hl,hp])
  obtain ⟨_,Q1,_,E⟩:=HX Z9 x
  exact E.mX
theorem Qjg {c0:Code} {k:List Item} {s:St} {l c:Nat} {es:List QK} {kd:Kd} {q:IntKind} (Z9:kd.ty=1) (QY:s.h[l]? = some (Kc kd q c es)) (hk:wC es→Qs P base nt w0 Q (.code c0::k) .normal s):Qs P base nt w0 Q (.code c0::k) .normal s:=by
 simp only[Qs] at hk ⊢
 intro Z z pl a w r b
 exact hk (Qjf r Z9 QY) Z z pl a w r b
theorem Qjh {o:Oper} {s:St} {x:Operand} (ho:o.op=.entry x) {li l c:Nat} {es:List QK} {seen:List Nat} {q:IntKind} {kd:Kd} {e:QK}
  (hx:Qp s.fr x=.mref li 0) (Wz:s.h[li]? = some (Vp l c c (seen++[e.b]))) (Z9:kd.ty=1) (QY:s.h[l]? = some (Kc kd q c es)) (he:e∈es):Ki P base nt o s (.tup [.raw (.int q e.k),e.v]):=by
 intro Z pl a w r
 have e1:=r.eval x
 rw[hx] at e1
 obtain ⟨o',p,b,h1,h2,h3,h4,h5⟩:=y9 e1
 rw[Wz] at h1;cases h1
 have h5:=h5 rfl
 rw[h5] at h2
 obtain ⟨Q9,jr⟩:=r.o.at_ li _ b 0 Wz h2
 obtain ⟨_,m,sn,hb,js,EE⟩:=UO jr
 have hv:a.eval x=.pointer (some ⟨b,0,none⟩):=h3.2
 obtain ⟨o2,p2,bm,k1,k2,k3,k4,k5⟩:=y9 EE
 rw[QY] at k1;cases k1
 have k5:=k5 rfl
 rw[k5] at k2
 have k3:=k3.2
 rw[show (Kc kd q c es).kd.ty=1 from Z9] at k3
 have k3:m=bm:=by simpa [Ei] using k3
 subst k3
 obtain ⟨EF,Oe⟩:=r.o.at_ l _ m 0 QY k2
 obtain ⟨_,Q1,Ap,E⟩:=HX Z9 Oe
 have hl:es.length=Q1.toList.length:=E.len
 obtain ⟨j,hj⟩:=List.getElem?_of_mem he
 have Qd:=(List.getElem?_eq_some_iff.1 hj).1
 obtain ⟨d1,d2,d3,d4⟩:=E.at_ j e (Q1.toList[j]'(by omega)) hj (List.getElem?_eq_getElem (by omega))
 have ZI:(Q1.toList.map (·.born)).Nodup:=by
  have:Q1.toList.map (·.born)=es.map (·.b):=by
   apply List.ext_getElem (by simp [hl])
   intro i h1 h2
   simp only[List.length_map] at h1 h2
   obtain ⟨_,_,g,_⟩:=E.at_ i (es[i]'(by omega)) (Q1.toList[i]'(by omega)) (List.getElem?_eq_getElem (by omega)) (List.getElem?_eq_getElem (by omega))
   simp only[List.getElem_map,g]
  rw[this];exact E.mX.nodup
 have Qji:sn=(seen.toArray).push (Q1.toList[j]'(by omega)).born:=by
  apply Array.toList_inj.1
  rw[js,d3];simp
 have Jp:=hb
 rw[Qji] at Jp
 refine ⟨.tuple #[(Q1.toList[j]'(by omega)).key,(Q1.toList[j]'(by omega)).val],?_,fun w' ew=>?_⟩
 ·rw[d1]
  exact .tup _ [.int q e.k,(Q1.toList[j]'(by omega)).val] rfl fun i hi=>match i,hi with
   | 0,_=>.cl _ _ (.raw _)
   | 1,_=>d2
 ·have QS:=run_entry_at (P:=P) w' b m c seen.toArray Q1 c (Q1.toList[j]'(by omega)) (by rw[ew b (qt Jp)];exact Jp) (by rw[ew m (qt Ap)];exact Ap) (List.getElem_mem _) ZI
  simp [execOp,ho,hv,QS]
theorem Qjj {k:List Item} {dst:Option Nat} {ty:TypeId} {pos:String} {after:Array Edge} {gd:Option (Nat × Bool)} {r:List (Oper × G)} {s:St} {x:Operand} {li l c:Nat} {es:List QK} {seen:List Nat} {q:IntKind} {kd:Kd} {e:QK}
  (hx:Qp s.fr x=.mref li 0) (Wz:s.h[li]? = some (Vp l c c (seen++[e.b]))) (Z9:kd.ty=1) (QY:s.h[l]? = some (Kc kd q c es)) (he:e∈es) (ht:Zi nt dst=true)
  (h1:Qs P base nt w0 Q (.ops r::k) .normal ⟨Q8 s.fr dst (.tup [.raw (.int q e.k),e.v]),s.h⟩) :
  Qs P base nt w0 Q (.ops ((⟨dst,.entry x,ty,pos,after,gd⟩,none)::r)::k) .normal s:=by
 simp only[Qs] at h1 ⊢
 exact Oi (Qjh rfl hx Wz Z9 QY he) ht h1
end
end Go.Fg
namespace Go.Fg
open Go.RowKit (Below)
open Go.Proofs Go.Shelf Go.Sort
def sorted (zs:List Int):List Int:=zs.mergeSort fun x y=>decide (x≤y)
theorem yn (zs:List Int):(sorted zs).length=zs.length:=by simp [sorted]
def Yw (off:Nat) (row:Nat→List D) (ts:List Int):Nat→List D:=fun i=>if off≤i∧i<off+ts.length then [.raw (.int .i64 (ts.getD (i - off) 0))] else row i
variable {P:Program} {ρ:Ren}
theorem Qjk {w:World} {b n o:Nat} {os:Array Obj} {cur:Array Value} {e:TypeId} {fr:Nat × Nat} (d:Array Int) (hb:w.heap[b]? = some (.cells cur e fr)) :
  (grow (putRow (Value.int .i64) (Sort.ahead w n) b o d) os).heap[b]? = some (.cells (putCells (Value.int .i64) o d cur) e fr):=by
 have hg:b<w.heap.size:=(Array.getElem?_eq_some_iff.1 hb).1
 rw[heap_grow_old _ _ (by simpa using hg)]
 simp [putRow,mapBlock,Sort.ahead,Array.getElem?_modify,hb,onCells]
theorem Qjl {w:World} {b n o:Nat} {os:Array Obj} (d:Array Int):w.grownBy (grow (putRow (Value.int .i64) (Sort.ahead w n) b o d) os) (some b):=by
 refine ⟨rfl,rfl,rfl,by simp,fun k hk QD=>?_⟩
 rw[heap_grow_old _ _ (by simpa using hk)]
 have:b≠k:=fun e=>QD (by rw[e])
 simp [putRow,mapBlock,Sort.ahead,Array.getElem?_modify,this]
theorem Qjm (Ly:Lays.n189 P ρ) {h:List Ob} {l g off N:Nat} {row:Nat→List D} {zs:List Int} (ho:h[l]? = some ⟨.arr,g,1,N,row⟩) (hn:off+zs.length≤N) (hr:∀ i,i<zs.length→row (off+i)=[.raw (.int .i64 (zs.getD i 0))]) (hlen:zs.length<4611686018427387904) :
  QG P (ρ.f 189) h [.ref l g off zs.length] (fun d h'=>d=.tup []∧h'=h.set l ⟨.arr,g,1,N,Yw off row (sorted zs)⟩):=by
 intro Z base w pl vs QI hZ R Yp hv
 match vs,Yp with
 | [v],_=>
 have r0:=hv 0 (by simp)
 obtain ⟨o,p,a,cap,e1,h1,h2,h3,h4,h5⟩:=xF r0
 rw[ho] at h1;cases h1
 have e1:v=.slice a zs.length cap:=e1
 have jD:=h5 rfl
 subst e1
 have Qd:l<h.length:=Jr ho
 by_cases h0:zs.length=0
 ·have hz:zs=[]:=List.length_eq_zero_iff.1 h0
  subst hz
  refine (Any.slices_Sort_int_none Ly a cap w).mono ?_
  rintro e w' ⟨rfl,rfl⟩
  have hs:h.set l ⟨.arr,g,1,N,Yw off row (sorted [])⟩=h:=by
   have:Yw off row (sorted [])=row:=by
    funext i
    have:¬ (off≤i∧i<off+(sorted []).length):=by rw[yn];simp
    unfold Yw;rw[if_neg this]
   rw[this]
   apply List.ext_getElem?
   intro i
   by_cases hi:l=i
   ·subst hi;rw[List.getElem?_set_self Qd,ho]
   ·rw[List.getElem?_set_ne hi]
  rw[hs]
  exact ⟨_,.tup [],h,pl,rfl,⟨rfl,rfl⟩,R,.tup [] [] rfl (fun i hi=>by simp at hi),Tr.refl _ _ _,.refl _ _⟩
 ·rcases jD with ⟨h6,_⟩ | ⟨b,q,c,el,rfl,rfl,hb,xP,ZY⟩
  ·exact absurd h6 h0
  ·obtain ⟨xE,jr⟩:=R.at_ l _ b q ho h2
   obtain ⟨c',HG,Jp,ZO,Z5,ZN⟩:=jr.cells rfl
   rw[hb] at Jp;cases Jp
   simp only[Nat.mul_one] at xP ZO ZN ⊢
   have ko:∀ i,i<zs.length→c[q+off+i]? = some (.int .i64 (zs.getD i 0)):=fun i hi=>by
    obtain ⟨u,hu,xS⟩:=ZN (off+i) 0 (by show off+i<N;omega) (by show 0<1;omega)
    have e2:(row (off+i))=_:=hr i hi
    have xS:Qv Z h pl w (nth (row (off+i)) 0) u:=xS
    rw[e2] at xS
    have:=ZC xS
    rw[show q+off+i=q+(off+i+0) by omega,hu,this]
   have hH:Holds (Value.int .i64) w b (q+off) zs.toArray:=by
    intro j hj
    have Kj:j<zs.length:=by simpa using hj
    refine ⟨?_,by simp [World.frozen?,hb]⟩
    rw[World.cell?_of_block (w:=w) (w':=w) rfl]
    simp only[World.cell?,hb]
    simp only[Option.isSome_none,Bool.false_eq_true,if_false]
    rw[ko j Kj]
    simp [List.getD_eq_getElem?_getD,Kj]
   refine (Any.slices_Sort_int Ly b (q+off) cap zs w hH (qt hb) hlen).mono ?_
   rintro e w' ⟨rfl,n,os,hw⟩
   have hG:w.grownBy w' (some b):=by rw[hw];exact Qjl _
   have ZU:w'.heap[b]? = some (.cells (putCells (Value.int .i64) (q+off) (sorted zs).toArray c) el (0,0)):=by rw[hw];exact Qjk _ hb
   have Zz:(putCells (Value.int .i64) (q+off) (sorted zs).toArray c).size=c.size:=by simp [putCells]
   have hold:∀ k,k≠b→k<w.heap.size→w'.heap[k]? = w.heap[k]? := fun k hk Qd=>hG.block k Qd (fun e=>hk (by cases e;rfl))
   have Qjn:base≤b:=xE rfl
   have hB:Below base w w':=(Below.refl base w).grown hG QI (fun k hk=>by cases hk;exact Qjn)
   have T:=Tr.Zg (w':=w') (o':=⟨.arr,g,1,N,Yw off row (sorted zs)⟩) R ho h2 rfl rfl rfl hold (fun c1 ND e1=>by rw[hb] at e1;cases e1;exact ⟨_,ZU,Zz⟩)
   have qI:∀ i,i<c.size→(putCells (Value.int .i64) (q+off) (sorted zs).toArray c)[i]? = if q+off≤i∧i<q+off+zs.length then some (.int .i64 ((sorted zs).getD (i - (q+off)) 0)) else c[i]? := fun i hi=>by
    have hl:(sorted zs).toArray.size=zs.length:=by simp [yn]
    simp only[putCells,Array.getElem?_mapIdx,hl,Array.getElem?_eq_getElem hi,Option.map_some]
    split
    ·rename_i VI
     have:i - (q+off)<(sorted zs).length:=by rw[yn];omega
     simp [List.getD_eq_getElem?_getD,this]
    ·rfl
   refine ⟨_,.tup [],_,pl,rfl,⟨rfl,rfl⟩,QT.Zg (w':=w') (o':=⟨.arr,g,1,N,Yw off row (sorted zs)⟩) R ho h2 rfl rfl rfl rfl hold hb ZU Zz (by rw[Zz];simpa using ZO) (fun i hi=>?_) (fun i j hi hj=>?_) rfl,.tup [] [] rfl (fun i hi=>by simp at hi),T,hB⟩
   ·show (Yw off row (sorted zs) i).length=1
    unfold Yw
    split
    ·rfl
    ·exact Z5 i hi
   ·have hi:i<N:=hi
    have hj:j<1:=hj
    have hj0:j=0:=by omega
    subst hj0
    have hic:q+(i+0)<c.size:=by omega
    show ∃ v,(putCells (Value.int .i64) (q+off) (sorted zs).toArray c)[q+(i*1+0)]? = some v∧Qv Z _ pl w' (nth (Yw off row (sorted zs) i) 0) v
    rw[Nat.mul_one,qI _ hic]
    have hsr:Yw off row (sorted zs) i=if off≤i∧i<off+zs.length then [.raw (.int .i64 ((sorted zs).getD (i - off) 0))] else row i:=by unfold Yw;rw[yn]
    rw[hsr]
    by_cases VI:off≤i∧i<off+zs.length
    ·rw[if_pos (by omega),if_pos VI]
     exact ⟨_,rfl,by rw[show q+(i+0) - (q+off)=i - off by omega];exact .cl _ _ (.raw _)⟩
    ·rw[if_neg (by omega),if_neg VI]
     obtain ⟨u,hu,xS⟩:=ZN i 0 hi hj
     exact ⟨u,hu,xS.tr T⟩
end Go.Fg
namespace Go.Fg.X
open Go.Proofs Go.Fg
def Qr (L:List Qi) (k:Int):Option Qi:=L.find? fun c=>c.iD == k
def J1 (e:QK):Int × D:=(e.k,e.v)
def VC (c:Qi):Int × D:=(c.iD,Vf c)
def KH (L:List Qi):Prop:=L.Pairwise fun a b=>a.iD<b.iD
structure JK (es:List QK) (L:List Qi):Prop where
 perm:(es.map J1).Perm (L.map VC)
 sorted:KH L
theorem mZ {α:Type} {f:α→Int}:∀ {l:List α},(l.map f).Nodup→∀ {x y:α},x∈l→y∈l→f x=f y→x=y
 | [],_,x,_,hx,_,_=>by simp at hx
 | a::l,hn,x,y,hx,hy,e=>by
  simp only[List.map_cons,List.nodup_cons,List.mem_map,not_exists,not_and] at hn
  rcases List.mem_cons.1 hx with h1 | h1 <;> rcases List.mem_cons.1 hy with h2 | h2
  ·rw[h1,h2]
  ·exact absurd (by rw[← e,h1]) (hn.1 y h2)
  ·exact absurd (by rw[e,h2]) (hn.1 x h1)
  ·exact mZ hn.2 h1 h2 e
theorem KH.nd {L:List Qi} (h:KH L):(L.map (·.iD)).Nodup:=by
 unfold List.Nodup
 rw[List.pairwise_map]
 exact List.Pairwise.imp (fun h=>by omega) h
theorem JK.jH {es:List QK} {L:List Qi} (T:JK es L):K8 es:=by
 have h1:es.map (·.k)=(es.map J1).map Prod.fst:=by simp [J1,Function.comp_def]
 have h2:(L.map VC).map Prod.fst=L.map (·.iD):=by simp [VC,Function.comp_def]
 unfold K8
 rw[h1,(T.perm.map Prod.fst).nodup_iff,h2]
 exact T.sorted.nd
theorem Pp:∀ {es:List QK},K8 es→∀ {k:Int} {v:D},JE es k=some v↔(k,v)∈es.map J1
 | [],_,k,v=>by simp [JE]
 | e::es,hn,k,v=>by
  have V3:K8 es:=by unfold K8 at hn ⊢;simp only[List.map_cons,List.nodup_cons] at hn;exact hn.2
  simp only[JE]
  by_cases h:e.k=k
  ·rw[if_pos h]
   constructor
   ·rintro ⟨rfl⟩;simp [J1,h]
   ·intro hm
    simp only[List.map_cons,List.mem_cons] at hm
    rcases hm with hm | hm
    ·simp only[J1,Prod.mk.injEq] at hm;rw[hm.2]
    ·exfalso
     obtain ⟨e',KZ,hh⟩:=List.mem_map.1 hm
     simp only[J1,Prod.mk.injEq] at hh
     unfold K8 at hn
     simp only[List.map_cons,List.nodup_cons,List.mem_map,not_exists,not_and] at hn
     exact hn.1 e' KZ (by rw[hh.1,h])
  ·rw[if_neg h,Pp V3]
   simp only[List.map_cons,List.mem_cons]
   constructor
   ·exact fun h=>.inr h
   ·rintro (hm | hm)
    ·simp only[J1,Prod.mk.injEq] at hm;exact absurd hm.1.symm h
    ·exact hm
theorem KQ {L:List Qi} (h:KH L) {k:Int} {c:Qi}:Qr L k=some c↔c∈L∧c.iD=k:=by
 constructor
 ·intro e
  exact ⟨List.mem_of_find?_eq_some e,by have:=List.find?_some e;simpa using this⟩
 ·rintro ⟨hm,rfl⟩
  cases hf:Qr L c.iD with
  | none=>
   have:=List.find?_eq_none.1 hf c hm
   simp at this
  | some d=>
   have h1:=List.mem_of_find?_eq_some hf
   have h2:d.iD=c.iD:=by have:=List.find?_some hf;simpa using this
   rw[mZ h.nd h1 hm h2]
theorem yo {L:List Qi} {k:Int}:Qr L k=none↔∀ c∈L,c.iD≠k:=by
 simp [Qr,List.find?_eq_none]
theorem JK.look {es:List QK} {L:List Qi} (T:JK es L) (k:Int):JE es k=(Qr L k).map Vf:=by
 cases hf:Qr L k with
 | some c=>
  obtain ⟨h1,h2⟩:=(KQ T.sorted).1 hf
  rw[Option.map_some,Pp T.jH,T.perm.mem_iff]
  exact List.mem_map.2 ⟨c,h1,by simp [VC,h2]⟩
 | none=>
  rw[Option.map_none]
  cases ha:JE es k with
  | none=>rfl
  | some v=>
   rw[Pp T.jH,T.perm.mem_iff] at ha
   obtain ⟨c,hc,e⟩:=List.mem_map.1 ha
   simp only[VC,Prod.mk.injEq] at e
   exact absurd e.1 (yo.1 hf c hc)
theorem JK.len {es:List QK} {L:List Qi} (T:JK es L):es.length=L.length:=by
 have:=T.perm.length_eq
 simpa using this
theorem JK.nil:JK [] []:=⟨by simp,by simp [KH]⟩
def Ke:List Qi→Qi→List Qi
 | [],x=>[x]
 | c::r,x=>if x.iD<c.iD then x::c::r else if c.iD=x.iD then x::r else c::Ke r x
def KR (L:List Qi) (k:Int):List Qi:=L.filter fun c=>c.iD != k
theorem FC {α:Type} {p:α→Bool} {l:List α} (h:∀ x∈l,p x=true):l.filter p=l:=List.filter_eq_self.2 h
theorem AO:∀ {L:List Qi} (x:Qi),KH L→(Ke L x).Perm (x::KR L x.iD)
 | [],x,_=>by simp [Ke,KR]
 | c::r,x,h=>by
  have hr:KH r:=List.Pairwise.of_cons h
  have hc:∀ d∈r,c.iD<d.iD:=fun d hd=>(List.pairwise_cons.1 h).1 d hd
  simp only[Ke]
  by_cases h1:x.iD<c.iD
  ·rw[if_pos h1]
   have:KR (c::r) x.iD=c::r:=FC fun d hd=>by
    rcases List.mem_cons.1 hd with rfl | hd
    ·simp;omega
    ·have:=hc d hd;simp;omega
   rw[this]
  ·rw[if_neg h1]
   by_cases h2:c.iD=x.iD
   ·rw[if_pos h2]
    have e1:KR r x.iD=r:=FC fun d hd=>by have:=hc d hd;simp;omega
    have:KR (c::r) x.iD=r:=by unfold KR at e1 ⊢;rw[List.filter_cons_of_neg (by simp [h2]),e1]
    rw[this]
   ·rw[if_neg h2]
    have:KR (c::r) x.iD=c::KR r x.iD:=by unfold KR;rw[List.filter_cons_of_pos (by simp [h2])]
    rw[this]
    exact ((AO x hr).cons c).trans (List.Perm.swap x c _)
theorem CG:∀ {L:List Qi} (x:Qi),KH L→KH (Ke L x)
 | [],x,_=>by simp [Ke,KH]
 | c::r,x,h=>by
  have hr:KH r:=List.Pairwise.of_cons h
  have hc:∀ d∈r,c.iD<d.iD:=fun d hd=>(List.pairwise_cons.1 h).1 d hd
  simp only[Ke]
  by_cases h1:x.iD<c.iD
  ·rw[if_pos h1]
   exact List.pairwise_cons.2 ⟨fun d hd=>by
    rcases List.mem_cons.1 hd with rfl | hd
    ·exact h1
    ·have:=hc d hd;omega,h⟩
  ·rw[if_neg h1]
   by_cases h2:c.iD=x.iD
   ·rw[if_pos h2]
    exact List.pairwise_cons.2 ⟨fun d hd=>by have:=hc d hd;omega,hr⟩
   ·rw[if_neg h2]
    refine List.pairwise_cons.2 ⟨fun d hd=>?_,CG x hr⟩
    have:=(AO x hr).mem_iff.1 hd
    rcases List.mem_cons.1 this with rfl | Jz
    ·omega
    ·exact hc d (List.mem_filter.1 Jz).1
theorem Pq {L:List Qi} (k:Int) (h:KH L):KH (KR L k):=List.Pairwise.filter _ h
theorem m4:∀ {es:List QK} (k:Int) (v:D),K8 es→(∃ u,JE es k=some u)→((zq es k v).map J1).Perm ((k,v)::(es.map J1).filter fun p=>p.1 != k)
 | [],k,v,_,h=>by simp [JE] at h
 | e::es,k,v,hn,h=>by
  have Jb:=hn
  unfold K8 at Jb
  simp only[List.map_cons,List.nodup_cons,List.mem_map,not_exists,not_and] at Jb
  simp only[zq]
  by_cases he:e.k=k
  ·rw[if_pos he]
   have e1:(es.map J1).filter (fun p=>p.1 != k)=es.map J1:=FC fun p hp=>by
    obtain ⟨e',KZ,rfl⟩:=List.mem_map.1 hp
    have:=Jb.1 e' KZ
    simp [J1];omega
   have:((e::es).map J1).filter (fun p=>p.1 != k)=es.map J1:=by rw[List.map_cons,List.filter_cons_of_neg (by simp [J1,he]),e1]
   rw[this]
   simp [J1]
  ·rw[if_neg he]
   have h2:∃ u,JE es k=some u:=by simpa only [JE,if_neg he] using h
   have:((e::es).map J1).filter (fun p=>p.1 != k)=J1 e::(es.map J1).filter (fun p=>p.1 != k):=by rw[List.map_cons,List.filter_cons_of_pos (by simp [J1,he])]
   rw[this,List.map_cons]
   exact ((m4 k v Jb.2 h2).cons _).trans (List.Perm.swap _ _ _)
theorem Qjr {es:List QK} {L:List Qi} (T:JK es L) (q:IntKind) (c:Nat) (x:Qi):∃ c' es',J5 q c es x.iD (Vf x)=QE q c' es'∧JK es' (Ke L x):=by
 have hp:((Ke L x).map VC).Perm ((x.iD,Vf x)::(L.map VC).filter fun p=>p.1 != x.iD):=by
  have:=(AO x T.sorted).map VC
  rw[List.map_cons] at this
  refine this.trans ?_
  have:(L.map VC).filter (fun p=>p.1 != x.iD)=(KR L x.iD).map VC:=by
   rw[List.filter_map];rfl
  rw[this]
  exact List.Perm.refl _
 have hf:=T.perm.filter fun p=>p.1 != x.iD
 unfold J5
 cases ha:JE es x.iD with
 | some u=>exact ⟨c,_,rfl,⟨(m4 x.iD (Vf x) T.jH ⟨u,ha⟩).trans ((hf.cons _).trans hp.symm),CG x T.sorted⟩⟩
 | none=>
  refine ⟨c+1,_,rfl,⟨?_,CG x T.sorted⟩⟩
  have e1:(es.map J1).filter (fun p=>p.1 != x.iD)=es.map J1:=FC fun p hp=>by
   obtain ⟨e',KZ,rfl⟩:=List.mem_map.1 hp
   have:=(EC ha).1 e' KZ
   simp [J1];omega
  rw[e1] at hf
  rw[List.map_append]
  refine List.perm_append_comm.trans ?_
  exact (hf.cons (x.iD,Vf x)).trans hp.symm
theorem m5:∀ {es:List QK} (k:Int),K8 es→((ZM es k).map J1)=((es.map J1).filter fun p=>p.1 != k)
 | [],k,_=>rfl
 | e::es,k,hn=>by
  have Jb:=hn
  unfold K8 at Jb
  simp only[List.map_cons,List.nodup_cons,List.mem_map,not_exists,not_and] at Jb
  simp only[ZM]
  by_cases he:e.k=k
  ·rw[if_pos he,List.map_cons,List.filter_cons_of_neg (by simp [J1,he])]
   exact (FC fun p hp=>by
    obtain ⟨e',KZ,rfl⟩:=List.mem_map.1 hp
    have:=Jb.1 e' KZ
    simp [J1];omega).symm
  ·rw[if_neg he,List.map_cons,List.map_cons,List.filter_cons_of_pos (by simp [J1,he]),m5 k Jb.2]
theorem m6 {es:List QK} {L:List Qi} (T:JK es L) (k:Int):JK (ZM es k) (KR L k):=by
 refine ⟨?_,Pq k T.sorted⟩
 rw[m5 k T.jH]
 have:(L.map VC).filter (fun p=>p.1 != k)=(KR L k).map VC:=by rw[List.filter_map];rfl
 rw[← this]
 exact T.perm.filter _
theorem m7 {zs ts:List Int} (h:zs.Perm ts) (hs:ts.Pairwise (·<·)):sorted zs=ts:=by
 refine List.Perm.eq_of_pairwise (le:=fun a b=>a≤b) (fun a b _ _ h1 h2=>by omega) ?_ (hs.imp (fun h=>by omega)) ((List.mergeSort_perm _ _).trans h)
 have:=List.pairwise_mergeSort (le:=fun x y:Int=>decide (x≤y)) (fun a b c h1 h2=>by simp at *;omega) (fun a b=>by simp;omega) zs
 exact this.imp (fun h=>by simpa using h)
section
variable (h:List Ob) (t m c:Nat) {es:List QK} {L:List Qi} (T:JK es L)
 (ht:(h.map Ob.ro)[t]? = some ⟨.Ku,0,1,1,fun _=>[.mref m 0]⟩) (hm:(h.map Ob.ro)[m]? = some (QE .i64 c es).ro)
include T ht hm
theorem m8 (id:Int):QQ Tryz.prog 56 h [.ptr t 0 0 0,Qb id] (fun d=>d=.tup [Vf ((Qr L id).getD default),Qb (if (Qr L id).isSome then 0 else 6)]):=by
 have hk:=T.look id
 cases hf:Qr L id with
 | none=>
  rw[hf,Option.map_none] at hk
  refine Zh Qe 200 Tryz.func56 rfl Tryz.ntmps56 Tryz.results56 rfl fun base w pl F hF QR hb=>?_
  rw[← hF] at ht hm
  have QV:=Qd ht
  have QP:=Qd hm
  simp only[go_sem,simprocAttr,Qa,ht,QV,hm,QP,hk]
  exact ⟨_,rfl,rfl⟩
 | some x=>
  rw[hf,Option.map_some] at hk
  refine Zh Qe 200 Tryz.func56 rfl Tryz.ntmps56 Tryz.results56 rfl fun base w pl F hF QR hb=>?_
  rw[← hF] at ht hm
  have QV:=Qd ht
  have QP:=Qd hm
  simp only[go_sem,simprocAttr,Qa,ht,QV,hm,QP,hk]
  exact ⟨_,rfl,rfl⟩
end
def JY (F H:List Ob):Prop:=∃ g,H=F++g
theorem JY.refl (F:List Ob):JY F F:=⟨[],by simp⟩
theorem JY.app {F H:List Ob} (h:JY F H) (g:List Ob):JY F (H++g):=by
 obtain ⟨x,rfl⟩:=h
 exact ⟨x++g,by simp⟩
theorem JY.set {F H:List Ob} (h:JY F H) {lo:Nat} (hl:F.length≤lo) (o:Ob):JY F (H.set lo o):=by
 obtain ⟨x,rfl⟩:=h
 exact ⟨x.set (lo - F.length) o,by rw[List.set_append_right _ _ hl]⟩
theorem JY.len {F H:List Ob} (h:JY F H):F.length≤H.length:=by
 obtain ⟨x,rfl⟩:=h
 simp
theorem JY.get {F H:List Ob} (h:JY F H) {l:Nat} {o:Ob} (e:F[l]? = some o):H[l]? = some o:=by
 obtain ⟨x,rfl⟩:=h
 rw[QU (Qd e)];exact e
def Z3 (n:Nat) (H:List Ob) (d:D) (L:List Int):Prop:=(d=.nil∧L=[])∨∃ lo g off row,d=.ref lo g off L.length∧(n≤lo∧off=0)∧H[lo]? = some ⟨.arr,g,1,off+L.length,row⟩∧∀ i,i<L.length→row (off+i)=[Qb (L.getD i 0)]
theorem Z3.app {n:Nat} {H:List Ob} {d:D} {L:List Int} (h:Z3 n H d L) (g:List Ob):Z3 n (H++g) d L:=by
 rcases h with h | ⟨lo,gg,off,row,h1,h2,h3,h4⟩
 ·exact .inl h
 ·exact .inr ⟨lo,gg,off,row,h1,h2,by rw[QU (Qd h3)];exact h3,h4⟩
theorem Z3.base {F h g:List Ob} {d:D} {L:List Int} (hl:F.length=h.length) (x:Z3 F.length (F++g) d L):Z3 h.length (h++g) d L:=by
 rcases x with x | ⟨lo,gg,off,row,h1,h2,h3,h4⟩
 ·exact .inl x
 ·refine .inr ⟨lo,gg,off,row,h1,by omega,?_,h4⟩
  rw[List.getElem?_append_right (by omega)] at h3 ⊢
  rw[← hl];exact h3
theorem Z3.done {F h H:List Ob} {d:D} {L:List Int} (hl:F.length=h.length) (hx:JY F H) (x:Z3 F.length H d L):∃ g,H=F++g∧Z3 h.length (h++g) d L:=by
 obtain ⟨g,rfl⟩:=hx
 exact ⟨g,rfl,x.base hl⟩
theorem AP {dn:List Int} {off:Nat} {row:Nat→List D} {v:Int} (hr:∀ i,i<dn.length→row (off+i)=[Qb (dn.getD i 0)]):∀ i,i<(dn++[v]).length→JJ dn.length off row (fun _=>[Qb v]) (0+i)=[Qb ((dn++[v]).getD i 0)]:=fun i hi=>by
 rw[Nat.zero_add]
 simp at hi
 by_cases h1:i<dn.length
 ·rw[Ae h1,hr i h1];simp [h1,List.getElem?_append_left h1]
 ·have:i=dn.length:=by omega
  subst this
  rw[xM (Nat.le_refl _)];simp
theorem AQ {h:List Ob} {l:Nat} {o:Ob} (e:h[l]? = some o.ro):(h.map Ob.ro)[l]? = some o.ro:=by have:=Zv e;rwa [ro_ro] at this
def ZG (L:List Qi):Nat→Int→List Int
 | 0,_=>[]
 | n+1,id=>match Qr L id with
  | none=>[]
  | some c=>id::ZG L n c.parent
def Ends (L:List Qi):Nat→Int→Prop
 | 0,id=>Qr L id=none
 | n+1,id=>match Qr L id with
  | none=>True
  | some c=>Ends L n c.parent
structure Qjs (t:Nat) (L:List Qi) (N:Nat) (id:Int) (F:List Ob) (n:Nat) (s:St):Prop where
 ex:∃ dn cur d H,dn++ZG L n cur=ZG L N id∧dn.length+n≤N+1∧Ends L n cur∧JY F H∧Z3 F.length H d dn∧s=⟨[(0,.ptr t 0 0 0),(1,Qb cur),(5,d)],H⟩
section
variable (h:List Ob) (t m c:Nat) {es:List QK} {L:List Qi} (T:JK es L)
 (ht:(h.map Ob.ro)[t]? = some ⟨.Ku,0,1,1,fun _=>[.mref m 0]⟩) (hm:(h.map Ob.ro)[m]? = some (QE .i64 c es).ro)
include T ht hm
theorem m9 (id:Int) (N:Nat) (hN:N<1000000) (hE:Ends L N id):Kp Tryz.prog 37 h [.ptr t 0 0 0,Qb id] (fun d g=>Z3 h.length (h++g) d (ZG L N id)):=by
 refine V1 Qe 200 Tryz.func37 rfl Tryz.ntmps37 Tryz.results37 rfl fun base w pl F hF QR hb=>?_
 rw[← hF] at ht hm
 have QV:=Qd ht
 have QP:=Qd hm
 simp only[go_sem,simprocAttr,Qa,ht,QV,hm,QP]
 refine B8 (Qjs t L N id F) N (s0:=⟨[(0,.ptr t 0 0 0),(1,Qb id),(5,.nil)],F⟩) (Ql.frame (by simp only[go_sem,simprocAttr])) ⟨[],id,.nil,F,rfl,by simp,hE,JY.refl F,.inl ⟨rfl,rfl⟩,rfl⟩ ?_
 rintro n s ⟨dn,cur,d,H,h1,h2,h3,hx,hs,rfl⟩
 have hFH:=hx.len
 have XY:=hx.get ht
 have Kv:=hx.get hm
 have CH:=Qd XY
 have kV:=Qd Kv
 have hg:=m8 H t m c T (Zv XY) (AQ Kv) cur
 refine Qc hb ?_
 simp only[go_sem,simprocAttr,Qa]
 cases hf:Qr L cur with
 | none=>
  rw[hf] at hg
  simp only[Option.isSome_none,Bool.false_eq_true,if_false] at hg
  refine QL hb Yr rfl ?_ hg rfl fun d hR=>?_
  ·simp only[go_sem,simprocAttr,Qa,XY,Kv,CH,kV]
  subst hR
  refine Qc hb ?_
  simp only[go_sem,simprocAttr,Qa,XY,Kv,CH,kV]
  have e0:ZG L n cur=[]:=by cases n with
   | zero=>rfl
   | succ n=>simp only[ZG,hf]
  rw[e0,List.append_nil] at h1
  rw[← h1]
  exact Z3.done QR (hx.app _) (hs.app _)
 | some x=>
  rw[hf] at hg
  simp only[Option.isSome_some,if_true,Option.getD_some] at hg
  obtain ⟨n,rfl⟩:∃ n',n=n'+1:=by
   cases n with
   | zero=>rw[Ends,hf] at h3;cases h3
   | succ n=>exact ⟨n,rfl⟩
  have Pr:Ends L n x.parent:=by simpa only [Ends,hf] using h3
  have Zw:(dn++[cur])++ZG L n x.parent=ZG L N id:=by rw[← h1];simp only[ZG,hf,List.append_assoc,List.singleton_append]
  rcases hs with ⟨rfl,rfl⟩ | ⟨lo,g,off,row,rfl,Zp,ho,hr⟩
  ·refine QL hb Yr rfl ?_ hg rfl fun d hR=>?_
   ·simp only[go_sem,simprocAttr,Qa,XY,Kv,CH,kV]
   subst hR
   refine Qc hb ?_
   simp only[go_sem,simprocAttr,Qa,XY,Kv,CH,kV]
   refine ⟨n,⟨[(0,.ptr t 0 0 0),(1,Qb x.parent),(5,.ref (H.length+2) 0 0 1)],_⟩,by omega,Ql.frame (by simp only[go_sem,simprocAttr]),⟨⟨[cur],x.parent,_,_,Zw,by simp at h2 ⊢;omega,Pr,hx.app _,.inr ⟨H.length+2,0,0,_,rfl,by omega,by rw[Ve rfl];rfl,fun i hi=>?_⟩,rfl⟩⟩⟩
   have:i=0:=by simp at hi;omega
   subst this;rfl
  ·have Qf:=Qd ho
   refine QL hb Yr rfl ?_ hg rfl fun d hR=>?_
   ·simp only[go_sem,simprocAttr,Qa,XY,Kv,CH,kV,ho,Qf]
   subst hR
   refine Qc hb ?_
   simp only[go_sem,simprocAttr,Qa,XY,Kv,CH,kV,ho,Qf]
   refine ⟨by omega,n,⟨[(0,.ptr t 0 0 0),(1,Qb x.parent),(5,.ref lo (g+1) 0 (dn.length+1))],_⟩,by omega,Ql.frame (by simp only[go_sem,simprocAttr]),⟨⟨dn++[cur],x.parent,_,_,Zw,?_,Pr,?_,?_,rfl⟩⟩⟩
   ·simp at h2 ⊢;omega
   ·exact (hx.set Zp.1 _).app _
   ·refine .inr ⟨lo,g+1,0,_,by simp,by omega,?_,AP hr⟩
    rw[QU (by simpa using Qf),Qw Qf]
    simp [Qb]
end
def VK (L:List Qi) (id:Int):Bool:=id == 0 || decide (1<QH ((Qr L id).getD default).ls)
section
variable (h:List Ob) (t m c:Nat) {es:List QK} {L:List Qi} (T:JK es L)
 (ht:(h.map Ob.ro)[t]? = some ⟨.Ku,0,1,1,fun _=>[.mref m 0]⟩) (hm:(h.map Ob.ro)[m]? = some (QE .i64 c es).ro)
include T ht hm
theorem CI (id:Int) (N:Nat) (hN:N<1000000) (hE:Ends L N id):QQ Tryz.prog 221 h [.ptr t 0 0 0,Qb id] (fun d=>d=Qb (ZG L N id).length):=by
 refine Zh Qe 200 Tryz.func221 rfl Tryz.ntmps221 Tryz.results221 rfl fun base w pl F hF QR hb=>?_
 rw[← hF] at ht hm
 have QV:=Qd ht
 have QP:=Qd hm
 simp only[go_sem,simprocAttr,Qa,ht,QV,hm,QP]
 refine yh hb Lb rfl ?_ (m9 F t m c T (Zv ht) (AQ hm) id N hN hE) rfl fun d g2 hs=>?_
 ·simp only[go_sem,simprocAttr]
 rcases hs with ⟨rfl,h0⟩ | ⟨lo,g,off,row,rfl,Zp,ho,hr⟩
 ·refine Qc hb ?_
  simp only[go_sem,simprocAttr,Qa,h0]
  exact ⟨_,rfl⟩
 ·have Qf:=Qd ho
  refine Qc hb ?_
  simp only[go_sem,simprocAttr,Qa,ho,Qf]
  exact ⟨_,rfl⟩
theorem Lu (id:Int):QQ Tryz.prog 220 h [.ptr t 0 0 0,Qb id] (fun d=>d=QN (VK L id)):=by
 by_cases h0:id=0
 ·have e:VK L id=true:=by simp [VK,h0]
  rw[e]
  refine Zh Qe 200 Tryz.func220 rfl Tryz.ntmps220 Tryz.results220 rfl fun base w pl F hF QR hb=>?_
  rw[← hF] at ht hm
  have QV:=Qd ht
  have QP:=Qd hm
  simp only[go_sem,simprocAttr,Qa,ht,QV,hm,QP,Xo h0]
  exact ⟨[],by simp⟩
 ·have hk:=T.look id
  have e:VK L id=decide (1<QH ((Qr L id).getD default).ls):=by simp [VK,h0]
  rw[e]
  cases hf:Qr L id with
  | none=>
   rw[hf,Option.map_none] at hk
   refine Zh Qe 200 Tryz.func220 rfl Tryz.ntmps220 Tryz.results220 rfl fun base w pl F hF QR hb=>?_
   rw[← hF] at ht hm
   have QV:=Qd ht
   have QP:=Qd hm
   simp only[go_sem,simprocAttr,Qa,ht,QV,hm,QP,hk,Vq h0]
   refine QM hb Ys rfl ?_ (Yu ⟨0,0,false,⟨0,0,0⟩,⟨0,0,0⟩,⟨0,0,0⟩,0,0⟩) (Qm.flat rfl) rfl fun d h hR=>?_
   ·simp only[go_sem,simprocAttr,Qa]
   obtain ⟨rfl,rfl⟩:=hR
   refine Qc hb ?_
   simp only[go_sem,simprocAttr,Qa]
   exact ⟨[],(List.append_nil F).symm,rfl⟩
  | some x=>
   rw[hf,Option.map_some] at hk
   refine Zh Qe 200 Tryz.func220 rfl Tryz.ntmps220 Tryz.results220 rfl fun base w pl F hF QR hb=>?_
   rw[← hF] at ht hm
   have QV:=Qd ht
   have QP:=Qd hm
   simp only[go_sem,simprocAttr,Qa,ht,QV,hm,QP,hk,Vq h0]
   refine QM hb Ys rfl ?_ (Yu x) (Qm.flat rfl) rfl fun d h hR=>?_
   ·simp only[go_sem,simprocAttr,Qa]
   obtain ⟨rfl,rfl⟩:=hR
   refine Qc hb ?_
   simp only[go_sem,simprocAttr,Qa]
   exact ⟨[],by simp⟩
end
def Qk (L:List Qi) (g:Qi→Bool) (k:Int):Bool:=((Qr L k).map g).getD false
theorem Qjt {es:List QK} {seen:List Nat} {b:Nat} (p:QK→Bool) (h:∀ e∈es,e.b≠b):(es.filter fun x=>(seen++[b]).contains x.b && p x)=es.filter fun x=>seen.contains x.b && p x:=by
 apply List.filter_congr
 intro x hx
 have:=h x hx
 simp [this]
theorem ng:∀ {es:List QK} {seen:List Nat} {e:QK} (p:QK→Bool),(es.map (·.b)).Nodup→e∈es→e.b ∉ seen→(es.filter fun x=>(seen++[e.b]).contains x.b && p x).Perm (if p e then e::es.filter (fun x=>seen.contains x.b && p x) else es.filter fun x=>seen.contains x.b && p x)
 | [],_,_,_,_,h,_=>by simp at h
 | x::es,seen,e,p,hn,h,hs=>by
  simp only[List.map_cons,List.nodup_cons,List.mem_map,not_exists,not_and] at hn
  rcases List.mem_cons.1 h with h1 | h1
  ·subst h1
   have e1:=Qjt (seen:=seen) (b:=e.b) p (es:=es) fun y hy he=>hn.1 y hy he
   have hc:seen.contains e.b=false:=by simpa using hs
   rw[List.filter_cons,List.filter_cons,e1]
   simp only[hc,Bool.false_and,Bool.false_eq_true,if_false]
   have:(seen++[e.b]).contains e.b=true:=by simp
   rw[this,Bool.true_and]
  ·have ih:=ng p hn.2 h1 hs
   have QD:x.b≠e.b:=fun he=>hn.1 e h1 he.symm
   have hc:(seen++[e.b]).contains x.b=seen.contains x.b:=by simp [QD]
   rw[List.filter_cons,List.filter_cons,hc]
   by_cases h2:(seen.contains x.b && p x)=true
   ·rw[if_pos h2,if_pos h2]
    by_cases h3:p e=true
    ·rw[if_pos h3] at ih ⊢
     exact (ih.cons x).trans (List.Perm.swap _ _ _)
    ·rw[if_neg h3] at ih ⊢
     exact ih.cons x
   ·rw[if_neg h2,if_neg h2]
    exact ih
theorem JK.YZ {es:List QK} {L:List Qi} (T:JK es L) {e:QK} (he:e∈es):∃ x,Qr L e.k=some x∧e.v=Vf x∧x.iD=e.k:=by
 have:J1 e∈L.map VC:=T.perm.mem_iff.1 (List.mem_map.2 ⟨e,he,rfl⟩)
 obtain ⟨x,hx,e1⟩:=List.mem_map.1 this
 simp only[VC,J1,Prod.mk.injEq] at e1
 exact ⟨x,(KQ T.sorted).2 ⟨hx,e1.1⟩,e1.2.symm,e1.1⟩
theorem JK.pick {es:List QK} {L:List Qi} (T:JK es L) (g:Qi→Bool):((es.filter fun e=>Qk L g e.k).map (·.k)).Perm ((L.filter g).map (·.iD)):=by
 have h1:=(T.perm.filter fun p=>Qk L g p.1).map Prod.fst
 have e1:((es.map J1).filter fun p=>Qk L g p.1).map Prod.fst=(es.filter fun e=>Qk L g e.k).map (·.k):=by
  rw[List.filter_map,List.map_map];rfl
 have e2:((L.map VC).filter fun p=>Qk L g p.1).map Prod.fst=(L.filter g).map (·.iD):=by
  rw[List.filter_map,List.map_map]
  have:L.filter ((fun p=>Qk L g p.1) ∘ VC)=L.filter g:=List.filter_congr fun x hx=>by
   have:=(KQ T.sorted).2 ⟨hx,rfl⟩
   simp [Qk,VC,this]
  rw[this];rfl
 rw[e1,e2] at h1
 exact h1
theorem Qju {L:List Qi} (h:KH L) (g:Qi→Bool):((L.filter g).map (·.iD)).Pairwise (·<·):=by
 rw[List.pairwise_map]
 exact List.Pairwise.filter g h
open Go.Shelf in
theorem Qjv {P:Program} {ρ:Ren} (Ly:Lays.n189 P ρ) (h:List Ob):QG P (ρ.f 189) h [.nil] (fun d h'=>d=.tup []∧h'=h):=by
 intro Z base w pl vs QI hZ R Yp hv
 match vs,Yp with
 | [v],_=>
 obtain ⟨a,e1⟩:=y8 (hv 0 (by simp))
 have e1:v=_:=e1
 subst e1
 refine (Any.slices_Sort_int_none Ly a 0 w).mono ?_
 rintro e w' ⟨rfl,rfl⟩
 exact ⟨_,.tup [],h,pl,rfl,⟨rfl,rfl⟩,R,.tup [] [] rfl (fun i hi=>by simp at hi),Tr.refl _ _ _,.refl _ _⟩
open Go.Shelf in
def Tryz.Qjw:Go.Shelf.Ren:=⟨fun | 189=>132 | 125=>191 | 257=>190 | 128=>241 | 129=>242 | 294=>232 | 295=>233 | 296=>234 | 297=>235 | 298=>236 | 299=>237 | 216=>238 | 300=>239 | 301=>240 | 328=>277 | 329=>278 | 330=>279 | 331=>280 | 332=>281 | 215=>282 | 343=>289 | n=>n,fun | 28=>57 | 3=>3 | 46=>282 | 0=>0 | 51=>339 | 53=>25 | 4=>4 | 183=>333 | 182=>332 | 131=>204 | 5=>5 | 9=>9 | 218=>366 | 222=>369 | 228=>378 | 229=>84 | n=>n,fun | n=>n⟩
theorem Tryz.nh:Go.Proofs.Lays.n189 Tryz.prog Tryz.Qjw:={
 mixed:=by kernel_rfl
 f125:=Tryz.func191.trans (congrArg some (by kernel_rfl))
 f128:=Tryz.func241.trans (congrArg some (by kernel_rfl))
 f129:=Tryz.func242.trans (congrArg some (by kernel_rfl))
 f189:=Tryz.func132.trans (congrArg some (by kernel_rfl))
 f215:=Tryz.func282.trans (congrArg some (by kernel_rfl))
 f216:=Tryz.func238.trans (congrArg some (by kernel_rfl))
 f257:=Tryz.func190.trans (congrArg some (by kernel_rfl))
 f294:=Tryz.func232.trans (congrArg some (by kernel_rfl))
 f295:=Tryz.func233.trans (congrArg some (by kernel_rfl))
 f296:=Tryz.func234.trans (congrArg some (by kernel_rfl))
 f297:=Tryz.func235.trans (congrArg some (by kernel_rfl))
 f298:=Tryz.func236.trans (congrArg some (by kernel_rfl))
 f299:=Tryz.func237.trans (congrArg some (by kernel_rfl))
 f300:=Tryz.func239.trans (congrArg some (by kernel_rfl))
 f301:=Tryz.func240.trans (congrArg some (by kernel_rfl))
 f328:=Tryz.func277.trans (congrArg some (by kernel_rfl))
 f329:=Tryz.func278.trans (congrArg some (by kernel_rfl))
 f330:=Tryz.func279.trans (congrArg some (by kernel_rfl))
 f331:=Tryz.func280.trans (congrArg some (by kernel_rfl))
 f332:=Tryz.func281.trans (congrArg some (by kernel_rfl))
 f343:=Tryz.func289.trans (congrArg some (by kernel_rfl))
 t0:=Tryz.underlying0
 a0:=Tryz.isAgg0
 z0:=Tryz.sizeOf0
 v0:=Tryz.zeroValue0
 t3:=Tryz.underlying3
 a3:=Tryz.isAgg3
 z3:=Tryz.sizeOf3
 v3:=Tryz.zeroValue3
 t4:=Tryz.underlying4
 a4:=Tryz.isAgg4
 z4:=Tryz.sizeOf4
 v4:=Tryz.zeroValue4
 t5:=Tryz.underlying5
 a5:=Tryz.isAgg5
 z5:=Tryz.sizeOf5
 v5:=Tryz.zeroValue5
 t9:=Tryz.underlying9
 a9:=Tryz.isAgg9
 z9:=Tryz.sizeOf9
 v9:=Tryz.zeroValue9
 t28:=Tryz.underlying57
 a28:=Tryz.isAgg57
 z28:=Tryz.sizeOf57
 v28:=Tryz.zeroValue57
 t46:=Tryz.underlying282
 a46:=Tryz.isAgg282
 z46:=Tryz.sizeOf282
 v46:=Tryz.zeroValue282
 t51:=Tryz.underlying339
 a51:=Tryz.isAgg339
 z51:=Tryz.sizeOf339
 v51:=Tryz.zeroValue339
 t53:=Tryz.underlying25
 a53:=Tryz.isAgg25
 z53:=Tryz.sizeOf25
 v53:=Tryz.zeroValue25
 t131:=Tryz.underlying204
 a131:=Tryz.isAgg204
 z131:=Tryz.sizeOf204
 v131:=Tryz.zeroValue204
 t182:=Tryz.underlying332
 a182:=Tryz.isAgg332
 z182:=Tryz.sizeOf332
 v182:=Tryz.zeroValue332
 t183:=Tryz.underlying333
 a183:=Tryz.isAgg333
 z183:=Tryz.sizeOf333
 v183:=Tryz.zeroValue333
 t218:=Tryz.underlying366
 a218:=Tryz.isAgg366
 z218:=Tryz.sizeOf366
 v218:=Tryz.zeroValue366
 t222:=Tryz.underlying369
 a222:=Tryz.isAgg369
 z222:=Tryz.sizeOf369
 v222:=Tryz.zeroValue369
 t228:=Tryz.underlying378
 a228:=Tryz.isAgg378
 z228:=Tryz.sizeOf378
 v228:=Tryz.zeroValue378
 t229:=Tryz.underlying84
 a229:=Tryz.isAgg84
 z229:=Tryz.sizeOf84
 v229:=Tryz.zeroValue84 }
theorem ni {h:List Ob} {l g off N:Nat} {row:Nat→List D} {zs:List Int} (ho:h[l]? = some ⟨.arr,g,1,N,row⟩) (hn:off+zs.length≤N) (hr:∀ i,i<zs.length→row (off+i)=[.raw (.int .i64 (zs.getD i 0))]) (hlen:zs.length<4611686018427387904) :
  QG Tryz.prog 132 h [.ref l g off zs.length] (fun d h'=>d=.tup []∧h'=h.set l ⟨.arr,g,1,N,Yw off row (sorted zs)⟩):=Qjm Tryz.nh ho hn hr hlen
theorem nj (h:List Ob):QG Tryz.prog 132 h [.nil] (fun d h'=>d=.tup []∧h'=h):=Qjv Tryz.nh h
theorem AR (d:D):Vb d d:=by unfold Vb;split <;> first | exact rfl | simp_all
theorem kW:∀ l:List D,WZ l l
 | []=>trivial
 | d::r=>⟨AR d,kW r⟩
def FD (F:List Ob) (f nf:Nat) (QB:List D) (g:Qi→Bool):Prop:=∀ (h:List Ob) (c:Qi),JY F h→QQ Tryz.prog f h (Z6 nf QB [Vf c]) (fun d=>d=QN (g c))
structure Qjx (t m c:Nat) (es:List QK) (L:List Qi) (gk:Qi→Bool) (so:D) (F:List Ob) (n:Nat) (s:St):Prop where
 ex:∃ seen d out H,qH es seen=n∧JY F H∧Z3 F.length H d out∧out.Perm ((es.filter fun e=>seen.contains e.b && Qk L gk e.k).map (·.k))∧H[F.length]? = some (Vp m c c seen) ∧
  s=⟨[(0,.ptr t 0 0 0),(1,so),(5,d),(14,.mref F.length 0)],H⟩
section
variable (h:List Ob) (t m c:Nat) {es:List QK} {L:List Qi} (T:JK es L) (hlen:L.length<1000000)
 (ht:(h.map Ob.ro)[t]? = some ⟨.Ku,0,1,1,fun _=>[.mref m 0]⟩) (hm:(h.map Ob.ro)[m]? = some (QE .i64 c es).ro)
include T ht hm hlen
theorem Lw (so:D) (f nf:Nat) (QB:List D) (hf:Qo Tryz.prog f) (JP:J6 so=some (f,nf,QB)) (gk:Qi→Bool) (hg:FD (h.map Ob.ro) f nf QB gk) :
  Kp Tryz.prog 61 h [.ptr t 0 0 0,so] (fun d g=>Z3 h.length (h++g) d ((L.filter gk).map (·.iD))):=by
 refine V1 Qe 200 Tryz.func61 rfl Tryz.ntmps61 Tryz.results61 rfl fun base w pl F hF QR hb=>?_
 rw[← hF] at ht hm
 have QV:=Qd ht
 have QP:=Qd hm
 simp only[go_sem,simprocAttr,Qa,ht,QV,hm,QP]
 refine Qjg (kd:=.Eh) (q:=.i64) (l:=m) (c:=c) (es:=es) rfl (by simp only[go_sem,simprocAttr,Qa,hm,QP];rfl) fun hB=>?_
 refine B8 (Qjx t m c es L gk so F) (qH es []) (s0:=⟨[(0,.ptr t 0 0 0),(1,so),(5,.nil),(14,.mref F.length 0)],F++[Vp m c c []]⟩) (Ql.frame (by simp only[go_sem,simprocAttr])) ⟨[],.nil,[],_,rfl,⟨_,rfl⟩,.inl ⟨rfl,rfl⟩,by simp,by rw[Kq rfl];rfl,rfl⟩ ?_
 rintro n s ⟨seen,d,out,H,hn,hx,hs,hp,Wz,rfl⟩
 have Kv:=hx.get hm
 have kV:=Qd Kv
 have Qjy:=Qd Wz
 refine Qc hb ?_
 simp only[go_sem,simprocAttr,Qa]
 refine QcD hb (li:=F.length) (l:=m) (c:=c) (es:=es) (seen:=seen) (q:=.i64) (kd:=.Eh) rfl Wz rfl Kv rfl (fun K9=>?_) (fun e he xW=>?_)
 ·refine Qc hb ?_
  simp only[go_sem,simprocAttr,Qa]
  have yi:sorted out=(L.filter gk).map (·.iD):=by
   refine m7 (hp.trans ?_) (Qju T.sorted gk)
   have:(es.filter fun e=>seen.contains e.b && Qk L gk e.k)=es.filter fun e=>Qk L gk e.k:=List.filter_congr fun e he=>by
    have:seen.contains e.b=true:=by simpa using K9 e he
    rw[this,Bool.true_and]
   rw[this]
   exact T.pick gk
  have np:out.length<4611686018427387904:=by
   have h1:out.length=((L.filter gk).map (·.iD)).length:=by rw[← yi,yn]
   have h2:=List.length_filter_le gk L
   rw[List.length_map] at h1
   omega
  rcases hs with ⟨rfl,rfl⟩ | ⟨lo,g,off,row,rfl,Zp,ho,hr⟩
  ·refine Qc hb ?_
   simp only[go_sem,simprocAttr,Qa]
   refine Q5 hb Le rfl ?_ (nj H) rfl fun d h hR=>?_
   ·simp only[go_sem,simprocAttr]
   obtain ⟨rfl,rfl⟩:=hR
   refine Qc hb ?_
   simp only[go_sem,simprocAttr]
   exact Z3.done QR hx (.inl ⟨rfl,by rw[← yi];simp [sorted]⟩)
  ·have Qf:=Qd ho
   refine Qc hb ?_
   simp only[go_sem,simprocAttr,Qa]
   refine Q5 hb Le rfl ?_ (ni ho (Nat.le_refl _) hr np) rfl fun d h hR=>?_
   ·simp only[go_sem,simprocAttr]
   obtain ⟨rfl,rfl⟩:=hR
   refine Qc hb ?_
   simp only[go_sem,simprocAttr]
   refine Z3.done QR (hx.set Zp.1 _) ?_
   have Ps:((L.filter gk).map (·.iD)).length=out.length:=by rw[← yi,yn]
   refine .inr ⟨lo,g,off,Yw off row (sorted out),?_,Zp,?_,?_⟩
   ·rw[Ps]
   ·rw[Ps];exact Qw Qf
   ·rw[yi]
    intro i hi
    unfold Yw
    rw[if_pos (by omega),show off+i - off=i by omega]
    rfl
 ·obtain ⟨x,hfx,Ag,QX⟩:=T.YZ he
  rw[Ag]
  have Ca:Qk L gk e.k=gk x:=by simp [Qk,hfx]
  obtain ⟨H',yp⟩:∃ H',H'=H.set F.length (Vp m c c (seen++[e.b])):=⟨_,rfl⟩
  have qx:JY F H':=by rw[yp];exact hx.set (Nat.le_refl _) _
  have CJ:H'[F.length]? = some (Vp m c c (seen++[e.b])):=by rw[yp];exact Qw Qjy
  have ns:Z3 F.length H' d out:=by
   rcases hs with hs | ⟨lo,g,off,row,h1,h2,h3,h4⟩
   ·exact .inl hs
   ·refine .inr ⟨lo,g,off,row,h1,h2,?_,h4⟩
    rw[yp,Qt (by rintro rfl;rw[Wz] at h3;cases h3)]
    exact h3
  have wD:=qx.get hm
  have Lx:=Qd wD
  have Pt:=Qd CJ
  have Zt:=ng (fun e=>Qk L gk e.k) hB.nodup he xW
  have FE:=mY he xW
  rw[← yp]
  refine Qc hb ?_
  simp only[go_sem,simprocAttr,Qa]
  refine Qc hb ?_
  simp only[go_sem,simprocAttr,Qa]
  refine Qjj (li:=F.length) (l:=m) (c:=c) (es:=es) (seen:=seen) (q:=.i64) (kd:=.Eh) (e:=e) rfl CJ rfl wD he rfl ?_
  rw[Ag]
  refine Qc hb ?_
  simp only[go_sem,simprocAttr,Qa]
  refine Qc hb ?_
  simp only[go_sem,simprocAttr,Qa]
  refine QL hb hf JP ?_ (hg _ x ?_) rfl fun d2 hR=>?_
  ·simp only[go_sem,simprocAttr]
   exact kW _
  ·rw[← hF];exact qx.app _
  subst hR
  refine Qc hb ?_
  have np:out.length≤es.length:=by
   have h1:=hp.length_eq
   rw[List.length_map] at h1
   rw[h1];exact List.length_filter_le _ _
  have Qs2:=T.len
  simp only[Ca] at Zt
  cases nu:gk x
  ·simp only[nu,Bool.false_eq_true,if_false] at Zt
   simp only[go_sem,simprocAttr,Qa]
   exact ⟨qH es (seen++[e.b]),⟨[(0,.ptr t 0 0 0),(1,so),(5,d),(14,.mref F.length 0)],_⟩,by omega,Ql.frame (by simp only[go_sem,simprocAttr]),⟨⟨seen++[e.b],d,out,_,rfl,qx.app _,ns.app _,hp.trans (Zt.map _).symm,by rw[QU Pt];exact CJ,rfl⟩⟩⟩
  ·simp only[nu,if_true] at Zt
   have Lz:(out++[e.k]).Perm ((es.filter fun x=>(seen++[e.b]).contains x.b && Qk L gk x.k).map (·.k)):=by
    refine (List.perm_append_comm.trans ?_).trans (Zt.map _).symm
    exact hp.cons e.k
   rcases ns with ⟨rfl,rfl⟩ | ⟨lo,g,off,row,rfl,Zp,ho,hr⟩
   ·simp only[go_sem,simprocAttr,Qa]
    refine ⟨qH es (seen++[e.b]),⟨[(0,.ptr t 0 0 0),(1,so),(5,.ref (H'.length+2) 0 0 1),(14,.mref F.length 0)],_⟩,by omega,Ql.frame (by simp only[go_sem,simprocAttr]),⟨⟨seen++[e.b],_,[e.k],_,rfl,qx.app _,?_,Lz,by rw[QU Pt];exact CJ,rfl⟩⟩⟩
    have:=qx.len
    refine .inr ⟨H'.length+2,0,0,_,rfl,by omega,by rw[Ve rfl];rfl,fun i hi=>?_⟩
    have:i=0:=by simp at hi;omega
    subst this;rfl
   ·have Qf:=Qd ho
    have QD:F.length≠lo:=by rintro rfl;rw[CJ] at ho;cases ho
    simp only[go_sem,simprocAttr,Qa,ho,Qf]
    refine ⟨by omega,qH es (seen++[e.b]),⟨[(0,.ptr t 0 0 0),(1,so),(5,.ref lo (g+1) 0 (out.length+1)),(14,.mref F.length 0)],_⟩,by omega,Ql.frame (by simp only[go_sem,simprocAttr]),⟨⟨seen++[e.b],_,out++[e.k],_,rfl,?_,?_,Lz,?_,rfl⟩⟩⟩
    ·exact (qx.set Zp.1 _).app _
    ·refine .inr ⟨lo,g+1,0,_,by simp,by omega,?_,AP hr⟩
     rw[QU (by simpa using Qf),Qw Qf]
     simp [Qb]
    ·rw[QU (by simpa using Pt),Qt (Ne.symm QD)];exact CJ
end
theorem KS {h t:List Ob} {l:Nat} {o:Ob} (e:h[l]? = some o):((h++t).map Ob.ro)[l]? = some o.ro:=Zv (by rw[QU (Qd e)];exact e)
theorem Z3.le {n n':Nat} {H:List Ob} {d:D} {L:List Int} (x:Z3 n H d L) (hn:n'≤n):Z3 n' H d L:=by
 rcases x with x | ⟨lo,gg,off,row,h1,h2,h3,h4⟩
 ·exact .inl x
 ·exact .inr ⟨lo,gg,off,row,h1,by omega,h3,h4⟩
theorem QjA (h:List Ob) (lb:Nat) (id:Int) (x:Qi) (hl:(h.map Ob.ro)[lb]? = some ⟨.Ku,0,1,1,fun _=>[Qb id]⟩):QQ Tryz.prog 66 h [Vf x,.ptr lb 0 0 0] (fun d=>d=QN (x.parent == id)):=by
 refine Zh Qe 200 Tryz.func66 rfl Tryz.ntmps66 Tryz.results66 rfl fun base w pl F hF QR hb=>?_
 rw[← hF] at hl
 have CK:=Qd hl
 simp only[go_sem,simprocAttr,Qa,hl,CK]
 exact ⟨_,rfl⟩
def KI (L:List Qi) (id:Int):List Int:=(L.filter fun x=>x.parent == id).map (·.iD)
section
variable (h:List Ob) (t m c:Nat) {es:List QK} {L:List Qi} (T:JK es L) (hlen:L.length<1000000)
 (ht:(h.map Ob.ro)[t]? = some ⟨.Ku,0,1,1,fun _=>[.mref m 0]⟩) (hm:(h.map Ob.ro)[m]? = some (QE .i64 c es).ro)
include T ht hm hlen
theorem Pu (id:Int):Kp Tryz.prog 23 h [.ptr t 0 0 0,Qb id] (fun d g=>Z3 h.length (h++g) d (KI L id)):=by
 refine V1 Qe 200 Tryz.func23 rfl Tryz.ntmps23 Tryz.results23 rfl fun base w pl F hF QR hb=>?_
 rw[← hF] at ht hm
 have QV:=Qd ht
 have QP:=Qd hm
 simp only[go_sem,simprocAttr,Qa,ht,QV,hm,QP]
 have hx:JY F (F++([⟨.one,0,1,1,fun _=>[Qb id]⟩]:List Ob)):=⟨_,rfl⟩
 have hT:FD ((F++([⟨.one,0,1,1,fun _=>[Qb id]⟩]:List Ob)).map Ob.ro) 66 0 [.ptr F.length 0 0 0] (fun x=>x.parent == id):=fun h' x qx=>QjA h' F.length id x (by
  have e:=qx.get (l:=F.length) (o:=⟨.Ku,0,1,1,fun _=>[Qb id]⟩) (by rw[List.map_append,Kq (by simp)];rfl)
  exact Zv e)
 refine yh hb Lc rfl ?_ (Lw _ t m c T hlen (Zv (hx.get ht)) (AQ (hx.get hm)) (.clo 66 0 [.ptr F.length 0 0 0]) 66 0 [.ptr F.length 0 0 0] Qh1 rfl _ hT) rfl fun d g hs=>?_
 ·simp only[go_sem,simprocAttr]
 refine Qc hb ?_
 simp only[go_sem,simprocAttr,Qa]
 have Jf:=hs.le (n':=F.length) (by simp)
 rw[List.append_assoc] at Jf
 exact Z3.done QR ⟨_,rfl⟩ Jf
def jJ (L:List Qi) (x:Qi) (dp:Nat):Int:=
 if JH x≠0 then JH x
 else if (Qr L x.iD).isSome then 8
 else if L.length=64 then 5
 else if (x.parent≠0∧(Qr L x.parent).isNone)∨((Qr L x.parent).getD default).leaf=true then 23
 else if 1<QH x.ls∧VK L x.parent=false then 29
 else if dp=16 then 25
 else 0
end
section
variable (h:List Ob) (t m c:Nat) {es:List QK} {L:List Qi} (T:JK es L) (hlen:L.length<1000000)
 (ht:h[t]? = some ⟨.one,0,1,1,fun _=>[.mref m 0]⟩) (hm:h[m]? = some (QE .i64 c es))
include T ht hm hlen
structure Kw (h:List Ob) (t m:Nat) (L:List Qi) (h':List Ob):Prop where
 ex:∃ c es,h'[t]? = some ⟨.one,0,1,1,fun _=>[.mref m 0]⟩∧h'[m]? = some (QE .i64 c es)∧JK es L
 len:h.length≤h'.length
 JI:∀ l,l<h.length→l≠m→h'[l]? = h[l]?
omit T hlen in
theorem Kw.same (T:JK es L) (g:List Ob):Kw h t m L (h++g):=
 ⟨⟨c,es,by rw[QU (Qd ht)];exact ht,by rw[QU (Qd hm)];exact hm,T⟩,by simp,fun l hl _=>QU hl⟩
omit hlen in
theorem Kw.Zg (x:Qi) (g:List Ob):Kw h t m (Ke L x) (h.set m (J5 .i64 c es x.iD (Vf x))++g):=by
 obtain ⟨c',es',e,T'⟩:=Qjr T .i64 c x
 have QP:=Qd hm
 have QV:=Qd ht
 have QD:m≠t:=by rintro rfl;rw[ht] at hm;cases hm
 rw[e]
 refine ⟨⟨c',es',?_,?_,T'⟩,by simp,fun l hl Jd=>?_⟩
 ·rw[QU (by simpa using QV),Qt QD];exact ht
 ·rw[QU (by simpa using QP),Qw QP]
 ·rw[QU (by simpa using hl),Qt (Ne.symm Jd)]
omit hlen in
theorem QjB (x:Qi) (N:Nat) (hN:N<1000000) (hE:Ends L N x.parent):QG Tryz.prog 183 h [.ptr t 0 0 0,Vf x] (fun d h'=>d=Qb (jJ L x (ZG L N x.parent).length)∧Kw h t m (if jJ L x (ZG L N x.parent).length=0 then Ke L x else L) h'):=by
 have hk:=T.look x.iD
 have Z1:=T.look x.parent
 have Wy:=T.len
 have QV:=Qd ht
 have QP:=Qd hm
 obtain ⟨E,XZ⟩:∃ E,E=jJ L x (ZG L N x.parent).length:=⟨_,rfl⟩
 rw[← XZ]
 have bad:∀ g:List Ob,E≠0→Kw h t m (if E=0 then Ke L x else L) (h++g):=fun g QD=>by rw[if_neg QD];exact Kw.same h t m c ht hm T g
 refine QW Qe 200 Tryz.func183 rfl Tryz.ntmps183 Tryz.results183 rfl fun base w pl hb=>?_
 have QV:=Qd ht
 have QP:=Qd hm
 simp only[go_sem,simprocAttr,Qa,ht,QV,hm,QP]
 refine QM hb mG rfl ?_ (mW x) (Qm.flat rfl) rfl fun d h hR=>?_
 ·simp only[go_sem,simprocAttr,Qa]
 obtain ⟨rfl,rfl⟩:=hR
 refine Qc hb ?_
 simp only[go_sem,simprocAttr,Qa]
 by_cases h0:JH x=0
 case neg=>
  have e:E=JH x:=by rw[XZ,jJ,if_pos h0]
  simp only[go_sem,simprocAttr,Qa,Vq h0,bne]
  exact ⟨by rw[e],bad _ (by rw[e];exact h0)⟩
 simp only[go_sem,simprocAttr,Qa,Xo h0,bne]
 cases kX:Qr L x.iD with
 | some y=>
  have e:E=8:=by rw[XZ,jJ,if_neg (by simpa using h0),if_pos (by simp [kX])]
  rw[kX,Option.map_some] at hk
  refine QA Qe hb 200 mixed [(0,true),(1,true),(2,true),(3,true),(4,true),(5,true),(6,true),(7,true),(8,true),(9,true),(10,false),(11,false),(12,true)] (by kernel_rfl) (by kernel_rfl) ?_
  simp only[go_sem,simprocAttr,Qa,ht,hm,QV,QP,hk]
  cases Yx:Qr L x.parent with
  | none=>
   rw[Yx,Option.map_none] at Z1
   refine QA Qe hb 200 mixed [(0,true),(1,true),(2,true),(3,true),(4,true),(5,true),(6,true),(7,true),(8,true),(9,true),(10,false),(11,false),(12,true)] (by kernel_rfl) (by kernel_rfl) ?_
   simp only[go_sem,simprocAttr,Qa,ht,hm,QV,QP,Z1]
   exact ⟨by rw[e],bad _ (by rw[e];decide)⟩
  | some z=>
   rw[Yx,Option.map_some] at Z1
   refine QA Qe hb 200 mixed [(0,true),(1,true),(2,true),(3,true),(4,true),(5,true),(6,true),(7,true),(8,true),(9,true),(10,false),(11,false),(12,true)] (by kernel_rfl) (by kernel_rfl) ?_
   simp only[go_sem,simprocAttr,Qa,ht,hm,QV,QP,Z1]
   exact ⟨by rw[e],bad _ (by rw[e];decide)⟩
 | none=>
  rw[kX,Option.map_none] at hk
  refine QA Qe hb 200 mixed [(0,true),(1,true),(2,true),(3,true),(4,true),(5,true),(6,true),(7,true),(8,true),(9,true),(10,false),(11,false),(12,true)] (by kernel_rfl) (by kernel_rfl) ?_
  simp only[go_sem,simprocAttr,Qa,ht,hm,QV,QP,hk]
  have a1:E=(if L.length=64 then 5 else if (x.parent≠0∧(Qr L x.parent).isNone)∨((Qr L x.parent).getD default).leaf=true then 23 else if 1<QH x.ls∧VK L x.parent=false then 29 else if (ZG L N x.parent).length=16 then 25 else 0):=by
   rw[XZ,jJ,if_neg (by simpa using h0),if_neg (by simp [kX])]
  by_cases AS:L.length=64
  ·have e:E=5:=by rw[a1,if_pos AS]
   have wE:((es.length:Int) == 64)=true:=by simp;omega
   cases Yx:Qr L x.parent with
   | none=>
    rw[Yx,Option.map_none] at Z1
    refine QA Qe hb 200 mixed [(0,true),(1,true),(2,true),(3,true),(4,true),(5,true),(6,true),(7,true),(8,true),(9,true),(10,false),(11,false),(12,true)] (by kernel_rfl) (by kernel_rfl) ?_
    simp only[go_sem,simprocAttr,Qa,ht,hm,QV,QP,Z1,wE]
    exact ⟨by rw[e],bad _ (by rw[e];decide)⟩
   | some z=>
    rw[Yx,Option.map_some] at Z1
    refine QA Qe hb 200 mixed [(0,true),(1,true),(2,true),(3,true),(4,true),(5,true),(6,true),(7,true),(8,true),(9,true),(10,false),(11,false),(12,true)] (by kernel_rfl) (by kernel_rfl) ?_
    simp only[go_sem,simprocAttr,Qa,ht,hm,QV,QP,Z1,wE]
    exact ⟨by rw[e],bad _ (by rw[e];decide)⟩
  rw[if_neg AS] at a1
  have wE:((es.length:Int) == 64)=false:=by simp;omega
  cases Yx:Qr L x.parent with
  | none=>
   rw[Yx,Option.map_none] at Z1
   by_cases YY:x.parent=0
   ·refine QA Qe hb 200 mixed [(0,true),(1,true),(2,true),(3,true),(4,true),(5,true),(6,true),(7,true),(8,true),(9,true),(10,false),(11,false),(12,true)] (by kernel_rfl) (by kernel_rfl) ?_
    simp only[go_sem,simprocAttr,Qa,ht,hm,QV,QP,Z1,wE,Xo YY,bne]
    have a2:E=(if 1<QH x.ls∧VK L x.parent=false then 29 else if (ZG L N x.parent).length=16 then 25 else 0):=by rw[a1,if_neg (by rw[Yx];rintro (⟨h1,_⟩ | h1);exact h1 YY;cases h1)]
    refine QM hb Ys rfl ?_ (Yu x) (Qm.flat rfl) rfl fun d h hR=>?_
    ·simp only[go_sem,simprocAttr,Qa]
    obtain ⟨rfl,rfl⟩:=hR
    refine Qc hb ?_
    simp only[go_sem,simprocAttr,Qa]
    cases Zf:decide (1<QH x.ls)
    ·simp only[go_sem,simprocAttr,Qa,Go.undef]
     refine QL hb CC rfl ?_ (CI _ t m c T (KS ht) (KS hm) x.parent N hN hE) rfl fun d hR=>?_
     ·simp only[go_sem,simprocAttr,Qa]
     subst hR
     refine Qc hb ?_
     simp only[go_sem,simprocAttr,Qa]
     by_cases hd:(ZG L N x.parent).length=16
     ·have e:E=25:=by rw[a2,if_neg (by simp at Zf;omega),if_pos hd]
      have Jz:(((ZG L N x.parent).length:Int) == 16)=true:=by simp;omega
      simp only[go_sem,simprocAttr,Qa,Jz]
      exact ⟨by rw[e],bad _ (by rw[e];decide)⟩
     ·have e:E=0:=by rw[a2,if_neg (by simp at Zf;omega),if_neg hd]
      have Jz:(((ZG L N x.parent).length:Int) == 16)=false:=by simp;omega
      simp only[go_sem,simprocAttr,Qa,Jz]
      refine QA Qe hb 200 mixed [(0,true),(1,true),(2,true),(3,true),(4,true),(5,true),(6,true),(7,false)] (by kernel_rfl) (by kernel_rfl) ?_
      simp only[go_sem,simprocAttr,Qa,ht,hm,QV,QP]
      rw[if_pos e]
      exact ⟨by rw[e],Kw.Zg h t m c T ht hm x _⟩
    ·simp only[go_sem,simprocAttr,Qa,Go.undef]
     refine QL hb Lk rfl ?_ (Lu _ t m c T (KS ht) (KS hm) x.parent) rfl fun d hR=>?_
     ·simp only[go_sem,simprocAttr,Qa]
     subst hR
     refine Qc hb ?_
     simp only[go_sem,simprocAttr,Qa]
     cases Jf:VK L x.parent
     ·have e:E=29:=by rw[a2,if_pos ⟨by simpa using Zf,Jf⟩]
      simp only[go_sem,simprocAttr,Qa,Go.undef]
      exact ⟨by rw[e],bad _ (by rw[e];decide)⟩
     ·simp only[go_sem,simprocAttr,Qa,Go.undef]
      refine QL hb CC rfl ?_ (CI _ t m c T (KS ht) (KS hm) x.parent N hN hE) rfl fun d hR=>?_
      ·simp only[go_sem,simprocAttr,Qa]
      subst hR
      refine Qc hb ?_
      simp only[go_sem,simprocAttr,Qa]
      by_cases hd:(ZG L N x.parent).length=16
      ·have e:E=25:=by rw[a2,if_neg (by rw[Jf];simp),if_pos hd]
       have Jz:(((ZG L N x.parent).length:Int) == 16)=true:=by simp;omega
       simp only[go_sem,simprocAttr,Qa,Jz]
       exact ⟨by rw[e],bad _ (by rw[e];decide)⟩
      ·have e:E=0:=by rw[a2,if_neg (by rw[Jf];simp),if_neg hd]
       have Jz:(((ZG L N x.parent).length:Int) == 16)=false:=by simp;omega
       simp only[go_sem,simprocAttr,Qa,Jz]
       refine QA Qe hb 200 mixed [(0,true),(1,true),(2,true),(3,true),(4,true),(5,true),(6,true),(7,false)] (by kernel_rfl) (by kernel_rfl) ?_
       simp only[go_sem,simprocAttr,Qa,ht,hm,QV,QP]
       rw[if_pos e]
       exact ⟨by rw[e],Kw.Zg h t m c T ht hm x _⟩
   ·have e:E=23:=by rw[a1,if_pos (.inl ⟨YY,by simp [Yx]⟩)]
    refine QA Qe hb 200 mixed [(0,true),(1,true),(2,true),(3,true),(4,true),(5,true),(6,true),(7,true),(8,true),(9,true),(10,false),(11,false),(12,true)] (by kernel_rfl) (by kernel_rfl) ?_
    simp only[go_sem,simprocAttr,Qa,ht,hm,QV,QP,Z1,wE,Vq YY,bne]
    exact ⟨by rw[e],bad _ (by rw[e];decide)⟩
  | some z=>
   rw[Yx,Option.map_some] at Z1
   cases hz:z.leaf with
   | true=>
    have e:E=23:=by rw[a1,if_pos (.inr (by simp [Yx,hz]))]
    by_cases YY:x.parent=0
    ·refine QA Qe hb 200 mixed [(0,true),(1,true),(2,true),(3,true),(4,true),(5,true),(6,true),(7,true),(8,true),(9,true),(10,false),(11,false),(12,true)] (by kernel_rfl) (by kernel_rfl) ?_
     simp only[go_sem,simprocAttr,Qa,ht,hm,QV,QP,Z1,wE,Xo YY,bne,hz]
     exact ⟨by rw[e],bad _ (by rw[e];decide)⟩
    ·refine QA Qe hb 200 mixed [(0,true),(1,true),(2,true),(3,true),(4,true),(5,true),(6,true),(7,true),(8,true),(9,true),(10,false),(11,false),(12,true)] (by kernel_rfl) (by kernel_rfl) ?_
     simp only[go_sem,simprocAttr,Qa,ht,hm,QV,QP,Z1,wE,Vq YY,bne,hz]
     exact ⟨by rw[e],bad _ (by rw[e];decide)⟩
   | false=>
    by_cases YY:x.parent=0
    ·refine QA Qe hb 200 mixed [(0,true),(1,true),(2,true),(3,true),(4,true),(5,true),(6,true),(7,true),(8,true),(9,true),(10,false),(11,false),(12,true)] (by kernel_rfl) (by kernel_rfl) ?_
     simp only[go_sem,simprocAttr,Qa,ht,hm,QV,QP,Z1,wE,Xo YY,bne,hz]
     have a2:E=(if 1<QH x.ls∧VK L x.parent=false then 29 else if (ZG L N x.parent).length=16 then 25 else 0):=by rw[a1,if_neg (by rw[Yx];rintro (⟨h1,_⟩ | h1);exact h1 YY;exact absurd h1 (by simp [hz]))]
     refine QM hb Ys rfl ?_ (Yu x) (Qm.flat rfl) rfl fun d h hR=>?_
     ·simp only[go_sem,simprocAttr,Qa]
     obtain ⟨rfl,rfl⟩:=hR
     refine Qc hb ?_
     simp only[go_sem,simprocAttr,Qa]
     cases Zf:decide (1<QH x.ls)
     ·simp only[go_sem,simprocAttr,Qa,Go.undef]
      refine QL hb CC rfl ?_ (CI _ t m c T (KS ht) (KS hm) x.parent N hN hE) rfl fun d hR=>?_
      ·simp only[go_sem,simprocAttr,Qa]
      subst hR
      refine Qc hb ?_
      simp only[go_sem,simprocAttr,Qa]
      by_cases hd:(ZG L N x.parent).length=16
      ·have e:E=25:=by rw[a2,if_neg (by simp at Zf;omega),if_pos hd]
       have Jz:(((ZG L N x.parent).length:Int) == 16)=true:=by simp;omega
       simp only[go_sem,simprocAttr,Qa,Jz]
       exact ⟨by rw[e],bad _ (by rw[e];decide)⟩
      ·have e:E=0:=by rw[a2,if_neg (by simp at Zf;omega),if_neg hd]
       have Jz:(((ZG L N x.parent).length:Int) == 16)=false:=by simp;omega
       simp only[go_sem,simprocAttr,Qa,Jz]
       refine QA Qe hb 200 mixed [(0,true),(1,true),(2,true),(3,true),(4,true),(5,true),(6,true),(7,false)] (by kernel_rfl) (by kernel_rfl) ?_
       simp only[go_sem,simprocAttr,Qa,ht,hm,QV,QP]
       rw[if_pos e]
       exact ⟨by rw[e],Kw.Zg h t m c T ht hm x _⟩
     ·simp only[go_sem,simprocAttr,Qa,Go.undef]
      refine QL hb Lk rfl ?_ (Lu _ t m c T (KS ht) (KS hm) x.parent) rfl fun d hR=>?_
      ·simp only[go_sem,simprocAttr,Qa]
      subst hR
      refine Qc hb ?_
      simp only[go_sem,simprocAttr,Qa]
      cases Jf:VK L x.parent
      ·have e:E=29:=by rw[a2,if_pos ⟨by simpa using Zf,Jf⟩]
       simp only[go_sem,simprocAttr,Qa,Go.undef]
       exact ⟨by rw[e],bad _ (by rw[e];decide)⟩
      ·simp only[go_sem,simprocAttr,Qa,Go.undef]
       refine QL hb CC rfl ?_ (CI _ t m c T (KS ht) (KS hm) x.parent N hN hE) rfl fun d hR=>?_
       ·simp only[go_sem,simprocAttr,Qa]
       subst hR
       refine Qc hb ?_
       simp only[go_sem,simprocAttr,Qa]
       by_cases hd:(ZG L N x.parent).length=16
       ·have e:E=25:=by rw[a2,if_neg (by rw[Jf];simp),if_pos hd]
        have Jz:(((ZG L N x.parent).length:Int) == 16)=true:=by simp;omega
        simp only[go_sem,simprocAttr,Qa,Jz]
        exact ⟨by rw[e],bad _ (by rw[e];decide)⟩
       ·have e:E=0:=by rw[a2,if_neg (by rw[Jf];simp),if_neg hd]
        have Jz:(((ZG L N x.parent).length:Int) == 16)=false:=by simp;omega
        simp only[go_sem,simprocAttr,Qa,Jz]
        refine QA Qe hb 200 mixed [(0,true),(1,true),(2,true),(3,true),(4,true),(5,true),(6,true),(7,false)] (by kernel_rfl) (by kernel_rfl) ?_
        simp only[go_sem,simprocAttr,Qa,ht,hm,QV,QP]
        rw[if_pos e]
        exact ⟨by rw[e],Kw.Zg h t m c T ht hm x _⟩
    ·refine QA Qe hb 200 mixed [(0,true),(1,true),(2,true),(3,true),(4,true),(5,true),(6,true),(7,true),(8,true),(9,true),(10,false),(11,false),(12,true)] (by kernel_rfl) (by kernel_rfl) ?_
     simp only[go_sem,simprocAttr,Qa,ht,hm,QV,QP,Z1,wE,Vq YY,bne,hz]
     have a2:E=(if 1<QH x.ls∧VK L x.parent=false then 29 else if (ZG L N x.parent).length=16 then 25 else 0):=by rw[a1,if_neg (by simp [Yx,hz])]
     refine QM hb Ys rfl ?_ (Yu x) (Qm.flat rfl) rfl fun d h hR=>?_
     ·simp only[go_sem,simprocAttr,Qa]
     obtain ⟨rfl,rfl⟩:=hR
     refine Qc hb ?_
     simp only[go_sem,simprocAttr,Qa]
     cases Zf:decide (1<QH x.ls)
     ·simp only[go_sem,simprocAttr,Qa,Go.undef]
      refine QL hb CC rfl ?_ (CI _ t m c T (KS ht) (KS hm) x.parent N hN hE) rfl fun d hR=>?_
      ·simp only[go_sem,simprocAttr,Qa]
      subst hR
      refine Qc hb ?_
      simp only[go_sem,simprocAttr,Qa]
      by_cases hd:(ZG L N x.parent).length=16
      ·have e:E=25:=by rw[a2,if_neg (by simp at Zf;omega),if_pos hd]
       have Jz:(((ZG L N x.parent).length:Int) == 16)=true:=by simp;omega
       simp only[go_sem,simprocAttr,Qa,Jz]
       exact ⟨by rw[e],bad _ (by rw[e];decide)⟩
      ·have e:E=0:=by rw[a2,if_neg (by simp at Zf;omega),if_neg hd]
       have Jz:(((ZG L N x.parent).length:Int) == 16)=false:=by simp;omega
       simp only[go_sem,simprocAttr,Qa,Jz]
       refine QA Qe hb 200 mixed [(0,true),(1,true),(2,true),(3,true),(4,true),(5,true),(6,true),(7,false)] (by kernel_rfl) (by kernel_rfl) ?_
       simp only[go_sem,simprocAttr,Qa,ht,hm,QV,QP]
       rw[if_pos e]
       exact ⟨by rw[e],Kw.Zg h t m c T ht hm x _⟩
     ·simp only[go_sem,simprocAttr,Qa,Go.undef]
      refine QL hb Lk rfl ?_ (Lu _ t m c T (KS ht) (KS hm) x.parent) rfl fun d hR=>?_
      ·simp only[go_sem,simprocAttr,Qa]
      subst hR
      refine Qc hb ?_
      simp only[go_sem,simprocAttr,Qa]
      cases Jf:VK L x.parent
      ·have e:E=29:=by rw[a2,if_pos ⟨by simpa using Zf,Jf⟩]
       simp only[go_sem,simprocAttr,Qa,Go.undef]
       exact ⟨by rw[e],bad _ (by rw[e];decide)⟩
      ·simp only[go_sem,simprocAttr,Qa,Go.undef]
       refine QL hb CC rfl ?_ (CI _ t m c T (KS ht) (KS hm) x.parent N hN hE) rfl fun d hR=>?_
       ·simp only[go_sem,simprocAttr,Qa]
       subst hR
       refine Qc hb ?_
       simp only[go_sem,simprocAttr,Qa]
       by_cases hd:(ZG L N x.parent).length=16
       ·have e:E=25:=by rw[a2,if_neg (by rw[Jf];simp),if_pos hd]
        have Jz:(((ZG L N x.parent).length:Int) == 16)=true:=by simp;omega
        simp only[go_sem,simprocAttr,Qa,Jz]
        exact ⟨by rw[e],bad _ (by rw[e];decide)⟩
       ·have e:E=0:=by rw[a2,if_neg (by rw[Jf];simp),if_neg hd]
        have Jz:(((ZG L N x.parent).length:Int) == 16)=false:=by simp;omega
        simp only[go_sem,simprocAttr,Qa,Jz]
        refine QA Qe hb 200 mixed [(0,true),(1,true),(2,true),(3,true),(4,true),(5,true),(6,true),(7,false)] (by kernel_rfl) (by kernel_rfl) ?_
        simp only[go_sem,simprocAttr,Qa,ht,hm,QV,QP]
        rw[if_pos e]
        exact ⟨by rw[e],Kw.Zg h t m c T ht hm x _⟩
end
def jK (L:List Qi) (id:Int):Int:=if (Qr L id).isNone then 6 else if KI L id≠[] then 23 else 0
section
variable (h:List Ob) (t m c:Nat) {es:List QK} {L:List Qi} (T:JK es L) (hlen:L.length<1000000)
 (ht:h[t]? = some ⟨.one,0,1,1,fun _=>[.mref m 0]⟩) (hm:h[m]? = some (QE .i64 c es))
include T ht hm hlen
omit hlen T in
theorem Kw.put {c':Nat} {es':List QK} {L':List Qi} (T':JK es' L') (g:List Ob):Kw h t m L' (h.set m (QE .i64 c' es')++g):=by
 have QP:=Qd hm
 have QV:=Qd ht
 have QD:m≠t:=by rintro rfl;rw[ht] at hm;cases hm
 refine ⟨⟨c',es',?_,?_,T'⟩,by simp,fun l hl Jd=>?_⟩
 ·rw[QU (by simpa using QV),Qt QD];exact ht
 ·rw[QU (by simpa using QP),Qw QP]
 ·rw[QU (by simpa using hl),Qt (Ne.symm Jd)]
theorem QjC (id:Int):QG Tryz.prog 186 h [.ptr t 0 0 0,Qb id] (fun d h'=>d=Qb (jK L id)∧Kw h t m (if jK L id=0 then KR L id else L) h'):=by
 have hk:=T.look id
 have QV:=Qd ht
 have QP:=Qd hm
 obtain ⟨E,XZ⟩:∃ E,E=jK L id:=⟨_,rfl⟩
 rw[← XZ]
 have bad:∀ g:List Ob,E≠0→Kw h t m (if E=0 then KR L id else L) (h++g):=fun g QD=>by rw[if_neg QD];exact Kw.same h t m c ht hm T g
 cases hf:Qr L id with
 | none=>
  have e:E=6:=by rw[XZ,jK,if_pos (by simp [hf])]
  rw[hf,Option.map_none] at hk
  refine QW Qe 200 Tryz.func186 rfl Tryz.ntmps186 Tryz.results186 rfl fun base w pl hb=>?_
  have QV:=Qd ht
  have QP:=Qd hm
  simp only[go_sem,simprocAttr,Qa,ht,QV,hm,QP,hk]
  exact ⟨by rw[e],bad _ (by rw[e];decide)⟩
 | some x=>
  rw[hf,Option.map_some] at hk
  have a1:E=if KI L id≠[] then 23 else 0:=by rw[XZ,jK,if_neg (by simp [hf])]
  refine QW Qe 200 Tryz.func186 rfl Tryz.ntmps186 Tryz.results186 rfl fun base w pl hb=>?_
  have QV:=Qd ht
  have QP:=Qd hm
  simp only[go_sem,simprocAttr,Qa,ht,QV,hm,QP,hk]
  refine yh hb OS rfl ?_ (Pu _ t m c T hlen (KS ht) (KS hm) id) rfl fun d g hs=>?_
  ·simp only[go_sem,simprocAttr]
  rcases hs with ⟨rfl,h0⟩ | ⟨lo,gn,off,row,rfl,Zp,ho,hr⟩
  ·have e:E=0:=by rw[a1,if_neg (by simp [h0])]
   refine Qc hb ?_
   simp only[go_sem,simprocAttr,Qa,ht,hm,QV,QP]
   rw[if_pos e]
   exact ⟨by rw[e],Kw.put h t m c ht hm (m6 T id) _⟩
  ·have Qf:=Qd ho
   refine Qc hb ?_
   by_cases h0:KI L id=[]
   ·have e:E=0:=by rw[a1,if_neg (by simp [h0])]
    simp only[go_sem,simprocAttr,Qa,ht,hm,QV,QP,ho,Qf,h0]
    rw[if_pos e]
    exact ⟨by rw[e],Kw.put h t m c ht hm (m6 T id) _⟩
   ·have e:E=23:=by rw[a1,if_pos h0]
    have jn:0<(KI L id).length:=List.length_pos_iff.2 h0
    have VL:(0:Int)<((KI L id).length:Int):=by omega
    simp only[go_sem,simprocAttr,Qa,ht,hm,QV,QP,ho,Qf,VL,decide_eq_true VL]
    exact ⟨by rw[e],bad _ (by rw[e];decide)⟩
end
theorem Pv (h:List Ob):(h.map Ob.ro).map Ob.ro=h.map Ob.ro:=by rw[List.map_map];exact List.map_congr_left fun o _=>ro_ro o
def nv (F:List Ob) (f nf:Nat) (QB:List D) (g:Int→Bool):Prop:=∀ (h:List Ob) (n:Int),JY F h→QQ Tryz.prog f h (Z6 nf QB [Qb n]) (fun d=>d=QN (g n))
def Y0 (g:Int→Bool) (l:List Int):Int:=match l.findIdx? g with
 | some i=>i
 | none=>-1
theorem Pw {g:Int→Bool} {l:List Int} {k:Nat} (hk:k<l.length) (h:∀ i,i<k→g (l.getD i 0)=false) (hg:g (l.getD k 0)=true):Y0 g l=k:=by
 have e:l.findIdx? g=some k:=by
  rw[List.findIdx?_eq_some_iff_getElem]
  refine ⟨hk,by simpa [List.getD_eq_getElem?_getD,hk] using hg,fun i hi=>?_⟩
  have:=h i hi
  simpa [List.getD_eq_getElem?_getD,show i<l.length by omega] using this
 rw[Y0,e]
theorem Px {g:Int→Bool} {l:List Int} (h:∀ i,i<l.length→g (l.getD i 0)=false):Y0 g l=-1:=by
 have e:l.findIdx? g=none:=by
  rw[List.findIdx?_eq_none_iff]
  intro x hx
  obtain ⟨i,hi,rfl⟩:=List.getElem_of_mem hx
  have:=h i hi
  simpa [List.getD_eq_getElem?_getD,hi] using this
 rw[Y0,e]
section
variable (h:List Ob) (l:List Int) (lo gn off:Nat) (row:Nat→List D) (hlen:l.length<1000000) (ho:(h.map Ob.ro)[lo]? = some ⟨.xC,gn,1,off+l.length,row⟩) (hr:∀ i,i<l.length→row (off+i)=[Qb (l.getD i 0)])
include hlen ho hr
theorem QjD (so:D) (f nf:Nat) (QB:List D) (hf:Qo Tryz.prog f) (JP:J6 so=some (f,nf,QB)) (gk:Int→Bool) (hg:nv (h.map Ob.ro) f nf QB gk) :
  QQ Tryz.prog 134 h [.ref lo gn off l.length,so] (fun d=>d=Qb (Y0 gk l)):=by
 refine Zh Qe 200 Tryz.func134 rfl Tryz.ntmps134 Tryz.results134 rfl fun base w pl F hF QR hb=>?_
 rw[← hF] at ho
 have Qf:=Qd ho
 simp only[go_sem,simprocAttr,Qa,ho,Qf]
 refine ZB (fun k s=>(∀ i,i<k→gk (l.getD i 0)=false)∧s=⟨[(0,.ref lo gn off l.length),(1,so),(7,Qb l.length),(8,Qb k)],F⟩) l.length (Ql.frame (by simp only[go_sem,simprocAttr])) ⟨fun i hi=>absurd hi (by omega),rfl⟩ ?_
 rintro k s hk ⟨hn,rfl⟩
 refine Qc hb ?_
 simp only[go_sem,simprocAttr,Qa]
 have Qf:=Qd ho
 have Zl:=KG (show k<4611686018427387904 by omega)
 first | refine kI hk (fun Qq=>?_) (fun Qq=>?_) | refine kJ hk (fun Qq=>?_) (fun Qq=>?_)
 ·have Py:=hr k Qq
  have zG:off+k<off+l.length:=by omega
  simp only[go_sem,simprocAttr,Qa,ho,Qf,Qq,Py,zG]
  refine QL hb hf JP ?_ (hg F (l.getD k 0) (by rw[← hF];exact JY.refl F)) rfl fun d2 hR=>?_
  ·simp only[go_sem,simprocAttr]
   exact kW _
  subst hR
  refine Qc hb ?_
  cases Xp:gk (l.getD k 0)
  ·simp only[go_sem,simprocAttr,Qa]
   refine ⟨Qq,_,Ql.frame (by simp only[go_sem,simprocAttr,Zl]),fun i hi=>?_,rfl⟩
   by_cases h1:i<k
   ·exact hn i h1
   ·have:i=k:=by omega
    subst this;exact Xp
  ·rw[Pw Qq hn Xp]
   simp only[go_sem,simprocAttr,Qa]
   exact ⟨[],(List.append_nil F).symm⟩
 ·have Qq:k=l.length:=by omega
  subst Qq
  simp only[go_sem,simprocAttr,Nat.lt_irrefl]
  rw[Px hn]
  refine Qc hb ?_
  simp only[go_sem,simprocAttr,Qa]
  exact ⟨[],(List.append_nil F).symm⟩
theorem QjE (so:D) (f nf:Nat) (QB:List D) (hf:Qo Tryz.prog f) (JP:J6 so=some (f,nf,QB)) (gk:Int→Bool) (hg:nv (h.map Ob.ro) f nf QB gk) :
  QQ Tryz.prog 52 h [.ref lo gn off l.length,so] (fun d=>d=QN (decide (0≤Y0 gk l))):=by
 refine Zh Qe 200 Tryz.func52 rfl Tryz.ntmps52 Tryz.results52 rfl fun base w pl F hF QR hb=>?_
 rw[← hF] at ho
 have Qf:=Qd ho
 simp only[go_sem,simprocAttr,Qa,ho,Qf]
 refine QL hb Fu rfl ?_ (QjD F l lo gn off row hlen (Zv ho) hr so f nf QB hf JP gk (fun h' n hx=>?_)) rfl fun d2 hR=>?_
 ·simp only[go_sem,simprocAttr]
  exact AR so
 ·rw[hF,Pv] at hx
  exact hg h' n hx
 subst hR
 refine Qc hb ?_
 simp only[go_sem,simprocAttr,Qa]
 exact ⟨[],(List.append_nil F).symm⟩
end
theorem nw (h:List Ob) (so:D):QQ Tryz.prog 134 h [.nil,so] (fun d=>d=Qb (-1)):=by
 refine Zh Qe 200 Tryz.func134 rfl Tryz.ntmps134 Tryz.results134 rfl fun base w pl F hF QR hb=>?_
 simp only[go_sem,simprocAttr,Qa]
 refine ZB (fun k s=>s=⟨[(7,Qb 0),(8,Qb 0)],F⟩) 0 (Ql.frame (by simp only[go_sem,simprocAttr])) rfl ?_
 rintro k s hk rfl
 refine Qc hb ?_
 simp only[go_sem,simprocAttr,Qa]
 refine Qc hb ?_
 simp only[go_sem,simprocAttr,Qa]
 exact ⟨[],(List.append_nil F).symm⟩
theorem QjF (h:List Ob) (so:D):QQ Tryz.prog 52 h [.nil,so] (fun d=>d=QN false):=by
 refine Zh Qe 200 Tryz.func52 rfl Tryz.ntmps52 Tryz.results52 rfl fun base w pl F hF QR hb=>?_
 simp only[go_sem,simprocAttr,Qa]
 refine QL hb Fu rfl ?_ (nw F so) rfl fun d2 hR=>?_
 ·simp only[go_sem,simprocAttr]
  exact AR so
 subst hR
 refine Qc hb ?_
 simp only[go_sem,simprocAttr,Qa]
 exact ⟨[],(List.append_nil F).symm⟩
theorem FF (g:Int→Bool) (l:List Int):decide (0≤Y0 g l)=l.any g:=by
 unfold Y0
 cases h:l.findIdx? g with
 | some i=>
  have:=List.findIdx?_eq_some_iff_getElem.1 h
  obtain ⟨h1,h2,_⟩:=this
  have e:l.any g=true:=List.any_eq_true.2 ⟨_,List.getElem_mem h1,h2⟩
  rw[e];simp
 | none=>
  have:=List.findIdx?_eq_none_iff.1 h
  have e:l.any g=false:=by rw[List.any_eq_false];intro x hx;simp [this x hx]
  rw[e];decide
def Y6 (L:List Qi) (id:Int):Bool:=decide (1<QH ((Qr L id).getD default).ls)
def jL (L:List Qi) (x:Qi):Int:=
 if JH x≠0 then JH x
 else if (Qr L x.iD).isNone then 6
 else if x.parent≠((Qr L x.iD).getD default).parent∨x.leaf≠((Qr L x.iD).getD default).leaf then 1
 else if (1<QH x.ls∧VK L x.parent=false)∨(¬ 1<QH x.ls∧(KI L x.iD).any (Y6 L)=true) then 29
 else 0
section
variable (h:List Ob) (t m c tb:Nat) {es:List QK} {L:List Qi} (T:JK es L)
 (ht:(h.map Ob.ro)[t]? = some ⟨.Ku,0,1,1,fun _=>[.mref m 0]⟩) (hm:(h.map Ob.ro)[m]? = some (QE .i64 c es).ro)
 (Q9:(h.map Ob.ro)[tb]? = some ⟨.Ku,0,1,1,fun _=>[.ptr t 0 0 0]⟩)
include T ht hm Q9
theorem QjG (id:Int):QQ Tryz.prog 222 h [Qb id,.ptr tb 0 0 0] (fun d=>d=QN (Y6 L id)):=by
 have hk:=T.look id
 unfold Y6
 cases hf:Qr L id with
 | none=>
  rw[hf,Option.map_none] at hk
  refine Zh Qe 200 Tryz.func222 rfl Tryz.ntmps222 Tryz.results222 rfl fun base w pl F hF QR hb=>?_
  rw[← hF] at ht hm Q9
  have QV:=Qd ht
  have QP:=Qd hm
  have Y7:=Qd Q9
  simp only[go_sem,simprocAttr,Qa,ht,QV,hm,QP,Q9,Y7,hk]
  refine QM hb Ys rfl ?_ (Yu ⟨0,0,false,⟨0,0,0⟩,⟨0,0,0⟩,⟨0,0,0⟩,0,0⟩) (Qm.flat rfl) rfl fun d h hR=>?_
  ·simp only[go_sem,simprocAttr,Qa]
  obtain ⟨rfl,rfl⟩:=hR
  refine Qc hb ?_
  simp only[go_sem,simprocAttr,Qa]
  exact ⟨[],(List.append_nil F).symm,rfl⟩
 | some x=>
  rw[hf,Option.map_some] at hk
  refine Zh Qe 200 Tryz.func222 rfl Tryz.ntmps222 Tryz.results222 rfl fun base w pl F hF QR hb=>?_
  rw[← hF] at ht hm Q9
  have QV:=Qd ht
  have QP:=Qd hm
  have Y7:=Qd Q9
  simp only[go_sem,simprocAttr,Qa,ht,QV,hm,QP,Q9,Y7,hk]
  refine QM hb Ys rfl ?_ (Yu x) (Qm.flat rfl) rfl fun d h hR=>?_
  ·simp only[go_sem,simprocAttr,Qa]
  obtain ⟨rfl,rfl⟩:=hR
  refine Qc hb ?_
  simp only[go_sem,simprocAttr,Qa]
  exact ⟨[],by simp⟩
end
section
variable (h:List Ob) (t m c:Nat) {es:List QK} {L:List Qi} (T:JK es L) (hlen:L.length<1000000)
 (ht:h[t]? = some ⟨.one,0,1,1,fun _=>[.mref m 0]⟩) (hm:h[m]? = some (QE .i64 c es))
include T ht hm hlen
theorem QjH (x:Qi):QG Tryz.prog 184 h [.ptr t 0 0 0,Vf x] (fun d h'=>d=Qb (jL L x)∧Kw h t m (if jL L x=0 then Ke L x else L) h'):=by
 have hk:=T.look x.iD
 have QV:=Qd ht
 have QP:=Qd hm
 obtain ⟨E,XZ⟩:∃ E,E=jL L x:=⟨_,rfl⟩
 rw[← XZ]
 have bad:∀ g:List Ob,E≠0→Kw h t m (if E=0 then Ke L x else L) (h++g):=fun g QD=>by rw[if_neg QD];exact Kw.same h t m c ht hm T g
 refine QW Qe 200 Tryz.func184 rfl Tryz.ntmps184 Tryz.results184 rfl fun base w pl hb=>?_
 have QV:=Qd ht
 have QP:=Qd hm
 simp only[go_sem,simprocAttr,Qa,ht,QV,hm,QP]
 refine QM hb mG rfl ?_ (mW x) (Qm.flat rfl) rfl fun d h hR=>?_
 ·simp only[go_sem,simprocAttr,Qa]
 obtain ⟨rfl,rfl⟩:=hR
 refine Qc hb ?_
 simp only[go_sem,simprocAttr,Qa]
 by_cases h0:JH x=0
 case neg=>
  have e:E=JH x:=by rw[XZ,jL,if_pos h0]
  simp only[go_sem,simprocAttr,Qa,Vq h0,bne]
  exact ⟨by rw[e],bad _ (by rw[e];exact h0)⟩
 simp only[go_sem,simprocAttr,Qa,Xo h0,bne]
 cases kX:Qr L x.iD with
 | none=>
  have e:E=6:=by rw[XZ,jL,if_neg (by simpa using h0),if_pos (by simp [kX])]
  rw[kX,Option.map_none] at hk
  refine QA Qe hb 200 mixed [(0,true),(1,true),(2,true),(3,true),(4,true),(5,true),(6,true),(7,true),(8,true),(9,true),(10,false),(11,false),(12,true)] (by kernel_rfl) (by kernel_rfl) ?_
  simp only[go_sem,simprocAttr,Qa,ht,hm,QV,QP,hk]
  exact ⟨by rw[e],bad _ (by rw[e];decide)⟩
 | some y=>
  rw[kX,Option.map_some] at hk
  have a1:E=(if x.parent≠y.parent∨x.leaf≠y.leaf then 1 else if (1<QH x.ls∧VK L x.parent=false)∨(¬ 1<QH x.ls∧(KI L x.iD).any (Y6 L)=true) then 29 else 0):=by
   rw[XZ,jL,if_neg (by simpa using h0),if_neg (by simp [kX]),kX];rfl
  by_cases hp:x.parent=y.parent
  case neg=>
   have e:E=1:=by rw[a1,if_pos (.inl hp)]
   refine QA Qe hb 200 mixed [(0,true),(1,true),(2,true),(3,true),(4,true),(5,true),(6,true),(7,true),(8,true),(9,true),(10,false),(11,false),(12,true)] (by kernel_rfl) (by kernel_rfl) ?_
   simp only[go_sem,simprocAttr,Qa,ht,hm,QV,QP,hk,Vq hp,bne]
   exact ⟨by rw[e],bad _ (by rw[e];decide)⟩
  by_cases hl:x.leaf=y.leaf
  case neg=>
   have e:E=1:=by rw[a1,if_pos (.inr hl)]
   have Jd:(x.leaf == y.leaf)=false:=by simpa using hl
   refine QA Qe hb 200 mixed [(0,true),(1,true),(2,true),(3,true),(4,true),(5,true),(6,true),(7,true),(8,true),(9,true),(10,false),(11,false),(12,true)] (by kernel_rfl) (by kernel_rfl) ?_
   simp only[go_sem,simprocAttr,Qa,ht,hm,QV,QP,hk,Xo hp,bne,Jd]
   exact ⟨by rw[e],bad _ (by rw[e];decide)⟩
  have Jd:(x.leaf == y.leaf)=true:=by simpa using hl
  rw[if_neg (by simp [hp,hl])] at a1
  refine QA Qe hb 200 mixed [(0,true),(1,true),(2,true),(3,true),(4,true),(5,true),(6,true),(7,true),(8,true),(9,true),(10,false),(11,false),(12,true)] (by kernel_rfl) (by kernel_rfl) ?_
  simp only[go_sem,simprocAttr,Qa,ht,hm,QV,QP,hk,Xo hp,bne,Jd]
  refine QM hb Ys rfl ?_ (Yu x) (Qm.flat rfl) rfl fun d h hR=>?_
  ·simp only[go_sem,simprocAttr,Qa]
  obtain ⟨rfl,rfl⟩:=hR
  refine Qc hb ?_
  simp only[go_sem,simprocAttr,Qa]
  cases Zf:decide (1<QH x.ls)
  ·have CL:¬ 1<QH x.ls:=by simpa using Zf
   simp only[go_sem,simprocAttr,Qa,Go.undef]
   refine QM hb Ys rfl ?_ (Yu x) (Qm.flat rfl) rfl fun d h hR=>?_
   ·simp only[go_sem,simprocAttr,Qa,Zf,Go.undef]
   obtain ⟨rfl,rfl⟩:=hR
   refine Qc hb ?_
   simp only[go_sem,simprocAttr,Qa,Zf,Go.undef]
   refine yh hb OS rfl ?_ (Pu _ t m c T hlen (KS ht) (KS hm) x.iD) rfl fun d g hs=>?_
   ·simp only[go_sem,simprocAttr]
   rcases hs with ⟨rfl,CM⟩ | ⟨lo,gn,off,row,rfl,Zp,ho,hr⟩
   ·have e:E=0:=by rw[a1,if_neg (by rintro (⟨h1,_⟩ | ⟨_,h1⟩);exact CL h1;rw[CM] at h1;simp at h1)]
    refine Qc hb ?_
    simp only[go_sem,simprocAttr,Qa,ht,hm,QV,QP]
    refine QL hb Fs rfl ?_ (QjF _ (.clo 222 0 [.ptr h.length 0 0 0])) rfl fun d hR=>?_
    ·simp only[go_sem,simprocAttr,Qa,Go.undef]
    subst hR
    refine Qc hb ?_
    simp only[go_sem,simprocAttr,Qa,Go.undef]
    refine QA Qe hb 200 mixed [(0,true),(1,true),(2,true),(3,true),(4,true),(5,true),(6,true),(7,false)] (by kernel_rfl) (by kernel_rfl) ?_
    simp only[go_sem,simprocAttr,Qa,ht,hm,QV,QP]
    rw[if_pos e]
    exact ⟨by rw[e],Kw.Zg h t m c T ht hm x _⟩
   ·refine Qc hb ?_
    have ZY:(KI L x.iD).length<1000000:=by
     have:=List.length_filter_le (fun y:Qi=>y.parent == x.iD) L
     unfold KI;rw[List.length_map];omega
    rw[List.append_assoc] at ho
    simp only[go_sem,simprocAttr,Qa,ht,hm,QV,QP]
    refine QL hb Fs rfl ?_ (QjE _ (KI L x.iD) lo gn off row ZY (Zv ho) hr (.clo 222 0 [.ptr h.length 0 0 0]) 222 0 [.ptr h.length 0 0 0] QiD rfl (Y6 L) (fun h' n hx=>QjG h' t m c h.length T (Zv (hx.get (KS ht))) (AQ (hx.get (KS hm))) (Zv (hx.get (Zv (o:=⟨.one,0,1,1,fun _=>[.ptr t 0 0 0]⟩) (by rw[Kq rfl];rfl)))) n)) rfl fun d hR=>?_
    ·simp only[go_sem,simprocAttr,Qa,Go.undef,FF]
    subst hR
    refine Qc hb ?_
    simp only[go_sem,simprocAttr,Qa,Go.undef,FF]
    cases wF:(KI L x.iD).any (Y6 L)
    ·have e:E=0:=by rw[a1,if_neg (by rw[wF];simp [CL])]
     simp only[go_sem,simprocAttr,Qa,Go.undef]
     refine QA Qe hb 200 mixed [(0,true),(1,true),(2,true),(3,true),(4,true),(5,true),(6,true),(7,false)] (by kernel_rfl) (by kernel_rfl) ?_
     simp only[go_sem,simprocAttr,Qa,ht,hm,QV,QP]
     rw[if_pos e]
     exact ⟨by rw[e],Kw.Zg h t m c T ht hm x _⟩
    ·have e:E=29:=by rw[a1,if_pos (.inr ⟨CL,wF⟩)]
     simp only[go_sem,simprocAttr,Qa,Go.undef]
     exact ⟨by rw[e],bad _ (by rw[e];decide)⟩
  ·have CL:1<QH x.ls:=by simpa using Zf
   simp only[go_sem,simprocAttr,Qa,Go.undef]
   refine QL hb Lk rfl ?_ (Lu _ t m c T (KS ht) (KS hm) x.parent) rfl fun d hR=>?_
   ·simp only[go_sem,simprocAttr,Qa]
   subst hR
   refine Qc hb ?_
   simp only[go_sem,simprocAttr,Qa]
   cases Jf:VK L x.parent
   ·have e:E=29:=by rw[a1,if_pos (.inl ⟨CL,Jf⟩)]
    simp only[go_sem,simprocAttr,Qa,Go.undef]
    exact ⟨by rw[e],bad _ (by rw[e];decide)⟩
   ·have e:E=0:=by rw[a1,if_neg (by rw[Jf];simp [CL])]
    simp only[go_sem,simprocAttr,Qa,Go.undef]
    refine QM hb Ys rfl ?_ (Yu x) (Qm.flat rfl) rfl fun d h hR=>?_
    ·simp only[go_sem,simprocAttr,Qa,Zf,Go.undef]
    obtain ⟨rfl,rfl⟩:=hR
    refine Qc hb ?_
    simp only[go_sem,simprocAttr,Qa,Zf,Go.undef]
    refine QA Qe hb 200 mixed [(0,true),(1,true),(2,true),(3,true),(4,true),(5,true),(6,true),(7,false)] (by kernel_rfl) (by kernel_rfl) ?_
    simp only[go_sem,simprocAttr,Qa,ht,hm,QV,QP]
    rw[if_pos e]
    exact ⟨by rw[e],Kw.Zg h t m c T ht hm x _⟩
end
theorem zH {L:List Qi} (h:KH L) (x:Qi) (k:Int):Qr (Ke L x) k=if k=x.iD then some x else Qr L k:=by
 have hr:=CG x h
 have hm:=fun c=>(AO x h).mem_iff (a:=c)
 by_cases hk:k=x.iD
 ·rw[if_pos hk]
  exact (KQ hr).2 ⟨(hm x).2 (by simp),hk.symm⟩
 ·rw[if_neg hk]
  cases hf:Qr L k with
  | some c=>
   obtain ⟨h1,h2⟩:=(KQ h).1 hf
   exact (KQ hr).2 ⟨(hm c).2 (List.mem_cons.2 (.inr (List.mem_filter.2 ⟨h1,by simp;omega⟩))),h2⟩
  | none=>
   rw[yo] at hf ⊢
   intro c hc
   rcases List.mem_cons.1 ((hm c).1 hc) with rfl | hc
   ·exact fun e=>hk e.symm
   ·exact hf c (List.mem_filter.1 hc).1
theorem FG {L:List Qi} (h:KH L) (k0 k:Int):Qr (KR L k0) k=if k=k0 then none else Qr L k:=by
 have hr:=Pq k0 h
 by_cases hk:k=k0
 ·rw[if_pos hk,yo]
  intro c hc
  have:=(List.mem_filter.1 hc).2
  simp at this;omega
 ·rw[if_neg hk]
  cases hf:Qr L k with
  | some c=>
   obtain ⟨h1,h2⟩:=(KQ h).1 hf
   exact (KQ hr).2 ⟨List.mem_filter.2 ⟨h1,by simp;omega⟩,h2⟩
  | none=>
   rw[yo] at hf ⊢
   exact fun c hc=>hf c (List.mem_filter.1 hc).1
theorem Ends.succ {L:List Qi}:∀ {n:Nat} {id:Int},Ends L n id→Ends L (n+1) id
 | 0,id,h=>by simp only[Ends] at h ⊢;rw[h];trivial
 | n+1,id,h=>by
  rw[Ends] at h ⊢
  cases hf:Qr L id with
  | none=>trivial
  | some c=>rw[hf] at h;exact Ends.succ h
theorem Ends.le {L:List Qi} {n k:Nat} {id:Int} (h:Ends L n id) (hk:n≤k):Ends L k id:=by
 induction hk with
 | refl=>exact h
 | step _ ih=>exact ih.succ
theorem ny {L:List Qi}:∀ {n:Nat} {id:Int},Ends L n id→ZG L (n+1) id=ZG L n id
 | 0,id,h=>by simp only[Ends] at h;simp only[ZG,h]
 | n+1,id,h=>by
  rw[Ends] at h
  rw[ZG]
  conv=>rhs;rw[ZG]
  cases hf:Qr L id with
  | none=>rfl
  | some c=>rw[hf] at h;simp only[ny h]
theorem kY {L:List Qi}:∀ {n:Nat} {id:Int},(ZG L n id).length≤n
 | 0,_=>Nat.le_refl _
 | n+1,id=>by
  rw[ZG]
  cases Qr L id with
  | none=>exact Nat.zero_le _
  | some c=>have:=kY (L:=L) (n:=n) (id:=c.parent);simp only[List.length_cons];omega
theorem Ends.short {L:List Qi}:∀ {n k:Nat} {id:Int},Ends L n id→(ZG L n id).length≤k→Ends L k id
 | 0,k,id,h,_=>h.le (Nat.zero_le _)
 | n+1,k,id,h,hk=>by
  rw[Ends] at h
  rw[ZG] at hk
  cases hf:Qr L id with
  | none=>cases k with
   | zero=>exact hf
   | succ k=>rw[Ends,hf];trivial
  | some c=>
   rw[hf] at h hk
   simp only[List.length_cons] at hk
   cases k with
   | zero=>omega
   | succ k=>rw[Ends,hf];exact Ends.short h (by omega)
structure TreeInv (L:List Qi):Prop where
 rising:KH L
 ids:∀ c∈L,1≤c.iD
 par:∀ c∈L,c.parent=0∨(Qr L c.parent).isSome=true
 ends:∀ id,Ends L 16 id
theorem TreeInv.nil:TreeInv []:=⟨by simp [KH],by simp,by simp,fun id=>by simp [Ends,Qr]⟩
theorem right_id {x:Qi} (h:JH x=0):1≤x.iD∧x.iD≤65536∧x.parent≠x.iD:=by
 have h2:wB x=true:=by
  cases h3:wB x with
  | true=>rfl
  | false=>rw[JH,h3] at h;simp at h
 simp [wB,zF] at h2
 exact ⟨h2.1.1.1,h2.1.1.2,h2.2⟩
theorem LA {L:List Qi} (h:KH L) (x:Qi) {k:Int} (hk:(Qr L k).isSome=true):(Qr (Ke L x) k).isSome=true:=by
 rw[zH h];split
 ·rfl
 ·exact hk
theorem zI {L:List Qi} (h:KH L) (x:Qi) {c:Qi} (hc:c∈Ke L x):c=x∨c∈L:=by
 rcases List.mem_cons.1 ((AO x h).mem_iff.1 hc) with h1 | h1
 ·exact .inl h1
 ·exact .inr (List.mem_filter.1 h1).1
theorem TreeInv.add {L:List Qi} (I:TreeInv L) {x:Qi} (h0:JH x=0) (h1:Qr L x.iD=none) (h2:x.parent=0∨(Qr L x.parent).isSome=true) (h3:(ZG L 16 x.parent).length≠16):TreeInv (Ke L x):=by
 obtain ⟨i1,_,i3⟩:=right_id h0
 have key:∀ n id,id≠x.iD→Ends L n id→Ends (Ke L x) n id:=by
  intro n
  induction n with
  | zero=>intro id QX h;rw[Ends] at h ⊢;rw[zH I.rising,if_neg QX];exact h
  | succ n ih=>
   intro id QX h
   rw[Ends] at h ⊢
   rw[zH I.rising,if_neg QX]
   cases hf:Qr L id with
   | none=>trivial
   | some c=>
    rw[hf] at h
    refine ih _ ?_ h
    rcases I.par c ((KQ I.rising).1 hf).1 with hp | hp
    ·rw[hp];omega
    ·intro e;rw[e,h1] at hp;cases hp
 refine ⟨CG x I.rising,fun c hc=>?_,fun c hc=>?_,fun id=>?_⟩
 ·rcases zI I.rising x hc with rfl | hc
  ·exact i1
  ·exact I.ids c hc
 ·rcases zI I.rising x hc with rfl | hc
  ·exact h2.imp id fun h=>LA I.rising c h
  ·exact (I.par c hc).imp id fun h=>LA I.rising x h
 ·by_cases QX:id=x.iD
  ·subst QX
   rw[Ends,zH I.rising,if_pos rfl]
   refine key 15 _ i3 ((I.ends x.parent).short ?_)
   have:=kY (L:=L) (n:=16) (id:=x.parent)
   omega
  ·exact key 16 id QX (I.ends id)
theorem TreeInv.del {L:List Qi} (I:TreeInv L) {k0:Int} (h:KI L k0=[]):TreeInv (KR L k0):=by
 have JL:∀ c∈L,c.parent≠k0:=fun c hc e=>by
  have:c∈L.filter (fun y=>y.parent == k0):=List.mem_filter.2 ⟨hc,by simp [e]⟩
  have h2:(L.filter fun y=>y.parent == k0)=[]:=by simpa [KI] using h
  rw[h2] at this;simp at this
 refine ⟨Pq k0 I.rising,fun c hc=>I.ids c (List.mem_filter.1 hc).1,fun c hc=>?_,fun id=>?_⟩
 ·have zo:=(List.mem_filter.1 hc).1
  exact (I.par c zo).imp id fun hp=>by rw[FG I.rising,if_neg (JL c zo)];exact hp
 ·have key:∀ n id,Ends L n id→Ends (KR L k0) n id:=by
   intro n
   induction n with
   | zero=>intro id h;rw[Ends] at h ⊢;rw[FG I.rising];split <;> simp [h]
   | succ n ih=>
    intro id h
    rw[Ends] at h ⊢
    rw[FG I.rising]
    by_cases QX:id=k0
    ·rw[if_pos QX];trivial
    ·rw[if_neg QX]
     cases hf:Qr L id with
     | none=>trivial
     | some c=>rw[hf] at h;exact ih _ h
  exact key 16 id (I.ends id)
theorem TreeInv.set {L:List Qi} (I:TreeInv L) {x y:Qi} (h0:JH x=0) (h1:Qr L x.iD=some y) (h2:x.parent=y.parent):TreeInv (Ke L x):=by
 obtain ⟨i1,_,i3⟩:=right_id h0
 have key:∀ n id,Ends L n id→Ends (Ke L x) n id:=by
  intro n
  induction n with
  | zero=>
   intro id h
   rw[Ends] at h ⊢
   rw[zH I.rising]
   by_cases QX:id=x.iD
   ·subst QX;rw[h1] at h;cases h
   ·rw[if_neg QX];exact h
  | succ n ih=>
   intro id h
   rw[Ends] at h ⊢
   rw[zH I.rising]
   by_cases QX:id=x.iD
   ·subst QX;rw[if_pos rfl];rw[h1] at h;show Ends (Ke L x) n x.parent;rw[h2];exact ih _ h
   ·rw[if_neg QX]
    cases hf:Qr L id with
    | none=>trivial
    | some c=>rw[hf] at h;exact ih _ h
 refine ⟨CG x I.rising,fun c hc=>?_,fun c hc=>?_,fun id=>key 16 id (I.ends id)⟩
 ·rcases zI I.rising x hc with rfl | hc
  ·exact i1
  ·exact I.ids c hc
 ·rcases zI I.rising x hc with rfl | hc
  ·rw[h2]
   exact (I.par y ((KQ I.rising).1 h1).1).imp id fun h=>LA I.rising c h
  ·exact (I.par c hc).imp id fun h=>LA I.rising x h
def up (T:List Qi) (id:Int):List Int:=ZG T 16 id
structure JA (T:List Qi):Prop extends TreeInv T where
 right:∀ c∈T,JH c=0
 Xn:∀ c∈T,c.parent≠0→∃ d,Qr T c.parent=some d∧d.leaf=false
 LB:∀ c∈T,1<QH c.ls→c.parent≠0→Y6 T c.parent=true
 len:T.length≤64
section
variable {T:List Qi} (I:JA T)
include I
theorem Pz (id:Int):up T id=match Qr T id with | none=>[] | some c=>id::up T c.parent:=by
 have h1:=ny (I.ends id)
 unfold up
 rw[← h1,ZG]
 all_goals (cases Qr T id <;> rfl)
theorem JQ {id:Int} {c:Qi} (h:Qr T id=some c):up T id=id::up T c.parent:=by rw[Pz I,h]
theorem FH {id:Int} (h:Qr T id=none):up T id=[]:=by rw[Pz I,h]
theorem QjI {id:Int} {c:Qi} (h:Qr T id=some c):c.iD=id:=((KQ I.rising).1 h).2
theorem qJ {id:Int} {c:Qi} (h:Qr T id=some c):c∈T:=((KQ I.rising).1 h).1
theorem AT:Qr T 0=none:=yo.2 fun c hc e=>by have:=I.ids c hc;omega
theorem CN:up T 0=[]:=FH I (AT I)
omit I in
theorem AU {id j:Int} (h:j∈up T id):(Qr T j).isSome=true:=by
 have:∀ n id,j∈ZG T n id→(Qr T j).isSome=true:=by
  intro n
  induction n with
  | zero=>intro id h;cases h
  | succ n ih=>
   intro id h
   rw[ZG] at h
   cases hf:Qr T id with
   | none=>rw[hf] at h;cases h
   | some c=>
    rw[hf] at h
    rcases List.mem_cons.1 h with rfl | h
    ·rw[hf];rfl
    ·exact ih _ h
 exact this 16 id h
theorem FI {a p:Int} (h:p∈up T a):∃ l,up T a=l++up T p:=by
 generalize hn:(up T a).length=n
 induction n using Nat.strongRecOn generalizing a with
 | ind n ih=>
  cases hf:Qr T a with
  | none=>rw[FH I hf] at h;cases h
  | some c=>
   have e:=JQ I hf
   rw[e] at h hn
   rcases List.mem_cons.1 h with rfl | h
   ·exact ⟨[],rfl⟩
   ·obtain ⟨l,hl⟩:=ih _ (by simp only[List.length_cons] at hn;omega) h rfl
    exact ⟨a::l,by rw[e,hl];rfl⟩
theorem up_sub {a p q:Int} (h:p∈up T a) (h2:q∈up T p):q∈up T a:=by
 obtain ⟨l,e⟩:=FI I h
 rw[e];exact List.mem_append_right _ h2
theorem Vr {id:Int} {c:Qi} (h:Qr T id=some c):id∈up T id:=by rw[JQ I h];simp
theorem FJ (id:Int):(up T id).Nodup:=by
 generalize hn:(up T id).length=n
 induction n using Nat.strongRecOn generalizing id with
 | ind n ih=>
  cases hf:Qr T id with
  | none=>rw[FH I hf];simp
  | some c=>
   have e:=JQ I hf
   rw[e] at hn ⊢
   rw[List.nodup_cons]
   refine ⟨fun h=>?_,ih _ (by simp only[List.length_cons] at hn;omega) _ rfl⟩
   obtain ⟨l,hl⟩:=FI I h
   have:=congrArg List.length hl
   rw[e] at this
   simp only[List.length_append,List.length_cons] at this
   omega
theorem LC {a p:Int} (h:p∈up T a) (QD:a≠p):∃ i c,i∈up T a∧Qr T i=some c∧c.parent=p:=by
 generalize hn:(up T a).length=n
 induction n using Nat.strongRecOn generalizing a with
 | ind n ih=>
  cases hf:Qr T a with
  | none=>rw[FH I hf] at h;cases h
  | some c=>
   have e:=JQ I hf
   rw[e] at h hn
   rcases List.mem_cons.1 h with rfl | h
   ·exact absurd rfl QD
   ·by_cases h2:c.parent=p
    ·exact ⟨a,c,by rw[e];simp,hf,h2⟩
    ·obtain ⟨i,d,h3,h4⟩:=ih _ (by simp only[List.length_cons] at hn;omega) h h2 rfl
     exact ⟨i,d,by rw[e];simp [h3],h4⟩
theorem QjJ {a i j:Int} {c d:Qi} (hi:i∈up T a) (hj:j∈up T a) (ci:Qr T i=some c) (dj:Qr T j=some d) (e:c.parent=d.parent):i=j:=by
 obtain ⟨l,hl⟩:=FI I hi
 obtain ⟨m,hm⟩:=FI I hj
 have e1:=congrArg List.length (JQ I ci)
 have e2:=congrArg List.length (JQ I dj)
 have e3:(up T i).length=(up T j).length:=by rw[e1,e2,e];rfl
 have e4:=hl.symm.trans hm
 obtain ⟨_,e5⟩:=List.append_inj' e4 e3
 rw[JQ I ci,JQ I dj] at e5
 exact (List.cons.inj e5).1
def Zu (T:List Qi) (A:List Int) (id:Int):Bool:=A.any fun a=>(up T a).contains id
omit I in
theorem VM {A:List Int} {id:Int}:Zu T A id=true↔∃ a∈A,id∈up T a:=by simp [Zu]
def WE (T:List Qi) (A:List Int) (p i:Int):Bool:=(match Qr T i with | some c=>c.parent == p | none=>false) && Zu T A i
omit I in
theorem Y8 {A:List Int} {p i:Int}:WE T A p i=true↔∃ c,Qr T i=some c∧c.parent=p∧Zu T A i=true:=by
 unfold WE
 cases Qr T i with
 | none=>simp
 | some c=>simp
def qK (T:List Qi) (A:List Int):Prop:=∀ a∈A,∃ c,Qr T a=some c∧c.leaf=true∧1<QH c.ls
theorem AV {A:List Int} {i p:Int} (h:Zu T A i=true) (hp:p∈up T i):Zu T A p=true:=by
 obtain ⟨a,ha,hi⟩:=VM.1 h
 exact VM.2 ⟨a,ha,up_sub I hi hp⟩
theorem nz {A:List Int} (hA:qK T A) {p:Int} {d:Qi} (hp:Qr T p=some d) (hd:d.leaf=false):Zu T A p=true↔∃ i,WE T A p i=true:=by
 constructor
 ·intro h
  obtain ⟨a,ha,PA⟩:=VM.1 h
  obtain ⟨c,h1,h2,h3⟩:=hA a ha
  have QD:a≠p:=by rintro rfl;rw[h1] at hp;cases hp;rw[h2] at hd;cases hd
  obtain ⟨i,c,h4,h5,h6⟩:=LC I PA QD
  exact ⟨i,Y8.2 ⟨c,h5,h6,VM.2 ⟨a,ha,h4⟩⟩⟩
 ·rintro ⟨i,hi⟩
  obtain ⟨c,h1,h2,h3⟩:=Y8.1 hi
  have VL:p∈up T i:=by
   rw[JQ I h1,h2]
   exact List.mem_cons_of_mem _ (Vr I hp)
  exact AV I h3 VL
def Vs (T:List Qi) (A:List Int) (leaf:Int):List Int:=(up T leaf).takeWhile fun i=>!Zu T A i
theorem nA {id:Int} {c:Qi} (h:Qr T id=some c) (hs:1<QH c.ls):∀ i∈up T id,∃ d,Qr T i=some d∧1<QH d.ls:=by
 generalize hn:(up T id).length=n
 induction n using Nat.strongRecOn generalizing id c with
 | ind n ih=>
  have e:=JQ I h
  rw[e] at hn ⊢
  intro i hi
  rcases List.mem_cons.1 hi with rfl | hi
  ·exact ⟨c,h,hs⟩
  ·by_cases h0:c.parent=0
   ·rw[h0,CN I] at hi;cases hi
   ·obtain ⟨d,hd,_⟩:=I.Xn c (qJ I h) h0
    have Jf:=I.LB c (qJ I h) hs h0
    unfold Y6 at Jf
    rw[hd] at Jf
    exact ih _ (by simp only[List.length_cons] at hn;omega) hd (by simpa using Jf) rfl i hi
end
section
variable {T:List Qi} (I:JA T)
def Xq (T:List Qi) (A:List Int) (dn:List Int) (p i:Int):Bool:=WE T A p i || (dn.contains i && (match Qr T i with | some c=>c.parent == p | none=>false))
def X0 (T:List Qi) (A:List Int) (dn:List Int) (p i:Int):Bool:=WE T A p i && !dn.contains i
include I
theorem FK {A dn:List Int} {p i:Int}:Xq T A dn p i=true↔WE T A p i=true∨(i∈dn∧∃ c,Qr T i=some c∧c.parent=p):=by
 unfold Xq
 cases Qr T i with
 | none=>simp
 | some c=>simp
theorem QjK {a i:Int} {l m:List Int} {c:Qi} (h:up T a=l++i::m) (hi:Qr T i=some c):m=up T c.parent:=by
 have hm:i∈up T a:=by rw[h];simp
 obtain ⟨l2,h2⟩:=FI I hm
 rw[JQ I hi] at h2
 have nd:=FJ I a
 have e:=h.symm.trans h2
 have n2:=nd
 rw[h] at nd
 rw[h2] at n2
 have h3:l=l2:=by
  have a1:∀ x∈l,x≠i:=fun x hx e=>by
   subst e
   rw[List.nodup_append] at nd
   exact nd.2.2 x hx x (by simp) rfl
  have a2:∀ x∈l2,x≠i:=fun x hx e=>by
   subst e
   rw[List.nodup_append] at n2
   exact n2.2.2 x hx x (by simp) rfl
  clear h h2 nd n2 hm
  induction l generalizing l2 with
  | nil=>cases l2 with
   | nil=>rfl
   | cons y l2=>simp only[List.nil_append,List.cons_append,List.cons.injEq] at e;exact absurd e.1.symm (a2 y (by simp))
  | cons x l ih=>cases l2 with
   | nil=>simp only[List.nil_append,List.cons_append,List.cons.injEq] at e;exact absurd e.1 (a1 x (by simp))
   | cons y l2=>
    simp only[List.cons_append,List.cons.injEq] at e
    rw[e.1,ih l2 e.2 (fun x hx=>a1 x (by simp [hx])) (fun x hx=>a2 x (by simp [hx]))]
 subst h3
 have:=List.append_cancel_left e
 exact (List.cons.inj this).2
theorem QjL {A:List Int} (hA:qK T A) {leaf id:Int} {dn:List Int} {c:Qi} (hu:up T leaf=dn++up T id) (hc:Qr T id=some c) (hn:∀ i∈dn++[id],Zu T A i=false) :
  (∃ i,Xq T A dn c.parent i=true)↔∃ i,WE T A c.parent i=true:=by
 constructor
 ·rintro ⟨i,hi⟩
  rcases (FK I).1 hi with h | ⟨h1,d,h2,h3⟩
  ·exact ⟨i,h⟩
  ·exfalso
   have e1:i=id:=QjJ I (a:=leaf) (by rw[hu];simp [h1]) (by rw[hu];exact List.mem_append_right _ (Vr I hc)) h2 hc h3
   subst e1
   have nd:=FJ I leaf
   rw[hu,List.nodup_append] at nd
   exact nd.2.2 i h1 i (Vr I hc) rfl
 ·rintro ⟨i,hi⟩
  exact ⟨i,(FK I).2 (.inl hi)⟩
theorem QjM {A dn:List Int} {id:Int} {c:Qi} (hc:Qr T id=some c) (p i:Int):Xq T A (dn++[id]) p i=if p=c.parent∧i=id then true else Xq T A dn p i:=by
 rw[Bool.eq_iff_iff,FK I]
 split
 ·rename_i h
  obtain ⟨rfl,rfl⟩:=h
  simp [hc]
 ·rename_i h
  rw[FK I]
  constructor
  ·rintro (h1 | ⟨h1,d,h2,h3⟩)
   ·exact .inl h1
   ·rcases List.mem_append.1 h1 with h1 | h1
    ·exact .inr ⟨h1,d,h2,h3⟩
    ·simp only[List.mem_singleton] at h1
     subst h1
     rw[h2] at hc;cases hc
     exact absurd ⟨h3.symm,rfl⟩ h
  ·rintro (h1 | ⟨h1,d,h2,h3⟩)
   ·exact .inl h1
   ·exact .inr ⟨List.mem_append_left _ h1,d,h2,h3⟩
omit I in
theorem QjN (T:List Qi) (A:List Int) (p i:Int):Xq T A [] p i=WE T A p i:=by simp [Xq]
theorem QjO {A:List Int} (hA:qK T A) {leaf id:Int} {dn:List Int} {c:Qi} (hu:up T leaf=dn++up T id) (hc:Qr T id=some c) (hn:∀ i∈dn++[id],Zu T A i=false) (he:c.parent=0∨Zu T A c.parent=true) :
  dn++[id]=Vs T A leaf∧∀ p i,Xq T A (dn++[id]) p i=WE T (leaf::A) p i:=by
 have qF:up T leaf=(dn++[id])++up T c.parent:=by rw[hu,JQ I hc];simp
 have yq:∀ j∈up T c.parent,Zu T A j=true:=fun j hj=>by
  rcases he with he | he
  ·rw[he,CN I] at hj;cases hj
  ·exact AV I he hj
 refine ⟨?_,fun p i=>?_⟩
 ·unfold Vs
  rw[qF,List.takeWhile_append_of_pos (fun i hi=>by rw[hn i hi];rfl)]
  have:(up T c.parent).takeWhile (fun i=>!Zu T A i)=[]:=by
   cases hq:up T c.parent with
   | nil=>rfl
   | cons x q=>rw[List.takeWhile_cons,yq x (by rw[hq];simp)];rfl
  rw[this,List.append_nil]
 ·rw[Bool.eq_iff_iff,FK I,Y8 (A:=leaf::A)]
  have qa:∀ j,Zu T (leaf::A) j=true↔j∈up T leaf∨Zu T A j=true:=fun j=>by
   rw[VM,VM];simp
  constructor
  ·rintro (h | ⟨h1,d,h2,h3⟩)
   ·obtain ⟨d,h2,h3,h4⟩:=Y8.1 h
    exact ⟨d,h2,h3,(qa i).2 (.inr h4)⟩
   ·exact ⟨d,h2,h3,(qa i).2 (.inl (by rw[qF];exact List.mem_append_left _ h1))⟩
  ·rintro ⟨d,h2,h3,h4⟩
   rcases (qa i).1 h4 with h4 | h4
   ·rw[qF] at h4
    rcases List.mem_append.1 h4 with h4 | h4
    ·exact .inr ⟨h4,d,h2,h3⟩
    ·exact .inl (Y8.2 ⟨d,h2,h3,yq i h4⟩)
   ·exact .inl (Y8.2 ⟨d,h2,h3,h4⟩)
end
def Z2 (A:List Int) (leaf:Int):List Int:=A.filter fun a=>a != leaf
section
variable {T:List Qi} (I:JA T)
theorem AW {A:List Int} {leaf:Int} (hl:leaf∈A) (j:Int):Zu T A j=true↔j∈up T leaf∨Zu T (Z2 A leaf) j=true:=by
 rw[VM,VM]
 constructor
 ·rintro ⟨a,ha,hj⟩
  by_cases h:a=leaf
  ·subst h;exact .inl hj
  ·exact .inr ⟨a,List.mem_filter.2 ⟨ha,by simpa using h⟩,hj⟩
 ·rintro (h | ⟨a,ha,hj⟩)
  ·exact ⟨leaf,hl,h⟩
  ·exact ⟨a,(List.mem_filter.1 ha).1,hj⟩
theorem qK.off {A:List Int} (h:qK T A) (leaf:Int):qK T (Z2 A leaf):=fun a ha=>h a (List.mem_filter.1 ha).1
theorem CO {A dn:List Int} {p i:Int}:X0 T A dn p i=true↔WE T A p i=true∧i ∉ dn:=by simp [X0]
include I
theorem nB {A:List Int} (hA:qK T A) {leaf id:Int} (hl:leaf∈A) {dn:List Int} {c:Qi} (hu:up T leaf=dn++up T id) (hc:Qr T id=some c) (hn:∀ i∈dn++[id],Zu T (Z2 A leaf) i=false) (h0:c.parent≠0) :
  (∃ i,X0 T A (dn++[id]) c.parent i=true)↔Zu T (Z2 A leaf) c.parent=true:=by
 have qF:up T leaf=(dn++[id])++up T c.parent:=by rw[hu,JQ I hc];simp
 obtain ⟨d,hd,wG⟩:=I.Xn c (qJ I hc) h0
 constructor
 ·rintro ⟨i,hi⟩
  obtain ⟨h1,h2⟩:=CO.1 hi
  obtain ⟨e,h3,h4,h5⟩:=Y8.1 h1
  have VL:c.parent∈up T i:=by rw[JQ I h3,h4];exact List.mem_cons_of_mem _ (Vr I hd)
  rcases (AW hl i).1 h5 with h6 | h6
  ·exfalso
   rw[qF] at h6
   rcases List.mem_append.1 h6 with h6 | h6
   ·exact h2 h6
   ·have nd:=FJ I i
    rw[JQ I h3,h4,List.nodup_cons] at nd
    exact nd.1 h6
  ·exact AV I h6 VL
 ·intro h
  obtain ⟨a,ha,PA⟩:=VM.1 h
  obtain ⟨e,h1,h2,h3⟩:=hA.off leaf a ha
  have QD:a≠c.parent:=by rintro rfl;rw[h1] at hd;cases hd;rw[h2] at wG;cases wG
  obtain ⟨i,f,h4,h5,h6⟩:=LC I PA QD
  have h7:Zu T (Z2 A leaf) i=true:=VM.2 ⟨a,ha,h4⟩
  refine ⟨i,CO.2 ⟨Y8.2 ⟨f,h5,h6,(AW hl i).2 (.inr h7)⟩,fun h8=>?_⟩⟩
  rw[hn i h8] at h7;cases h7
theorem QjP {A:List Int} {leaf id:Int} (hl:leaf∈A) {dn:List Int} {c:Qi} (hu:up T leaf=dn++up T id) (hc:Qr T id=some c) (hn:∀ i∈dn++[id],Zu T (Z2 A leaf) i=false) (he:c.parent=0∨Zu T (Z2 A leaf) c.parent=true) :
  dn++[id]=Vs T (Z2 A leaf) leaf∧∀ p i,X0 T A (dn++[id]) p i=WE T (Z2 A leaf) p i:=by
 have qF:up T leaf=(dn++[id])++up T c.parent:=by rw[hu,JQ I hc];simp
 have yq:∀ j∈up T c.parent,Zu T (Z2 A leaf) j=true:=fun j hj=>by
  rcases he with he | he
  ·rw[he,CN I] at hj;cases hj
  ·exact AV I he hj
 refine ⟨?_,fun p i=>?_⟩
 ·unfold Vs
  rw[qF,List.takeWhile_append_of_pos (fun i hi=>by rw[hn i hi];rfl)]
  have:(up T c.parent).takeWhile (fun i=>!Zu T (Z2 A leaf) i)=[]:=by
   cases hq:up T c.parent with
   | nil=>rfl
   | cons x q=>rw[List.takeWhile_cons,yq x (by rw[hq];simp)];rfl
  rw[this,List.append_nil]
 ·rw[Bool.eq_iff_iff,CO,Y8,Y8]
  constructor
  ·rintro ⟨⟨d,h2,h3,h4⟩,h5⟩
   refine ⟨d,h2,h3,?_⟩
   rcases (AW hl i).1 h4 with h6 | h6
   ·rw[qF] at h6
    rcases List.mem_append.1 h6 with h6 | h6
    ·exact absurd h6 h5
    ·exact yq i h6
   ·exact h6
  ·rintro ⟨d,h2,h3,h4⟩
   refine ⟨⟨d,h2,h3,(AW hl i).2 (.inr h4)⟩,fun h5=>?_⟩
   rw[hn i h5] at h4;cases h4
end
@[go_sem] def u64 (n:Nat):D:=.raw (.int .u64 n)
@[go_sem] theorem wl0:IntKind.i64.wrap 0=0:=by decide
@[go_sem] theorem wl1:IntKind.i64.wrap 1=1:=by decide
@[go_sem] theorem wl2:IntKind.i64.wrap 2=2:=by decide
@[go_sem] theorem wl3:IntKind.i64.wrap 3=3:=by decide
@[go_sem] theorem wl4:IntKind.i64.wrap 4=4:=by decide
def never:Nat:=9223372036854775808
attribute [go_sem] Go.undef
theorem AY (a b:Nat):IntKind.u64.wrap ((a:Int)+(b:Int))=(((a+b) % 18446744073709551616:Nat):Int):=by rw[IntKind.wrap_u64];omega
theorem FL (a b:Nat):IntKind.u64.wrap ((a:Int)*(b:Int))=((a*b % 18446744073709551616:Nat):Int):=by rw[IntKind.wrap_u64,← Int.natCast_mul];omega
theorem PB (a b:Nat) (h:b≤18446744073709551616):IntKind.u64.wrap ((a:Int) - (b:Int))=(((a+18446744073709551616 - b) % 18446744073709551616:Nat):Int):=by rw[IntKind.wrap_u64];omega
theorem LD (a b:Nat) (h:b≤a) (ha:a<18446744073709551616):IntKind.u64.wrap ((a:Int) - (b:Int))=((a - b:Nat):Int):=by rw[IntKind.wrap_u64];omega
theorem nC (a b:Nat) (h:a+b<18446744073709551616):IntKind.u64.wrap ((a:Int)+(b:Int))=((a+b:Nat):Int):=by rw[IntKind.wrap_u64];omega
theorem QjQ (a b:Nat) (h:a*b<18446744073709551616):IntKind.u64.wrap ((a:Int)*(b:Int))=((a*b:Nat):Int):=by rw[FL,Nat.mod_eq_of_lt h]
theorem AZ (a s:Nat):((a:Int).fdiv (2 ^ s))=((a / 2 ^ s:Nat):Int):=by
 have h:((2:Int) ^ s)=((2 ^ s:Nat):Int):=by simp
 rw[h,Int.fdiv_eq_ediv_of_nonneg _ (Int.natCast_nonneg _),Int.natCast_ediv]
theorem QjR (a:Nat) (ha:a<18446744073709551616):bits .and .u64 (a:Int) 4294967295=((a % 4294967296:Nat):Int):=by
 have:=u64_and_nat a 4294967295 ha (by decide)
 rw[show ((4294967295:Nat):Int)=4294967295 from rfl] at this
 rw[this,show (4294967295:Nat)=2 ^ 32 - 1 from rfl,Nat.and_two_pow_sub_one_eq_mod]
theorem QjS (x y:Nat) (hx:x<4294967296) (hy:y<4294967296):bits .or .u64 ((x*4294967296:Nat):Int) (y:Int)=((x*4294967296+y:Nat):Int):=by
 rw[u64_or_nat _ _ (by omega) (by omega),nat_join 32 _ _ (by rw[show (2:Nat) ^ 32=4294967296 from rfl];omega) (by simpa using hy)]
theorem CP (a:Nat) (ha:a<18446744073709551616):a / 9223372036854775808=0∨a / 9223372036854775808=1:=by omega
theorem LF (a b:Nat) (ha:a<18446744073709551616) (hb:b<18446744073709551616):(a &&& b) / 9223372036854775808=(a / 9223372036854775808) &&& (b / 9223372036854775808):=by
 rw[show (9223372036854775808:Nat)=2 ^ 63 from rfl,← Nat.shiftRight_eq_div_pow,Nat.shiftRight_and_distrib,Nat.shiftRight_eq_div_pow,Nat.shiftRight_eq_div_pow]
theorem PC (a b:Nat) (ha:a<18446744073709551616) (hb:b<18446744073709551616):(a ||| b) / 9223372036854775808=(a / 9223372036854775808) ||| (b / 9223372036854775808):=by
 rw[show (9223372036854775808:Nat)=2 ^ 63 from rfl,← Nat.shiftRight_eq_div_pow,Nat.shiftRight_or_distrib,Nat.shiftRight_eq_div_pow,Nat.shiftRight_eq_div_pow]
theorem PD (a b:Nat) (ha:a<18446744073709551616) (hb:b<18446744073709551616):(a ^^^ b) / 9223372036854775808=(a / 9223372036854775808) ^^^ (b / 9223372036854775808):=by
 rw[show (9223372036854775808:Nat)=2 ^ 63 from rfl,← Nat.shiftRight_eq_div_pow,Nat.shiftRight_xor_distrib,Nat.shiftRight_eq_div_pow,Nat.shiftRight_eq_div_pow]
theorem QjT (a b c x y z u v:Nat) (ha:a<18446744073709551616) (hb:b<18446744073709551616) (hc:c<2) (hl:u=(a+18446744073709551616 - b+18446744073709551616 - c) % 18446744073709551616)
  (hx:x=a / 9223372036854775808) (hy:y=b / 9223372036854775808) (hz:z=u / 9223372036854775808) (hv:v=(1 ^^^ x) &&& y ||| ((1 ^^^ (x ^^^ y)) &&& z)):v=if a<b+c then 1 else 0:=by
 have h1:=CP a ha
 have h2:=CP b hb
 have h3:=CP u (by omega)
 rw[← hx] at h1;rw[← hy] at h2;rw[← hz] at h3
 rcases h1 with h1 | h1 <;> rcases h2 with h2 | h2 <;> rcases h3 with h3 | h3 <;> (rw[h1,h2,h3] at hv;simp at hv;subst hv;split <;> omega)
theorem QjU (a b c x y z u v:Nat) (ha:a<18446744073709551616) (hb:b<18446744073709551616) (hc:c<2) (hl:u=(a+b+c) % 18446744073709551616)
  (hx:x=a / 9223372036854775808) (hy:y=b / 9223372036854775808) (hz:z=u / 9223372036854775808) (hv:v=x &&& y ||| ((x ||| y) &&& (1 - z))):v=if 18446744073709551616≤a+b+c then 1 else 0:=by
 have h1:=CP a ha
 have h2:=CP b hb
 have h3:=CP u (by omega)
 rw[← hx] at h1;rw[← hy] at h2;rw[← hz] at h3
 rcases h1 with h1 | h1 <;> rcases h2 with h2 | h2 <;> rcases h3 with h3 | h3 <;> (rw[h1,h2,h3] at hv;simp at hv;subst hv;split <;> omega)
end Go.Fg.X
namespace Go.Fg.X
open Go.Proofs Go.Fg
structure It where
 ka:Nat
 ki:Int
 va:Nat
 vi:Int
deriving DecidableEq
instance:Inhabited It:=⟨⟨0,0,0,0⟩⟩
@[go_sem] def It.cells (x:It):List D:=[u64 x.ka,Qb x.ki,u64 x.va,Qb x.vi]
def Z7 (a:Nat) (i:Int) (b:Nat) (j:Int):Prop:=a<b∨(a=b∧i<j)
instance (a:Nat) (i:Int) (b:Nat) (j:Int):Decidable (Z7 a i b j):=inferInstanceAs (Decidable (_∨_))
def It.lt (x y:It):Prop:=Z7 x.ka x.ki y.ka y.ki
instance (x y:It):Decidable (x.lt y):=inferInstanceAs (Decidable (Z7 _ _ _ _))
def WG (a:Nat) (i:Int) (b:Nat) (j:Int):Int:=if a=b∧i=j then 0 else if Z7 a i b j then -1 else 1
def Xr (a b:It):It:=if WG b.va b.vi a.va a.vi<0∨(WG b.va b.vi a.va a.vi=0∧WG b.ka b.ki a.ka a.ki<0) then b else a
inductive Tr where
 | nil
 | node (loc:Nat) (it:It) (l r:Tr)
deriving Inhabited
namespace Tr
def list:Tr→List It
 | .nil=>[]
 | .node _ it l r=>l.list++it::r.list
def Qz:Tr→List Nat
 | .nil=>[]
 | .node loc _ l r=>loc::(l.Qz++r.Qz)
def high:Tr→Nat
 | .nil=>0
 | .node _ _ l r=>1+max l.high r.high
def size:Tr→Nat
 | .nil=>0
 | .node _ _ l r=>1+l.size+r.size
def ptr:Tr→D
 | .nil=>.raw (.pointer none)
 | .node loc _ _ _=>.ptr loc 0 0 0
@[go_sem] theorem yr:Tr.nil.ptr=.raw (.pointer none):=rfl
@[go_sem] theorem kZ (loc:Nat) (it:It) (l r:Tr):(Tr.node loc it l r).ptr=.ptr loc 0 0 0:=rfl
@[go_sem] theorem Qs8 (t:Tr):VD t.ptr=some [t.ptr]:=by cases t <;> rfl
@[go_sem] theorem Qs9 (t:Tr):t.ptr.JV=true:=by cases t <;> rfl
@[go_sem] theorem Qta (t:Tr):Vb t.ptr t.ptr=True:=by cases t <;> simp [Vb,ptr]
def least:Tr→It
 | .nil=>default
 | .node _ it l r=>match l,r with
  | .nil,.nil=>it
  | .nil,.node a b c d=>Xr it (least (.node a b c d))
  | .node a b c d,.nil=>Xr it (least (.node a b c d))
  | .node a b c d,.node a' b' c' d'=>Xr (Xr it (least (.node a b c d))) (least (.node a' b' c' d'))
theorem jM:∀ t:Tr,t.list.length=t.size
 | .nil=>rfl
 | .node _ _ l r=>by simp only[list,size,List.length_append,List.length_cons,jM l,jM r];omega
theorem CQ:∀ t:Tr,t.high≤t.size
 | .nil=>Nat.le_refl _
 | .node _ _ l r=>by have:=CQ l;have:=CQ r;simp only[high,size];omega
end Tr
@[go_sem] def QjV (it:It) (p q:D) (le:It) (hi n:Int):List D:=[u64 it.ka,Qb it.ki,u64 it.va,Qb it.vi,p,q,u64 le.ka,Qb le.ki,u64 le.va,Qb le.vi,Qb hi,Qb n]
@[go_sem] def wH (it:It) (p q:D) (le:It) (hi n:Int):Ob:=⟨.one,0,12,1,fun _=>QjV it p q le hi n⟩
def JB (h:List Ob):Tr→Prop
 | .nil=>True
 | .node loc it l r=>h[loc]? = some (wH it l.ptr r.ptr (Tr.node loc it l r).least ((Tr.node loc it l r).high:Nat) ((Tr.node loc it l r).size:Nat))∧JB h l∧JB h r
theorem JB.frame {h h':List Ob}:∀ {t:Tr},JB h t→(∀ l∈t.Qz,h'[l]? = h[l]?)→JB h' t
 | .nil,_,_=>trivial
 | .node loc it l r,⟨h1,h2,h3⟩,e=>⟨by rw[e loc (by simp [Tr.Qz])];exact h1,h2.frame fun x hx=>e x (by simp [Tr.Qz,hx]),h3.frame fun x hx=>e x (by simp [Tr.Qz,hx])⟩
theorem JB.lt {h:List Ob}:∀ {t:Tr},JB h t→∀ l∈t.Qz,l<h.length
 | .nil,_,l,hl=>by cases hl
 | .node loc it l r,⟨h1,h2,h3⟩,x,hx=>by
  simp only[Tr.Qz,List.mem_cons,List.mem_append] at hx
  rcases hx with rfl | hx | hx
  ·exact Jr h1
  ·exact h2.lt x hx
  ·exact h3.lt x hx
def W2 (h:List Ob):Tr→Prop
 | .nil=>True
 | .node loc it l r=>(h.map Ob.ro)[loc]? = some (wH it l.ptr r.ptr (Tr.node loc it l r).least ((Tr.node loc it l r).high:Nat) ((Tr.node loc it l r).size:Nat)).ro∧W2 h l∧W2 h r
theorem JB.toR {h:List Ob}:∀ {t:Tr},JB h t→W2 h t
 | .nil,_=>trivial
 | .node _ _ _ _,⟨h1,h2,h3⟩=>⟨Zv h1,h2.toR,h3.toR⟩
theorem W2.more {h h':List Ob} (e:∀ (l:Nat) (o:Ob),(h.map Ob.ro)[l]? = some o→(h'.map Ob.ro)[l]? = some o):∀ {t:Tr},W2 h t→W2 h' t
 | .nil,_=>trivial
 | .node _ _ _ _,⟨h1,h2,h3⟩=>⟨e _ _ h1,h2.more e,h3.more e⟩
theorem yu {h F g:List Ob} (hF:F=h.map Ob.ro) (l:Nat) (o:Ob) (e:(h.map Ob.ro)[l]? = some o):((F++g).map Ob.ro)[l]? = some o:=by
 subst hF
 have h1:l<(h.map Ob.ro).length:=Jr e
 rw[List.map_append,List.getElem?_append_left (by simpa using h1),List.map_map]
 rw[List.getElem?_map] at e ⊢
 cases hh:h[l]? with
 | none=>rw[hh] at e;cases e
 | some u=>rw[hh] at e;cases e;simp [ro_ro]
structure Xs (h:List Ob) (t:Tr) (L:List It) (h':List Ob) (t':Tr):Prop where
 is:JB h' t'
 list:t'.list=L
 nd:t'.Qz.Nodup
 mem:∀ l∈t'.Qz,l∈t.Qz∨h.length≤l
 keep:∀ l,l<h.length→l ∉ t.Qz→h'[l]? = h[l]?
 len:h.length≤h'.length
theorem Xs.refl {h:List Ob} {t:Tr} (i:JB h t) (n:t.Qz.Nodup):Xs h t t.list h t:=⟨i,rfl,n,fun _ h=>.inl h,fun _ _ _=>rfl,Nat.le_refl _⟩
theorem Xs.trans {h h' Xf:List Ob} {t t' t'':Tr} {L L':List It} (a:Xs h t L h' t') (b:Xs h' t' L' Xf t''):Xs h t L' Xf t'':=
 ⟨b.is,b.list,b.nd,fun l hl=>by
  rcases b.mem l hl with h1 | h1
  ·exact a.mem l h1
  ·exact .inr (Nat.le_trans a.len h1),fun l hl hn=>by
  rw[b.keep l (Nat.lt_of_lt_of_le hl a.len) fun h1=>by
   rcases a.mem l h1 with h2 | h2
   ·exact hn h2
   ·omega]
  exact a.keep l hl hn,Nat.le_trans a.len b.len⟩
def It.V4 (x y:It):Prop:=Z7 x.va x.vi y.va y.vi∨(x.va=y.va∧x.vi=y.vi∧Z7 x.ka x.ki y.ka y.ki)
instance (x y:It):Decidable (x.V4 y):=inferInstanceAs (Decidable (_∨_))
theorem jN (a:Nat) (i:Int):¬ Z7 a i a i:=by unfold Z7;omega
theorem yv {a:Nat} {i:Int} {b:Nat} {j:Int} {c:Nat} {k:Int} (h:Z7 a i b j) (h2:Z7 b j c k):Z7 a i c k:=by unfold Z7 at *;omega
theorem CS (a:Nat) (i:Int) (b:Nat) (j:Int):Z7 a i b j∨(a=b∧i=j)∨Z7 b j a i:=by unfold Z7;omega
theorem PE {a:Nat} {i:Int} {b:Nat} {j:Int}:WG a i b j<0↔Z7 a i b j:=by
 unfold WG
 by_cases h:a=b∧i=j
 ·rw[if_pos h];obtain ⟨rfl,rfl⟩:=h;exact ⟨fun h=>by omega,fun h=>absurd h (jN _ _)⟩
 ·rw[if_neg h]
  by_cases h2:Z7 a i b j
  ·rw[if_pos h2];exact ⟨fun _=>h2,fun _=>by omega⟩
  ·rw[if_neg h2];exact ⟨fun h=>by omega,fun h=>absurd h h2⟩
theorem nD {a:Nat} {i:Int} {b:Nat} {j:Int}:WG a i b j=0↔a=b∧i=j:=by
 unfold WG
 by_cases h:a=b∧i=j
 ·rw[if_pos h];exact ⟨fun _=>h,fun _=>rfl⟩
 ·rw[if_neg h]
  by_cases h2:Z7 a i b j
  ·rw[if_pos h2];exact ⟨fun h=>by omega,fun h1=>absurd h1 h⟩
  ·rw[if_neg h2];exact ⟨fun h=>by omega,fun h1=>absurd h1 h⟩
theorem QjW {a:Nat} {i:Int} {b:Nat} {j:Int}:0<WG a i b j↔Z7 b j a i:=by
 have h1:=@PE a i b j
 have h2:=@nD a i b j
 have h3:=CS a i b j
 constructor
 ·intro h
  rcases h3 with h3 | h3 | h3
  ·have:=h1.2 h3;omega
  ·have:=h2.2 h3;omega
  ·exact h3
 ·intro h
  have n1:¬ WG a i b j<0:=fun h4=>jN _ _ (yv h (h1.1 h4))
  have n2:¬ WG a i b j=0:=fun h4=>by obtain ⟨rfl,rfl⟩:=h2.1 h4;exact jN _ _ h
  omega
theorem nE (a b:It):Xr a b=if b.V4 a then b else a:=by
 have h:(WG b.va b.vi a.va a.vi<0∨(WG b.va b.vi a.va a.vi=0∧WG b.ka b.ki a.ka a.ki<0))↔b.V4 a:=by
  rw[PE,nD,PE,It.V4,and_assoc]
 unfold Xr
 by_cases hb:b.V4 a
 ·rw[if_pos (h.2 hb),if_pos hb]
 ·rw[if_neg (fun h1=>hb (h.1 h1)),if_neg hb]
theorem FM (a:It):¬ a.V4 a:=fun h=>by
 rcases h with h | ⟨_,_,h⟩ <;> exact jN _ _ h
theorem nF {a b c:It} (h:a.V4 b) (h2:b.V4 c):a.V4 c:=by
 rcases h with h | ⟨e1,e2,h⟩ <;> rcases h2 with h2 | ⟨e3,e4,h2⟩
 ·exact .inl (yv h h2)
 ·exact .inl (by rw[← e3,← e4];exact h)
 ·exact .inl (by rw[e1,e2];exact h2)
 ·exact .inr ⟨e1.trans e3,e2.trans e4,yv h h2⟩
theorem nG (a b:It):a.V4 b∨a=b∨b.V4 a:=by
 rcases CS a.va a.vi b.va b.vi with h | ⟨h1,h2⟩ | h
 ·exact .inl (.inl h)
 ·rcases CS a.ka a.ki b.ka b.ki with h | ⟨h3,h4⟩ | h
  ·exact .inl (.inr ⟨h1,h2,h⟩)
  ·refine .inr (.inl ?_);cases a;cases b;simp_all
  ·exact .inr (.inr (.inr ⟨h1.symm,h2.symm,h⟩))
 ·exact .inr (.inr (.inl h))
theorem nH (a b:It):(Xr a b=a∧¬ b.V4 a)∨(Xr a b=b∧b.V4 a):=by
 rw[nE]
 by_cases h:b.V4 a
 ·rw[if_pos h];exact .inr ⟨rfl,h⟩
 ·rw[if_neg h];exact .inl ⟨rfl,h⟩
theorem QjX (a b:It):¬ a.V4 (Xr a b)∧¬ b.V4 (Xr a b):=by
 rcases nH a b with ⟨e,h⟩ | ⟨e,h⟩ <;> rw[e]
 ·exact ⟨FM _,h⟩
 ·exact ⟨fun h2=>FM _ (nF h h2),FM _⟩
structure J2 (x:It) (L:List It):Prop where
 mem:x∈L
 le:∀ y∈L,¬ y.V4 x
theorem J2.uniq {x y:It} {L:List It} (a:J2 x L) (b:J2 y L):x=y:=by
 rcases nG x y with h | h | h
 ·exact absurd h (b.le x a.mem)
 ·exact h
 ·exact absurd h (a.le y b.mem)
theorem J2.one (x:It):J2 x [x]:=⟨by simp,fun y hy=>by simp only[List.mem_singleton] at hy;subst hy;exact FM _⟩
theorem J2.join {x y:It} {L M:List It} (a:J2 x L) (b:J2 y M):J2 (Xr x y) (L++M):=by
 obtain ⟨h1,h2⟩:=QjX x y
 have nI:∀ {p q r:It},¬ p.V4 q→¬ q.V4 r→¬ p.V4 r:=fun {p q r} h h2 h3=>by
  rcases nG q p with h4 | h4 | h4
  ·exact h2 (nF h4 h3)
  ·subst h4;exact h2 h3
  ·exact h h4
 refine ⟨?_,fun z hz=>?_⟩
 ·rcases nH x y with ⟨e,_⟩ | ⟨e,_⟩ <;> rw[e]
  ·exact List.mem_append_left _ a.mem
  ·exact List.mem_append_right _ b.mem
 ·rcases List.mem_append.1 hz with hz | hz
  ·exact nI (a.le z hz) h1
  ·exact nI (b.le z hz) h2
theorem J2.perm {x:It} {L M:List It} (a:J2 x L) (h:∀ y,y∈M↔y∈L):J2 x M:=⟨(h x).2 a.mem,fun y hy=>a.le y ((h y).1 hy)⟩
theorem Tr.CT:∀ (t:Tr),t≠.nil→J2 t.least t.list
 | .nil,h=>absurd rfl h
 | .node _ it .nil .nil,_=>J2.one it
 | .node _ it .nil (.node a b c d),_=>by
  have:=Tr.CT (.node a b c d) (by simp)
  exact ((J2.one it).join this).perm fun y=>by simp [Tr.list]
 | .node _ it (.node a b c d) .nil,_=>by
  have:=Tr.CT (.node a b c d) (by simp)
  exact ((J2.one it).join this).perm fun y=>by simp [Tr.list];constructor <;> (intro h;rcases h with h | h | h | h <;> simp [h])
 | .node _ it (.node a b c d) (.node a' b' c' d'),_=>by
  have h1:=Tr.CT (.node a b c d) (by simp)
  have h2:=Tr.CT (.node a' b' c' d') (by simp)
  refine (((J2.one it).join h1).join h2).perm fun y=>?_
  simp only[Tr.list,List.mem_append,List.mem_cons,List.mem_singleton]
  grind
end Go.Fg.X
namespace Go.Fg.X
open Go.Proofs Go.Fg
def JF (L:List It):Prop:=L.Pairwise It.lt
theorem It.lt_trans {a b c:It} (h:a.lt b) (h2:b.lt c):a.lt c:=yv h h2
theorem wJ {L M:List It} {x:It}:JF (L++x::M)↔JF L∧JF M∧(∀ y∈L,y.lt x)∧(∀ y∈M,x.lt y):=by
 unfold JF
 rw[List.pairwise_append,List.pairwise_cons]
 constructor
 ·rintro ⟨h1,⟨h2,h3⟩,h4⟩
  exact ⟨h1,h3,fun y hy=>h4 y hy x (by simp),h2⟩
 ·rintro ⟨h1,h2,h3,h4⟩
  refine ⟨h1,⟨h4,h2⟩,fun a ha b hb=>?_⟩
  rcases List.mem_cons.1 hb with rfl | hb
  ·exact h3 a ha
  ·exact It.lt_trans (h3 a ha) (h4 b hb)
def jO (a:Nat) (i:Int) (x:It):Bool:=x.ka == a && x.ki == i
def VN (a:Nat) (i:Int) (L:List It):Option It:=L.find? (jO a i)
def Vt (x:It):List It→List It
 | []=>[x]
 | y::r=>if y.lt x then y::Vt x r else x::y::r
def KU (a:Nat) (i:Int) (L:List It):List It:=L.filter fun x=>!jO a i x
theorem qb {a:Nat} {i:Int} {x:It}:jO a i x=true↔x.ka=a∧x.ki=i:=by simp [jO]
theorem nJ (a:Nat) (i:Int) (L M:List It) (x:It) (hs:JF (L++x::M)) :
  VN a i (L++x::M)=if x.ka=a∧x.ki=i then some x else if Z7 x.ka x.ki a i then VN a i M else VN a i L:=by
 obtain ⟨_,_,hl,hm⟩:=wJ.1 hs
 unfold VN
 rw[List.find?_append,List.find?_cons]
 have nL:(x.ka=a∧x.ki=i)∨Z7 x.ka x.ki a i→L.find? (jO a i)=none:=fun h=>by
  rw[List.find?_eq_none]
  intro y hy hk
  obtain ⟨e1,e2⟩:=qb.1 hk
  have h3:Z7 y.ka y.ki x.ka x.ki:=hl y hy
  rw[e1,e2] at h3
  rcases h with ⟨rfl,rfl⟩ | h
  ·exact jN _ _ h3
  ·exact jN _ _ (yv h h3)
 have nM:Z7 a i x.ka x.ki→M.find? (jO a i)=none:=fun h=>by
  rw[List.find?_eq_none]
  intro y hy hk
  obtain ⟨e1,e2⟩:=qb.1 hk
  have h3:Z7 x.ka x.ki y.ka y.ki:=hm y hy
  rw[e1,e2] at h3
  exact jN _ _ (yv h h3)
 by_cases h1:x.ka=a∧x.ki=i
 ·rw[if_pos h1,qb.2 h1,nL (.inl h1)];rfl
 ·have hk:jO a i x=false:=by rw[Bool.eq_false_iff];exact fun h=>h1 (qb.1 h)
  rw[if_neg h1,hk]
  by_cases h2:Z7 x.ka x.ki a i
  ·rw[if_pos h2,nL (.inr h2)];rfl
  ·rw[if_neg h2,nM (by rcases CS x.ka x.ki a i with h | h | h;exact absurd h h2;exact absurd h h1;exact h)]
   simp
theorem QjY (y:It) (L M:List It) (x:It) (hs:JF (L++x::M)) (hn:¬ (x.ka=y.ka∧x.ki=y.ki)) :
  Vt y (L++x::M)=if x.lt y then L++x::Vt y M else Vt y L++x::M:=by
 obtain ⟨_,_,hl,hm⟩:=wJ.1 hs
 by_cases h:x.lt y
 ·rw[if_pos h]
  have:∀ l:List It,(∀ z∈l,z.lt y)→Vt y (l++x::M)=l++x::Vt y M:=by
   intro l hl
   induction l with
   | nil=>simp only[List.nil_append,Vt,if_pos h]
   | cons z l ih=>simp only[List.cons_append,Vt,if_pos (hl z (by simp)),ih fun w hw=>hl w (by simp [hw])]
  exact this L fun z hz=>It.lt_trans (hl z hz) h
 ·rw[if_neg h]
  have:∀ l:List It,Vt y (l++x::M)=Vt y l++x::M:=by
   intro l
   induction l with
   | nil=>simp only[List.nil_append,Vt,if_neg h,List.cons_append]
   | cons z l ih=>
    simp only[List.cons_append,Vt]
    split
    ·rw[ih,List.cons_append]
    ·simp only[List.cons_append]
  exact this L
theorem nK (a:Nat) (i:Int) (L M:List It) (x:It) (hs:JF (L++x::M)) :
  KU a i (L++x::M)=if x.ka=a∧x.ki=i then L++M else if Z7 x.ka x.ki a i then L++x::KU a i M else KU a i L++x::M:=by
 obtain ⟨_,_,hl,hm⟩:=wJ.1 hs
 have keep:∀ l:List It,(∀ y∈l,¬ (y.ka=a∧y.ki=i))→KU a i l=l:=fun l h=>by
  unfold KU
  rw[List.filter_eq_self]
  intro y hy
  have:=h y hy
  rw[Bool.not_eq_true',Bool.eq_false_iff]
  exact fun h2=>this (qb.1 h2)
 have QjZ:KU a i (L++x::M)=KU a i L++KU a i (x::M):=by unfold KU;rw[List.filter_append]
 have kL:(x.ka=a∧x.ki=i)∨Z7 x.ka x.ki a i→KU a i L=L:=fun h=>keep L fun y hy ⟨e1,e2⟩=>by
  have h3:Z7 y.ka y.ki x.ka x.ki:=hl y hy
  rw[e1,e2] at h3
  rcases h with ⟨rfl,rfl⟩ | h
  ·exact jN _ _ h3
  ·exact jN _ _ (yv h h3)
 have kM:(x.ka=a∧x.ki=i)∨Z7 a i x.ka x.ki→KU a i M=M:=fun h=>keep M fun y hy ⟨e1,e2⟩=>by
  have h3:Z7 x.ka x.ki y.ka y.ki:=hm y hy
  rw[e1,e2] at h3
  rcases h with ⟨rfl,rfl⟩ | h
  ·exact jN _ _ h3
  ·exact jN _ _ (yv h h3)
 rw[QjZ]
 by_cases h1:x.ka=a∧x.ki=i
 ·have hx:KU a i (x::M)=KU a i M:=by unfold KU;rw[List.filter_cons,qb.2 h1];rfl
  rw[if_pos h1,kL (.inl h1),hx,kM (.inl h1)]
 ·have hk:jO a i x=false:=by rw[Bool.eq_false_iff];exact fun h=>h1 (qb.1 h)
  have hx:KU a i (x::M)=x::KU a i M:=by unfold KU;rw[List.filter_cons,hk];rfl
  rw[if_neg h1,hx]
  by_cases h2:Z7 x.ka x.ki a i
  ·rw[if_pos h2,kL (.inr h2)]
  ·rw[if_neg h2,kM (.inr (by rcases CS x.ka x.ki a i with h | h | h;exact absurd h h2;exact absurd h h1;exact h))]
theorem yw {y x:It}:∀ {L:List It},x∈Vt y L↔x=y∨x∈L
 | []=>by simp [Vt]
 | z::L=>by
  simp only[Vt]
  split
  ·rw[List.mem_cons,yw,List.mem_cons];grind
  ·rw[List.mem_cons]
theorem PF {y:It}:∀ {L:List It},JF L→VN y.ka y.ki L=none→JF (Vt y L)
 | [],_,_=>by simp [Vt,JF]
 | z::L,hs,hf=>by
  obtain ⟨h1,h2⟩:=List.pairwise_cons.1 hs
  unfold VN at hf
  rw[List.find?_cons] at hf
  cases hk:jO y.ka y.ki z with
  | true=>rw[hk] at hf;cases hf
  | false=>
   rw[hk] at hf
   have QD:¬ (z.ka=y.ka∧z.ki=y.ki):=fun h=>by rw[qb.2 h] at hk;cases hk
   simp only[Vt]
   split
   ·rename_i hl
    refine List.pairwise_cons.2 ⟨fun w hw=>?_,PF h2 hf⟩
    rcases yw.1 hw with rfl | hw
    ·exact hl
    ·exact h1 w hw
   ·rename_i hl
    have nN:y.lt z:=by
     rcases CS z.ka z.ki y.ka y.ki with h | h | h
     ·exact absurd h hl
     ·exact absurd h QD
     ·exact h
    refine List.pairwise_cons.2 ⟨fun w hw=>?_,hs⟩
    rcases List.mem_cons.1 hw with rfl | hw
    ·exact nN
    ·exact It.lt_trans nN (h1 w hw)
theorem Qj0 {a:Nat} {i:Int} {L:List It} (h:JF L):JF (KU a i L):=List.Pairwise.filter _ h
def Tr.jP (a:Nat) (i:Int) (f:Tr→List It):Tr→List It
 | .nil=>f .nil
 | .node loc it l r=>if it.ka=a∧it.ki=i then f (.node loc it l r) else if Z7 it.ka it.ki a i then l.list++it::r.jP a i f else l.jP a i f++it::r.list
theorem PG {y:It} {f:Tr→List It} (hf:f .nil=[y]):∀ (t:Tr),JF t.list→VN y.ka y.ki t.list=none→t.jP y.ka y.ki f=Vt y t.list
 | .nil,_,_=>hf
 | .node loc it l r,hs,hn=>by
  obtain ⟨s1,s2,_,_⟩:=wJ.1 hs
  simp only[Tr.list] at hs hn ⊢
  rw[nJ _ _ _ _ _ hs] at hn
  rw[Tr.jP]
  by_cases h1:it.ka=y.ka∧it.ki=y.ki
  ·rw[if_pos h1] at hn;cases hn
  ·rw[if_neg h1] at hn ⊢
   rw[QjY y _ _ _ hs h1]
   by_cases h2:Z7 it.ka it.ki y.ka y.ki
   ·rw[if_pos h2] at hn ⊢
    rw[if_pos (show it.lt y from h2),PG hf r s2 hn]
   ·rw[if_neg h2] at hn ⊢
    rw[if_neg (show ¬ it.lt y from h2),PG hf l s1 hn]
def Tr.A0:Tr→List It
 | .nil=>[]
 | .node _ _ l r=>l.list++r.list
theorem LG {a:Nat} {i:Int}:∀ (t:Tr),JF t.list→t.jP a i Tr.A0=KU a i t.list
 | .nil,_=>rfl
 | .node loc it l r,hs=>by
  obtain ⟨s1,s2,_,_⟩:=wJ.1 hs
  simp only[Tr.list] at hs ⊢
  rw[nK _ _ _ _ _ hs,Tr.jP]
  by_cases h1:it.ka=a∧it.ki=i
  ·rw[if_pos h1,if_pos h1];rfl
  ·rw[if_neg h1,if_neg h1]
   by_cases h2:Z7 it.ka it.ki a i
   ·rw[if_pos h2,if_pos h2,LG r s2]
   ·rw[if_neg h2,if_neg h2,LG l s1]
def Tr.find (a:Nat) (i:Int):Tr→Tr
 | .nil=>.nil
 | .node loc it l r=>if it.ka=a∧it.ki=i then .node loc it l r else if Z7 it.ka it.ki a i then r.find a i else l.find a i
def Tr.item:Tr→Option It
 | .nil=>none
 | .node _ it _ _=>some it
theorem Tr.FN {a:Nat} {i:Int}:∀ (t:Tr),JF t.list→(t.find a i).item=VN a i t.list
 | .nil,_=>rfl
 | .node loc it l r,hs=>by
  obtain ⟨s1,s2,_,_⟩:=wJ.1 hs
  simp only[Tr.list] at hs ⊢
  rw[nJ _ _ _ _ _ hs,Tr.find]
  by_cases h1:it.ka=a∧it.ki=i
  ·rw[if_pos h1,if_pos h1];rfl
  ·rw[if_neg h1,if_neg h1]
   by_cases h2:Z7 it.ka it.ki a i
   ·rw[if_pos h2,if_pos h2,Tr.FN r s2]
   ·rw[if_neg h2,if_neg h2,Tr.FN l s1]
def Tr.hasB (at_:Nat):Tr→Bool
 | .nil=>false
 | .node a b c d=>decide ((Tr.node a b c d).least.va≤at_)
theorem J2.va {x y:It} {L:List It} (h:J2 x L) (hy:y∈L):x.va≤y.va:=by
 have:=h.le y hy
 unfold It.V4 Z7 at this
 omega
theorem Tr.FO (at_:Nat):∀ t:Tr,t.hasB at_=true↔∃ x∈t.list,x.va≤at_
 | .nil=>by simp [Tr.hasB,Tr.list]
 | .node a b c d=>by
  have h:=Tr.CT (.node a b c d) (by simp)
  simp only[Tr.hasB,decide_eq_true_eq]
  constructor
  ·intro h1;exact ⟨_,h.mem,h1⟩
  ·rintro ⟨x,hx,hv⟩;exact Nat.le_trans (h.va hx) hv
def Tr.first (at_:Nat):Tr→Option It
 | .nil=>none
 | .node _ it l r=>if l.hasB at_ then l.first at_ else if it.va≤at_ then some it else r.first at_
theorem Tr.LH (at_:Nat):∀ t:Tr,t.first at_=t.list.find? fun x=>decide (x.va≤at_)
 | .nil=>rfl
 | .node _ it l r=>by
  simp only[Tr.first,Tr.list]
  rw[List.find?_append,List.find?_cons]
  by_cases h:l.hasB at_=true
  ·rw[if_pos h,Tr.LH at_ l]
   obtain ⟨x,hx,hv⟩:=(Tr.FO at_ l).1 h
   cases hf:l.list.find? fun x=>decide (x.va≤at_) with
   | some y=>rfl
   | none=>exact absurd hv (by simpa using List.find?_eq_none.1 hf x hx)
  ·rw[if_neg h,Tr.LH at_ r]
   have hn:l.list.find? (fun x=>decide (x.va≤at_))=none:=by
    rw[List.find?_eq_none]
    intro x hx hv
    exact h ((Tr.FO at_ l).2 ⟨x,hx,by simpa using hv⟩)
   rw[hn,Option.none_or]
   by_cases h2:it.va≤at_
   ·rw[if_pos h2,decide_eq_true h2]
   ·rw[if_neg h2,decide_eq_false h2]
def Tr.wK:Tr→It
 | .nil=>default
 | .node _ it l _=>match l with
  | .nil=>it
  | .node a b c d=>Tr.wK (.node a b c d)
theorem Tr.PH:∀ t:Tr,t≠.nil→t.list.head? = some t.wK
 | .nil,h=>absurd rfl h
 | .node _ it .nil r,_=>rfl
 | .node _ it (.node a b c d) r,_=>by
  have:=Tr.PH (.node a b c d) (by simp)
  simp only[Tr.list,Tr.wK,List.head?_append] at this ⊢
  rw[this];rfl
def WH (o:Option It) (i:It):Option It:=match o with
 | none=>some i
 | some a=>some (Xr a i)
def Tr.W3 (at_:Nat):Tr→Option It→Option It
 | .nil,o=>o
 | .node _ it l r,o=>if at_<it.ka then l.W3 at_ o else r.W3 at_ (match l with
  | .nil=>WH o it
  | .node a b c d=>WH (WH o it) (Tr.node a b c d).least)
def qL (o:Option It) (L:List It):Prop:=match o with
 | none=>L=[]
 | some x=>J2 x L
theorem qL.take {o:Option It} {L:List It} (h:qL o L) {i:It} {M:List It} (hi:J2 i M):qL (WH o i) (L++M):=by
 cases o with
 | none=>simp only[qL] at h;subst h;exact hi
 | some a=>exact J2.join h hi
theorem qL.perm {o:Option It} {L M:List It} (h:qL o L) (e:∀ y,y∈M↔y∈L):qL o M:=by
 cases o with
 | none=>
  simp only[qL] at h ⊢
  subst h
  exact List.eq_nil_iff_forall_not_mem.2 fun y hy=>by simpa using (e y).1 hy
 | some a=>exact J2.perm h e
theorem Tr.FP (at_:Nat):∀ (t:Tr) (o:Option It) (T:List It),JF t.list→qL o T→qL (t.W3 at_ o) (T++t.list.filter fun x=>decide (x.ka≤at_))
 | .nil,o,T,_,h=>by simpa [Tr.W3,Tr.list] using h
 | .node _ it l r,o,T,hs,h=>by
  obtain ⟨s1,s2,hl,hr⟩:=wJ.1 (show JF (l.list++it::r.list) from hs)
  have nO:∀ {x y:It},x.lt y→x.ka≤y.ka:=fun h=>by
   have h:Z7 _ _ _ _:=h
   unfold Z7 at h;omega
  simp only[Tr.W3,Tr.list,List.filter_append,List.filter_cons]
  by_cases h1:at_<it.ka
  ·rw[if_pos h1,decide_eq_false (by omega)]
   have hn:r.list.filter (fun x=>decide (x.ka≤at_))=[]:=by
    rw[List.filter_eq_nil_iff]
    intro x hx
    have:=nO (hr x hx)
    simp;omega
   rw[hn]
   have:=Tr.FP at_ l o T s1 h
   simpa using this
  ·rw[if_neg h1,decide_eq_true (by omega)]
   have ha:l.list.filter (fun x=>decide (x.ka≤at_))=l.list:=by
    rw[List.filter_eq_self]
    intro x hx
    have:=nO (hl x hx)
    simp;omega
   rw[ha]
   cases l with
   | nil=>
    have:=Tr.FP at_ r _ _ s2 (h.take (J2.one it))
    simpa [Tr.list] using this
   | node a b c d=>
    have:=Tr.FP at_ r _ _ s2 ((h.take (J2.one it)).take (Tr.CT (.node a b c d) (by simp)))
    refine this.perm fun y=>?_
    simp only[Tr.list,List.mem_append,List.mem_cons,List.mem_singleton,List.mem_filter,if_true]
    grind
end Go.Fg.X
namespace Go.Fg
open Go.RowKit (Below)
def We (off len:Nat) (zs:List D) (row:Nat→List D):Nat→List D:=fun k=>bif Nat.ble off k && Nat.blt k (off+len) then zs else row k
theorem PI {off len k:Nat} {zs:List D} {row:Nat→List D} (h:k<off):We off len zs row k=row k:=by
 have:Nat.ble off k=false:=by rw[← Bool.not_eq_true,Nat.ble_eq];omega
 simp [We,this]
section
variable {P:Program} {L:Zd} {base nt:Nat} {s:St} {o:Oper}
theorem Qj1 (hL:Zr P L) {t e:TypeId} {x:Operand} {l g off len a b c:Nat} {z:Value} {zt:List Value} {ob:Ob} (ho:o.op=.call ⟨.builtin .clear,#[x],#[t]⟩) (hx:Qp s.fr x=.ref l g off len) (QY:s.h[l]? = some ob)
  (hk:ob.kd.yZ=false) (hg:ob.gen=g) (hs:ob.sz=1) (hro:ob.kd.ro=false) (hn:off+len≤ob.n) (ht:ty L t=some ⟨.slice e,a,b,zt⟩) {k:TK} (he:ty L e=some ⟨k,1,c,[z]⟩) (hz:zg z=true) :
  XK P base nt o s (s.h.set l ⟨ob.kd,ob.gen,ob.sz,ob.n,We off len [ZQ z] ob.row⟩) (.tup []):=by
 refine Ac.up ?_ (by simp [calm,ho])
 intro Z pl ac w r Js
 have hv:=r.eval x
 rw[hx] at hv
 obtain ⟨o',p',ad,cap,PJ,Zb,Zm,Zj,XH,KY⟩:=xF hv
 rw[QY] at Zb;cases Zb
 have hy:=hL _ _ ht
 have KB:=hL _ _ he
 have hu:P.underlying t=some (.slice e):=ze hy rfl
 obtain ⟨zv,qu,Xi⟩:=KB.zeroValue
 have vS:zv.cells=#[z]:=by apply Array.toList_inj.1;rw[qu]
 have xN:(Builtin.zeroCells zv.cells len).toList=List.replicate len z:=by
  rw[vS]
  simp [Builtin.zeroCells]
  apply List.ext_getElem
  ·simp
  ·intro i h1 h2
   simp [Nat.mod_one]
 have hrz:∀ Z' h' Qg w',Qv Z' h' Qg w' (ZQ z) z:=fun Z' h' Qg w'=>
  .cl _ _ (kj _ _ _)
 rcases KY hg.symm with ⟨CU,CM⟩ | ⟨bb,q,c0,el,Kb,haa,Q9,Qtb,km⟩
 ·subst CU
  have ZN:∀ i,We off 0 [ZQ z] ob.row i=ob.row i:=fun i=>by
   unfold We
   cases h1:Nat.ble off i && Nat.blt i (off+0)
   ·rfl
   ·simp at h1;omega
  have WW:s.h.set l ⟨ob.kd,ob.gen,ob.sz,ob.n,We off 0 [ZQ z] ob.row⟩=s.h:=by
   have e1:(⟨ob.kd,ob.gen,ob.sz,ob.n,We off 0 [ZQ z] ob.row⟩:Ob)=ob:=by rw[funext ZN]
   rw[e1]
   exact List.ext_getElem? fun i=>by
    by_cases h:l=i
    ·subst h;rw[List.getElem?_set_self (Jr QY),QY]
    ·rw[List.getElem?_set_ne h]
  rw[WW]
  refine ⟨.tuple #[],w,pl,.inl ?_,Tr.refl _ _ _,r.o,.tup [] [] rfl (fun i hi=>absurd hi (Nat.not_lt_zero i)),Below.refl _ _⟩
  subst CM
  cases ad <;> simp [execOp,ho,PJ,resolve,invoke,Go.builtin,Builtin.clear_,run_underlying hu]
 ·subst Kb
  obtain ⟨QI,xx⟩:=r.o.at_ l ob bb q QY Zm
  obtain ⟨c1,ND,hb,Ad,Z5,ZN⟩:=xx.cells Zj
  rw[hb] at Q9;cases Q9
  have Z9:∀ c2:Nat→List D,(⟨ob.kd,ob.gen,ob.sz,ob.n,c2⟩:Ob).kd=ob.kd:=fun _=>rfl
  obtain ⟨w',c',g1,g2,g3,g4,g5,g6,g7,g8,g9⟩:=HC (P:=P) bb el (List.replicate len z) 0 (q+off*ob.sz) w c0 hb (by simp;rw[hs] at Ad ⊢;omega) (fun k hk=>by
   have Z1:k<len:=by simpa using hk
   have:QJ (List.replicate len z) k=z:=by simp [QJ,List.getD_eq_getElem?_getD,Z1]
   rw[this];exact hz)
  have T:Tr s.h pl w (s.h.set l ⟨ob.kd,ob.gen,ob.sz,ob.n,We off len [ZQ z] ob.row⟩) pl w':=Tr.Zg r.o QY Zm rfl rfl rfl (fun k hk _=>g5 k hk) (fun c2 el2 e2=>by rw[hb] at e2;cases e2;exact ⟨c',g2,g3⟩)
  refine ⟨.tuple #[],w',pl,.inl ?_,T,?_,.tup [] [] rfl (fun i hi=>absurd hi (Nat.not_lt_zero i)),Es (QI hro) g5 g6 g7 g8 g9⟩
  ·subst haa
   by_cases CU:len=0
   ·subst CU
    have e1:w'=w:=by
     have:(storeCells ⟨bb,q+off*ob.sz,none⟩ (List.replicate 0 z) 0).run P w=.ok () w:=by simp [storeCells]
     rw[g1] at this;cases this;rfl
    rw[e1]
    simp [execOp,ho,PJ,resolve,invoke,Go.builtin,Builtin.clear_,run_underlying hu]
   ·obtain ⟨m,rfl⟩:∃ m,len=m+1:=⟨len - 1,by omega⟩
    simp [execOp,ho,PJ,resolve,invoke,Go.builtin,Builtin.clear_,run_underlying hu,Xi,xN,g1]
  ·refine QT.Zg (hro:=rfl) r.o QY Zm Zj Zj rfl rfl (fun k hk _=>g5 k hk) hb g2 g3 (by rw[g3];exact Ad) (fun k hk=>?_) (fun k m hk hm=>?_)
   ·show (We off len [ZQ z] ob.row k).length=ob.sz
    unfold We
    cases Nat.ble off k && Nat.blt k (off+len)
    ·exact Z5 k hk
    ·simp [hs]
   ·have Z1:k<ob.n:=hk
    have Kv:m<ob.sz:=hm
    show ∃ v,c'[q+(k*ob.sz+m)]? = some v∧Qv Z _ pl w' (nth (We off len [ZQ z] ob.row k) m) v
    rw[hs] at Kv
    have EF:m=0:=by omega
    subst EF
    have LI:k*ob.sz+0=k:=by rw[hs];omega
    have Qj4:q+off*ob.sz+0=q+off:=by rw[hs];omega
    rw[g4,LI,Qj4]
    simp only[List.length_replicate]
    by_cases VI:off≤k∧k<off+len
    ·rw[if_pos (by omega)]
     have e1:We off len [ZQ z] ob.row k=[ZQ z]:=by simp [We,E6,Qb8,VI.1,VI.2]
     rw[e1]
     exact ⟨z,by rw[List.getElem?_replicate,if_pos (by omega)],hrz _ _ _ _⟩
    ·rw[if_neg (by omega)]
     have e1:We off len [ZQ z] ob.row k=ob.row k:=by
      unfold We
      cases h:(Nat.ble off k && Nat.blt k (off+len))
      ·rfl
      ·simp at h;omega
     rw[e1]
     obtain ⟨v,xK,jg⟩:=ZN k 0 Z1 (by omega)
     rw[LI] at xK
     exact ⟨v,xK,jg.tr T⟩
end
section
variable {P:Program} {L:Zd} {base nt:Nat} {w0:Start} {Q:Exit→St→Prop}
theorem PK (hL:Zr P L) (hb:base≤w0.w.heap.size) {k:List Item} {dst:Option Nat} {A1:TypeId} {pos:String} {after:Array Edge} {gd:Option (Nat × Bool)} {r:List (Oper × G)} {s:St} {t e:TypeId} {x:Operand} {l g off len a b c:Nat} {z:Value} {zt:List Value} {ob:Ob}
  (hx:Qp s.fr x=.ref l g off len) (QY:s.h[l]? = some ob)
  (hk:ob.kd.yZ=false) (hg:ob.gen=g) (hs:ob.sz=1) (hro:ob.kd.ro=false) (hn:off+len≤ob.n) (ht:ty L t=some ⟨.slice e,a,b,zt⟩) {tk:TK} (he:ty L e=some ⟨tk,1,c,[z]⟩) (hz:zg z=true) (hd:Zi nt dst=true)
  (h1:Qs P base nt w0 Q (.ops r::k) .normal ⟨Q8 s.fr dst (.tup []),s.h.set l ⟨ob.kd,ob.gen,ob.sz,ob.n,We off len [ZQ z] ob.row⟩⟩) :
  Qs P base nt w0 Q (.ops ((⟨dst,.call ⟨.builtin .clear,#[x],#[t]⟩,A1,pos,after,gd⟩,none)::r)::k) .normal s:=by
 simp only[Qs] at h1 ⊢
 exact Ie hb (Qj1 hL rfl hx QY hk hg hs hro hn ht he hz) hd h1
end
theorem QG.cut {P:Program} {f:FuncId} {F:List Ob} {args:List D} {R R':D→List Ob→Prop} (hf:QG P f F args R)
  (hr:∀ d h,R d h→∃ l o n',h[l]? = some o∧o.kd.ty=0∧n'≤o.n∧R' d (h.set l ⟨o.kd,o.gen,o.sz,n',o.row⟩)):QG P f F args R':=by
 intro Z base w pl vs h1 h2 h3 hl hc
 refine (hf Z base w pl vs h1 h2 h3 hl hc).mono fun e w' he=>?_
 obtain ⟨v,d,h,Qg,rfl,hR,hO,hV,hT,hB⟩:=he
 obtain ⟨l,o,n',ho,hk,hn,hR'⟩:=hr _ _ hR
 have hl:=Jr ho
 have key:∀ (x:Nat) (u:Ob),h[x]? = some u→∃ u',(h.set l ⟨o.kd,o.gen,o.sz,n',o.row⟩)[x]? = some u'∧u'.gen=u.gen∧u'.sz=u.sz∧u'.kd.ty=u.kd.ty:=fun x u e=>by
  by_cases hx:l=x
  ·subst hx
   rw[ho] at e;cases e
   exact ⟨_,List.getElem?_set_self hl,rfl,rfl,rfl⟩
  ·exact ⟨u,by rw[List.getElem?_set_ne hx];exact e,rfl,rfl,rfl⟩
 refine ⟨v,d,_,Qg,rfl,hR',⟨by simp [hO.len],hO.inj,fun x u e ep=>?_,fun x u b q e ep=>?_⟩,hV.kO key,⟨hT.JI,fun x u p e ep=>?_,fun x u u' b q e e' hg ep c el hc=>?_⟩,hB⟩
 ·by_cases hx:l=x
  ·subst hx
   rw[List.getElem?_set_self hl] at e;cases e
   have:=hO.JU l o ho ep
   show n'=0
   omega
  ·rw[List.getElem?_set_ne hx] at e
   exact hO.JU x u e ep
 ·by_cases hx:l=x
  ·subst hx
   rw[List.getElem?_set_self hl] at e;cases e
   obtain ⟨g1,xx⟩:=hO.at_ l o b q ho ep
   obtain ⟨c,el,c1,c2,c3,c4⟩:=xx.cells hk
   refine ⟨g1,.BN hk ⟨c,el,c1,?_,fun i hi=>c3 i (Nat.lt_of_lt_of_le hi hn),fun i j hi hj=>?_⟩⟩
   ·have:=Nat.mul_le_mul_right o.sz hn
    show q+n'*o.sz≤c.size
    omega
   ·obtain ⟨u,hu,hr⟩:=c4 i j (Nat.lt_of_lt_of_le hi hn) hj
    exact ⟨u,hu,hr.kO key⟩
  ·rw[List.getElem?_set_ne hx] at e
   obtain ⟨g1,xx⟩:=hO.at_ x u b q e ep
   exact ⟨g1,xx.to rfl rfl rfl rfl (fun _ _=>rfl) fun i j v _ _ hr=>hr.kO key⟩
 ·obtain ⟨u',p',a1,a2,a3,a4,a5⟩:=hT.obj x u p e ep
  obtain ⟨u2,b1,b2,b3,b4⟩:=key x u' a1
  exact ⟨u2,p',b1,a2,by omega,by rw[b4,a4],fun hh=>by rw[b3];exact a5 (by omega)⟩
 ·obtain ⟨u1,p',a1,a2,a3,a4,a5⟩:=hT.obj x u _ e ep
  obtain ⟨u2,b1,b2,b3,b4⟩:=key x u1 a1
  rw[e'] at b1;cases b1
  exact hT.shape x u u1 b q e a1 (by omega) ep c el hc
section
variable {P:Program} {L:Zd} {base nt:Nat} {s:St} {o:Oper}
theorem Qj6 (hL:Zr P L) {t:TypeId} {x:Operand} (ho:o.op=.call ⟨.builtin .cap,#[x],#[t]⟩) (hx:Qp s.fr x=.nil) {e a b:Nat} {zt:List Value} (ht:ty L t=some ⟨.slice e,a,b,zt⟩):Ki P base nt o s (.raw (.int .i64 0)):=by
 intro Z pl ac w r
 have hr:=r.eval x
 rw[hx] at hr
 obtain ⟨a0,hv⟩:=y8 hr
 refine ⟨_,.cl _ _ (.raw _),fun w' _=>?_⟩
 rw[XJ ho]
 simp [builtin,hv,Builtin.cap_,run_underlying (ze (hL _ _ ht) rfl),goInt]
theorem Qj7 {t ti e:TypeId} {ty0:TypeId} {y:Ty} {k kn:IntKind} (ht:P.underlying t=some (.slice e)) (FQ:P.underlying ti=some (.int kn)) (hy:KA P e y) (hz:y.zero.length=y.size) (hs:0<y.size) (w:World) (b:Option Addr) (n:Nat)
  (h0:0<n) (XL:n≤4294967296) (Xh:y.bytes≤1024) :
  ∃ Yl rest,(Builtin.append_ #[t,ti] ty0 #[.slice b 0 0,.int k n]).run P w=.ok (.slice (some ⟨w.heap.size,0,none⟩) n Yl) (w.drew.alloc (.cells ((flat n y.size fun _ j=>QJ y.zero j).toArray++rest) e))∧n≤Yl∧rest.size=(Yl - n)*y.size:=by
 obtain ⟨z,qu,Xi⟩:=hy.zeroValue
 obtain ⟨i,hi,zk,Wa⟩:=hy.typeInfo w
 have ZE:∀ w,(typeInfo e).run P w=.ok i w:=fun w=>by
  have h4:=hy.info
  cases hx:P.info? e with
  | none=>rw[hx] at h4;cases h4
  | some k=>
   simp [typeInfo,hx] at hi ⊢
   exact hi
 refine ⟨grownCap w n 0 e,Builtin.zeroCells z.cells (grownCap w n 0 e - n),?_,grownCap_ge _ _ _ _,by rw[NT];congr 1;rw[← hz,← qu];simp⟩
 have hn:¬ n=0:=by omega
 have hw:IntKind.i64.wrap (n:Int)=n:=by rw[IntKind.wrap_i64];omega
 have NU:¬ (9223372036854775807<(n:Int)):=by omega
 have hmul:n*y.bytes≤4294967296*1024:=Nat.mul_le_mul XL Xh
 have NV:¬ (281474976710656<Builtin.nextslicecap n 0*i.bytes):=by rw[nextslicecap_zero h0,Wa];omega
 have PL:¬ (281474976710656<(n:Int)*(i.bytes:Int)):=by
  rw[← Int.natCast_mul,Wa]
  omega
 have FR:¬ ((n:Int)<0):=by omega
 have xW:¬ (n*y.size=0):=Nat.mul_ne_zero hn (by omega)
 have vR:z.cells.size=y.size:=by rw[← hz,← qu];simp
 have X1:(flat n y.size fun _ j=>QJ y.zero j).toArray=Builtin.zeroCells z.cells n:=by
  apply Array.ext
  ·rw[NT,vR];simp [Wx]
  ·intro j h1 h2
   simp only[List.size_toArray,Wx] at h1
   obtain ⟨d1,d2,d3⟩:=div_lt h1
   have PM:y.zero=z.cells.toList:=qu.symm
   have hj:j % y.size<z.cells.size:=by rw[vR];exact d2
   simp [flat,Builtin.zeroCells,QJ,PM,List.getD_eq_getElem?_getD,vR,hj]
   rw[getElem!_pos z.cells _ hj,Array.getElem?_eq_getElem hj];rfl
 rw[X1]
 cases b <;> simp [Builtin.append_,run_underlying ht,run_underlying FQ,hy.sizeOf,ZE,Xi,asInt,asIntOf,hw,hn,FR,xW,NU,NV,PL,Question.forced,Builtin.firstCells,loadCells,loadCellsFrom,newRow,grownCap,askRoom,mark,Sem.run]
theorem Qj8 (hL:Zr P L) {t ti e:TypeId} {x0 x:Operand} {n:Nat} {kn:IntKind} {a b c d:Nat} {zt zi:List Value} {y:Ty} {k:IntKind} (ho:o.op=.call ⟨.builtin .append,#[x0,x],#[t,ti]⟩) (jh:Qp s.fr x0=.nil) (hx:Qp s.fr x=.raw (.int k n))
  (ht:ty L t=some ⟨.slice e,a,b,zt⟩) (FQ:ty L ti=some ⟨.int kn,c,d,zi⟩) (KB:ty L e=some y) (hz:y.zero.length=y.size) (hs:0<y.size) (h0:0<n) (XL:n≤4294967296) (Xh:y.bytes≤1024) :
  XK P base nt o s (s.h++[⟨.arr,0,y.size,n,fun _=>y.zero.map ZQ⟩]) (.ref s.h.length 0 0 n):=by
 refine Ac.up ?_ (by simp [calm,ho])
 intro Z pl ac w r Js
 have ji:=r.eval x0
 have vQ:=r.eval x
 rw[jh] at ji
 rw[hx] at vQ
 obtain ⟨a0,BU⟩:=y8 ji
 have hv:=ZC vQ
 have hy:=hL _ _ KB
 have QZ:pl.length=s.h.length:=r.o.len
 obtain ⟨Yl,rest,QS,xP,XM⟩:=Qj7 (ty0:=o.type) (k:=k) (ze (hL _ _ ht) rfl) (vL (hL _ _ FQ) rfl) hy hz hs w a0 n h0 XL Xh
 have e1:∀ b,b<w.heap.size→(w.drew.alloc (.cells ((flat n y.size fun _ j=>QJ y.zero j).toArray++rest) e)).heap[b]? = w.heap[b]? := fun b hb=>YP w.drew _ b hb
 have ZU:(w.drew.alloc (.cells ((flat n y.size fun _ j=>QJ y.zero j).toArray++rest) e)).heap[w.heap.size]? = some (.cells ((flat n y.size fun _ j=>QJ y.zero j).toArray++rest) e (0,0)):=heap_alloc_new w.drew _
 have T:Tr s.h pl w (s.h++[⟨.arr,0,y.size,n,fun _=>y.zero.map ZQ⟩]) (pl++[some (w.heap.size,0)]) (w.drew.alloc (.cells ((flat n y.size fun _ j=>QJ y.zero j).toArray++rest) e)):=Tr.push r.o e1 _ _ (by intro b q h;simp at h;omega)
 refine ⟨.slice (some ⟨w.heap.size,0,none⟩) n Yl,_,_,.inl ?_,T,QT.push r.o e1 _ rfl (Nat.le_refl _) Js ZU (by simp [Wx]) (fun i hi=>by simp [hz]) (fun i j hi hj=>⟨QJ y.zero j,?_,?_⟩),.ref _ _ _ _ ⟨.arr,0,y.size,n,fun _=>y.zero.map ZQ⟩ (some (w.heap.size,0)) _ _ (by simp) (by rw[← QZ];simp) rfl (Nat.le_refl _) (fun _=>.inr ⟨w.heap.size,0,_,_,rfl,by simp,ZU,?_,xP⟩),((Below.refl base w).drew).alloc Js _⟩
 ·rw[XJ ho]
  have:(Array.map ac.eval #[x0,x])=#[.slice a0 0 0,.int k n]:=by simp [BU,hv]
  rw[this]
  simp only[builtin,Sem.run_bind,QS,Result.andThen_ok,Sem.run_pure]
 ·have hg:=xL (vs:=fun _ j=>QJ y.zero j) hi hj
  have Qd:=(List.getElem?_eq_some_iff.1 hg).1
  rw[Nat.zero_add,Array.getElem?_append_left (by simpa using Qd)]
  simpa using hg
 ·have W4:j<y.zero.length:=by rw[hz];exact hj
  have:nth (y.zero.map ZQ) j=ZQ (QJ y.zero j):=by simp [nth,QJ,List.getD_eq_getElem?_getD,W4]
  show Qv Z _ _ _ (nth (y.zero.map ZQ) j) _
  rw[this]
  exact .cl _ _ (kj _ _ _)
 ·simp only[Nat.zero_add,Array.size_append,List.size_toArray,Wx,XM]
  rw[← Nat.add_mul];exact Nat.mul_le_mul_right _ (by omega)
end
section
variable {P:Program} {L:Zd} {base nt:Nat} {w0:Start} {Q:Exit→St→Prop}
theorem PN (hL:Zr P L) {k:List Item} {dst:Option Nat} {A1:TypeId} {pos:String} {after:Array Edge} {gd:Option (Nat × Bool)} {r:List (Oper × G)} {s:St} {t e a b:Nat} {x:Operand} {zt:List Value}
  (hx:Qp s.fr x=.nil) (ht:ty L t=some ⟨.slice e,a,b,zt⟩) (hd:Zi nt dst=true) (h1:Qs P base nt w0 Q (.ops r::k) .normal ⟨Q8 s.fr dst (.raw (.int .i64 0)),s.h⟩) :
  Qs P base nt w0 Q (.ops ((⟨dst,.call ⟨.builtin .cap,#[x],#[t]⟩,A1,pos,after,gd⟩,none)::r)::k) .normal s:=by
 simp only[Qs] at h1 ⊢
 exact Oi (Qj6 hL rfl hx ht) hd h1
theorem Qj9 (hL:Zr P L) (hb:base≤w0.w.heap.size) {k:List Item} {dst:Option Nat} {A1:TypeId} {pos:String} {after:Array Edge} {gd:Option (Nat × Bool)} {r:List (Oper × G)} {s:St} {t ti e:TypeId} {x0 x:Operand} {n:Nat} {kn:IntKind} {a b c d:Nat} {zt zi:List Value} {y:Ty} {ki:IntKind}
  (jh:Qp s.fr x0=.nil) (hx:Qp s.fr x=.raw (.int ki n)) (ht:ty L t=some ⟨.slice e,a,b,zt⟩) (FQ:ty L ti=some ⟨.int kn,c,d,zi⟩) (KB:ty L e=some y) (hz:y.zero.length=y.size) (hs:0<y.size) (h0:0<n) (XL:n≤4294967296) (Xh:y.bytes≤1024) (hd:Zi nt dst=true)
  (h1:Qs P base nt w0 Q (.ops r::k) .normal ⟨Q8 s.fr dst (.ref s.h.length 0 0 n),s.h++[⟨.arr,0,y.size,n,fun _=>y.zero.map ZQ⟩]⟩) :
  Qs P base nt w0 Q (.ops ((⟨dst,.call ⟨.builtin .append,#[x0,x],#[t,ti]⟩,A1,pos,after,gd⟩,none)::r)::k) .normal s:=by
 simp only[Qs] at h1 ⊢
 exact Ie hb (Qj8 hL rfl jh hx ht FQ KB hz hs h0 XL Xh) hd h1
end
end Go.Fg
