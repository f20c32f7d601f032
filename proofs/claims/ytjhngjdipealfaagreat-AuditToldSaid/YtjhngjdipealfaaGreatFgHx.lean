/- Contracts and laws on the way to the statement. No conditions. -/
import Derived.Test.YtjhngjdipealfaaGreatFgHeap
import Derived.Test.YtjhngjdipealfaaGreatProg
import Derived.KernelRfl
import Derived.Deep.Slices
import Derived.ChangeArms
import Derived.OpenShut
import Derived.ProofKit
import Derived.ChangeOld
import Derived.Below
import Derived.WideShapes
import Derived.Shelf.Sort.Plain
import Derived.Shelf.Slices.In.SortNone
import Derived.Lib.SortBridge
import Derived.Laws.BitsAllLaws
import Derived.Laws.BytesString
import Derived.LoopN
set_option maxRecDepth 100000
set_option maxHeartbeats 16000000
set_option linter.unusedVariables false
set_option linter.unusedSimpArgs false
set_option linter.unusedSectionVars false
set_option linter.defProp false
namespace Go.Fg.X
open Go.Proofs Go.Fg
open Go.Proofs.Tryz
@[go_sem] def zi:Value:=.int .i64 0
@[go_sem] def zu:Value:=.int .u64 0
@[go_sem] def zh:Value:=.int .u16 0
@[go_sem] def zb:Value:=.bool false
@[go_sem] def zp:Value:=.pointer none
@[go_sem] def zc:Value:=.int .u8 0
@[go_sem] def zs:Value:=.slice none 0 0
@[go_sem] def zm:Value:=.map none
@[go_sem] def Y1:Ty:=⟨.fn,1,8,[.nilFunc]⟩
@[go_sem] def Y2:Ty:=⟨.int .i64,1,8,[zi]⟩
@[go_sem] def Y4:Ty:=⟨.bool,1,1,[zb]⟩
@[go_sem] def Y5:Ty:=⟨.int .u8,1,1,[zc]⟩
@[go_sem] def Y9:Ty:=⟨.str,1,16,[.string ByteArray.empty]⟩
@[go_sem] def tS:Ty:=⟨.int .u64,1,8,[zu]⟩
@[go_sem] def tT:Ty:=⟨.ptr 399,1,8,[zp]⟩
@[go_sem] def tU:Ty:=⟨.iface,1,16,[.nilIface]⟩
@[go_sem] def tV:Ty:=⟨.int .i32,1,4,[.int .i32 0]⟩
@[go_sem] def tW:Ty:=⟨.struct [(0,3),(1,3)],2,16,[zi,zi]⟩
@[go_sem] def tY:Ty:=⟨.slice 43,1,24,[zs]⟩
@[go_sem] def tZ:Ty:=⟨.struct [(0,23),(2,24)],3,40,[zi,zi,zs]⟩
@[go_sem] def ue:Ty:=⟨.ptr 116,1,8,[zp]⟩
@[go_sem] def ui:Ty:=⟨.slice 145,1,24,[zs]⟩
@[go_sem] def uj:Ty:=⟨.slice 147,1,24,[zs]⟩
@[go_sem] def uk:Ty:=⟨.int .u16,1,2,[zh]⟩
@[go_sem] def um:Ty:=⟨.array 4 37,4,8,[zh,zh,zh,zh]⟩
@[go_sem] def ur:Ty:=⟨.struct [(0,34),(1,3),(2,39)],6,24,[zu,zi,zh,zh,zh,zh]⟩
@[go_sem] def uu:Ty:=⟨.struct [(0,3),(1,35),(2,36),(3,41),(9,34)],10,88,[zi,zs,zs,zu,zi,zh,zh,zh,zh,zu]⟩
@[go_sem] def uw:Ty:=⟨.struct [(0,31),(1,3),(2,3)],3,24,[zi,zi,zi]⟩
@[go_sem] def uy:Ty:=⟨.slice 50,1,24,[zs]⟩
@[go_sem] def uA:Ty:=⟨.struct [(0,3),(1,4),(2,4),(3,34),(4,34),(5,3),(6,41)],12,64,[zi,zb,zb,zu,zu,zi,zu,zi,zh,zh,zh,zh]⟩
@[go_sem] def uE:Ty:=⟨.struct [(0,34),(1,34),(2,34)],3,24,[zu,zu,zu]⟩
@[go_sem] def uG:Ty:=⟨.struct [(0,3),(1,3),(2,4),(3,54),(6,54),(9,54),(12,3),(13,3)],14,112,[zi,zi,zb,zu,zu,zu,zu,zu,zu,zu,zu,zu,zi,zi]⟩
@[go_sem] def uJ:Ty:=⟨.struct [(0,34),(1,34)],2,16,[zu,zu]⟩
@[go_sem] def uL:Ty:=⟨.struct [(0,34),(1,58),(3,34)],4,32,[zu,zu,zu,zu]⟩
@[go_sem] def uM:Ty:=⟨.struct [(0,60),(4,60),(8,4)],9,72,[zu,zu,zu,zu,zu,zu,zu,zu,zb]⟩
@[go_sem] def uO:Ty:=⟨.struct [(0,4),(1,62),(10,62),(19,34),(20,34),(21,34)],22,176,[zb,zu,zu,zu,zu,zu,zu,zu,zu,zb,zu,zu,zu,zu,zu,zu,zu,zu,zb,zu,zu,zu]⟩
@[go_sem] def uQ:Ty:=⟨.struct [(0,4),(1,62),(10,34)],11,88,[zb,zu,zu,zu,zu,zu,zu,zu,zu,zb,zu]⟩
@[go_sem] def uV:Ty:=⟨.struct [(0,34),(1,34),(2,34),(3,34),(4,34),(5,34)],6,48,[zu,zu,zu,zu,zu,zu]⟩
@[go_sem] def u0:Ty:=⟨.slice 41,1,24,[zs]⟩
@[go_sem] def u7:Ty:=⟨.slice 3,1,24,[zs]⟩
@[go_sem] def Y82:Ty:=⟨.struct [(0,34),(1,34),(2,34),(3,34),(4,34)],5,40,[zu,zu,zu,zu,zu]⟩
@[go_sem] def Y87:Ty:=⟨.slice 45,1,24,[zs]⟩
@[go_sem] def Y88:Ty:=⟨.struct [(0,87),(1,46)],2,48,[zs,zs]⟩
@[go_sem] def Y99:Ty:=⟨.struct [(0,3),(1,31)],2,16,[zi,zi]⟩
@[go_sem] def Qas:Ty:=⟨.ptr 156,1,8,[zp]⟩
@[go_sem] def Qat:Ty:=⟨.ptr 161,1,8,[zp]⟩
@[go_sem] def Qau:Ty:=⟨.ptr 165,1,8,[zp]⟩
@[go_sem] def Qaw:Ty:=⟨.ptr 171,1,8,[zp]⟩
@[go_sem] def Qay:Ty:=⟨.struct [(0,104),(1,107),(2,110),(3,113),(4,34),(5,3)],6,48,[zp,zp,zp,zp,zu,zi]⟩
@[go_sem] def QaF:Ty:=⟨.ptr 211,1,8,[zp]⟩
@[go_sem] def QaQ:Ty:=⟨.ptr 140,1,8,[zp]⟩
@[go_sem] def QaS:Ty:=⟨.map 3 77,1,8,[zm]⟩
@[go_sem] def QaT:Ty:=⟨.slice 143,1,24,[zs]⟩
@[go_sem] def QaV:Ty:=⟨.struct [(0,23),(2,137),(3,50),(15,34),(16,138)],17,120,[zi,zi,zm,zi,zb,zb,zu,zu,zi,zu,zi,zh,zh,zh,zh,zu,zs]⟩
@[go_sem] def QaY:Ty:=⟨.struct [(0,31),(1,141)],2,16,[zi,.nilFunc]⟩
@[go_sem] def Qa0:Ty:=⟨.struct [(0,3),(1,56)],15,120,[zi,zi,zi,zb,zu,zu,zu,zu,zu,zu,zu,zu,zu,zi,zi]⟩
@[go_sem] def Qa2:Ty:=⟨.struct [(0,39),(4,39),(8,3)],9,24,[zh,zh,zh,zh,zh,zh,zh,zh,zi]⟩
@[go_sem] def Qa3:Ty:=⟨.map 3 180,1,8,[zm]⟩
@[go_sem] def Qa4:Ty:=⟨.ptr 216,1,8,[zp]⟩
@[go_sem] def Qa6:Ty:=⟨.ptr 218,1,8,[zp]⟩
@[go_sem] def Qa8:Ty:=⟨.map 3 151,1,8,[zm]⟩
@[go_sem] def Qa9:Ty:=⟨.ptr 223,1,8,[zp]⟩
@[go_sem] def Qbb:Ty:=⟨.struct [(0,23),(2,124),(3,148),(4,154),(5,149),(6,153),(7,34),(8,34)],9,72,[zi,zi,zp,zm,zp,zp,zm,zu,zu]⟩
@[go_sem] def Qbg:Ty:=⟨.struct [(0,159),(3,3),(4,34)],5,40,[zu,zu,zu,zi,zu]⟩
@[go_sem] def Qbi:Ty:=⟨.map 39 3,1,8,[zm]⟩
@[go_sem] def Qbk:Ty:=⟨.struct [(0,36),(1,163),(2,79)],3,56,[zs,zm,zs]⟩
@[go_sem] def Qbn:Ty:=⟨.map 3 243,1,8,[zm]⟩
@[go_sem] def Qbo:Ty:=⟨.map 3 83,1,8,[zm]⟩
@[go_sem] def Qbq:Ty:=⟨.struct [(0,168),(1,169)],2,16,[zm,zm]⟩
@[go_sem] def Qbx:Ty:=⟨.ptr 193,1,8,[zp]⟩
@[go_sem] def QbG:Ty:=⟨.ptr 262,1,8,[zp]⟩
@[go_sem] def QbI:Ty:=⟨.struct [(0,191),(1,56),(15,34),(16,64),(38,66),(49,68)],60,480,[zp,zi,zi,zb,zu,zu,zu,zu,zu,zu,zu,zu,zu,zi,zi,zu,zb,zu,zu,zu,zu,zu,zu,zu,zu,zb,zu,zu,zu,zu,zu,zu,zu,zu,zb,zu,zu,zu,zb,zu,zu,zu,zu,zu,zu,zu,zu,zb,zu,zb,zu,zu,zu,zu,zu,zu,zu,zu,zb,zu]⟩
@[go_sem] def QbY:Ty:=⟨.map 3 56,1,8,[zm]⟩
@[go_sem] def Qb0:Ty:=⟨.struct [(0,209)],1,8,[zm]⟩
@[go_sem] def Qb1:Ty:=⟨.ptr 271,1,8,[zp]⟩
@[go_sem] def Qb3:Ty:=⟨.map 3 255,1,8,[zm]⟩
@[go_sem] def Qb5:Ty:=⟨.struct [(0,212),(1,214)],2,16,[zp,zm]⟩
@[go_sem] def Qb8:Ty:=⟨.map 3 225,1,8,[zm]⟩
@[go_sem] def Qb9:Ty:=⟨.map 3 3,1,8,[zm]⟩
@[go_sem] def Qca:Ty:=⟨.map 3 220,1,8,[zm]⟩
@[go_sem] def Qcc:Ty:=⟨.struct [(0,219),(1,220),(2,221)],3,24,[zm,zm,zm]⟩
@[go_sem] def Qch:Ty:=⟨.slice 54,1,24,[zs]⟩
@[go_sem] def Qcu:Ty:=⟨.slice 34,1,24,[zs]⟩
@[go_sem] def Qcw:Ty:=⟨.struct [(0,3),(1,41),(7,4)],8,40,[zi,zu,zi,zh,zh,zh,zh,zb]⟩
@[go_sem] def QcC:Ty:=⟨.struct [(0,34),(1,3)],2,16,[zu,zi]⟩
@[go_sem] def QcE:Ty:=⟨.struct [(0,253),(2,253)],4,32,[zu,zi,zu,zi]⟩
@[go_sem] def QcI:Ty:=⟨.ptr 304,1,8,[zp]⟩
@[go_sem] def QcK:Ty:=⟨.struct [(0,260),(1,3),(2,3),(3,70)],9,72,[zp,zi,zi,zu,zu,zu,zu,zu,zu]⟩
@[go_sem] def QcQ:Ty:=⟨.ptr 300,1,8,[zp]⟩
@[go_sem] def QcS:Ty:=⟨.struct [(0,269)],1,8,[zp]⟩
@[go_sem] def QcX:Ty:=⟨.slice 79,1,24,[zs]⟩
@[go_sem] def Qda:Ty:=⟨.array 2 269,2,16,[zp,zp]⟩
@[go_sem] def Qdb:Ty:=⟨.struct [(0,255),(4,298),(6,255),(10,3),(11,3)],12,96,[zu,zi,zu,zi,zp,zp,zu,zi,zu,zi,zi,zi]⟩
@[go_sem] def Qdc:Ty:=⟨.struct [(0,77),(1,3),(2,3)],3,40,[zs,zi,zi]⟩
@[go_sem] def Qdf:Ty:=⟨.int .u32,1,4,[.int .u32 0]⟩
@[go_sem] def Qdh:Ty:=⟨.ptr 159,1,8,[zp]⟩
@[go_sem] def Qdi:Ty:=⟨.array 3 54,9,72,[zu,zu,zu,zu,zu,zu,zu,zu,zu]⟩
@[go_sem] def Qdl:Ty:=⟨.ptr 3,1,8,[zp]⟩
@[go_sem] def Qdn:Ty:=⟨.array 2 60,8,64,[zu,zu,zu,zu,zu,zu,zu,zu]⟩
@[go_sem] def Qdo:Ty:=⟨.ptr 350,1,8,[zp]⟩
def lay:Zm:=[(1,Y1),(2,Y2),(3,Y2),(4,Y4),(5,Y5),(9,Y9),(12,tS),(17,tT),(20,tU),(21,tV),(22,tW),(23,tW),(24,tY),(25,tZ),(26,tZ),(27,Y1),(28,Y1),(29,Y1),(30,ue),(31,Y2),(33,Y1),(34,tS),(35,ui),(36,uj),(37,uk),(38,um),(39,um),(41,ur),(42,uu),(43,uu),(44,uw),(45,uw),(46,uy),(48,Y1),(49,uA),(50,uA),(51,Y1),(52,Y1),(53,uE),(54,uE),(55,uG),(56,uG),(57,uJ),(58,uJ),(60,uL),(61,uM),(62,uM),(63,uO),(64,uO),(65,uQ),(66,uQ),(67,uQ),(68,uQ),(70,uV),(76,Y1),(77,u0),(78,Y1),(79,u7),(81,Y1),(82,Y82),(83,Y82),(84,Y1),(86,Y1),(87,Y87),(88,Y88),(89,Y88),(94,Y1),(97,Y1),(98,Y1),(99,Y99),(100,Y99),(101,Y1),(102,Y1),(103,Y1),(104,Qas),(107,Qat),(110,Qau),(113,Qaw),(114,Y1),(116,Qay),(117,Y1),(120,Y1),(122,Y1),(124,QaF),(133,Y1),(134,Y1),(135,QaQ),(137,QaS),(138,QaT),(140,QaV),(141,Y1),(143,QaY),(145,Qa0),(147,Qa2),(148,Qa3),(149,Qa4),(151,Qa6),(153,Qa8),(154,Qa9),(156,Qbb),(159,uE),(161,Qbg),(163,Qbi),(165,Qbk),(168,Qbn),(169,Qbo),(171,Qbq),(176,Y1),(180,Qbx),(191,QbG),(193,QbI),(199,Y1),(209,QbY),(211,Qb0),(212,Qb1),(214,Qb3),(216,Qb5),(218,Qb5),(219,Qb8),(220,Qb9),(221,Qca),(223,Qcc),(225,tW),(228,Qch),(243,Qcu),(245,Qcw),(253,QcC),(255,QcE),(260,QcI),(262,QcK),(269,QcQ),(271,QcS),(272,Y1),(277,QcX),(281,tS),(298,Qda),(300,Qdb),(304,Qdc),(307,Y2),(316,Y2),(323,Qdf),(325,Y1),(337,Qdh),(341,Qdi),(349,Y1),(350,tS),(353,Qdl),(361,Y1),(362,Qdn),(366,Qdo)]
def Qdp{P:Program}:∀{L:Zm},L.map (λp=>(P.underlying p.1).map TK.of)=L.map (λp=>some p.2.k)->L.map (λp=>(P.info? p.1).map λi=>(i.size,i.bytes,i.zero.map λz=>z.cells.toList))=L.map (λp=>some (p.2.size,p.2.bytes,some p.2.zero))->L.map (λp=>((P.info? p.1).bind (·.zero)).map SE)=L.map (λp=>some p.2.k.agg)->ZR P L
 | [],_,_,_=>.nil _
 | (_,_)::_,h1,h2,h3=>.cons ⟨(kH h1).1,(kH h2).1,(kH h3).1⟩ (Qdp (kH h1).2 (kH h2).2 (kH h3).2)
def Aj:ZR prog lay:=Qdp (by kernel_rfl) (by kernel_rfl) (by kernel_rfl)
theorem L1:ty lay 1=some Y1:=rfl
theorem L2:ty lay 2=some Y2:=rfl
theorem L3:ty lay 3=some Y2:=rfl
theorem L4:ty lay 4=some Y4:=rfl
theorem L5:ty lay 5=some Y5:=rfl
theorem L9:ty lay 9=some Y9:=rfl
theorem L12:ty lay 12=some tS:=rfl
theorem L17:ty lay 17=some tT:=rfl
theorem L20:ty lay 20=some tU:=rfl
theorem L21:ty lay 21=some tV:=rfl
theorem L22:ty lay 22=some tW:=rfl
theorem L23:ty lay 23=some tW:=rfl
theorem L24:ty lay 24=some tY:=rfl
theorem L25:ty lay 25=some tZ:=rfl
theorem L26:ty lay 26=some tZ:=rfl
theorem L27:ty lay 27=some Y1:=rfl
theorem L28:ty lay 28=some Y1:=rfl
theorem L29:ty lay 29=some Y1:=rfl
theorem L30:ty lay 30=some ue:=rfl
theorem L31:ty lay 31=some Y2:=rfl
theorem L33:ty lay 33=some Y1:=rfl
theorem L34:ty lay 34=some tS:=rfl
theorem L35:ty lay 35=some ui:=rfl
theorem L36:ty lay 36=some uj:=rfl
theorem L37:ty lay 37=some uk:=rfl
theorem L38:ty lay 38=some um:=rfl
theorem L39:ty lay 39=some um:=rfl
theorem L41:ty lay 41=some ur:=rfl
theorem L42:ty lay 42=some uu:=rfl
theorem L43:ty lay 43=some uu:=rfl
theorem L44:ty lay 44=some uw:=rfl
theorem L45:ty lay 45=some uw:=rfl
theorem L46:ty lay 46=some uy:=rfl
theorem L48:ty lay 48=some Y1:=rfl
theorem L49:ty lay 49=some uA:=rfl
theorem L50:ty lay 50=some uA:=rfl
theorem L51:ty lay 51=some Y1:=rfl
theorem L52:ty lay 52=some Y1:=rfl
theorem L53:ty lay 53=some uE:=rfl
theorem L54:ty lay 54=some uE:=rfl
theorem L55:ty lay 55=some uG:=rfl
theorem L56:ty lay 56=some uG:=rfl
theorem L57:ty lay 57=some uJ:=rfl
theorem L58:ty lay 58=some uJ:=rfl
theorem L60:ty lay 60=some uL:=rfl
theorem L61:ty lay 61=some uM:=rfl
theorem L62:ty lay 62=some uM:=rfl
theorem L63:ty lay 63=some uO:=rfl
theorem L64:ty lay 64=some uO:=rfl
theorem L65:ty lay 65=some uQ:=rfl
theorem L66:ty lay 66=some uQ:=rfl
theorem L67:ty lay 67=some uQ:=rfl
theorem L68:ty lay 68=some uQ:=rfl
theorem L70:ty lay 70=some uV:=rfl
theorem L76:ty lay 76=some Y1:=rfl
theorem L77:ty lay 77=some u0:=rfl
theorem L78:ty lay 78=some Y1:=rfl
theorem L79:ty lay 79=some u7:=rfl
theorem L81:ty lay 81=some Y1:=rfl
theorem L82:ty lay 82=some Y82:=rfl
theorem L83:ty lay 83=some Y82:=rfl
theorem L84:ty lay 84=some Y1:=rfl
theorem L86:ty lay 86=some Y1:=rfl
theorem L87:ty lay 87=some Y87:=rfl
theorem L88:ty lay 88=some Y88:=rfl
theorem L89:ty lay 89=some Y88:=rfl
theorem L94:ty lay 94=some Y1:=rfl
theorem L97:ty lay 97=some Y1:=rfl
theorem L98:ty lay 98=some Y1:=rfl
theorem L99:ty lay 99=some Y99:=rfl
theorem Qx0:ty lay 100=some Y99:=rfl
theorem QnS:ty lay 101=some Y1:=rfl
theorem QnT:ty lay 102=some Y1:=rfl
theorem QnU:ty lay 103=some Y1:=rfl
theorem QnV:ty lay 104=some Qas:=rfl
theorem QnW:ty lay 107=some Qat:=rfl
theorem QnX:ty lay 110=some Qau:=rfl
theorem QnZ:ty lay 113=some Qaw:=rfl
theorem Qn0:ty lay 114=some Y1:=rfl
theorem Qn1:ty lay 116=some Qay:=rfl
theorem Qn2:ty lay 117=some Y1:=rfl
theorem Qn4:ty lay 120=some Y1:=rfl
theorem Qn6:ty lay 122=some Y1:=rfl
theorem Qn8:ty lay 124=some QaF:=rfl
theorem Qoh:ty lay 133=some Y1:=rfl
theorem Qoi:ty lay 134=some Y1:=rfl
theorem Qoj:ty lay 135=some QaQ:=rfl
theorem Qol:ty lay 137=some QaS:=rfl
theorem Qom:ty lay 138=some QaT:=rfl
theorem Qoo:ty lay 140=some QaV:=rfl
theorem Qop:ty lay 141=some Y1:=rfl
theorem Qor:ty lay 143=some QaY:=rfl
theorem Qot:ty lay 145=some Qa0:=rfl
theorem Qov:ty lay 147=some Qa2:=rfl
theorem Qow:ty lay 148=some Qa3:=rfl
theorem Qox:ty lay 149=some Qa4:=rfl
theorem Qoz:ty lay 151=some Qa6:=rfl
theorem QoB:ty lay 153=some Qa8:=rfl
theorem QoC:ty lay 154=some Qa9:=rfl
theorem QoE:ty lay 156=some Qbb:=rfl
theorem QoH:ty lay 159=some uE:=rfl
theorem QoJ:ty lay 161=some Qbg:=rfl
theorem QoL:ty lay 163=some Qbi:=rfl
theorem QoN:ty lay 165=some Qbk:=rfl
theorem QoQ:ty lay 168=some Qbn:=rfl
theorem QoR:ty lay 169=some Qbo:=rfl
theorem QoT:ty lay 171=some Qbq:=rfl
theorem QoX:ty lay 176=some Y1:=rfl
theorem Qo0:ty lay 180=some Qbx:=rfl
theorem Qo9:ty lay 191=some QbG:=rfl
theorem Qpb:ty lay 193=some QbI:=rfl
theorem Qph:ty lay 199=some Y1:=rfl
theorem Qpr:ty lay 209=some QbY:=rfl
theorem Qpt:ty lay 211=some Qb0:=rfl
theorem Qpu:ty lay 212=some Qb1:=rfl
theorem Qpw:ty lay 214=some Qb3:=rfl
theorem Qpy:ty lay 216=some Qb5:=rfl
theorem QpA:ty lay 218=some Qb5:=rfl
theorem QpB:ty lay 219=some Qb8:=rfl
theorem QpC:ty lay 220=some Qb9:=rfl
theorem QpD:ty lay 221=some Qca:=rfl
theorem QpF:ty lay 223=some Qcc:=rfl
theorem QpH:ty lay 225=some tW:=rfl
theorem QpK:ty lay 228=some Qch:=rfl
theorem QpX:ty lay 243=some Qcu:=rfl
theorem QpZ:ty lay 245=some Qcw:=rfl
theorem Qp5:ty lay 253=some QcC:=rfl
theorem Qp7:ty lay 255=some QcE:=rfl
theorem Qqb:ty lay 260=some QcI:=rfl
theorem Qqd:ty lay 262=some QcK:=rfl
theorem Qqj:ty lay 269=some QcQ:=rfl
theorem Qql:ty lay 271=some QcS:=rfl
theorem Qqm:ty lay 272=some Y1:=rfl
theorem Qqq:ty lay 277=some QcX:=rfl
theorem Qqu:ty lay 281=some tS:=rfl
theorem QqD:ty lay 298=some Qda:=rfl
theorem QqE:ty lay 300=some Qdb:=rfl
theorem QqF:ty lay 304=some Qdc:=rfl
theorem QqG:ty lay 307=some Y2:=rfl
theorem QqH:ty lay 316=some Y2:=rfl
theorem QqI:ty lay 323=some Qdf:=rfl
theorem QqJ:ty lay 325=some Y1:=rfl
theorem QqK:ty lay 337=some Qdh:=rfl
theorem QqL:ty lay 341=some Qdi:=rfl
theorem QqM:ty lay 349=some Y1:=rfl
theorem QqN:ty lay 350=some tS:=rfl
theorem QqO:ty lay 353=some Qdl:=rfl
theorem QqP:ty lay 361=some Y1:=rfl
theorem QqQ:ty lay 362=some Qdn:=rfl
theorem QqR:ty lay 366=some Qdo:=rfl
def G2:vY:=[(39,[0,0,0,0]),(41,[0,0,0,0,0,0]),(54,[0,0,0]),(56,[0,0,1,0,0,0,0,0,0,0,0,0,0,0]),(58,[0,0]),(100,[0,0]),(253,[0,0])]
def Qdq{P:Program}:∀{E:vY},E.map (λp=>Yu P 60 p.1)=E.map (λp=>some p.2)->E.map (λp=>P.eqGuardType P.depth p.1)=E.map (λ_=>false)->E.map (λp=>match P.underlying p.1 with|some (.struct _)|some (.array _ _)=>true|_=>false)=E.map (λ_=>true)->xD P E
 | [],_,_,_=>.nil _
 | (_,_)::_,h1,h2,h3=>.cons ⟨(kH h1).1,(kH h2).1,(kH h3).1⟩ (Qdq (kH h1).2 (kH h2).2 (kH h3).2)
def QqS:xD prog G2:=Qdq (by kernel_rfl) (by kernel_rfl) (by kernel_rfl)
theorem E39:yT G2 39=some [0,0,0,0]:=rfl
theorem E41:yT G2 41=some [0,0,0,0,0,0]:=rfl
theorem E54:yT G2 54=some [0,0,0]:=rfl
theorem E56:yT G2 56=some [0,0,1,0,0,0,0,0,0,0,0,0,0,0]:=rfl
theorem E58:yT G2 58=some [0,0]:=rfl
theorem QF0:yT G2 100=some [0,0]:=rfl
theorem QqX:yT G2 253=some [0,0]:=rfl
def cx:Cx:=⟨lay,G2⟩
def Qh:Y0 prog cx:=⟨Aj,QqS⟩
def fC:Qq prog 9:=call9
def Qdr:Qq prog 10:=call10
def Qds:Qq prog 12:=call12
def Qdt:Qq prog 13:=call13
def Qdu:Qq prog 15:=call15
def QqY:Qq prog 27:=call27
def Qjb:Qq prog 33:=call33
def QkJ:Qq prog 34:=call34
def Qq0:Qq prog 36:=call36
def Qq1:Qq prog 37:=call37
def fF:Qq prog 38:=call38
def Qq2:Qq prog 39:=call39
def Qdv:Qq prog 40:=call40
def Qq3:Qq prog 41:=call41
def Ur:Qq prog 42:=call42
def Qq4:Qq prog 43:=call43
def Qq5:Qq prog 44:=call44
def Qq6:Qq prog 45:=call45
def Qq7:Qq prog 46:=call46
def Qq8:Qq prog 47:=call47
def fG:Qq prog 52:=call52
def QF1:Qq prog 64:=call64
def QF2:Qq prog 65:=call65
def QF3:Qq prog 66:=call66
def Qq9:Qq prog 67:=call67
def Qra:Qq prog 68:=call68
def Qdw:Qq prog 69:=call69
def Qdx:Qq prog 70:=call70
def Qrb:Qq prog 71:=call71
def fH:Qq prog 72:=call72
def Qdy:Qq prog 73:=call73
def Qrc:Qq prog 74:=call74
def Qdz:Qq prog 75:=call75
def OK:Qq prog 76:=call76
def Qrd:Qq prog 77:=call77
def fI:Qq prog 78:=call78
def fJ:Qq prog 79:=call79
def j4:Qq prog 80:=call80
def Qre:Qq prog 81:=call81
def fK:Qq prog 82:=call82
def QdA:Qq prog 83:=call83
def Qrf:Qq prog 84:=call84
def Qrg:Qq prog 85:=call85
def QdB:Qq prog 86:=call86
def Qrh:Qq prog 87:=call87
def Qri:Qq prog 88:=call88
def Qrj:Qq prog 89:=call89
def QdC:Qq prog 90:=call90
def OL:Qq prog 91:=call91
def Qrk:Qq prog 92:=call92
def Lz:Qq prog 94:=call94
def Qrl:Qq prog 97:=call97
def Us:Qq prog 98:=call98
def Qrm:Qq prog 99:=call99
def QkP:Qq prog 106:=call106
def Qk1:Qq prog 107:=call107
def QF4:Qq prog 108:=call108
def QF5:Qq prog 109:=call109
def QF6:Qq prog 110:=call110
def Qrn:Qq prog 111:=call111
def QGp:Qq prog 112:=call112
def QGP:Qq prog 113:=call113
def QGQ:Qq prog 114:=call114
def QGR:Qq prog 115:=call115
def QGS:Qq prog 116:=call116
def QdD:Qq prog 117:=call117
def j5:Qq prog 118:=call118
def Qro:Qq prog 119:=call119
def Qrp:Qq prog 120:=call120
def Qrq:Qq prog 121:=call121
def Qrr:Qq prog 122:=call122
def Ut:Qq prog 123:=call123
def QdE:Qq prog 124:=call124
def OM:Qq prog 125:=call125
def Qrs:Qq prog 126:=call126
def Qrt:Qq prog 127:=call127
def Uu:Qq prog 128:=call128
def Qru:Qq prog 129:=call129
def Bu:Qq prog 130:=call130
def QdF:Qq prog 131:=call131
def Qrv:Qq prog 132:=call132
def Qrw:Qq prog 133:=call133
def Qrx:Qq prog 134:=call134
def Uv:Qq prog 135:=call135
def QdG:Qq prog 136:=call136
def Qry:Qq prog 137:=call137
def Qrz:Qq prog 138:=call138
def QrA:Qq prog 139:=call139
def QrB:Qq prog 140:=call140
def QrC:Qq prog 141:=call141
def zk:Qq prog 142:=call142
def QdH:Qq prog 143:=call143
def QdI:Qq prog 144:=call144
def fM:Qq prog 145:=call145
def QdJ:Qq prog 146:=call146
def QrD:Qq prog 147:=call147
def QrE:Qq prog 148:=call148
def QdK:Qq prog 149:=call149
def QrF:Qq prog 150:=call150
def Uw:Qq prog 151:=call151
def QrG:Qq prog 152:=call152
def Ux:Qq prog 153:=call153
def QrH:Qq prog 154:=call154
def QrI:Qq prog 155:=call155
def QrJ:Qq prog 156:=call156
def QrK:Qq prog 157:=call157
def Uy:Qq prog 158:=call158
def QdL:Qq prog 159:=call159
def QdM:Qq prog 160:=call160
def QdN:Qq prog 162:=call162
def QrL:Qq prog 163:=call163
def QrM:Qq prog 164:=call164
def QrN:Qq prog 165:=call165
def QrO:Qq prog 166:=call166
def QrP:Qq prog 167:=call167
def QdO:Qq prog 168:=call168
def QrQ:Qq prog 169:=call169
def QrR:Qq prog 170:=call170
def QrS:Qq prog 171:=call171
def fN:Qq prog 172:=call172
def QrT:Qq prog 173:=call173
def QrU:Qq prog 174:=call174
def QrV:Qq prog 175:=call175
def fO:Qq prog 176:=call176
def QrW:Qq prog 177:=call177
def QrX:Qq prog 178:=call178
def QrY:Qq prog 179:=call179
def QdP:Qq prog 180:=call180
def QdQ:Qq prog 181:=call181
def QdR:Qq prog 182:=call182
def LA:Qq prog 183:=call183
def fQ:Qq prog 184:=call184
def CO:Qq prog 186:=call186
def QdS:Qq prog 187:=call187
def Uz:Qq prog 188:=call188
def LB:Qq prog 189:=call189
def QrZ:Qq prog 190:=call190
def fR:Qq prog 191:=call191
def Qr0:Qq prog 192:=call192
def Qr1:Qq prog 193:=call193
def LC:Qq prog 194:=call194
def Qr2:Qq prog 195:=call195
def Qr3:Qq prog 196:=call196
def Qr4:Qq prog 197:=call197
def QdT:Qq prog 198:=call198
def Qr5:Qq prog 199:=call199
def Qr6:Qq prog 200:=call200
def Qr7:Qq prog 211:=call211
def QdU:Qq prog 212:=call212
def QdV:Qq prog 213:=call213
def UA:Qq prog 214:=call214
def UB:Qq prog 215:=call215
def fS:Qq prog 216:=call216
def QdW:Qq prog 217:=call217
def fT:Qq prog 218:=call218
def QdX:Qq prog 219:=call219
def fU:Qq prog 220:=call220
def Al:Qq prog 221:=call221
def fV:Qq prog 222:=call222
def Qr8:Qq prog 223:=call223
def Qr9:Qq prog 224:=call224
def Qsa:Qq prog 225:=call225
def Qsb:Qq prog 226:=call226
def UC:Qq prog 227:=call227
def Qsc:Qq prog 228:=call228
def QdY:Qq prog 229:=call229
def Qsd:Qq prog 230:=call230
def QdZ:Qq prog 231:=call231
def Qse:Qq prog 232:=call232
def CP:Qq prog 233:=call233
def fW:Qq prog 234:=call234
def UD:Qq prog 235:=call235
def Qd0:Qq prog 236:=call236
def Qsf:Qq prog 237:=call237
def Qsg:Qq prog 238:=call238
def Qsh:Qq prog 239:=call239
def Qsi:Qq prog 240:=call240
def fX:Qq prog 241:=call241
def Qsj:Qq prog 242:=call242
def Qd1:Qq prog 243:=call243
def Qsk:Qq prog 244:=call244
def Qsl:Qq prog 245:=call245
def Qsm:Qq prog 246:=call246
def Qd2:Qq prog 247:=call247
def Qsn:Qq prog 249:=call249
def Qso:Qq prog 250:=call250
def Qd3:Qq prog 254:=call254
def ON:Qq prog 255:=call255
def fY:Qq prog 256:=call256
def Qd4:Qq prog 257:=call257
def OO:Qq prog 258:=call258
def Qsp:Qq prog 259:=call259
def Bv:Qq prog 260:=call260
def Qd5:Qq prog 261:=call261
def Qsq:Qq prog 262:=call262
def Qsr:Qq prog 263:=call263
def UE:Qq prog 264:=call264
def fZ:Qq prog 265:=call265
def Qd6:Qq prog 267:=call267
def Qd7:Qq prog 268:=call268
def Qss:Qq prog 269:=call269
def Qd8:Qq prog 270:=call270
def gh:Qq prog 271:=call271
def jo:Qq prog 272:=call272
def gi:Qq prog 273:=call273
def Qst:Qq prog 274:=call274
def Qd9:Qq prog 275:=call275
def Qsu:Qq prog 276:=call276
def Qsv:Qq prog 277:=call277
def Qsw:Qq prog 278:=call278
def Qsx:Qq prog 279:=call279
def Qsy:Qq prog 280:=call280
def Qsz:Qq prog 281:=call281
def QsA:Qq prog 282:=call282
def QsB:Qq prog 283:=call283
def LD:Qq prog 284:=call284
def Qea:Qq prog 285:=call285
def Qeb:Qq prog 286:=call286
def Qec:Qq prog 287:=call287
def Qed:Qq prog 288:=call288
def gj:Qq prog 289:=call289
def gl:Qq prog 290:=call290
def gp:Qq prog 291:=call291
attribute [go_sem] cx L1 L2 L3 L4 L5 L9 L12 L17 L20 L21 L22 L23 L24 L25 L26 L27 L28 L29 L30 L31 L33 L34 L35 L36 L37 L38 L39 L41 L42 L43 L44 L45 L46 L48 L49 L50 L51 L52 L53 L54 L55 L56 L57 L58 L60 L61 L62 L63 L64 L65 L66 L67 L68 L70 L76 L77 L78 L79 L81 L82 L83 L84 L86 L87 L88 L89 L94 L97 L98 L99 Qx0 QnS QnT QnU QnV QnW QnX QnZ Qn0 Qn1 Qn2 Qn4 Qn6 Qn8 Qoh Qoi Qoj Qol Qom Qoo Qop Qor Qot Qov Qow Qox Qoz QoB QoC QoE QoH QoJ QoL QoN QoQ QoR QoT QoX Qo0 Qo9 Qpb Qph Qpr Qpt Qpu Qpw Qpy QpA QpB QpC QpD QpF QpH QpK QpX QpZ Qp5 Qp7 Qqb Qqd Qqj Qql Qqm Qqq Qqu QqD QqE QqF QqG QqH QqI QqJ QqK QqL QqM QqN QqO QqP QqQ QqR E39 E41 E54 E56 E58 QF0 QqX
def Qf{base nt}{w0:Start}{Q}{k}{s}(hb:base<=w0.w.heap.size)(h:hx prog base w0 Q cx nt 200 k s):Qw prog base nt w0 Q k .normal s:=Bp Qh hb 200 h
def Zb{base nt}{w0:Start}{K}{l}{s}(hb:base<=w0.w.heap.size)(h:Kn prog base w0 cx nt K l s):AX prog base nt w0 K l s:=Qmf Qh hb h
end Go.Fg.X
namespace Go.Fg
open Go.RowKit (Below)
def Rd(P:Program)(t:TypeId){α:Type}(ok:α->Prop)(enc:α->List D):Prop:=
 ∀{H:Type} {en:TypeId × Value->H} {w:World} {base:Nat} {held:Bool} (m:Nat) (cs:List Value) (x:DataW H × List MemPlace),DataW.trod en P w base (λ_=>true) held m t cs=some x ->
  ∃a,ok a/\(enc a).length=cs.length/\∀j,j<cs.length->Cl (λ_=>True) w (nth (enc a) j) (QW cs j)
def Rd.int{P:Program}{t:TypeId}(k)(ht:P.underlying t=some (.int k)):Rd P t (λn:Int=>(Lit.int k n).wf=true) (λn=>[.raw (.int k n)]):=by
 intro H en w base held m cs x h;obtain⟨n,rfl,_,hw⟩:=DataW.trod_int ht h;refine⟨n,hw,rfl,λj hj=>?_⟩;obtain rfl:j=0:=by simpa using hj
 exact .raw _
def Rd.bool{P:Program}{t:TypeId}(ht:P.underlying t=some .bool):Rd P t (λ_:Bool=>True) (λn=>[.raw (.bool n)]):=by
 intro H en w base held m cs x h;obtain⟨n,rfl,_⟩:=DataW.trod_bool ht h;refine⟨n,trivial,rfl,λj hj=>?_⟩;obtain rfl:j=0:=by simpa using hj
 exact .raw _
def Rd.map{P}{t:TypeId}{α β:Type}{ok}{enc}(r:Rd P t ok enc)(g:α->β){Fb}{qF}(he:∀a,qF (g a)=enc a)(ho:∀a,ok a->Fb (g a)):Rd P t Fb qF:=by
 intro H en w base held m cs x h;obtain⟨a,h1,h2,h3⟩:=r m cs x h;exact⟨g a,ho a h1,by rw[he];exact h2,by rw[he];exact h3⟩
def J9(P:Program)(fs:List Field)(off Jb:Nat){α:Type}(ok:α->Prop)(enc:α->List D):Prop:=
 ∀{H:Type} {en:TypeId × Value->H} {w:World} {base:Nat} {held:Bool} (m:Nat) (cs:List Value),cs.length=Jb ->
  (∀f∈fs,∃x,DataW.trod en P w base (λ_=>true) held m f.type ((cs.drop f.offset).take (P.cellsOf f.type))=some x) ->
  ∃a,ok a/\off+(enc a).length=Jb/\∀j,off+j<Jb->Cl (λ_=>True) w (nth (enc a) j) (QW cs (off+j))
def J9.nil{P}{Jb}:J9 P [] Jb Jb (λ_:Unit=>True) (λ_=>[]):=by
 intro H en w base held m cs hl h;exact⟨(),trivial,rfl,λj hj=>by omega⟩
def J9.cons{P}{f:Field}{fs}{off xr Jb}{α β:Type}{ok}{enc}{Fb}{qF}(r:Rd P f.type ok enc)(rs:J9 P fs xr Jb Fb qF)
  (ho:f.offset=off) (hc:off+P.cellsOf f.type=xr) (ht:xr<=Jb):J9 P (f::fs) off Jb (λab:α × β=>ok ab.1/\Fb ab.2) (λab=>enc ab.1++qF ab.2):=by
 intro H en w base held m cs hl h;obtain⟨x,hx⟩:=h f (by simp);obtain⟨a,a1,a2,a3⟩:=r m _ x hx;obtain⟨b,b1,b2,b3⟩:=rs m cs hl λg hg=>h g (by simp[hg]);have hlen:((cs.drop f.offset).take (P.cellsOf f.type)).length=P.cellsOf f.type:=by simp;omega
 rw[hlen]at a2 a3;refine⟨(a,b),⟨a1,b1⟩,by simp;omega,λj hj=>?_⟩;by_cases h1:j<P.cellsOf f.type
 ·have:=a3 j h1;have e1:nth (enc a++qF b) j=nth (enc a) j:=eC (by omega);have e2:QW ((cs.drop f.offset).take (P.cellsOf f.type)) j=QW cs (off+j):=by
   simp only[QW,Q8,W5,Qg h1,Gg,ho]
  show Cl _ w (nth (enc a++qF b) j) _;rw[e1,<- e2];exact this
 ·have e1:nth (enc a++qF b) j=nth (qF b) (j - P.cellsOf f.type):=by rw[eD (by omega),a2]
  have:=b3 (j - P.cellsOf f.type) (by omega);show Cl _ w (nth (enc a++qF b) j) _;rw[e1,show off+j=xr+(j - P.cellsOf f.type) by omega];exact this
def Rd.struct{P:Program}{t:TypeId}{fs:Array Field}{Jb:Nat}{α:Type}{ok:α->Prop}{enc:α->List D}(ht:P.underlying t=some (.struct fs))(hc:P.cellsOf t=Jb)(r:J9 P fs.toList 0 Jb ok enc):Rd P t ok enc:=by
 intro H en w base held m cs x h;obtain⟨xs,m',rfl,_,hl,q9,hf⟩:=DataW.trod_struct ht h;obtain⟨a,a1,a2,a3⟩:=r m' cs (by omega) λf hf'=>by
  obtain⟨i,hi⟩:=Ee hf';have Jf:fs[i]? = some f:=by simpa using hi
  have Qc:i<xs.length:=by rw[q9];exact(VT.1 Jf).1
  exact⟨xs[i],by rw[hf i f Jf];exact QP Qc⟩
 exact⟨a,a1,by omega,λj hj=>by have:=a3 j (by omega);rwa [JG]at this⟩
def X8(P:Program)(e:TypeId)(i n:Nat){α:Type}(ok:α->Prop)(enc:α->List D):Prop:=
 ∀{H:Type} {en:TypeId × Value->H} {w:World} {base:Nat} {held:Bool} (m:Nat) (cs:List Value),cs.length=n*P.cellsOf e ->
  (∀k,k<n->∃x,DataW.trod en P w base (λ_=>true) held m e ((cs.drop (k*P.cellsOf e)).take (P.cellsOf e))=some x) ->
  ∃a,ok a/\i*P.cellsOf e+(enc a).length=n*P.cellsOf e/\∀j,i*P.cellsOf e+j<n*P.cellsOf e->Cl (λ_=>True) w (nth (enc a) j) (QW cs (i*P.cellsOf e+j))
def X8.nil{P}{e:TypeId}{n}:X8 P e n n (λ_:Unit=>True) (λ_=>[]):=by
 intro H en w base held m cs hl h;exact⟨(),trivial,rfl,λj hj=>by omega⟩
def X8.cons{P}{e:TypeId}{i n}{α β:Type}{ok}{enc}{Fb}{qF}(hi:i<n)(r:Rd P e ok enc)(rs:X8 P e (i+1) n Fb qF):
  X8 P e i n (λab:α × β=>ok ab.1/\Fb ab.2) (λab=>enc ab.1++qF ab.2):=by
 intro H en w base held m cs hl h;obtain⟨x,hx⟩:=h i hi;obtain⟨a,a1,a2,a3⟩:=r m _ x hx;obtain⟨b,b1,b2,b3⟩:=rs m cs hl h;have hm:=Yp (P.cellsOf e) (show i+1<=n from hi);rw[Vl,Qam]at hm;rw[Vl,Qam]at b2 b3;have hlen:((cs.drop (i*P.cellsOf e)).take (P.cellsOf e)).length=P.cellsOf e:=by simp;omega
 rw[hlen]at a2 a3;refine⟨(a,b),⟨a1,b1⟩,by simp;omega,λj hj=>?_⟩;by_cases h1:j<P.cellsOf e
 ·have:=a3 j h1;have e1:nth (enc a++qF b) j=nth (enc a) j:=eC (by omega);have e2:QW ((cs.drop (i*P.cellsOf e)).take (P.cellsOf e)) j=QW cs (i*P.cellsOf e+j):=by
   simp only[QW,Q8,W5,Qg h1,Gg]
  show Cl _ w (nth (enc a++qF b) j) _;rw[e1,<- e2];exact this
 ·have e1:nth (enc a++qF b) j=nth (qF b) (j - P.cellsOf e):=by rw[eD (by omega),a2]
  have:=b3 (j - P.cellsOf e) (by omega);show Cl _ w (nth (enc a++qF b) j) _;rw[e1,show i*P.cellsOf e+j=i*P.cellsOf e+P.cellsOf e+(j - P.cellsOf e) by omega];exact this
def Rd.array{P:Program}{t e:TypeId}{n:Nat}{α:Type}{ok:α->Prop}{enc:α->List D}(ht:P.underlying t=some (.array n e))(hc:P.cellsOf t=n*P.cellsOf e)(r:X8 P e 0 n ok enc):Rd P t ok enc:=by
 intro H en w base held m cs x h;obtain⟨xs,m',rfl,_,hl,q9,hf⟩:=DataW.trod_array ht h;obtain⟨a,a1,a2,a3⟩:=r m' cs (by omega) λk hk=>by
  have Qc:k<xs.length:=by omega
  exact⟨xs[k],by rw[hf k hk];exact QP Qc⟩
 simp only[Nat.zero_mul,JG]at a2 a3;exact⟨a,a1,by omega,λj hj=>a3 j (by omega)⟩
def Rd.slice{P:Program}{t e:TypeId}{α:Type}[Inhabited α]{ok}{enc}(sz)(ht:P.underlying t=some (.slice e))(hc:P.cellsOf e=sz)(yR:0<sz)(r:Rd P e ok enc):
  Rd P t (λl:List α=>l.length<=maxLen/\∀a∈l,ok a) (λl=>[.imm sz l.length λi=>enc (l.getD i default)]):=by
 intro H en w base held m cs x h;rcases Deep.open_slice ht h with ⟨rfl,_⟩|⟨a,len,cap,m,n',D',Pl,rfl,hb,hl,hm,UF,_,hel⟩
 ·refine⟨[],⟨by simp,by simp⟩,rfl,λj hj=>?_⟩;obtain rfl:j=0:=by simpa using hj
  exact .imm _ _ _ _ _ 0 0 (λ_ _=>Go.undef) (λh=>by simp at h) (by simp) (λi hi=>by simp at hi) (λi j hi=>by simp at hi) (λi j hi=>by simp at hi)
 ·simp only[K6]at UF;have key:∀i,∃ac:α × List Value,i<len->ok ac.1/\(enc ac.1).length=sz/\ac.2.length=sz/\(∀j,j<sz->w.cell? (a.add (i*sz+j))=some (QW ac.2 j))/\∀j,j<sz->Cl (λ_=>True) w (nth (enc ac.1) j) (QW ac.2 j):=λi=>by
   by_cases hi:i<len
   ·obtain⟨cs',h1,h2⟩:=hel i (by omega);obtain⟨x,hx,q9,UG⟩:=r n' cs' _ h2;obtain⟨_,hlen,Bb⟩:=World.cells?_some h1;have JA:cs'.length=sz:=by omega
    refine⟨(x,cs'),λ_=>⟨hx,(by show (enc x).length=sz;omega),JA,λj hj=>?_,λj hj=>UG j (by omega)⟩⟩;have:=Bb j (by omega);rw[Deep.add_add,hc]at this;rw[this];simp[QW,Q8,QP (show j<cs'.length by omega)]
   ·exact⟨(default,[]),λh=>absurd h hi⟩
  obtain⟨f,hf⟩:=Classical.axiomOfChoice key;have hlen:((List.range len).map λi=>(f i).1).length=len:=by simp
  have X2:∀i,i<len->((List.range len).map λi=>(f i).1).getD i default=(f i).1:=λi hi=>by simp[Q8,hi]
  refine⟨(List.range len).map λi=>(f i).1,⟨by rw[hlen];omega,λx hx=>?_⟩,rfl,λj hj=>?_⟩
  ·obtain⟨i,hi,rfl⟩:=Jn.1 hx;exact(hf i (NI.1 hi)).1
  ·obtain rfl:j=0:=by simpa using hj
   show Cl _ w (.imm sz ((List.range len).map λi=>(f i).1).length λi=>enc (((List.range len).map λi=>(f i).1).getD i default)) (.slice (some a) len cap);rw[hlen];have Qee:0<len->a=⟨a.block,a.off,none⟩:=λh0=>by
    have h1:=(hf 0 h0).2.2.2.1 0 yR;have h2:=World.cell?_spot h1;obtain⟨b,o,sp⟩:=a;simp[Addr.add]at h2;subst h2;rfl
   refine .imm _ _ _ _ _ a.block a.off (λi j=>QW (f i).2 j) (λh0=>by rw[<- Qee h0]) hl (λi hi=>?_) (λi j hi hj=>⟨trivial,?_⟩) (λi j hi hj=>?_)
   ·rw[X2 i hi];exact(hf i hi).2.1
   ·have h1:=(hf i hi).2.2.2.1 j hj;rw[Qee (by omega)]at h1;rw[<- h1];congr 1;simp only[Addr.add];split<;>simp_all
   ·rw[X2 i hi];exact(hf i hi).2.2.2.2 j hj
def Rd.one{P:Program}{t:TypeId}{α:Type}{ok:α->Prop}{enc:α->D}(r:Rd P t ok λa=>[enc a]){H:Type}{en:TypeId × Value->H}{w:World}{base:Nat}{held:Bool}{v:Value}{d:DataW H}{ps:List MemPlace}
  (h:DataW.Trod en P w base (λ_=>true) held t v d ps) (hv:v.cells.toList=[v]):∃a,ok a/\Cl (λ_=>True) w (enc a) v:=by
 obtain⟨m,hm⟩:=h;rw[hv]at hm;obtain⟨a,h1,h2,h3⟩:=r m _ _ hm;exact⟨a,h1,h3 0 (by simp)⟩
def Rd.many{P:Program}{t:TypeId}{α:Type}{ok:α->Prop}{enc:α->List D}(r:Rd P t ok enc){H:Type}{en:TypeId × Value->H}{w:World}{base:Nat}{held:Bool}{cs:Array Value}{d:DataW H}{ps:List MemPlace}
  (h:DataW.Trod en P w base (λ_=>true) held t (.agg cs) d ps):∃a,ok a/\Cl (λ_=>True) w (.agg (enc a)) (.agg cs):=by
 obtain⟨m,hm⟩:=h;have e:(Value.agg cs).cells.toList=cs.toList:=rfl;rw[e]at hm;obtain⟨a,h1,h2,h3⟩:=r m _ _ hm;have:=Cl.agg (N:=λ_=>True) (w:=w) (enc a) cs.toList h2.symm (λi hi=>h3 i (by omega));exact⟨a,h1,by simpa using this⟩
def Qy2(k)(n:Int):(Value.int k n).cells.toList=[Value.int k n]:=by simp[Value.cells]
def QsE{P}{f}{ds:List D}(h:Zh P f ds λd h=>d=.raw (.bool true)/\h=[])(W)(vs:List Value)(hl:vs.length=ds.length)(hc:∀i,i<ds.length->Cl (λ_=>True) W (nth ds i) (QW vs i)):
  Calls P f vs.toArray W λe W'=>e=.returned (.bool true)/\Below W.heap.size W W':=by
 refine(h (λ_=>True) W.heap.size W [] vs (QD _) (λ_ _=>trivial) ⟨rfl,λl l' b q q' e=>by simp at e,λl o e=>by simp at e,λl o b q e=>by simp at e⟩ hl (λi hi=>.cl _ _ ((hc i hi).mono λb _ _=>⟨⟨trivial,λl q e=>by simp at e⟩,rfl⟩))).mono λe W' he=>?_;obtain⟨v,d,h',Qj,rfl,⟨rfl,rfl⟩,_,hv,_,hb⟩:=he;rw[Z9 hv];exact⟨rfl,hb⟩
end Go.Fg
namespace Go.Fg.X
open Go.Proofs Go.Fg
open Go.Proofs.Tryz
def Qef(k:IntKind)(l:List Int):Nat->List D:=λi=>[.raw (.int k (l.getD i 0))]
@[go_sem] theorem QsF(k)(l:List Int)(i):Qef k l i=[.raw (.int k (l.getD i 0))]:=rfl
structure Cf where
 t:Int
 Vc:Int
instance:Inhabited Cf:=⟨⟨0,0⟩⟩
@[go_sem] def Cf.cells(x:Cf):List D:=[.raw (.int .i64 x.t),.raw (.int .i64 x.Vc)]
def Cf.rows(l:List Cf):Nat->List D:=λi=>(l.getD i default).cells
@[go_sem] theorem Cf.xO(l:List Cf)(i):Cf.rows l i=(l.getD i default).cells:=rfl
def Cf.Ok(x:Cf):Prop:=(Lit.int .i64 x.t).wf=true/\(Lit.int .i64 x.Vc).wf=true/\True
def QsG:Rd prog 23 Cf.Ok Cf.cells:=
 Rd.map (Rd.struct (Jb:=2) underlying23 (by kernel_rfl) (J9.cons (Rd.int .i64 underlying3) (J9.cons (Rd.int .i64 underlying3) J9.nil rfl (by kernel_rfl) (by decide)) rfl (by kernel_rfl) (by decide))) (λp=>⟨p.1,p.2.1⟩) (λ_=>rfl) (λ_ h=>⟨h.1,h.2.1,trivial⟩)
structure Cv where
 m1:Int
 d:Int
 m2:Int
instance:Inhabited Cv:=⟨⟨0,0,0⟩⟩
@[go_sem] def Cv.cells(x:Cv):List D:=[.raw (.int .u64 x.m1),.raw (.int .u64 x.d),.raw (.int .u64 x.m2)]
def Cv.rows(l:List Cv):Nat->List D:=λi=>(l.getD i default).cells
@[go_sem] theorem Cv.xO(l:List Cv)(i):Cv.rows l i=(l.getD i default).cells:=rfl
def Cv.Ok(x:Cv):Prop:=(Lit.int .u64 x.m1).wf=true/\(Lit.int .u64 x.d).wf=true/\(Lit.int .u64 x.m2).wf=true/\True
def gq:Rd prog 54 Cv.Ok Cv.cells:=
 Rd.map (Rd.struct (Jb:=3) underlying54 (by kernel_rfl) (J9.cons (Rd.int .u64 underlying34) (J9.cons (Rd.int .u64 underlying34) (J9.cons (Rd.int .u64 underlying34) J9.nil rfl (by kernel_rfl) (by decide)) rfl (by kernel_rfl) (by decide)) rfl (by kernel_rfl) (by decide))) (λp=>⟨p.1,p.2.1,p.2.2.1⟩) (λ_=>rfl) (λ_ h=>⟨h.1,h.2.1,h.2.2.1,trivial⟩)
structure Pk where
 iD:Int
 len:Int
 xP:Int
 xQ:Int
 xR:Int
 xS:Int
instance:Inhabited Pk:=⟨⟨0,0,0,0,0,0⟩⟩
@[go_sem] def Pk.cells(x:Pk):List D:=[.raw (.int .u64 x.iD),.raw (.int .i64 x.len),.raw (.int .u16 x.xP),.raw (.int .u16 x.xQ),.raw (.int .u16 x.xR),.raw (.int .u16 x.xS)]
def Pk.rows(l:List Pk):Nat->List D:=λi=>(l.getD i default).cells
@[go_sem] theorem Pk.xO(l:List Pk)(i):Pk.rows l i=(l.getD i default).cells:=rfl
def Pk.Ok(x:Pk):Prop:=(Lit.int .u64 x.iD).wf=true/\(Lit.int .i64 x.len).wf=true/\(Lit.int .u16 x.xP).wf=true/\(Lit.int .u16 x.xQ).wf=true/\(Lit.int .u16 x.xR).wf=true/\(Lit.int .u16 x.xS).wf=true/\True
def QsH:Rd prog 41 Pk.Ok Pk.cells:=
 Rd.map (Rd.struct (Jb:=6) underlying41 (by kernel_rfl) (J9.cons (Rd.int .u64 underlying34) (J9.cons (Rd.int .i64 underlying3) (J9.cons (Rd.array underlying39 (by kernel_rfl) (X8.cons (by decide) (Rd.int .u16 underlying37) (X8.cons (by decide) (Rd.int .u16 underlying37) (X8.cons (by decide) (Rd.int .u16 underlying37) (X8.cons (by decide) (Rd.int .u16 underlying37) X8.nil))))) J9.nil rfl (by kernel_rfl) (by decide)) rfl (by kernel_rfl) (by decide)) rfl (by kernel_rfl) (by decide))) (λp=>⟨p.1,p.2.1,p.2.2.1.1,p.2.2.1.2.1,p.2.2.1.2.2.1,p.2.2.1.2.2.2.1⟩) (λ_=>rfl) (λ_ h=>⟨h.1,h.2.1,h.2.2.1.1,h.2.2.1.2.1,h.2.2.1.2.2.1,h.2.2.1.2.2.2.1,trivial⟩)
structure Qn where
 iD:Int
 parent:Int
 leaf:Bool
 rt:Cv
 ls:Cv
 ul:Cv
 ZF:Int
 bytes:Int
instance:Inhabited Qn:=⟨⟨0,0,false,default,default,default,0,0⟩⟩
@[go_sem] def Qn.cells(x:Qn):List D:=[.raw (.int .i64 x.iD),.raw (.int .i64 x.parent),.raw (.bool x.leaf),.raw (.int .u64 x.rt.m1),.raw (.int .u64 x.rt.d),.raw (.int .u64 x.rt.m2),.raw (.int .u64 x.ls.m1),.raw (.int .u64 x.ls.d),.raw (.int .u64 x.ls.m2),.raw (.int .u64 x.ul.m1),.raw (.int .u64 x.ul.d),.raw (.int .u64 x.ul.m2),.raw (.int .i64 x.ZF),.raw (.int .i64 x.bytes)]
def Qn.rows(l:List Qn):Nat->List D:=λi=>(l.getD i default).cells
@[go_sem] theorem Qn.xO(l:List Qn)(i):Qn.rows l i=(l.getD i default).cells:=rfl
def Qn.Ok(x:Qn):Prop:=(Lit.int .i64 x.iD).wf=true/\(Lit.int .i64 x.parent).wf=true/\True/\Cv.Ok x.rt/\Cv.Ok x.ls/\Cv.Ok x.ul/\(Lit.int .i64 x.ZF).wf=true/\(Lit.int .i64 x.bytes).wf=true/\True
def QsI:Rd prog 56 Qn.Ok Qn.cells:=
 Rd.map (Rd.struct (Jb:=14) underlying56 (by kernel_rfl) (J9.cons (Rd.int .i64 underlying3) (J9.cons (Rd.int .i64 underlying3) (J9.cons (Rd.bool underlying4) (J9.cons gq (J9.cons gq (J9.cons gq (J9.cons (Rd.int .i64 underlying3) (J9.cons (Rd.int .i64 underlying3) J9.nil rfl (by kernel_rfl) (by decide)) rfl (by kernel_rfl) (by decide)) rfl (by kernel_rfl) (by decide)) rfl (by kernel_rfl) (by decide)) rfl (by kernel_rfl) (by decide)) rfl (by kernel_rfl) (by decide)) rfl (by kernel_rfl) (by decide)) rfl (by kernel_rfl) (by decide))) (λp=>⟨p.1,p.2.1,p.2.2.1,p.2.2.2.1,p.2.2.2.2.1,p.2.2.2.2.2.1,p.2.2.2.2.2.2.1,p.2.2.2.2.2.2.2.1⟩) (λ_=>rfl) (λ_ h=>⟨h.1,h.2.1,h.2.2.1,h.2.2.2.1,h.2.2.2.2.1,h.2.2.2.2.2.1,h.2.2.2.2.2.2.1,h.2.2.2.2.2.2.2.1,trivial⟩)
structure Z3 where
 kind:Int
 cls:Qn
instance:Inhabited Z3:=⟨⟨0,default⟩⟩
@[go_sem] def Z3.cells(x:Z3):List D:=[.raw (.int .i64 x.kind),.raw (.int .i64 x.cls.iD),.raw (.int .i64 x.cls.parent),.raw (.bool x.cls.leaf),.raw (.int .u64 x.cls.rt.m1),.raw (.int .u64 x.cls.rt.d),.raw (.int .u64 x.cls.rt.m2),.raw (.int .u64 x.cls.ls.m1),.raw (.int .u64 x.cls.ls.d),.raw (.int .u64 x.cls.ls.m2),.raw (.int .u64 x.cls.ul.m1),.raw (.int .u64 x.cls.ul.d),.raw (.int .u64 x.cls.ul.m2),.raw (.int .i64 x.cls.ZF),.raw (.int .i64 x.cls.bytes)]
def Z3.rows(l:List Z3):Nat->List D:=λi=>(l.getD i default).cells
@[go_sem] theorem Z3.xO(l:List Z3)(i):Z3.rows l i=(l.getD i default).cells:=rfl
def Z3.Ok(x:Z3):Prop:=(Lit.int .i64 x.kind).wf=true/\Qn.Ok x.cls/\True
def QsJ:Rd prog 145 Z3.Ok Z3.cells:=
 Rd.map (Rd.struct (Jb:=15) underlying145 (by kernel_rfl) (J9.cons (Rd.int .i64 underlying3) (J9.cons QsI J9.nil rfl (by kernel_rfl) (by decide)) rfl (by kernel_rfl) (by decide))) (λp=>⟨p.1,p.2.1⟩) (λ_=>rfl) (λ_ h=>⟨h.1,h.2.1,trivial⟩)
structure ZU where
 xT:Int
 xU:Int
 CQ:Int
 Bw:Int
 G3:Int
 G4:Int
 G5:Int
 CS:Int
 cls:Int
instance:Inhabited ZU:=⟨⟨0,0,0,0,0,0,0,0,0⟩⟩
@[go_sem] def ZU.cells(x:ZU):List D:=[.raw (.int .u16 x.xT),.raw (.int .u16 x.xU),.raw (.int .u16 x.CQ),.raw (.int .u16 x.Bw),.raw (.int .u16 x.G3),.raw (.int .u16 x.G4),.raw (.int .u16 x.G5),.raw (.int .u16 x.CS),.raw (.int .i64 x.cls)]
def ZU.rows(l:List ZU):Nat->List D:=λi=>(l.getD i default).cells
@[go_sem] theorem ZU.xO(l:List ZU)(i):ZU.rows l i=(l.getD i default).cells:=rfl
def ZU.Ok(x:ZU):Prop:=(Lit.int .u16 x.xT).wf=true/\(Lit.int .u16 x.xU).wf=true/\(Lit.int .u16 x.CQ).wf=true/\(Lit.int .u16 x.Bw).wf=true/\(Lit.int .u16 x.G3).wf=true/\(Lit.int .u16 x.G4).wf=true/\(Lit.int .u16 x.G5).wf=true/\(Lit.int .u16 x.CS).wf=true/\(Lit.int .i64 x.cls).wf=true/\True
def QsK:Rd prog 147 ZU.Ok ZU.cells:=
 Rd.map (Rd.struct (Jb:=9) underlying147 (by kernel_rfl) (J9.cons (Rd.array underlying39 (by kernel_rfl) (X8.cons (by decide) (Rd.int .u16 underlying37) (X8.cons (by decide) (Rd.int .u16 underlying37) (X8.cons (by decide) (Rd.int .u16 underlying37) (X8.cons (by decide) (Rd.int .u16 underlying37) X8.nil))))) (J9.cons (Rd.array underlying39 (by kernel_rfl) (X8.cons (by decide) (Rd.int .u16 underlying37) (X8.cons (by decide) (Rd.int .u16 underlying37) (X8.cons (by decide) (Rd.int .u16 underlying37) (X8.cons (by decide) (Rd.int .u16 underlying37) X8.nil))))) (J9.cons (Rd.int .i64 underlying3) J9.nil rfl (by kernel_rfl) (by decide)) rfl (by kernel_rfl) (by decide)) rfl (by kernel_rfl) (by decide))) (λp=>⟨p.1.1,p.1.2.1,p.1.2.2.1,p.1.2.2.2.1,p.2.1.1,p.2.1.2.1,p.2.1.2.2.1,p.2.1.2.2.2.1,p.2.2.1⟩) (λ_=>rfl) (λ_ h=>⟨h.1.1,h.1.2.1,h.1.2.2.1,h.1.2.2.2.1,h.2.1.1,h.2.1.2.1,h.2.1.2.2.1,h.2.1.2.2.2.1,h.2.2.1,trivial⟩)
structure JC where
 kind:Int
 changes:(List Z3)
 rules:(List ZU)
 Xc:Pk
 Ww:Int
instance:Inhabited JC:=⟨⟨0,[],[],default,0⟩⟩
@[go_sem] def JC.cells(x:JC):List D:=[.raw (.int .i64 x.kind),.imm 15 x.changes.length (Z3.rows x.changes),.imm 9 x.rules.length (ZU.rows x.rules),.raw (.int .u64 x.Xc.iD),.raw (.int .i64 x.Xc.len),.raw (.int .u16 x.Xc.xP),.raw (.int .u16 x.Xc.xQ),.raw (.int .u16 x.Xc.xR),.raw (.int .u16 x.Xc.xS),.raw (.int .u64 x.Ww)]
def JC.rows(l:List JC):Nat->List D:=λi=>(l.getD i default).cells
@[go_sem] theorem JC.xO(l:List JC)(i):JC.rows l i=(l.getD i default).cells:=rfl
def JC.Ok(x:JC):Prop:=(Lit.int .i64 x.kind).wf=true/\(x.changes.length<=maxLen/\∀a∈x.changes,Z3.Ok a)/\(x.rules.length<=maxLen/\∀a∈x.rules,ZU.Ok a)/\Pk.Ok x.Xc/\(Lit.int .u64 x.Ww).wf=true/\True
def QsL:Rd prog 43 JC.Ok JC.cells:=
 Rd.map (Rd.struct (Jb:=10) underlying43 (by kernel_rfl) (J9.cons (Rd.int .i64 underlying3) (J9.cons (Rd.slice 15 underlying35 (by kernel_rfl) (by decide) QsJ) (J9.cons (Rd.slice 9 underlying36 (by kernel_rfl) (by decide) QsK) (J9.cons QsH (J9.cons (Rd.int .u64 underlying34) J9.nil rfl (by kernel_rfl) (by decide)) rfl (by kernel_rfl) (by decide)) rfl (by kernel_rfl) (by decide)) rfl (by kernel_rfl) (by decide)) rfl (by kernel_rfl) (by decide))) (λp=>⟨p.1,p.2.1,p.2.2.1,p.2.2.2.1,p.2.2.2.2.1⟩) (λ_=>rfl) (λ_ h=>⟨h.1,h.2.1,h.2.2.1,h.2.2.2.1,h.2.2.2.2.1,trivial⟩)
structure Yw where
 config:Cf
 ops:(List JC)
instance:Inhabited Yw:=⟨⟨default,[]⟩⟩
@[go_sem] def Yw.cells(x:Yw):List D:=[.raw (.int .i64 x.config.t),.raw (.int .i64 x.config.Vc),.imm 10 x.ops.length (JC.rows x.ops)]
def Yw.rows(l:List Yw):Nat->List D:=λi=>(l.getD i default).cells
@[go_sem] theorem Yw.xO(l:List Yw)(i):Yw.rows l i=(l.getD i default).cells:=rfl
def Yw.Ok(x:Yw):Prop:=Cf.Ok x.config/\(x.ops.length<=maxLen/\∀a∈x.ops,JC.Ok a)/\True
def QsM:Rd prog 26 Yw.Ok Yw.cells:=
 Rd.map (Rd.struct (Jb:=3) underlying26 (by kernel_rfl) (J9.cons QsG (J9.cons (Rd.slice 10 underlying24 (by kernel_rfl) (by decide) QsL) J9.nil rfl (by kernel_rfl) (by decide)) rfl (by kernel_rfl) (by decide))) (λp=>⟨p.1,p.2.1⟩) (λ_=>rfl) (λ_ h=>⟨h.1,h.2.1,trivial⟩)
@[go_sem] def Qb(n:Int):D:=.raw (.int .i64 n)
@[go_sem] def QY(b:Bool):D:=.raw (.bool b)
@[go_sem] def ints(l:List Int):D:=.imm 1 l.length (Qef .i64 l)
structure Ev where
 op:Int
 X9:Bool
 real:Bool
 at_:Int
 done:Int
 cls:Int
 id:Int
 len:Int
 h0:Int
 h1:Int
 h2:Int
 h3:Int
instance:Inhabited Ev:=⟨⟨0,false,false,0,0,0,0,0,0,0,0,0⟩⟩
@[go_sem] def Ev.cells(e:Ev):List D:=[.raw (.int .i64 e.op),.raw (.bool e.X9),.raw (.bool e.real),.raw (.int .u64 e.at_),.raw (.int .u64 e.done),.raw (.int .i64 e.cls),.raw (.int .u64 e.id),.raw (.int .i64 e.len),.raw (.int .u16 e.h0),.raw (.int .u16 e.h1),.raw (.int .u16 e.h2),.raw (.int .u16 e.h3)]
def Ev.Ok(x:Ev):Prop:=(Lit.int .i64 x.op).wf=true/\(Lit.int .u64 x.at_).wf=true/\(Lit.int .u64 x.done).wf=true/\(Lit.int .i64 x.cls).wf=true/\(Lit.int .u64 x.id).wf=true/\(Lit.int .i64 x.len).wf=true/\(Lit.int .u16 x.h0).wf=true/\(Lit.int .u16 x.h1).wf=true/\(Lit.int .u16 x.h2).wf=true/\(Lit.int .u16 x.h3).wf=true
def Ev.rows(l:List Ev):Nat->List D:=λi=>(l.getD i default).cells
@[go_sem] theorem Ev.xO(l:List Ev)(i):Ev.rows l i=(l.getD i default).cells:=rfl
@[go_sem] def OP(l:List Ev):D:=.imm 12 l.length (Ev.rows l)
def wrap64{n}(h1:-9223372036854775808<=n)(h2:n<=9223372036854775807):IntKind.i64.wrap n=n:=by
 rw[IntKind.wrap_i64];omega
def Vp{k:Nat}(h:k<4611686018427387904):IntKind.i64.wrap ((k:Int)+1)=((k+1:Nat):Int):=by
 rw[wrap64 (by omega) (by omega)];rfl
def bnz{n:Nat}(h:n≠0):((n:Int)==0)=false:=by simp[h]
def dp{n:Nat}(h:n≠0):decide ((0:Int)<n)=true:=by simp;omega
def Qo(d:D):D->List Ob->Prop:=λd' h=>d'=d/\h=[]
attribute [go_sem] Qo
def Qo.flat{d:D}(hd:d.flat=true):∀d' h,Qo d d' h->d'.flat=true/\∀o∈h,o.flat:=by
 rintro d' h ⟨rfl,rfl⟩;exact⟨hd,by simp⟩
def getD_take{α:Type}(l:List α)(d:α)(k)(h:k<l.length):l.take (k+1)=l.take k++[l.getD k d]:=by
 rw[Eh,QP h];simp[Q8,QP h]
def mixed:prog.follows .mixedOrders=true:=by kernel_rfl
def QDV{α:Type}(l:List α)(x d:α)(i)(h:i<l.length):(l.set i x).getD i d=x:=by simp[h]
def QDX{α:Type}(l:List α)(x d:α)(i j)(h:j≠i):(l.set j x).getD i d=l.getD i d:=by simp[JL h]
def getD_map{α β:Type}(f:α->β)(l:List α)(d:α)(e:β)(i)(h:i<l.length):(l.map f).getD i e=f (l.getD i d):=by simp[Q8,h]
def jq{α:Type}(l:List α)(d:α)(i)(h:i<l.length):l.getD i d∈l:=by simp[Q8,h]
def wf_u64{n:Int}(h:(Lit.int .u64 n).wf=true):0<=n/\n<=18446744073709551615:=by
 simp only[Lit.wf,ZJ,Yq]at h;exact h
def wf_u16{n:Int}(h:(Lit.int .u16 n).wf=true):0<=n/\n<=65535:=by
 simp only[Lit.wf,ZJ,Yq]at h;exact h
def UH{n}(h1:0<=n)(h2:n<=18446744073709551615):IntKind.u64.wrap n=n:=by rw[IntKind.wrap_u64];omega
@[go_sem] theorem QDG:((0:Nat):Int)=0:=rfl
@[go_sem] theorem QDH:((1:Nat):Int)=1:=rfl
@[go_sem] theorem QDI:((2:Nat):Int)=2:=rfl
@[go_sem] theorem QDJ:((3:Nat):Int)=3:=rfl
@[go_sem] theorem QDK:((4:Nat):Int)=4:=rfl
@[go_sem] theorem QDL:((5:Nat):Int)=5:=rfl
@[go_sem] theorem QDM:((6:Nat):Int)=6:=rfl
@[go_sem] theorem QDN:((7:Nat):Int)=7:=rfl
@[go_sem] theorem QDO:((8:Nat):Int)=8:=rfl
@[go_sem] theorem QDP:((9:Nat):Int)=9:=rfl
@[go_sem] theorem QDQ:((10:Nat):Int)=10:=rfl
def zl{a b:Int}(h:a=b):(a==b)=true:=by simp[h]
def Xt{a b:Int}(h:a≠b):(a==b)=false:=by simp[h]
def QmX{a b:Int}(h:a=b):(a != b)=false:=by simp[h]
def QmY{a b:Int}(h:a≠b):(a != b)=true:=by simp[h]
end Go.Fg.X
namespace Go.Fg
def QsO{P}{o:Oper}{a}{w}{K K'}{Q Q'}(hk:∀a w,K a w->K' a w)(hq:∀e a w,Q e a w->Q' e a w)(h:o.wp P a w K Q):o.wp P a w K' Q':=by
 unfold Oper.wp at *;generalize (execOp a.eval o).run P w=r at *;cases r with
 | ok x w'=>
  cases x<;>simp only[Oper.upon]at h ⊢<;>first|exact hk _ _ h|exact h|skip
  ·exact h.mono λe Gn he=>by
    cases e with
    | returned v=>exact hk _ _ he
    | panicked c=>exact hq _ _ _ he
    | outgrown=>obtain⟨a,w,h⟩:=he;exact⟨a,w,hq _ _ _ h⟩
  ·exact h.mono λv Gn he=>hk _ _ he
 | halt x w'=>cases x<;>first|exact h|exact hq _ _ _ h
def UI{P}{Q Q'}(hq:∀e a w,Q e a w->Q' e a w):∀(l:List (Oper × G)) (a:Act) (w:World),X3 P Q l a w->X3 P Q' l a w
 | [],a,w,h=>hq _ _ _ h
 | (o,g)::r,a,w,h=>by
  simp only[X3]at h ⊢;split at h
  ·rename_i hw;rw[Qg hw];exact QsO (λa w=>UI hq r a w) hq h
  ·rename_i hw;rw[Qd hw];exact UI hq r _ _ h
section
variable {P:Program}{base nt:Nat}{w0:Start}{Q:Exit->St->Prop}{k:List Item}{s s1:St}
def OQ(P:Program)(base nt:Nat)(w0:Start)(Q:Exit->St->Prop)(k:List Item)(s1:St):Exit->St->Prop
 | .normal,s=>QI w0 s s1
 | e,s=>Qw P base nt w0 Q k e s
@[go_sem] theorem QDR:OQ P base nt w0 Q k s1 .normal s=QI w0 s s1:=Kw rfl
@[go_sem] theorem QDS{j}:OQ P base nt w0 Q k s1 (.exit j) s=Qw P base nt w0 Q k (.exit j) s:=Kw rfl
@[go_sem] theorem QDT:OQ P base nt w0 Q k s1 .ret s=Qw P base nt w0 Q k .ret s:=Kw rfl
def gu{x}{c}(s1)(h1:Qw P base nt w0 (OQ P base nt w0 Q (.code c::k) s1) [x] .normal s)(h2:Qw P base nt w0 Q (.code c::k) .normal s1):Qw P base nt w0 Q (x::.code c::k) .normal s:=by
 cases x with
 | code x=>
  simp only[Qw]at h1;show A P base nt w0 x _ s;refine h1.mono λe s' he=>?_;cases e with
  | normal=>exact EO he h2
  | _=>exact he
 | ops l=>
  simp only[Qw]at h1;show AG P base nt w0 l _ s;intro Z z pl a w r b;refine UI (λe a' w' ⟨s',Qj,hs,r',b'⟩=>⟨s',Qj,?_,r',b'⟩) _ _ _ (h1 Z z pl a w r b);cases e with
  | normal=>exact EO hs h2
  | _=>exact hs
 | inBlock id=>simp only[Qw]at h1 ⊢;exact EO h1 h2
 | inScope=>simp only[Qw]at h1 ⊢;exact EO h1 h2
def Am{x}{c}(keep)(V){fr}{h}{rest}(hr:Un fr keep=rest)
  (h1:Qw P base nt w0 (OQ P base nt w0 Q (.code c::k) ⟨V++rest,h⟩) [x] .normal ⟨fr,h⟩) (h2:Qw P base nt w0 Q (.code c::k) .normal ⟨V++rest,h⟩):Qw P base nt w0 Q (x::.code c::k) .normal ⟨fr,h⟩:=gu _ h1 h2
@[go_sem] theorem QDU{X}:hx P base w0 Q X nt 0 k s=Qw P base nt w0 Q k .normal s:=by cases k<;>exact Kw rfl
end
end Go.Fg
namespace Go.Fg.X
open Go.Proofs Go.Fg
open Go.Proofs.Tryz
@[go_sem] def gv(c:Cv):D:=.agg c.cells
@[go_sem] def Xd(c:Qn):D:=.agg c.cells
def QZ(c:Cv):Int:=if c.m1=0/\c.d=0/\c.m2=0 then 1 else if 4294967295<c.m1\/4294967295<c.m2\/1048576<c.d then 0 else if c.d=0/\c.m1=c.m2 then 2 else if 0<c.d/\c.m2<c.m1 then 3 else if 0<c.d/\c.m1=0/\0<c.m2 then 4 else 0
def UJ(c):Zh prog 186 [gv c] (Qo (Qb (QZ c))):=by
 refine Zy 0 Qh 200 func186 rfl ntmps186 results186 rfl λbase w hb=>?_;simp only[go_sem]
 repeat' (first|((first|refine EX (λh=>?_) (λh=>?_)|refine EY (λh=>?_) (λh=>?_)|refine EZ (λh=>?_) (λh=>?_)|refine vg (λh=>?_) (λh=>?_)|refine E0 (λh=>?_) (λh=>?_)|refine E6 (λh=>?_) (λh=>?_)|refine E7 (λh=>?_) (λh=>?_)|refine ET (λh=>?_) (λh=>?_))<;>(try simp only[go_sem]))|(refine And.intro (by omega) ?_;try simp only[go_sem]))
 all_goals (congr 2;(try simp only[F9,zX,ZJ,zY,ne_eq]at *);unfold QZ;(repeat' split)<;>omega)
def gw(c):Zh prog 194 [gv c] (Qo (QY (QZ c != 0))):=by
 refine Zy 0 Qh 200 func194 rfl ntmps194 results194 rfl λbase w hb=>?_;simp only[go_sem];refine ZA hb CO rfl ?_ (UJ c) (Qo.flat rfl) rfl λd h hR=>?_
 ·simp only[go_sem]
 obtain⟨rfl,rfl⟩:=hR;refine Qf hb ?_;simp only[go_sem]
def UK(c):Zh prog 153 [gv c] (Qo (QY (decide (1<QZ c)))):=by
 refine Zy 0 Qh 200 func153 rfl ntmps153 results153 rfl λbase w hb=>?_;simp only[go_sem];refine ZA hb CO rfl ?_ (UJ c) (Qo.flat rfl) rfl λd h hR=>?_
 ·simp only[go_sem]
 obtain⟨rfl,rfl⟩:=hR;refine Qf hb ?_;simp only[go_sem]
def CT(c:Qn):Zh prog 130 [Xd c] (Qo (QY (decide (1<QZ c.rt)))):=by
 refine Zy 0 Qh 200 func130 rfl ntmps130 results130 rfl λbase w hb=>?_;simp only[go_sem];refine ZA hb Ux rfl ?_ (UK c.rt) (Qo.flat rfl) rfl λd h hR=>?_
 ·simp only[go_sem]
 obtain⟨rfl,rfl⟩:=hR;refine Qf hb ?_;simp only[go_sem]
def j6(c:Qn):Zh prog 118 [Xd c] (Qo (QY (decide (1<QZ c.ls)))):=by
 refine Zy 0 Qh 200 func118 rfl ntmps118 results118 rfl λbase w hb=>?_;simp only[go_sem];refine ZA hb Ux rfl ?_ (UK c.ls) (Qo.flat rfl) rfl λd h hR=>?_
 ·simp only[go_sem]
 obtain⟨rfl,rfl⟩:=hR;refine Qf hb ?_;simp only[go_sem]
def Qeg(c:Qn):Zh prog 236 [Xd c] (Qo (QY (decide (1<QZ c.ul)))):=by
 refine Zy 0 Qh 200 func236 rfl ntmps236 results236 rfl λbase w hb=>?_;simp only[go_sem];refine ZA hb Ux rfl ?_ (UK c.ul) (Qo.flat rfl) rfl λd h hR=>?_
 ·simp only[go_sem]
 obtain⟨rfl,rfl⟩:=hR;refine Qf hb ?_;simp only[go_sem]
def xV(n a b:Int):Bool:=decide (a<=n)&&decide (n<=b)
def UL(n a b):Zh prog 235 [Qb n,Qb a,Qb b] (Qo (QY (xV n a b))):=by
 refine Zy 0 Qh 200 func235 rfl ntmps235 results235 rfl λbase w hb=>?_;simp only[go_sem];unfold xV;by_cases h:a<=n
 ·simp only[go_sem,h]
 ·simp only[go_sem,h]
def CU(c:Qn):Bool:=xV c.iD 1 65536&&xV c.parent 0 65536&&!(c.parent==c.iD)
def Fc(c:Qn):Bool:=(QZ c.rt != 0)&&((QZ c.ls != 0)&&!(QZ c.ls==4))&&((QZ c.ul != 0)&&!(QZ c.ul==4))
def j7(c:Qn):Bool:=xV c.ZF 1 64&&xV c.bytes 1 1048576&&(decide (1<QZ c.rt) || decide (1<QZ c.ls))
def Bx(c:Qn):Bool:=c.ZF==0&&c.bytes==0&&!decide (1<QZ c.rt)
def KY(c:Qn):Int:=if !CU c then 1 else if !Fc c then 21 else if (c.leaf&&!j7 c) || (!c.leaf&&!Bx c) || (decide (1<QZ c.ul)&&!decide (1<QZ c.ls)) then 29 else 0
structure QsP (c:Qn) (k:Nat) (s:St):Prop where
 h0:0<k->QZ c.rt≠0
 h1:1<k->QZ c.ls≠0/\QZ c.ls≠4
 h2:2<k->QZ c.ul≠0/\QZ c.ul≠4
 eq:s=⟨[(1,.ptr 0 0 0 0),(2,Qb 0),(30,.agg (c.rt.cells++(c.ls.cells++c.ul.cells))),(31,Qb k)],[⟨.one,0,14,1,λ_=>c.cells⟩]⟩
def Qeh(c):Zh prog 187 [Xd c] (Qo (Qb (KY c))):=by
 refine Zy 0 Qh 200 func187 rfl ntmps187 results187 rfl λbase w hb=>?_;simp only[go_sem];refine ZA hb UD rfl ?_ (UL c.iD 1 65536) (Qo.flat rfl) rfl λd h hR=>?_
 ·simp only[go_sem]
 obtain⟨rfl,rfl⟩:=hR;refine Qf hb ?_;simp only[go_sem];cases J3:xV c.iD 1 65536
 ·have:KY c=1:=by simp[KY,CU,J3]
  simp only[go_sem,this]
 ·simp only[go_sem];refine ZA hb UD rfl ?_ (UL c.parent 0 65536) (Qo.flat rfl) rfl λd h hR=>?_
  ·simp only[go_sem]
  obtain⟨rfl,rfl⟩:=hR;refine Qf hb ?_;simp only[go_sem];cases ZB:xV c.parent 0 65536
  ·have:KY c=1:=by simp[KY,CU,J3,ZB]
   simp only[go_sem,this]
  ·simp only[go_sem];by_cases h3:c.parent=c.iD
   ·have:KY c=1:=by simp[KY,CU,J3,ZB,h3]
    simp only[go_sem,zl h3,this]
   ·simp only[go_sem,Xt h3];have Zk:CU c=true:=by simp[CU,J3,ZB,h3]
    have w1:IntKind.i64.wrap 1=1:=by decide
    have w2:IntKind.i64.wrap 2=2:=by decide
    have w3:IntKind.i64.wrap 3=3:=by decide
    refine ZZ (QsP c) 3
     (s0:=⟨[(1,.ptr 0 0 0 0),(2,Qb 0),(30,.agg (c.rt.cells++(c.ls.cells++c.ul.cells))),(31,Qb 0)],[⟨.one,0,14,1,λ_=>c.cells⟩]⟩) (QI.frame (by simp only[go_sem])) ⟨by omega,by omega,by omega,rfl⟩ ?_
    rintro k s hk ⟨g0,g1,g2,rfl⟩;obtain rfl|rfl|rfl|rfl:k=0\/k=1\/k=2\/k=3:=by omega
    ·refine Qf hb ?_;simp only[go_sem];refine ZA hb LC rfl ?_ (gw c.rt) (Qo.flat rfl) rfl λd h hR=>?_
     ·simp only[go_sem]
     obtain⟨rfl,rfl⟩:=hR;refine Qf hb ?_;simp only[go_sem];by_cases r0:QZ c.rt=0
     ·have:KY c=21:=by simp[KY,Zk,Fc,r0]
      simp only[go_sem,zl r0,bne,this,Go.undef]
     ·simp only[go_sem,Xt r0,bne,Go.undef];refine⟨_,QI.to 1 ⟨?_,by simp only[go_sem],?_,?_⟩,⟨λ_=>r0,by omega,by omega,rfl⟩⟩<;>simp only[go_sem,w1,w2,w3]
    ·refine Qf hb ?_;simp only[go_sem];refine ZA hb LC rfl ?_ (gw c.ls) (Qo.flat rfl) rfl λd h hR=>?_
     ·simp only[go_sem]
     obtain⟨rfl,rfl⟩:=hR;refine Qf hb ?_;simp only[go_sem];by_cases r0:QZ c.ls=0
     ·have:KY c=21:=by simp[KY,Zk,Fc,r0]
      simp only[go_sem,zl r0,bne,this,Go.undef]
     ·simp only[go_sem,Xt r0,bne,Go.undef];refine ZA hb CO rfl ?_ (UJ c.ls) (Qo.flat rfl) rfl λd h hR=>?_
      ·simp only[go_sem]
      obtain⟨rfl,rfl⟩:=hR;refine Qf hb ?_;simp only[go_sem];by_cases r4:QZ c.ls=4
      ·have:KY c=21:=by simp[KY,Zk,Fc,r4]
       simp only[go_sem,zl r4,this,Go.undef]
      ·simp only[go_sem,Xt r4,Go.undef];refine⟨_,QI.to 1 ⟨?_,by simp only[go_sem],?_,?_⟩,⟨λ_=>g0 (by omega),λ_=>⟨r0,r4⟩,by omega,rfl⟩⟩<;>simp only[go_sem,w1,w2,w3]
    ·refine Qf hb ?_;simp only[go_sem];refine ZA hb LC rfl ?_ (gw c.ul) (Qo.flat rfl) rfl λd h hR=>?_
     ·simp only[go_sem]
     obtain⟨rfl,rfl⟩:=hR;refine Qf hb ?_;simp only[go_sem];by_cases r0:QZ c.ul=0
     ·have:KY c=21:=by simp[KY,Zk,Fc,r0]
      simp only[go_sem,zl r0,bne,this,Go.undef]
     ·simp only[go_sem,Xt r0,bne,Go.undef];refine ZA hb CO rfl ?_ (UJ c.ul) (Qo.flat rfl) rfl λd h hR=>?_
      ·simp only[go_sem]
      obtain⟨rfl,rfl⟩:=hR;refine Qf hb ?_;simp only[go_sem];by_cases r4:QZ c.ul=4
      ·have:KY c=21:=by simp[KY,Zk,Fc,r4]
       simp only[go_sem,zl r4,this,Go.undef]
      ·simp only[go_sem,Xt r4,Go.undef];refine⟨_,QI.to 1 ⟨?_,by simp only[go_sem],?_,?_⟩,⟨λ_=>g0 (by omega),λ_=>g1 (by omega),λ_=>⟨r0,r4⟩,rfl⟩⟩<;>simp only[go_sem,w1,w2,w3]
    ·have gy:Fc c=true:=by
      have a:=g0 (by omega);have b:=g1 (by omega);have d:=g2 (by omega);simp[Fc,a,b,d]
     clear g0 g1 g2;refine Qf hb ?_;simp only[go_sem];first|refine Yv ?_|skip
     refine Am [1,2] [(5,QY (j7 c))] rfl ?_ ?_
     ·refine Qf hb ?_;simp only[go_sem];refine ZA hb UD rfl ?_ (UL c.ZF 1 64) (Qo.flat rfl) rfl λd h hR=>?_
      ·simp only[go_sem]
      obtain⟨rfl,rfl⟩:=hR;refine Qf hb ?_;simp only[go_sem];cases hp:xV c.ZF 1 64
      ·have e:j7 c=false:=by simp[j7,hp]
       simp only[go_sem,Go.undef];exact QI.to 1 (by (simp only[go_sem,e])<;>simp)
      ·simp only[go_sem,Go.undef];refine ZA hb UD rfl ?_ (UL c.bytes 1 1048576) (Qo.flat rfl) rfl λd h hR=>?_
       ·simp only[go_sem]
       obtain⟨rfl,rfl⟩:=hR;refine Qf hb ?_;simp only[go_sem];cases hq:xV c.bytes 1 1048576
       ·have e:j7 c=false:=by simp[j7,hp,hq]
        simp only[go_sem,Go.undef];exact QI.to 1 (by (simp only[go_sem,e])<;>simp)
       ·simp only[go_sem,Go.undef];refine ZA hb Bu rfl ?_ (CT c) (Qo.flat rfl) rfl λd h hR=>?_
        ·simp only[go_sem]
        obtain⟨rfl,rfl⟩:=hR;refine Qf hb ?_;simp only[go_sem];cases hr:decide (1<QZ c.rt)
        ·simp only[go_sem,Go.undef];refine ZA hb j5 rfl ?_ (j6 c) (Qo.flat rfl) rfl λd h hR=>?_
         ·simp only[go_sem]
         obtain⟨rfl,rfl⟩:=hR;refine Qf hb ?_;simp only[go_sem];have e:j7 c=decide (1<QZ c.ls):=by simp[j7,hp,hq,hr]
         exact QI.to 1 (by (simp only[go_sem,e])<;>simp)
        ·have e:j7 c=true:=by simp[j7,hp,hq,hr]
         simp only[go_sem,Go.undef];exact QI.to 1 (by (simp only[go_sem,e])<;>simp)
     first|refine Yv ?_|skip
     refine Am [1,2,5] [(6,QY (Bx c))] rfl ?_ ?_
     ·refine Qf hb ?_;simp only[go_sem];by_cases hp:c.ZF=0
      ·simp only[go_sem,zl hp,Go.undef];by_cases hq:c.bytes=0
       ·simp only[go_sem,zl hq,Go.undef];refine ZA hb Bu rfl ?_ (CT c) (Qo.flat rfl) rfl λd h hR=>?_
        ·simp only[go_sem]
        obtain⟨rfl,rfl⟩:=hR;refine Qf hb ?_;simp only[go_sem];have e:Bx c=!decide (1<QZ c.rt):=by simp[Bx,hp,hq]
        exact QI.to 1 (by (simp only[go_sem,e])<;>simp)
       ·have e:Bx c=false:=by simp[Bx,hp,hq]
        simp only[go_sem,Xt hq,Go.undef];exact QI.to 1 (by (simp only[go_sem,e])<;>simp)
      ·have e:Bx c=false:=by simp[Bx,hp]
       simp only[go_sem,Xt hp,Go.undef];exact QI.to 1 (by (simp only[go_sem,e])<;>simp)
     refine Qf hb ?_;simp only[go_sem];have hv:KY c=if (c.leaf&&!j7 c) || (!c.leaf&&!Bx c) || (decide (1<QZ c.ul)&&!decide (1<QZ c.ls)) then 29 else 0:=by simp[KY,Zk,gy]
     generalize j7 c=lo at hv ⊢;generalize Bx c=io at hv ⊢;cases hl:c.leaf<;>rw[hl]at hv
     ·cases io
      ·simp at hv;simp only[go_sem,Go.undef,hv]
      ·simp only[go_sem,Go.undef];refine ZA hb Qd0 rfl ?_ (Qeg c) (Qo.flat rfl) rfl λd h hR=>?_
       ·simp only[go_sem,hl]
       obtain⟨rfl,rfl⟩:=hR;refine Qf hb ?_;simp only[go_sem,hl];cases hu:decide (1<QZ c.ul)<;>rw[hu]at hv
       ·simp at hv;simp only[go_sem,Go.undef,hv]
       ·simp only[go_sem,Go.undef];refine ZA hb j5 rfl ?_ (j6 c) (Qo.flat rfl) rfl λd h hR=>?_
        ·simp only[go_sem,hl]
        obtain⟨rfl,rfl⟩:=hR;refine Qf hb ?_;simp only[go_sem,hl];cases hs:decide (1<QZ c.ls)<;>rw[hs]at hv<;>simp at hv<;>simp only[go_sem,Go.undef,hv]
     ·cases lo
      ·simp at hv;simp only[go_sem,Go.undef,hv]
      ·simp only[go_sem,Go.undef];refine ZA hb Qd0 rfl ?_ (Qeg c) (Qo.flat rfl) rfl λd h hR=>?_
       ·simp only[go_sem,hl]
       obtain⟨rfl,rfl⟩:=hR;refine Qf hb ?_;simp only[go_sem,hl];cases hu:decide (1<QZ c.ul)<;>rw[hu]at hv
       ·simp at hv;simp only[go_sem,Go.undef,hv]
       ·simp only[go_sem,Go.undef];refine ZA hb j5 rfl ?_ (j6 c) (Qo.flat rfl) rfl λd h hR=>?_
        ·simp only[go_sem,hl]
        obtain⟨rfl,rfl⟩:=hR;refine Qf hb ?_;simp only[go_sem,hl];cases hs:decide (1<QZ c.ls)<;>rw[hs]at hv<;>simp at hv<;>simp only[go_sem,Go.undef,hv]
def Cv.Nn(c:Cv):Prop:=0<=c.m1/\0<=c.d/\0<=c.m2
def Qn.Nn(c:Qn):Prop:=c.rt.Nn/\c.ls.Nn/\c.ul.Nn
end Go.Fg.X
namespace Go.Fg
open Go.RowKit (Below)
def LF(es:List QR):Prop:=(es.map (·.b)).Pairwise (·<·)
def jd.Qei{Z}{h}{pl}{w}{q}{c}{es}{QN}(E:jd Z h pl w q c es QN):LF es:=by
 unfold LF;rw[List.pairwise_iff_getElem];intro i j hi hj KA;simp only[J6]at hi hj;have hl:=E.len;obtain⟨_,_,h1,_⟩:=E.at_ i es[i] QN[i] (QP hi) (QP (by omega));obtain⟨_,_,h2,_⟩:=E.at_ j es[j] QN[j] (QP hj) (QP (by omega));have:=E.inc i j QN[i] QN[j] KA (QP (by omega)) (QP (by omega));simp only[List.getElem_map];omega
def LF.nodup{es:List QR}(B:LF es):(es.map (·.b)).Nodup:=by
 unfold List.Nodup;exact List.Pairwise.imp (λh=>Nat.ne_of_lt h) B
def wo(es:List QR)(seen:List Nat):Nat:=(es.filter λe=>!seen.contains e.b).length
def Qej:∀{es:List QR} {seen:List Nat} {e:QR},e∈es->e.b ∉ seen->wo es (seen++[e.b])<wo es seen
 | [],_,_,h,_=>by simp at h
 | x::es,seen,e,h,hs=>by
  have le:∀es:List QR,wo es (seen++[e.b])<=wo es seen:=λes=>by
   induction es with
   | nil=>exact QD _
   | cons y r ih=>
    simp only[wo,kI]at ih ⊢;by_cases h1:y.b∈seen<;>by_cases h2:y.b=e.b<;>simp_all<;>omega
  rcases QF.1 h with rfl|h
  ·have:=le es;simp only[wo,kI]at this ⊢
   simp_all
   omega
  ·have:=Qej h hs;simp only[wo,kI]at this ⊢;by_cases h1:x.b∈seen<;>by_cases h2:x.b=e.b<;>simp_all<;>omega
section
variable {P:Program}{L:Zm}{base nt:Nat}{w0:Start}{Q:Exit->St->Prop}
def QsQ{Z:Nat->Prop}{s:St}{pl:List Pl}{a:Act}{w:World}(r:Rel Z base nt s pl a w){l c:Nat}{es:List QR}{kd:Kd}{q:IntKind}(Jo:kd.ty=1)(Q9:s.h[l]? = some (VA kd q c es)):LF es:=by
 have hl:l<pl.length:=by rw[r.o.len];exact Ku Q9
 cases hp:pl[l] with
 | none=>
  have:=r.o.Vv l _ Q9 (by rw[QP hl,hp]);simp[VA]at this
 | some bq=>
  obtain⟨b,p⟩:=bq;obtain⟨_,x⟩:=r.o.at_ l _ b p Q9 (by rw[QP hl,hp]);obtain⟨_,QN,_,E⟩:=Tl Jo x;exact E.Qei
def QsR{c0:Code}{k:List Item}{s:St}{l c:Nat}{es:List QR}{kd:Kd}{q:IntKind}(Jo:kd.ty=1)(Q9:s.h[l]? = some (VA kd q c es))(hk:LF es->Qw P base nt w0 Q (.code c0::k) .normal s):Qw P base nt w0 Q (.code c0::k) .normal s:=by
 simp only[Qw]at hk ⊢;intro Z z pl a w r b;exact hk (QsQ r Jo Q9) Z z pl a w r b
def QsS{o:Oper}{s}{x}(ho:o.op=.entry x){li l c}{es}{seen}{q}{kd}{e}
  (hx:Qr s.fr x=.mref li 0) (WV:s.h[li]? = some (Xs l c c (seen++[e.b]))) (Jo:kd.ty=1) (Q9:s.h[l]? = some (VA kd q c es)) (he:e∈es):VJ P base nt o s (.tup [.raw (.int q e.k),e.v]):=by
 intro Z pl a w r;have e1:=r.eval x;rw[hx]at e1;obtain⟨o',p,b,h1,h2,h3,h4,h5⟩:=El e1;rw[WV]at h1;cases h1;have h5:=h5 rfl;rw[h5]at h2;obtain⟨Zo,vZ⟩:=r.o.at_ li _ b 0 WV h2;obtain⟨_,m,sn,hb,yV,Od⟩:=rQ vZ;have hv:a.eval x=.pointer (some ⟨b,0,none⟩):=h3.2;obtain⟨o2,p2,bm,k1,k2,k3,k4,k5⟩:=El Od;rw[Q9]at k1;cases k1;have k5:=k5 rfl;rw[k5]at k2;have k3:=k3.2;rw[show (VA kd q c es).kd.ty=1 from Jo]at k3;have k3:m=bm:=by simpa[NR] using k3
 subst k3;obtain⟨Oe,eO⟩:=r.o.at_ l _ m 0 Q9 k2;obtain⟨_,QN,GD,E⟩:=Tl Jo eO;have hl:es.length=QN.toList.length:=E.len;obtain⟨j,hj⟩:=Ee he;have Qc:=(Wc.1 hj).1;obtain⟨d1,d2,d3,d4⟩:=E.at_ j e (QN.toList[j]'(by omega)) hj (QP (by omega));have Z2:(QN.toList.map (·.born)).Nodup:=by
  have:QN.toList.map (·.born)=es.map (·.b):=by
   apply List.ext_getElem (by simp[hl]);intro i h1 h2;simp only[J6]at h1 h2;obtain⟨_,_,g,_⟩:=E.at_ i (es[i]'(by omega)) (QN.toList[i]'(by omega)) (QP (by omega)) (QP (by omega));simp only[List.getElem_map,g]
  rw[this];exact E.Qei.nodup
 have QsT:sn=(seen.toArray).push (QN.toList[j]'(by omega)).born:=by
  apply Array.toList_inj.1;rw[yV,d3];simp
 have Kl:=hb;rw[QsT]at Kl;refine⟨.tuple #[(QN.toList[j]'(by omega)).key,(QN.toList[j]'(by omega)).val],?_,λw' ew=>?_⟩
 ·rw[d1];exact .tup _ [.int q e.k,(QN.toList[j]'(by omega)).val] rfl λi hi=>match i,hi with
   | 0,_=>.cl _ _ (.raw _)
   | 1,_=>d2
 ·have Q5:=run_entry_at (P:=P) w' b m c seen.toArray QN c (QN.toList[j]'(by omega)) (by rw[ew b (z6 Kl)];exact Kl) (by rw[ew m (z6 GD)];exact GD) (qz _) Z2;simp[execOp,ho,hv,Q5]
def QsU{k}{dst}{ty:TypeId}{pos}{after}{gd}{r}{s}{x}{li l c}{es}{seen}{q}{kd}{e}
  (hx:Qr s.fr x=.mref li 0) (WV:s.h[li]? = some (Xs l c c (seen++[e.b]))) (Jo:kd.ty=1) (Q9:s.h[l]? = some (VA kd q c es)) (he:e∈es) (ht:Zr nt dst=true)
  (h1:Qw P base nt w0 Q (.ops r::k) .normal ⟨Zj s.fr dst (.tup [.raw (.int q e.k),e.v]),s.h⟩) :
  Qw P base nt w0 Q (.ops ((⟨dst,.entry x,ty,pos,after,gd⟩,none)::r)::k) .normal s:=by
 simp only[Qw]at h1 ⊢;exact eU (QsS rfl hx WV Jo Q9 he) ht h1
end
end Go.Fg
namespace Go.Fg
open Go.RowKit (Below)
open Go.Proofs Go.Shelf Go.Sort
def sorted(zs:List Int):List Int:=zs.mergeSort λx y=>decide (x<=y)
def Fe(zs:List Int):(sorted zs).length=zs.length:=by simp[sorted]
def j8(off:Nat)(row:Nat->List D)(ts:List Int):Nat->List D:=λi=>if off<=i/\i<off+ts.length then [.raw (.int .i64 (ts.getD (i - off) 0))] else row i
variable {P:Program}{ρ:Ren}
def QsV{w:World}{b n o}{os}{cur}{e:TypeId}{fr}(d)(hb:w.heap[b]? = some (.cells cur e fr)):
  (grow (putRow (Value.int .i64) (Sort.ahead w n) b o d) os).heap[b]? = some (.cells (putCells (Value.int .i64) o d cur) e fr):=by
 have hg:b<w.heap.size:=(VT.1 hb).1;rw[heap_grow_old _ _ (by simpa using hg)];simp[putRow,mapBlock,Sort.ahead,de,hb,onCells]
def QsW{w:World}{b n o}{os}(d):w.grownBy (grow (putRow (Value.int .i64) (Sort.ahead w n) b o d) os) (some b):=by
 refine⟨rfl,rfl,rfl,by simp,λk hk QB=>?_⟩;rw[heap_grow_old _ _ (by simpa using hk)];have:b≠k:=λe=>QB (by rw[e]);simp[putRow,mapBlock,Sort.ahead,de,this]
def QsX(Ly:Lays.n189 P ρ){h:List Ob}{l g off N}{row}{zs:List Int}(ho:h[l]? = some ⟨.arr,g,1,N,row⟩)(hn:off+zs.length<=N)(hr:∀i,i<zs.length->row (off+i)=[.raw (.int .i64 (zs.getD i 0))])(hlen:zs.length<4611686018427387904):
  MFn P (ρ.f 189) h [.ref l g off zs.length] (λd h'=>d=.tup []/\h'=h.set l ⟨.arr,g,1,N,j8 off row (sorted zs)⟩):=by
 intro Z base w pl vs QX hZ R jY hv;match vs,jY with
 | [v],_=>
 have r0:=hv 0 (by simp);obtain⟨o,p,a,cap,e1,h1,h2,h3,h4,h5⟩:=Cm r0;rw[ho]at h1;cases h1;have e1:v=.slice a zs.length cap:=e1;have Ac:=h5 rfl;subst e1;have Qc:l<h.length:=Ku ho;by_cases h0:zs.length=0
 ·have hz:zs=[]:=NG.1 h0;subst hz;refine(Any.slices_Sort_int_none Ly a cap w).mono ?_;rintro e w' ⟨rfl,rfl⟩;have hs:h.set l ⟨.arr,g,1,N,j8 off row (sorted [])⟩=h:=by
   have:j8 off row (sorted [])=row:=by
    funext i;have:¬ (off<=i/\i<off+(sorted []).length):=by rw[Fe];simp
    unfold j8;rw[Qd this]
   rw[this];apply xh;intro i;by_cases hi:l=i
   ·subst hi;rw[WE Qc,ho]
   ·rw[JL hi]
  rw[hs];exact⟨_,.tup [],h,pl,rfl,⟨rfl,rfl⟩,R,.tup [] [] rfl (λi hi=>by simp at hi),Tr.refl _ _ _,.refl _ _⟩
 ·rcases Ac with ⟨h6,_⟩|⟨b,q,c,el,rfl,rfl,hb,Ex,Z6⟩
  ·exact absurd h6 h0
  ·obtain⟨xp,vZ⟩:=R.at_ l _ b q ho h2;obtain⟨c',SX,Kl,Jp,JR,Zx⟩:=vZ.cells rfl;rw[hb]at Kl;cases Kl;simp only[Nat.mul_one]at Ex Jp Zx ⊢;have Bb:∀i,i<zs.length->c[q+off+i]? = some (.int .i64 (zs.getD i 0)):=λi hi=>by
    obtain⟨u,hu,Be⟩:=Zx (off+i) 0 (by show off+i<N;omega) (by show 0<1;omega);have e2:(row (off+i))=_:=hr i hi;have Be:QA Z h pl w (nth (row (off+i)) 0) u:=Be;rw[e2]at Be;have:=Z9 Be;rw[show q+off+i=q+(off+i+0) by omega,hu,this]
   have hH:Holds (Value.int .i64) w b (q+off) zs.toArray:=by
    intro j hj;have VW:j<zs.length:=by simpa using hj
    refine⟨?_,by simp[World.frozen?,hb]⟩;rw[World.cell?_of_block (w:=w) (w':=w) rfl];simp only[World.cell?,hb];simp only[kP,Yn,kQ];rw[Bb j VW];simp[Q8,VW]
   refine(Any.slices_Sort_int Ly b (q+off) cap zs w hH (z6 hb) hlen).mono ?_;rintro e w' ⟨rfl,n,os,hw⟩;have hG:w.grownBy w' (some b):=by rw[hw];exact QsW _
   have JH:w'.heap[b]? = some (.cells (putCells (Value.int .i64) (q+off) (sorted zs).toArray c) el (0,0)):=by rw[hw];exact QsV _ hb
   have Je:(putCells (Value.int .i64) (q+off) (sorted zs).toArray c).size=c.size:=by simp[putCells]
   have hold:∀k,k≠b->k<w.heap.size->w'.heap[k]? = w.heap[k]? := λk hk Qc=>hG.block k Qc (λe=>hk (by cases e;rfl));have QsY:base<=b:=xp rfl;have hB:Below base w w':=(Below.refl base w).grown hG QX (λk hk=>by cases hk;exact QsY);have T:=Tr.QS (w':=w') (o':=⟨.arr,g,1,N,j8 off row (sorted zs)⟩) R ho h2 rfl rfl rfl hold (λc1 dD e1=>by rw[hb]at e1;cases e1;exact⟨_,JH,Je⟩);have wu:∀i,i<c.size->(putCells (Value.int .i64) (q+off) (sorted zs).toArray c)[i]? = if q+off<=i/\i<q+off+zs.length then some (.int .i64 ((sorted zs).getD (i - (q+off)) 0)) else c[i]? := λi hi=>by
    have hl:(sorted zs).toArray.size=zs.length:=by simp[Fe]
    simp only[putCells,Array.getElem?_mapIdx,hl,qZ hi,Kt];split
    ·rename_i XI;have:i - (q+off)<(sorted zs).length:=by rw[Fe];omega
     simp[Q8,this]
    ·rfl
   refine⟨_,.tup [],_,pl,rfl,⟨rfl,rfl⟩,Ze.QS (w':=w') (o':=⟨.arr,g,1,N,j8 off row (sorted zs)⟩) R ho h2 rfl rfl rfl rfl hold hb JH Je (by rw[Je];simpa using Jp) (λi hi=>?_) (λi j hi hj=>?_) rfl,.tup [] [] rfl (λi hi=>by simp at hi),T,hB⟩
   ·show (j8 off row (sorted zs) i).length=1;unfold j8;split
    ·rfl
    ·exact JR i hi
   ·have hi:i<N:=hi;have hj:j<1:=hj;have hj0:j=0:=by omega
    subst hj0;have hic:q+(i+0)<c.size:=by omega
    show ∃v,(putCells (Value.int .i64) (q+off) (sorted zs).toArray c)[q+(i*1+0)]? = some v/\QA Z _ pl w' (nth (j8 off row (sorted zs) i) 0) v;rw[Nat.mul_one,wu _ hic];have hsr:j8 off row (sorted zs) i=if off<=i/\i<off+zs.length then [.raw (.int .i64 ((sorted zs).getD (i - off) 0))] else row i:=by unfold j8;rw[Fe]
    rw[hsr];by_cases XI:off<=i/\i<off+zs.length
    ·rw[Qg (by omega),Qg XI];exact⟨_,rfl,by rw[show q+(i+0) - (q+off)=i - off by omega];exact .cl _ _ (.raw _)⟩
    ·rw[Qd (by omega),Qd XI];obtain⟨u,hu,Be⟩:=Zx i 0 hi hj;exact⟨u,hu,Be.tr T⟩
end Go.Fg
namespace Go.Fg.X
open Go.Proofs Go.Fg
open Go.Proofs.Tryz
def Qy(L:List Qn)(k:Int):Option Qn:=L.find? λc=>c.iD==k
def Vw(e:QR):Int × D:=(e.k,e.v)
def XB(c:Qn):Int × D:=(c.iD,Xd c)
def Wx(L:List Qn):Prop:=L.Pairwise λa b=>a.iD<b.iD
structure K7 (es:List QR) (L:List Qn):Prop where
 perm:(es.map Vw).Perm (L.map XB)
 sorted:Wx L
def Qek{α:Type}{f:α->Int}:∀{l:List α},(l.map f).Nodup->∀{x y:α},x∈l->y∈l->f x=f y->x=y
 | [],_,x,_,hx,_,_=>by simp at hx
 | a::l,hn,x,y,hx,hy,e=>by
  simp only[Jz,ZK,Jn,Cg,not_and]at hn;rcases QF.1 hx with h1|h1<;>rcases QF.1 hy with h2|h2
  ·rw[h1,h2]
  ·exact absurd (by rw[<- e,h1]) (hn.1 y h2)
  ·exact absurd (by rw[e,h2]) (hn.1 x h1)
  ·exact Qek hn.2 h1 h2 e
def Wx.nd{L:List Qn}(h:Wx L):(L.map (·.iD)).Nodup:=by
 unfold List.Nodup;rw[Sn];exact List.Pairwise.imp (λh=>by omega) h
def K7.An{es}{L}(T:K7 es L):W7 es:=by
 have h1:es.map (·.k)=(es.map Vw).map Prod.fst:=by simp[Vw,Sd]
 have h2:(L.map XB).map Prod.fst=L.map (·.iD):=by simp[XB,Sd]
 unfold W7;rw[h1,(T.perm.map Prod.fst).nodup_iff,h2];exact T.sorted.nd
def gz:∀{es:List QR},W7 es->∀{k:Int} {v:D},ZP es k=some v↔(k,v)∈es.map Vw
 | [],_,k,v=>by simp[ZP]
 | e::es,hn,k,v=>by
  have VC:W7 es:=by unfold W7 at hn ⊢;simp only[Jz,ZK]at hn;exact hn.2
  simp only[ZP];by_cases h:e.k=k
  ·rw[Qg h];constructor
   ·rintro⟨rfl⟩;simp[Vw,h]
   ·intro hm;simp only[Jz,QF]at hm;rcases hm with hm|hm
    ·simp only[Vw,Q4]at hm;rw[hm.2]
    ·exfalso;obtain⟨e',Ws,hh⟩:=Jn.1 hm;simp only[Vw,Q4]at hh;unfold W7 at hn;simp only[Jz,ZK,Jn,Cg,not_and]at hn;exact hn.1 e' Ws (by rw[hh.1,h])
  ·rw[Qd h,gz VC];simp only[Jz,QF];constructor
   ·exact λh=>.inr h
   ·rintro (hm|hm)
    ·simp only[Vw,Q4]at hm;exact absurd hm.1.symm h
    ·exact hm
def Wy{L}(h:Wx L){k}{c:Qn}:Qy L k=some c↔c∈L/\c.iD=k:=by
 constructor
 ·intro e;exact⟨xk e,by have:=vR e;simpa using this⟩
 ·rintro⟨hm,rfl⟩;cases hf:Qy L c.iD with
  | none=>
   have:=zU.1 hf c hm;simp at this
  | some d=>
   have h1:=xk hf;have h2:d.iD=c.iD:=by have:=vR hf;simpa using this
   rw[Qek h.nd h1 hm h2]
def Ff{L}{k}:Qy L k=none↔∀c∈L,c.iD≠k:=by
 simp[Qy,zU]
def K7.look{es}{L}(T:K7 es L)(k:Int):ZP es k=(Qy L k).map Xd:=by
 cases hf:Qy L k with
 | some c=>
  obtain⟨h1,h2⟩:=(Wy T.sorted).1 hf;rw[Kt,gz T.An,T.perm.mem_iff];exact Jn.2 ⟨c,h1,by simp[XB,h2]⟩
 | none=>
  rw[YU];cases ha:ZP es k with
  | none=>rfl
  | some v=>
   rw[gz T.An,T.perm.mem_iff]at ha;obtain⟨c,hc,e⟩:=Jn.1 ha;simp only[XB,Q4]at e;exact absurd e.1 (Ff.1 hf c hc)
def K7.len{es:List QR}{L:List Qn}(T:K7 es L):es.length=L.length:=by
 have:=T.perm.length_eq;simpa using this
def K7.nil:K7 [] []:=⟨by simp,by simp[Wx]⟩
def VM:List Qn->Qn->List Qn
 | [],x=>[x]
 | c::r,x=>if x.iD<c.iD then x::c::r else if c.iD=x.iD then x::r else c::VM r x
def WJ(L:List Qn)(k:Int):List Qn:=L.filter λc=>c.iD != k
def OR{α:Type}{p}{l:List α}(h:∀x∈l,p x=true):l.filter p=l:=xi.2 h
def G6:∀{L:List Qn} (x:Qn),Wx L->(VM L x).Perm (x::WJ L x.iD)
 | [],x,_=>by simp[VM,WJ]
 | c::r,x,h=>by
  have hr:Wx r:=List.Pairwise.of_cons h;have hc:∀d∈r,c.iD<d.iD:=λd hd=>(yF.1 h).1 d hd;simp only[VM];by_cases h1:x.iD<c.iD
  ·rw[Qg h1];have:WJ (c::r) x.iD=c::r:=OR λd hd=>by
    rcases QF.1 hd with rfl|hd
    ·simp;omega
    ·have:=hc d hd;simp;omega
   rw[this]
  ·rw[Qd h1];by_cases h2:c.iD=x.iD
   ·rw[Qg h2];have e1:WJ r x.iD=r:=OR λd hd=>by have:=hc d hd;simp;omega
    have:WJ (c::r) x.iD=r:=by unfold WJ at e1 ⊢;rw[NC (by simp[h2]),e1]
    rw[this]
   ·rw[Qd h2];have:WJ (c::r) x.iD=c::WJ r x.iD:=by unfold WJ;rw[ND (by simp[h2])]
    rw[this];exact((G6 x hr).cons c).trans (List.Perm.swap x c _)
def LG:∀{L:List Qn} (x:Qn),Wx L->Wx (VM L x)
 | [],x,_=>by simp[VM,Wx]
 | c::r,x,h=>by
  have hr:Wx r:=List.Pairwise.of_cons h;have hc:∀d∈r,c.iD<d.iD:=λd hd=>(yF.1 h).1 d hd;simp only[VM];by_cases h1:x.iD<c.iD
  ·rw[Qg h1];exact yF.2 ⟨λd hd=>by
    rcases QF.1 hd with rfl|hd
    ·exact h1
    ·have:=hc d hd;omega,h⟩
  ·rw[Qd h1];by_cases h2:c.iD=x.iD
   ·rw[Qg h2];exact yF.2 ⟨λd hd=>by have:=hc d hd;omega,hr⟩
   ·rw[Qd h2];refine yF.2 ⟨λd hd=>?_,LG x hr⟩;have:=(G6 x hr).mem_iff.1 hd;rcases QF.1 this with rfl|Kp
    ·omega
    ·exact hc d (JE.1 Kp).1
def gA{L}(k)(h:Wx L):Wx (WJ L k):=Is _ h
def Qel:∀{es:List QR} (k:Int) (v:D),W7 es->(∃u,ZP es k=some u)->((za es k v).map Vw).Perm ((k,v)::(es.map Vw).filter λp=>p.1 != k)
 | [],k,v,_,h=>by simp[ZP]at h
 | e::es,k,v,hn,h=>by
  have Ka:=hn;unfold W7 at Ka;simp only[Jz,ZK,Jn,Cg,not_and]at Ka;simp only[za];by_cases he:e.k=k
  ·rw[Qg he];have e1:(es.map Vw).filter (λp=>p.1 != k)=es.map Vw:=OR λp hp=>by
    obtain⟨e',Ws,rfl⟩:=Jn.1 hp;have:=Ka.1 e' Ws;simp[Vw];omega
   have:((e::es).map Vw).filter (λp=>p.1 != k)=es.map Vw:=by rw[Jz,NC (by simp[Vw,he]),e1]
   rw[this];simp[Vw]
  ·rw[Qd he];have h2:∃u,ZP es k=some u:=by simpa only[ZP,Qd he] using h
   have:((e::es).map Vw).filter (λp=>p.1 != k)=Vw e::(es.map Vw).filter (λp=>p.1 != k):=by rw[Jz,ND (by simp[Vw,he])]
   rw[this,Jz];exact((Qel k v Ka.2 h2).cons _).trans (List.Perm.swap _ _ _)
def Qs2{es}{L}(T:K7 es L)(q)(c)(x:Qn):∃c' es',JI q c es x.iD (Xd x)=QM q c' es'/\K7 es' (VM L x):=by
 have hp:((VM L x).map XB).Perm ((x.iD,Xd x)::(L.map XB).filter λp=>p.1 != x.iD):=by
  have:=(G6 x T.sorted).map XB;rw[Jz]at this;refine this.trans ?_;have:(L.map XB).filter (λp=>p.1 != x.iD)=(WJ L x.iD).map XB:=by
   rw[NF];rfl
  rw[this];exact Iu _
 have hf:=T.perm.filter λp=>p.1 != x.iD;unfold JI;cases ha:ZP es x.iD with
 | some u=>exact⟨c,_,rfl,⟨(Qel x.iD (Xd x) T.An ⟨u,ha⟩).trans ((hf.cons _).trans hp.symm),LG x T.sorted⟩⟩
 | none=>
  refine⟨c+1,_,rfl,⟨?_,LG x T.sorted⟩⟩;have e1:(es.map Vw).filter (λp=>p.1 != x.iD)=es.map Vw:=OR λp hp=>by
   obtain⟨e',Ws,rfl⟩:=Jn.1 hp;have:=(Oc ha).1 e' Ws;simp[Vw];omega
  rw[e1]at hf;rw[vS];refine List.perm_append_comm.trans ?_;exact(hf.cons (x.iD,Xd x)).trans hp.symm
def Qem:∀{es:List QR} (k:Int),W7 es->((JB es k).map Vw)=((es.map Vw).filter λp=>p.1 != k)
 | [],k,_=>rfl
 | e::es,k,hn=>by
  have Ka:=hn;unfold W7 at Ka;simp only[Jz,ZK,Jn,Cg,not_and]at Ka;simp only[JB];by_cases he:e.k=k
  ·rw[Qg he,Jz,NC (by simp[Vw,he])];exact(OR λp hp=>by
    obtain⟨e',Ws,rfl⟩:=Jn.1 hp;have:=Ka.1 e' Ws;simp[Vw];omega).symm
  ·rw[Qd he,Jz,Jz,ND (by simp[Vw,he]),Qem k Ka.2]
def Qen{es}{L}(T:K7 es L)(k):K7 (JB es k) (WJ L k):=by
 refine⟨?_,gA k T.sorted⟩;rw[Qem k T.An];have:(L.map XB).filter (λp=>p.1 != k)=(WJ L k).map XB:=by rw[NF];rfl
 rw[<- this];exact T.perm.filter _
def Qeo{zs ts:List Int}(h:zs.Perm ts)(hs:ts.Pairwise (·<·)):sorted zs=ts:=by
 refine List.Perm.eq_of_pairwise (le:=λa b=>a<=b) (λa b _ _ h1 h2=>by omega) ?_ (hs.imp (λh=>by omega)) ((List.mergeSort_perm _ _).trans h);have:=List.pairwise_mergeSort (le:=λx y:Int=>decide (x<=y)) (λa b c h1 h2=>by simp at *;omega) (λa b=>by simp;omega) zs;exact this.imp (λh=>by simpa using h)
section
variable (h:List Ob)(t m c:Nat){es:List QR}{L:List Qn}(T:K7 es L)
 (ht:(h.map Ob.ro)[t]? = some ⟨.Wd,0,1,1,λ_=>[.mref m 0]⟩) (hm:(h.map Ob.ro)[m]? = some (QM .i64 c es).ro)
include T ht hm
theorem Qep(id:Int):Zg prog 80 h [.ptr t 0 0 0,Qb id] (λd=>d=.tup [Xd ((Qy L id).getD default),Qb (if (Qy L id).isSome then 0 else 6)]):=by
 have hk:=T.look id;cases hf:Qy L id with
 | none=>
  rw[hf,YU]at hk;refine Zt Qh 200 func80 rfl ntmps80 results80 rfl λbase w pl F hF Za hb=>?_;rw[<- hF]at ht hm;have Zi:=Qc ht;have QK:=Qc hm;simp only[go_sem,Qa,ht,Zi,hm,QK,hk];exact⟨_,rfl,rfl⟩
 | some x=>
  rw[hf,Kt]at hk;refine Zt Qh 200 func80 rfl ntmps80 results80 rfl λbase w pl F hF Za hb=>?_;rw[<- hF]at ht hm;have Zi:=Qc ht;have QK:=Qc hm;simp only[go_sem,Qa,ht,Zi,hm,QK,hk];exact⟨_,rfl,rfl⟩
end
def KZ(F H:List Ob):Prop:=∃g,H=F++g
def KZ.refl(F):KZ F F:=⟨[],by simp⟩
def KZ.app{F H}(h:KZ F H)(g):KZ F (H++g):=by
 obtain⟨x,rfl⟩:=h;exact⟨x++g,by simp⟩
def KZ.set{F H:List Ob}(h:KZ F H){lo}(hl:F.length<=lo)(o):KZ F (H.set lo o):=by
 obtain⟨x,rfl⟩:=h;exact⟨x.set (lo - F.length) o,by rw[Ix _ _ hl]⟩
def KZ.len{F H:List Ob}(h:KZ F H):F.length<=H.length:=by
 obtain⟨x,rfl⟩:=h;simp
def KZ.get{F H:List Ob}(h:KZ F H){l:Nat}{o:Ob}(e:F[l]? = some o):H[l]? = some o:=by
 obtain⟨x,rfl⟩:=h;rw[QC (Qc e)];exact e
def JU(n:Nat)(H:List Ob)(d:D)(L:List Int):Prop:=(d=.nil/\L=[])\/∃lo g off row,d=.ref lo g off L.length/\(n<=lo/\off=0)/\H[lo]? = some ⟨.arr,g,1,off+L.length,row⟩/\∀i,i<L.length->row (off+i)=[Qb (L.getD i 0)]
def JU.app{n}{H}{d}{L}(h:JU n H d L)(g):JU n (H++g) d L:=by
 rcases h with h|⟨lo,gg,off,row,h1,h2,h3,h4⟩
 ·exact .inl h
 ·exact .inr ⟨lo,gg,off,row,h1,h2,by rw[QC (Qc h3)];exact h3,h4⟩
def JU.base{F h g:List Ob}{d}{L}(hl:F.length=h.length)(x:JU F.length (F++g) d L):JU h.length (h++g) d L:=by
 rcases x with x|⟨lo,gg,off,row,h1,h2,h3,h4⟩
 ·exact .inl x
 ·refine .inr ⟨lo,gg,off,row,h1,by omega,?_,h4⟩;rw[JT (by omega)]at h3 ⊢;rw[<- hl];exact h3
def JU.done{F h H:List Ob}{d}{L}(hl:F.length=h.length)(hx:KZ F H)(x:JU F.length H d L):∃g,H=F++g/\JU h.length (h++g) d L:=by
 obtain⟨g,rfl⟩:=hx;exact⟨g,rfl,x.base hl⟩
def G7{dn:List Int}{off}{row}{v}(hr:∀i,i<dn.length->row (off+i)=[Qb (dn.getD i 0)]):∀i,i<(dn++[v]).length->J2 dn.length off row (λ_=>[Qb v]) (0+i)=[Qb ((dn++[v]).getD i 0)]:=λi hi=>by
 rw[JG];simp at hi;by_cases h1:i<dn.length
 ·rw[yL h1,hr i h1];simp[h1,Jy h1]
 ·have:i=dn.length:=by omega
  subst this;rw[vV (QD _)];simp
def G8{h:List Ob}{l:Nat}{o:Ob}(e:h[l]? = some o.ro):(h.map Ob.ro)[l]? = some o.ro:=by have:=ZM e;rwa [ro_ro]at this
def Jq(L:List Qn):Nat->Int->List Int
 | 0,_=>[]
 | n+1,id=>match Qy L id with
  | none=>[]
  | some c=>id::Jq L n c.parent
def Ends(L:List Qn):Nat->Int->Prop
 | 0,id=>Qy L id=none
 | n+1,id=>match Qy L id with
  | none=>True
  | some c=>Ends L n c.parent
structure Qs3 (t:Nat) (L:List Qn) (N:Nat) (id:Int) (F:List Ob) (n:Nat) (s:St):Prop where
 ex:∃dn cur d H,dn++Jq L n cur=Jq L N id/\dn.length+n<=N+1/\Ends L n cur/\KZ F H/\JU F.length H d dn/\s=⟨[(0,.ptr t 0 0 0),(1,Qb cur),(5,d)],H⟩
section
variable (h:List Ob)(t m c:Nat){es:List QR}{L:List Qn}(T:K7 es L)
 (ht:(h.map Ob.ro)[t]? = some ⟨.Wd,0,1,1,λ_=>[.mref m 0]⟩) (hm:(h.map Ob.ro)[m]? = some (QM .i64 c es).ro)
include T ht hm
theorem Qeq(id)(N)(hN:N<1000000)(hE:Ends L N id):Wf prog 128 h [.ptr t 0 0 0,Qb id] (λd g=>JU h.length (h++g) d (Jq L N id)):=by
 refine Ai Qh 200 func128 rfl ntmps128 results128 rfl λbase w pl F hF Za hb=>?_;rw[<- hF]at ht hm;have Zi:=Qc ht;have QK:=Qc hm;simp only[go_sem,Qa,ht,Zi,hm,QK];refine IZ (Qs3 t L N id F) N (s0:=⟨[(0,.ptr t 0 0 0),(1,Qb id),(5,.nil)],F⟩) (QI.frame (by simp only[go_sem])) ⟨[],id,.nil,F,rfl,by simp,hE,KZ.refl F,.inl ⟨rfl,rfl⟩,rfl⟩ ?_;rintro n s ⟨dn,cur,d,H,h1,h2,h3,hx,hs,rfl⟩;have hFH:=hx.len;have jr:=hx.get ht;have Wg:=hx.get hm;have LH:=Qc jr;have By:=Qc Wg;have hg:=Qep H t m c T (ZM jr) (G8 Wg) cur;refine Qf hb ?_;simp only[go_sem,Qa];cases hf:Qy L cur with
 | none=>
  rw[hf]at hg;simp only[kP,Yn,kQ]at hg;refine ZT hb j4 rfl ?_ hg rfl λd hR=>?_
  ·simp only[go_sem,Qa,jr,Wg,LH,By]
  subst hR;refine Qf hb ?_;simp only[go_sem,Qa,jr,Wg,LH,By];have e0:Jq L n cur=[]:=by cases n with
   | zero=>rfl
   | succ n=>simp only[Jq,hf]
  rw[e0,Zd]at h1;rw[<- h1];exact JU.done Za (hx.app _) (hs.app _)
 | some x=>
  rw[hf]at hg;simp only[jP,K6,KS]at hg;obtain⟨n,rfl⟩:∃n',n=n'+1:=by
   cases n with
   | zero=>rw[Ends,hf]at h3;cases h3
   | succ n=>exact⟨n,rfl⟩
  have gB:Ends L n x.parent:=by simpa only[Ends,hf] using h3
  have ZY:(dn++[cur])++Jq L n x.parent=Jq L N id:=by rw[<- h1];simp only[Jq,hf,Wb,List.singleton_append]
  rcases hs with ⟨rfl,rfl⟩|⟨lo,g,off,row,rfl,ZE,ho,hr⟩
  ·refine ZT hb j4 rfl ?_ hg rfl λd hR=>?_
   ·simp only[go_sem,Qa,jr,Wg,LH,By]
   subst hR;refine Qf hb ?_;simp only[go_sem,Qa,jr,Wg,LH,By];refine⟨n,⟨[(0,.ptr t 0 0 0),(1,Qb x.parent),(5,.ref (H.length+2) 0 0 1)],_⟩,by omega,QI.frame (by simp only[go_sem]),⟨⟨[cur],x.parent,_,_,ZY,by simp at h2 ⊢;omega,gB,hx.app _,.inr ⟨H.length+2,0,0,_,rfl,by omega,by rw[KX rfl];rfl,λi hi=>?_⟩,rfl⟩⟩⟩;have:i=0:=by simp at hi;omega
   subst this;rfl
  ·have Qe:=Qc ho;refine ZT hb j4 rfl ?_ hg rfl λd hR=>?_
   ·simp only[go_sem,Qa,jr,Wg,LH,By,ho,Qe]
   subst hR;refine Qf hb ?_;simp only[go_sem,Qa,jr,Wg,LH,By,ho,Qe];refine⟨by omega,n,⟨[(0,.ptr t 0 0 0),(1,Qb x.parent),(5,.ref lo (g+1) 0 (dn.length+1))],_⟩,by omega,QI.frame (by simp only[go_sem]),⟨⟨dn++[cur],x.parent,_,_,ZY,?_,gB,?_,?_,rfl⟩⟩⟩
   ·simp at h2 ⊢;omega
   ·exact(hx.set ZE.1 _).app _
   ·refine .inr ⟨lo,g+1,0,_,by simp,by omega,?_,G7 hr⟩;rw[QC (by simpa using Qe),Qv Qe];simp[Qb]
end
def XJ(L:List Qn)(id:Int):Bool:=id==0 || decide (1<QZ ((Qy L id).getD default).ls)
section
variable (h:List Ob)(t m c:Nat){es:List QR}{L:List Qn}(T:K7 es L)
 (ht:(h.map Ob.ro)[t]? = some ⟨.Wd,0,1,1,λ_=>[.mref m 0]⟩) (hm:(h.map Ob.ro)[m]? = some (QM .i64 c es).ro)
include T ht hm
theorem LI(id:Int)(N)(hN:N<1000000)(hE:Ends L N id):Zg prog 189 h [.ptr t 0 0 0,Qb id] (λd=>d=Qb (Jq L N id).length):=by
 refine Zt Qh 200 func189 rfl ntmps189 results189 rfl λbase w pl F hF Za hb=>?_;rw[<- hF]at ht hm;have Zi:=Qc ht;have QK:=Qc hm;simp only[go_sem,Qa,ht,Zi,hm,QK];refine E9 hb Uu rfl ?_ (Qeq F t m c T (ZM ht) (G8 hm) id N hN hE) rfl λd g2 hs=>?_
 ·simp only[go_sem]
 rcases hs with ⟨rfl,h0⟩|⟨lo,g,off,row,rfl,ZE,ho,hr⟩
 ·refine Qf hb ?_;simp only[go_sem,Qa,h0];exact⟨_,rfl⟩
 ·have Qe:=Qc ho;refine Qf hb ?_;simp only[go_sem,Qa,ho,Qe];exact⟨_,rfl⟩
theorem UM(id):Zg prog 188 h [.ptr t 0 0 0,Qb id] (λd=>d=QY (XJ L id)):=by
 by_cases h0:id=0
 ·have e:XJ L id=true:=by simp[XJ,h0]
  rw[e];refine Zt Qh 200 func188 rfl ntmps188 results188 rfl λbase w pl F hF Za hb=>?_;rw[<- hF]at ht hm;have Zi:=Qc ht;have QK:=Qc hm;simp only[go_sem,Qa,ht,Zi,hm,QK,zl h0];exact⟨[],by simp⟩
 ·have hk:=T.look id;have e:XJ L id=decide (1<QZ ((Qy L id).getD default).ls):=by simp[XJ,h0]
  rw[e];cases hf:Qy L id with
  | none=>
   rw[hf,YU]at hk;refine Zt Qh 200 func188 rfl ntmps188 results188 rfl λbase w pl F hF Za hb=>?_;rw[<- hF]at ht hm;have Zi:=Qc ht;have QK:=Qc hm;simp only[go_sem,Qa,ht,Zi,hm,QK,hk,Xt h0];refine ZA hb j5 rfl ?_ (j6 ⟨0,0,false,⟨0,0,0⟩,⟨0,0,0⟩,⟨0,0,0⟩,0,0⟩) (Qo.flat rfl) rfl λd h hR=>?_
   ·simp only[go_sem,Qa]
   obtain⟨rfl,rfl⟩:=hR;refine Qf hb ?_;simp only[go_sem,Qa];exact⟨[],(Zd F).symm,rfl⟩
  | some x=>
   rw[hf,Kt]at hk;refine Zt Qh 200 func188 rfl ntmps188 results188 rfl λbase w pl F hF Za hb=>?_;rw[<- hF]at ht hm;have Zi:=Qc ht;have QK:=Qc hm;simp only[go_sem,Qa,ht,Zi,hm,QK,hk,Xt h0];refine ZA hb j5 rfl ?_ (j6 x) (Qo.flat rfl) rfl λd h hR=>?_
   ·simp only[go_sem,Qa]
   obtain⟨rfl,rfl⟩:=hR;refine Qf hb ?_;simp only[go_sem,Qa];exact⟨[],by simp⟩
end
def Qp(L:List Qn)(g:Qn->Bool)(k:Int):Bool:=((Qy L k).map g).getD false
def Qs4{es:List QR}{seen:List Nat}{b:Nat}(p:QR->Bool)(h:∀e∈es,e.b≠b):(es.filter λx=>(seen++[b]).contains x.b&&p x)=es.filter λx=>seen.contains x.b&&p x:=by
 apply Si;intro x hx;have:=h x hx;simp[this]
def Qer:∀{es:List QR} {seen:List Nat} {e:QR} (p:QR->Bool),(es.map (·.b)).Nodup->e∈es->e.b ∉ seen->(es.filter λx=>(seen++[e.b]).contains x.b&&p x).Perm (if p e then e::es.filter (λx=>seen.contains x.b&&p x) else es.filter λx=>seen.contains x.b&&p x)
 | [],_,_,_,_,h,_=>by simp at h
 | x::es,seen,e,p,hn,h,hs=>by
  simp only[Jz,ZK,Jn,Cg,not_and]at hn;rcases QF.1 h with h1|h1
  ·subst h1;have e1:=Qs4 (seen:=seen) (b:=e.b) p (es:=es) λy hy he=>hn.1 y hy he;have hc:seen.contains e.b=false:=by simpa using hs
   rw[kI,kI,e1];simp only[hc,Ga,Yn,kQ];have:(seen++[e.b]).contains e.b=true:=by simp
   rw[this,Iq]
  ·have ih:=Qer p hn.2 h1 hs;have QB:x.b≠e.b:=λhe=>hn.1 e h1 he.symm;have hc:(seen++[e.b]).contains x.b=seen.contains x.b:=by simp[QB]
   rw[kI,kI,hc];by_cases h2:(seen.contains x.b&&p x)=true
   ·rw[Qg h2,Qg h2];by_cases h3:p e=true
    ·rw[Qg h3]at ih ⊢;exact(ih.cons x).trans (List.Perm.swap _ _ _)
    ·rw[Qd h3]at ih ⊢;exact ih.cons x
   ·rw[Qd h2,Qd h2];exact ih
def K7.vk{es}{L}(T:K7 es L){e:QR}(he:e∈es):∃x,Qy L e.k=some x/\e.v=Xd x/\x.iD=e.k:=by
 have:Vw e∈L.map XB:=T.perm.mem_iff.1 (Jn.2 ⟨e,he,rfl⟩);obtain⟨x,hx,e1⟩:=Jn.1 this;simp only[XB,Vw,Q4]at e1;exact⟨x,(Wy T.sorted).2 ⟨hx,e1.1⟩,e1.2.symm,e1.1⟩
def K7.pick{es:List QR}{L:List Qn}(T:K7 es L)(g:Qn->Bool):((es.filter λe=>Qp L g e.k).map (·.k)).Perm ((L.filter g).map (·.iD)):=by
 have h1:=(T.perm.filter λp=>Qp L g p.1).map Prod.fst;have e1:((es.map Vw).filter λp=>Qp L g p.1).map Prod.fst=(es.filter λe=>Qp L g e.k).map (·.k):=by
  rw[NF,Ef];rfl
 have e2:((L.map XB).filter λp=>Qp L g p.1).map Prod.fst=(L.filter g).map (·.iD):=by
  rw[NF,Ef];have:L.filter ((λp=>Qp L g p.1) ∘ XB)=L.filter g:=Si λx hx=>by
   have:=(Wy T.sorted).2 ⟨hx,rfl⟩;simp[Qp,XB,this]
  rw[this];rfl
 rw[e1,e2]at h1;exact h1
def Qs5{L:List Qn}(h:Wx L)(g:Qn->Bool):((L.filter g).map (·.iD)).Pairwise (·<·):=by
 rw[Sn];exact Is g h
open Go.Shelf in
def Qs6{P}{ρ:Ren}(Ly:Lays.n189 P ρ)(h):MFn P (ρ.f 189) h [.nil] (λd h'=>d=.tup []/\h'=h):=by
 intro Z base w pl vs QX hZ R jY hv;match vs,jY with
 | [v],_=>
 obtain⟨a,e1⟩:=Cj (hv 0 (by simp));have e1:v=_:=e1;subst e1;refine(Any.slices_Sort_int_none Ly a 0 w).mono ?_;rintro e w' ⟨rfl,rfl⟩;exact⟨_,.tup [],h,pl,rfl,⟨rfl,rfl⟩,R,.tup [] [] rfl (λi hi=>by simp at hi),Tr.refl _ _ _,.refl _ _⟩
open Go.Shelf in
def Tryz.Qs7:Go.Shelf.Ren:=⟨fun|189=>123|125=>162|257=>161|128=>210|129=>211|294=>201|295=>202|296=>203|297=>204|298=>205|299=>206|216=>207|300=>208|301=>209|328=>248|329=>249|330=>250|331=>251|332=>252|215=>253|343=>266|n=>n,fun|28=>79|3=>3|46=>281|0=>0|51=>323|53=>34|4=>4|183=>317|182=>316|131=>95|5=>5|9=>9|218=>350|222=>353|228=>366|229=>75|n=>n,fun|n=>n⟩
def Tryz.Qes:Go.Proofs.Lays.n189 prog Tryz.Qs7:={
 mixed:=by kernel_rfl
 f125:=func162.trans (congrArg some (by kernel_rfl))
 f128:=func210.trans (congrArg some (by kernel_rfl))
 f129:=func211.trans (congrArg some (by kernel_rfl))
 f189:=func123.trans (congrArg some (by kernel_rfl))
 f215:=func253.trans (congrArg some (by kernel_rfl))
 f216:=func207.trans (congrArg some (by kernel_rfl))
 f257:=func161.trans (congrArg some (by kernel_rfl))
 f294:=func201.trans (congrArg some (by kernel_rfl))
 f295:=func202.trans (congrArg some (by kernel_rfl))
 f296:=func203.trans (congrArg some (by kernel_rfl))
 f297:=func204.trans (congrArg some (by kernel_rfl))
 f298:=func205.trans (congrArg some (by kernel_rfl))
 f299:=func206.trans (congrArg some (by kernel_rfl))
 f300:=func208.trans (congrArg some (by kernel_rfl))
 f301:=func209.trans (congrArg some (by kernel_rfl))
 f328:=func248.trans (congrArg some (by kernel_rfl))
 f329:=func249.trans (congrArg some (by kernel_rfl))
 f330:=func250.trans (congrArg some (by kernel_rfl))
 f331:=func251.trans (congrArg some (by kernel_rfl))
 f332:=func252.trans (congrArg some (by kernel_rfl))
 f343:=func266.trans (congrArg some (by kernel_rfl))
 t0:=underlying0
 a0:=isAgg0
 z0:=sizeOf0
 v0:=zeroValue0
 t3:=underlying3
 a3:=isAgg3
 z3:=sizeOf3
 v3:=zeroValue3
 t4:=underlying4
 a4:=isAgg4
 z4:=sizeOf4
 v4:=zeroValue4
 t5:=underlying5
 a5:=isAgg5
 z5:=sizeOf5
 v5:=zeroValue5
 t9:=underlying9
 a9:=isAgg9
 z9:=sizeOf9
 v9:=zeroValue9
 t28:=underlying79
 a28:=isAgg79
 z28:=sizeOf79
 v28:=zeroValue79
 t46:=underlying281
 a46:=isAgg281
 z46:=sizeOf281
 v46:=zeroValue281
 t51:=underlying323
 a51:=isAgg323
 z51:=sizeOf323
 v51:=zeroValue323
 t53:=underlying34
 a53:=isAgg34
 z53:=sizeOf34
 v53:=zeroValue34
 t131:=underlying95
 a131:=isAgg95
 z131:=sizeOf95
 v131:=zeroValue95
 t182:=underlying316
 a182:=isAgg316
 z182:=sizeOf316
 v182:=zeroValue316
 t183:=underlying317
 a183:=isAgg317
 z183:=sizeOf317
 v183:=zeroValue317
 t218:=underlying350
 a218:=isAgg350
 z218:=sizeOf350
 v218:=zeroValue350
 t222:=underlying353
 a222:=isAgg353
 z222:=sizeOf353
 v222:=zeroValue353
 t228:=underlying366
 a228:=isAgg366
 z228:=sizeOf366
 v228:=zeroValue366
 t229:=underlying75
 a229:=isAgg75
 z229:=sizeOf75
 v229:=zeroValue75 }
def Qet{h:List Ob}{l g off N}{row}{zs:List Int}(ho:h[l]? = some ⟨.arr,g,1,N,row⟩)(hn:off+zs.length<=N)(hr:∀i,i<zs.length->row (off+i)=[.raw (.int .i64 (zs.getD i 0))])(hlen:zs.length<4611686018427387904):
  MFn prog 123 h [.ref l g off zs.length] (λd h'=>d=.tup []/\h'=h.set l ⟨.arr,g,1,N,j8 off row (sorted zs)⟩):=QsX Tryz.Qes ho hn hr hlen
def Qeu(h):MFn prog 123 h [.nil] (λd h'=>d=.tup []/\h'=h):=Qs6 Tryz.Qes h
def G9(d):W9 d d:=by unfold W9;split<;>first|exact rfl|simp_all
def Bz:∀l:List D,VL l l
 | []=>trivial
 | d::r=>⟨G9 d,Bz r⟩
def OS(F:List Ob)(f nf:Nat)(Qz:List D)(g:Qn->Bool):Prop:=∀(h:List Ob) (c:Qn),KZ F h->Zg prog f h (Jj nf Qz [Xd c]) (λd=>d=QY (g c))
structure Qs8 (t m c:Nat) (es:List QR) (L:List Qn) (gk:Qn->Bool) (so:D) (F:List Ob) (n:Nat) (s:St):Prop where
 ex:∃seen d out H,wo es seen=n/\KZ F H/\JU F.length H d out/\out.Perm ((es.filter λe=>seen.contains e.b&&Qp L gk e.k).map (·.k))/\H[F.length]? = some (Xs m c c seen) /\
  s=⟨[(0,.ptr t 0 0 0),(1,so),(5,d),(14,.mref F.length 0)],H⟩
section
variable (h:List Ob)(t m c:Nat){es:List QR}{L:List Qn}(T:K7 es L)(hlen:L.length<1000000)
 (ht:(h.map Ob.ro)[t]? = some ⟨.Wd,0,1,1,λ_=>[.mref m 0]⟩) (hm:(h.map Ob.ro)[m]? = some (QM .i64 c es).ro)
include T ht hm hlen
theorem UN(so:D)(f nf:Nat)(Qz:List D)(hf:Qq prog f)(Vd:J4 so=some (f,nf,Qz))(gk:Qn->Bool)(hg:OS (h.map Ob.ro) f nf Qz gk):
  Wf prog 98 h [.ptr t 0 0 0,so] (λd g=>JU h.length (h++g) d ((L.filter gk).map (·.iD))):=by
 refine Ai Qh 200 func98 rfl ntmps98 results98 rfl λbase w pl F hF Za hb=>?_;rw[<- hF]at ht hm;have Zi:=Qc ht;have QK:=Qc hm;simp only[go_sem,Qa,ht,Zi,hm,QK];refine QsR (kd:=.NQ) (q:=.i64) (l:=m) (c:=c) (es:=es) rfl (by simp only[go_sem,Qa,hm,QK];rfl) λhB=>?_;refine IZ (Qs8 t m c es L gk so F) (wo es []) (s0:=⟨[(0,.ptr t 0 0 0),(1,so),(5,.nil),(14,.mref F.length 0)],F++[Xs m c c []]⟩) (QI.frame (by simp only[go_sem])) ⟨[],.nil,[],_,rfl,⟨_,rfl⟩,.inl ⟨rfl,rfl⟩,by simp,by rw[Ko rfl];rfl,rfl⟩ ?_;rintro n s ⟨seen,d,out,H,hn,hx,hs,hp,WV,rfl⟩;have Wg:=hx.get hm;have By:=Qc Wg;have Qs9:=Qc WV;refine Qf hb ?_;simp only[go_sem,Qa];refine QmF hb (li:=F.length) (l:=m) (c:=c) (es:=es) (seen:=seen) (q:=.i64) (kd:=.NQ) rfl WV rfl Wg rfl (λVo=>?_) (λe he EG=>?_)
 ·refine Qf hb ?_;simp only[go_sem,Qa];have Fa:sorted out=(L.filter gk).map (·.iD):=by
   refine Qeo (hp.trans ?_) (Qs5 T.sorted gk);have:(es.filter λe=>seen.contains e.b&&Qp L gk e.k)=es.filter λe=>Qp L gk e.k:=Si λe he=>by
    have:seen.contains e.b=true:=by simpa using Vo e he
    rw[this,Iq]
   rw[this];exact T.pick gk
  have UO:out.length<4611686018427387904:=by
   have h1:out.length=((L.filter gk).map (·.iD)).length:=by rw[<- Fa,Fe]
   have h2:=Yo gk L;rw[J6]at h1;omega
  rcases hs with ⟨rfl,rfl⟩|⟨lo,g,off,row,rfl,ZE,ho,hr⟩
  ·refine Qf hb ?_;simp only[go_sem,Qa];refine KW hb Ut rfl ?_ (Qeu H) rfl λd h hR=>?_
   ·simp only[go_sem]
   obtain⟨rfl,rfl⟩:=hR;refine Qf hb ?_;simp only[go_sem];exact JU.done Za hx (.inl ⟨rfl,by rw[<- Fa];simp[sorted]⟩)
  ·have Qe:=Qc ho;refine Qf hb ?_;simp only[go_sem,Qa];refine KW hb Ut rfl ?_ (Qet ho (QD _) hr UO) rfl λd h hR=>?_
   ·simp only[go_sem]
   obtain⟨rfl,rfl⟩:=hR;refine Qf hb ?_;simp only[go_sem];refine JU.done Za (hx.set ZE.1 _) ?_;have gC:((L.filter gk).map (·.iD)).length=out.length:=by rw[<- Fa,Fe]
   refine .inr ⟨lo,g,off,j8 off row (sorted out),?_,ZE,?_,?_⟩
   ·rw[gC]
   ·rw[gC];exact Qv Qe
   ·rw[Fa];intro i hi;unfold j8;rw[Qg (by omega),show off+i - off=i by omega];rfl
 ·obtain⟨x,hfx,yO,Zk⟩:=T.vk he;rw[yO];have Lb:Qp L gk e.k=gk x:=by simp[Qp,hfx]
  obtain⟨H',Fh⟩:∃H',H'=H.set F.length (Xs m c c (seen++[e.b])):=⟨_,rfl⟩;have wa:KZ F H':=by rw[Fh];exact hx.set (QD _) _
  have LJ:H'[F.length]? = some (Xs m c c (seen++[e.b])):=by rw[Fh];exact Qv Qs9
  have hs':JU F.length H' d out:=by
   rcases hs with hs|⟨lo,g,off,row,h1,h2,h3,h4⟩
   ·exact .inl hs
   ·refine .inr ⟨lo,g,off,row,h1,h2,?_,h4⟩;rw[Fh,Qi (by rintro rfl;rw[WV]at h3;cases h3)];exact h3
  have CV:=wa.get hm;have UP:=Qc CV;have gD:=Qc LJ;have Z1:=Qer (λe=>Qp L gk e.k) hB.nodup he EG;have Yx:=Qej he EG;rw[<- Fh];refine Qf hb ?_;simp only[go_sem,Qa];refine Qf hb ?_;simp only[go_sem,Qa];refine QsU (li:=F.length) (l:=m) (c:=c) (es:=es) (seen:=seen) (q:=.i64) (kd:=.NQ) (e:=e) rfl LJ rfl CV he rfl ?_;rw[yO];refine Qf hb ?_;simp only[go_sem,Qa];refine Qf hb ?_;simp only[go_sem,Qa];refine ZT hb hf Vd ?_ (hg _ x ?_) rfl λd2 hR=>?_
  ·simp only[go_sem];exact Bz _
  ·rw[<- hF];exact wa.app _
  subst hR;refine Qf hb ?_;have UO:out.length<=es.length:=by
   have h1:=hp.length_eq;rw[J6]at h1;rw[h1];exact Yo _ _
  have QDW:=T.len;simp only[Lb]at Z1;cases hgx:gk x
  ·simp only[hgx,Yn,kQ]at Z1;simp only[go_sem,Qa];exact⟨wo es (seen++[e.b]),⟨[(0,.ptr t 0 0 0),(1,so),(5,d),(14,.mref F.length 0)],_⟩,by omega,QI.frame (by simp only[go_sem]),⟨⟨seen++[e.b],d,out,_,rfl,wa.app _,hs'.app _,hp.trans (Z1.map _).symm,by rw[QC gD];exact LJ,rfl⟩⟩⟩
  ·simp only[hgx,K6]at Z1;have UQ:(out++[e.k]).Perm ((es.filter λx=>(seen++[e.b]).contains x.b&&Qp L gk x.k).map (·.k)):=by
    refine(List.perm_append_comm.trans ?_).trans (Z1.map _).symm;exact hp.cons e.k
   rcases hs' with ⟨rfl,rfl⟩|⟨lo,g,off,row,rfl,ZE,ho,hr⟩
   ·simp only[go_sem,Qa];refine⟨wo es (seen++[e.b]),⟨[(0,.ptr t 0 0 0),(1,so),(5,.ref (H'.length+2) 0 0 1),(14,.mref F.length 0)],_⟩,by omega,QI.frame (by simp only[go_sem]),⟨⟨seen++[e.b],_,[e.k],_,rfl,wa.app _,?_,UQ,by rw[QC gD];exact LJ,rfl⟩⟩⟩;have:=wa.len;refine .inr ⟨H'.length+2,0,0,_,rfl,by omega,by rw[KX rfl];rfl,λi hi=>?_⟩;have:i=0:=by simp at hi;omega
    subst this;rfl
   ·have Qe:=Qc ho;have QB:F.length≠lo:=by rintro rfl;rw[LJ]at ho;cases ho
    simp only[go_sem,Qa,ho,Qe];refine⟨by omega,wo es (seen++[e.b]),⟨[(0,.ptr t 0 0 0),(1,so),(5,.ref lo (g+1) 0 (out.length+1)),(14,.mref F.length 0)],_⟩,by omega,QI.frame (by simp only[go_sem]),⟨⟨seen++[e.b],_,out++[e.k],_,rfl,?_,?_,UQ,?_,rfl⟩⟩⟩
    ·exact(wa.set ZE.1 _).app _
    ·refine .inr ⟨lo,g+1,0,_,by simp,by omega,?_,G7 hr⟩;rw[QC (by simpa using Qe),Qv Qe];simp[Qb]
    ·rw[QC (by simpa using gD),Qi (Q3 QB)];exact LJ
end
def WK{h t:List Ob}{l:Nat}{o:Ob}(e:h[l]? = some o):((h++t).map Ob.ro)[l]? = some o.ro:=ZM (by rw[QC (Qc e)];exact e)
def JU.le{n n'}{H}{d}{L}(x:JU n H d L)(hn:n'<=n):JU n' H d L:=by
 rcases x with x|⟨lo,gg,off,row,h1,h2,h3,h4⟩
 ·exact .inl x
 ·exact .inr ⟨lo,gg,off,row,h1,by omega,h3,h4⟩
def Qtb(h:List Ob)(lb)(id)(x:Qn)(hl:(h.map Ob.ro)[lb]? = some ⟨.Wd,0,1,1,λ_=>[Qb id]⟩):Zg prog 237 h [Xd x,.ptr lb 0 0 0] (λd=>d=QY (x.parent==id)):=by
 refine Zt Qh 200 func237 rfl ntmps237 results237 rfl λbase w pl F hF Za hb=>?_;rw[<- hF]at hl;have Fi:=Qc hl;simp only[go_sem,Qa,hl,Fi];exact⟨_,rfl⟩
def Wh(L:List Qn)(id:Int):List Int:=(L.filter λx=>x.parent==id).map (·.iD)
section
variable (h:List Ob)(t m c:Nat){es:List QR}{L:List Qn}(T:K7 es L)(hlen:L.length<1000000)
 (ht:(h.map Ob.ro)[t]? = some ⟨.Wd,0,1,1,λ_=>[.mref m 0]⟩) (hm:(h.map Ob.ro)[m]? = some (QM .i64 c es).ro)
include T ht hm hlen
theorem gF(id):Wf prog 191 h [.ptr t 0 0 0,Qb id] (λd g=>JU h.length (h++g) d (Wh L id)):=by
 refine Ai Qh 200 func191 rfl ntmps191 results191 rfl λbase w pl F hF Za hb=>?_;rw[<- hF]at ht hm;have Zi:=Qc ht;have QK:=Qc hm;simp only[go_sem,Qa,ht,Zi,hm,QK];have hx:KZ F (F++([⟨.one,0,1,1,λ_=>[Qb id]⟩]:List Ob)):=⟨_,rfl⟩;have hT:OS ((F++([⟨.one,0,1,1,λ_=>[Qb id]⟩]:List Ob)).map Ob.ro) 237 0 [.ptr F.length 0 0 0] (λx=>x.parent==id):=λh' x wa=>Qtb h' F.length id x (by
  have e:=wa.get (l:=F.length) (o:=⟨.Wd,0,1,1,λ_=>[Qb id]⟩) (by rw[vS,Ko (by simp)];rfl);exact ZM e)
 refine E9 hb Us rfl ?_ (UN _ t m c T hlen (ZM (hx.get ht)) (G8 (hx.get hm)) (.clo 237 0 [.ptr F.length 0 0 0]) 237 0 [.ptr F.length 0 0 0] Qsf rfl _ hT) rfl λd g hs=>?_
 ·simp only[go_sem]
 refine Qf hb ?_;simp only[go_sem,Qa];have Jk:=hs.le (n':=F.length) (by simp);rw[Wb]at Jk;exact JU.done Za ⟨_,rfl⟩ Jk
def Ao(L:List Qn)(x:Qn)(dp:Nat):Int:=
 if KY x≠0 then KY x
 else if (Qy L x.iD).isSome then 8
 else if L.length=64 then 5
 else if (x.parent≠0/\(Qy L x.parent).isNone)\/((Qy L x.parent).getD default).leaf=true then 23
 else if 1<QZ x.ls/\XJ L x.parent=false then 29
 else if dp=16 then 25
 else 0
end
section
variable (h:List Ob)(t m c:Nat){es:List QR}{L:List Qn}(T:K7 es L)(hlen:L.length<1000000)
 (ht:h[t]? = some ⟨.one,0,1,1,λ_=>[.mref m 0]⟩) (hm:h[m]? = some (QM .i64 c es))
include T ht hm hlen
structure Wi (h:List Ob) (t m:Nat) (L:List Qn) (h':List Ob):Prop where
 ex:∃c es,h'[t]? = some ⟨.one,0,1,1,λ_=>[.mref m 0]⟩/\h'[m]? = some (QM .i64 c es)/\K7 es L
 len:h.length<=h'.length
 Kj:∀l,l<h.length->l≠m->h'[l]? = h[l]?
omit T hlen in
theorem Wi.same(T:K7 es L)(g):Wi h t m L (h++g):=
 ⟨⟨c,es,by rw[QC (Qc ht)];exact ht,by rw[QC (Qc hm)];exact hm,T⟩,by simp,λl hl _=>QC hl⟩
omit hlen in
theorem Wi.QS(x:Qn)(g):Wi h t m (VM L x) (h.set m (JI .i64 c es x.iD (Xd x))++g):=by
 obtain⟨c',es',e,T'⟩:=Qs2 T .i64 c x;have QK:=Qc hm;have Zi:=Qc ht;have QB:m≠t:=by rintro rfl;rw[ht]at hm;cases hm
 rw[e];refine⟨⟨c',es',?_,?_,T'⟩,by simp,λl hl JA=>?_⟩
 ·rw[QC (by simpa using Zi),Qi QB];exact ht
 ·rw[QC (by simpa using QK),Qv QK]
 ·rw[QC (by simpa using hl),Qi (Q3 JA)]
omit hlen in
theorem Qtc(x:Qn)(N)(hN:N<1000000)(hE:Ends L N x.parent):MFn prog 154 h [.ptr t 0 0 0,Xd x] (λd h'=>d=Qb (Ao L x (Jq L N x.parent).length)/\Wi h t m (if Ao L x (Jq L N x.parent).length=0 then VM L x else L) h'):=by
 have hk:=T.look x.iD;have ZW:=T.look x.parent;have XD:=T.len;have Zi:=Qc ht;have QK:=Qc hm;obtain⟨E,js⟩:∃E,E=Ao L x (Jq L N x.parent).length:=⟨_,rfl⟩;rw[<- js];have bad:∀g:List Ob,E≠0->Wi h t m (if E=0 then VM L x else L) (h++g):=λg QB=>by rw[Qd QB];exact Wi.same h t m c ht hm T g
 refine QU Qh 200 func154 rfl ntmps154 results154 rfl λbase w pl hb=>?_;have Zi:=Qc ht;have QK:=Qc hm;simp only[go_sem,Qa,ht,Zi,hm,QK];refine ZA hb QdS rfl ?_ (Qeh x) (Qo.flat rfl) rfl λd h hR=>?_
 ·simp only[go_sem,Qa]
 obtain⟨rfl,rfl⟩:=hR;refine Qf hb ?_;simp only[go_sem,Qa];by_cases h0:KY x=0;case neg=>
  have e:E=KY x:=by rw[js,Ao,Qg h0]
  simp only[go_sem,Qa,Xt h0,bne];exact⟨by rw[e],bad _ (by rw[e];exact h0)⟩
 simp only[go_sem,Qa,zl h0,bne];cases BA:Qy L x.iD with
 | some y=>
  have e:E=8:=by rw[js,Ao,Qd (by simpa using h0),Qg (by simp[BA])]
  rw[BA,Kt]at hk;refine J8 Qh hb 200 mixed [(0,true),(1,true),(2,true),(3,true),(4,true),(5,true),(6,true),(7,true),(8,true),(9,true),(10,false),(11,false),(12,true)] (by kernel_rfl) (by kernel_rfl) ?_;simp only[go_sem,Qa,ht,hm,Zi,QK,hk];cases qG:Qy L x.parent with
  | none=>
   rw[qG,YU]at ZW;refine J8 Qh hb 200 mixed [(0,true),(1,true),(2,true),(3,true),(4,true),(5,true),(6,true),(7,true),(8,true),(9,true),(10,false),(11,false),(12,true)] (by kernel_rfl) (by kernel_rfl) ?_;simp only[go_sem,Qa,ht,hm,Zi,QK,ZW];exact⟨by rw[e],bad _ (by rw[e];decide)⟩
  | some z=>
   rw[qG,Kt]at ZW;refine J8 Qh hb 200 mixed [(0,true),(1,true),(2,true),(3,true),(4,true),(5,true),(6,true),(7,true),(8,true),(9,true),(10,false),(11,false),(12,true)] (by kernel_rfl) (by kernel_rfl) ?_;simp only[go_sem,Qa,ht,hm,Zi,QK,ZW];exact⟨by rw[e],bad _ (by rw[e];decide)⟩
 | none=>
  rw[BA,YU]at hk;refine J8 Qh hb 200 mixed [(0,true),(1,true),(2,true),(3,true),(4,true),(5,true),(6,true),(7,true),(8,true),(9,true),(10,false),(11,false),(12,true)] (by kernel_rfl) (by kernel_rfl) ?_;simp only[go_sem,Qa,ht,hm,Zi,QK,hk];have a1:E=(if L.length=64 then 5 else if (x.parent≠0/\(Qy L x.parent).isNone)\/((Qy L x.parent).getD default).leaf=true then 23 else if 1<QZ x.ls/\XJ L x.parent=false then 29 else if (Jq L N x.parent).length=16 then 25 else 0):=by
   rw[js,Ao,Qd (by simpa using h0),Qd (by simp[BA])]
  by_cases Ha:L.length=64
  ·have e:E=5:=by rw[a1,Qg Ha]
   have CW:((es.length:Int)==64)=true:=by simp;omega
   cases qG:Qy L x.parent with
   | none=>
    rw[qG,YU]at ZW;refine J8 Qh hb 200 mixed [(0,true),(1,true),(2,true),(3,true),(4,true),(5,true),(6,true),(7,true),(8,true),(9,true),(10,false),(11,false),(12,true)] (by kernel_rfl) (by kernel_rfl) ?_;simp only[go_sem,Qa,ht,hm,Zi,QK,ZW,CW];exact⟨by rw[e],bad _ (by rw[e];decide)⟩
   | some z=>
    rw[qG,Kt]at ZW;refine J8 Qh hb 200 mixed [(0,true),(1,true),(2,true),(3,true),(4,true),(5,true),(6,true),(7,true),(8,true),(9,true),(10,false),(11,false),(12,true)] (by kernel_rfl) (by kernel_rfl) ?_;simp only[go_sem,Qa,ht,hm,Zi,QK,ZW,CW];exact⟨by rw[e],bad _ (by rw[e];decide)⟩
  rw[Qd Ha]at a1;have CW:((es.length:Int)==64)=false:=by simp;omega
  cases qG:Qy L x.parent with
  | none=>
   rw[qG,YU]at ZW;by_cases vj:x.parent=0
   ·refine J8 Qh hb 200 mixed [(0,true),(1,true),(2,true),(3,true),(4,true),(5,true),(6,true),(7,true),(8,true),(9,true),(10,false),(11,false),(12,true)] (by kernel_rfl) (by kernel_rfl) ?_;simp only[go_sem,Qa,ht,hm,Zi,QK,ZW,CW,zl vj,bne];have a2:E=(if 1<QZ x.ls/\XJ L x.parent=false then 29 else if (Jq L N x.parent).length=16 then 25 else 0):=by rw[a1,Qd (by rw[qG];rintro (⟨h1,_⟩|h1);exact h1 vj;cases h1)]
    refine ZA hb j5 rfl ?_ (j6 x) (Qo.flat rfl) rfl λd h hR=>?_
    ·simp only[go_sem,Qa]
    obtain⟨rfl,rfl⟩:=hR;refine Qf hb ?_;simp only[go_sem,Qa];cases ZG:decide (1<QZ x.ls)
    ·simp only[go_sem,Qa,Go.undef];refine ZT hb LB rfl ?_ (LI _ t m c T (WK ht) (WK hm) x.parent N hN hE) rfl λd hR=>?_
     ·simp only[go_sem,Qa]
     subst hR;refine Qf hb ?_;simp only[go_sem,Qa];by_cases hd:(Jq L N x.parent).length=16
     ·have e:E=25:=by rw[a2,Qd (by simp at ZG;omega),Qg hd]
      have Kp:(((Jq L N x.parent).length:Int)==16)=true:=by simp;omega
      simp only[go_sem,Qa,Kp];exact⟨by rw[e],bad _ (by rw[e];decide)⟩
     ·have e:E=0:=by rw[a2,Qd (by simp at ZG;omega),Qd hd]
      have Kp:(((Jq L N x.parent).length:Int)==16)=false:=by simp;omega
      simp only[go_sem,Qa,Kp];refine J8 Qh hb 200 mixed [(0,true),(1,true),(2,true),(3,true),(4,true),(5,true),(6,true),(7,false)] (by kernel_rfl) (by kernel_rfl) ?_;simp only[go_sem,Qa,ht,hm,Zi,QK];rw[Qg e];exact⟨by rw[e],Wi.QS h t m c T ht hm x _⟩
    ·simp only[go_sem,Qa,Go.undef];refine ZT hb Uz rfl ?_ (UM _ t m c T (WK ht) (WK hm) x.parent) rfl λd hR=>?_
     ·simp only[go_sem,Qa]
     subst hR;refine Qf hb ?_;simp only[go_sem,Qa];cases Jk:XJ L x.parent
     ·have e:E=29:=by rw[a2,Qg ⟨by simpa using ZG,Jk⟩]
      simp only[go_sem,Qa,Go.undef];exact⟨by rw[e],bad _ (by rw[e];decide)⟩
     ·simp only[go_sem,Qa,Go.undef];refine ZT hb LB rfl ?_ (LI _ t m c T (WK ht) (WK hm) x.parent N hN hE) rfl λd hR=>?_
      ·simp only[go_sem,Qa]
      subst hR;refine Qf hb ?_;simp only[go_sem,Qa];by_cases hd:(Jq L N x.parent).length=16
      ·have e:E=25:=by rw[a2,Qd (by rw[Jk];simp),Qg hd]
       have Kp:(((Jq L N x.parent).length:Int)==16)=true:=by simp;omega
       simp only[go_sem,Qa,Kp];exact⟨by rw[e],bad _ (by rw[e];decide)⟩
      ·have e:E=0:=by rw[a2,Qd (by rw[Jk];simp),Qd hd]
       have Kp:(((Jq L N x.parent).length:Int)==16)=false:=by simp;omega
       simp only[go_sem,Qa,Kp];refine J8 Qh hb 200 mixed [(0,true),(1,true),(2,true),(3,true),(4,true),(5,true),(6,true),(7,false)] (by kernel_rfl) (by kernel_rfl) ?_;simp only[go_sem,Qa,ht,hm,Zi,QK];rw[Qg e];exact⟨by rw[e],Wi.QS h t m c T ht hm x _⟩
   ·have e:E=23:=by rw[a1,Qg (.inl ⟨vj,by simp[qG]⟩)]
    refine J8 Qh hb 200 mixed [(0,true),(1,true),(2,true),(3,true),(4,true),(5,true),(6,true),(7,true),(8,true),(9,true),(10,false),(11,false),(12,true)] (by kernel_rfl) (by kernel_rfl) ?_;simp only[go_sem,Qa,ht,hm,Zi,QK,ZW,CW,Xt vj,bne];exact⟨by rw[e],bad _ (by rw[e];decide)⟩
  | some z=>
   rw[qG,Kt]at ZW;cases hz:z.leaf with
   | true=>
    have e:E=23:=by rw[a1,Qg (.inr (by simp[qG,hz]))]
    by_cases vj:x.parent=0
    ·refine J8 Qh hb 200 mixed [(0,true),(1,true),(2,true),(3,true),(4,true),(5,true),(6,true),(7,true),(8,true),(9,true),(10,false),(11,false),(12,true)] (by kernel_rfl) (by kernel_rfl) ?_;simp only[go_sem,Qa,ht,hm,Zi,QK,ZW,CW,zl vj,bne,hz];exact⟨by rw[e],bad _ (by rw[e];decide)⟩
    ·refine J8 Qh hb 200 mixed [(0,true),(1,true),(2,true),(3,true),(4,true),(5,true),(6,true),(7,true),(8,true),(9,true),(10,false),(11,false),(12,true)] (by kernel_rfl) (by kernel_rfl) ?_;simp only[go_sem,Qa,ht,hm,Zi,QK,ZW,CW,Xt vj,bne,hz];exact⟨by rw[e],bad _ (by rw[e];decide)⟩
   | false=>
    by_cases vj:x.parent=0
    ·refine J8 Qh hb 200 mixed [(0,true),(1,true),(2,true),(3,true),(4,true),(5,true),(6,true),(7,true),(8,true),(9,true),(10,false),(11,false),(12,true)] (by kernel_rfl) (by kernel_rfl) ?_;simp only[go_sem,Qa,ht,hm,Zi,QK,ZW,CW,zl vj,bne,hz];have a2:E=(if 1<QZ x.ls/\XJ L x.parent=false then 29 else if (Jq L N x.parent).length=16 then 25 else 0):=by rw[a1,Qd (by rw[qG];rintro (⟨h1,_⟩|h1);exact h1 vj;exact absurd h1 (by simp[hz]))]
     refine ZA hb j5 rfl ?_ (j6 x) (Qo.flat rfl) rfl λd h hR=>?_
     ·simp only[go_sem,Qa]
     obtain⟨rfl,rfl⟩:=hR;refine Qf hb ?_;simp only[go_sem,Qa];cases ZG:decide (1<QZ x.ls)
     ·simp only[go_sem,Qa,Go.undef];refine ZT hb LB rfl ?_ (LI _ t m c T (WK ht) (WK hm) x.parent N hN hE) rfl λd hR=>?_
      ·simp only[go_sem,Qa]
      subst hR;refine Qf hb ?_;simp only[go_sem,Qa];by_cases hd:(Jq L N x.parent).length=16
      ·have e:E=25:=by rw[a2,Qd (by simp at ZG;omega),Qg hd]
       have Kp:(((Jq L N x.parent).length:Int)==16)=true:=by simp;omega
       simp only[go_sem,Qa,Kp];exact⟨by rw[e],bad _ (by rw[e];decide)⟩
      ·have e:E=0:=by rw[a2,Qd (by simp at ZG;omega),Qd hd]
       have Kp:(((Jq L N x.parent).length:Int)==16)=false:=by simp;omega
       simp only[go_sem,Qa,Kp];refine J8 Qh hb 200 mixed [(0,true),(1,true),(2,true),(3,true),(4,true),(5,true),(6,true),(7,false)] (by kernel_rfl) (by kernel_rfl) ?_;simp only[go_sem,Qa,ht,hm,Zi,QK];rw[Qg e];exact⟨by rw[e],Wi.QS h t m c T ht hm x _⟩
     ·simp only[go_sem,Qa,Go.undef];refine ZT hb Uz rfl ?_ (UM _ t m c T (WK ht) (WK hm) x.parent) rfl λd hR=>?_
      ·simp only[go_sem,Qa]
      subst hR;refine Qf hb ?_;simp only[go_sem,Qa];cases Jk:XJ L x.parent
      ·have e:E=29:=by rw[a2,Qg ⟨by simpa using ZG,Jk⟩]
       simp only[go_sem,Qa,Go.undef];exact⟨by rw[e],bad _ (by rw[e];decide)⟩
      ·simp only[go_sem,Qa,Go.undef];refine ZT hb LB rfl ?_ (LI _ t m c T (WK ht) (WK hm) x.parent N hN hE) rfl λd hR=>?_
       ·simp only[go_sem,Qa]
       subst hR;refine Qf hb ?_;simp only[go_sem,Qa];by_cases hd:(Jq L N x.parent).length=16
       ·have e:E=25:=by rw[a2,Qd (by rw[Jk];simp),Qg hd]
        have Kp:(((Jq L N x.parent).length:Int)==16)=true:=by simp;omega
        simp only[go_sem,Qa,Kp];exact⟨by rw[e],bad _ (by rw[e];decide)⟩
       ·have e:E=0:=by rw[a2,Qd (by rw[Jk];simp),Qd hd]
        have Kp:(((Jq L N x.parent).length:Int)==16)=false:=by simp;omega
        simp only[go_sem,Qa,Kp];refine J8 Qh hb 200 mixed [(0,true),(1,true),(2,true),(3,true),(4,true),(5,true),(6,true),(7,false)] (by kernel_rfl) (by kernel_rfl) ?_;simp only[go_sem,Qa,ht,hm,Zi,QK];rw[Qg e];exact⟨by rw[e],Wi.QS h t m c T ht hm x _⟩
    ·refine J8 Qh hb 200 mixed [(0,true),(1,true),(2,true),(3,true),(4,true),(5,true),(6,true),(7,true),(8,true),(9,true),(10,false),(11,false),(12,true)] (by kernel_rfl) (by kernel_rfl) ?_;simp only[go_sem,Qa,ht,hm,Zi,QK,ZW,CW,Xt vj,bne,hz];have a2:E=(if 1<QZ x.ls/\XJ L x.parent=false then 29 else if (Jq L N x.parent).length=16 then 25 else 0):=by rw[a1,Qd (by simp[qG,hz])]
     refine ZA hb j5 rfl ?_ (j6 x) (Qo.flat rfl) rfl λd h hR=>?_
     ·simp only[go_sem,Qa]
     obtain⟨rfl,rfl⟩:=hR;refine Qf hb ?_;simp only[go_sem,Qa];cases ZG:decide (1<QZ x.ls)
     ·simp only[go_sem,Qa,Go.undef];refine ZT hb LB rfl ?_ (LI _ t m c T (WK ht) (WK hm) x.parent N hN hE) rfl λd hR=>?_
      ·simp only[go_sem,Qa]
      subst hR;refine Qf hb ?_;simp only[go_sem,Qa];by_cases hd:(Jq L N x.parent).length=16
      ·have e:E=25:=by rw[a2,Qd (by simp at ZG;omega),Qg hd]
       have Kp:(((Jq L N x.parent).length:Int)==16)=true:=by simp;omega
       simp only[go_sem,Qa,Kp];exact⟨by rw[e],bad _ (by rw[e];decide)⟩
      ·have e:E=0:=by rw[a2,Qd (by simp at ZG;omega),Qd hd]
       have Kp:(((Jq L N x.parent).length:Int)==16)=false:=by simp;omega
       simp only[go_sem,Qa,Kp];refine J8 Qh hb 200 mixed [(0,true),(1,true),(2,true),(3,true),(4,true),(5,true),(6,true),(7,false)] (by kernel_rfl) (by kernel_rfl) ?_;simp only[go_sem,Qa,ht,hm,Zi,QK];rw[Qg e];exact⟨by rw[e],Wi.QS h t m c T ht hm x _⟩
     ·simp only[go_sem,Qa,Go.undef];refine ZT hb Uz rfl ?_ (UM _ t m c T (WK ht) (WK hm) x.parent) rfl λd hR=>?_
      ·simp only[go_sem,Qa]
      subst hR;refine Qf hb ?_;simp only[go_sem,Qa];cases Jk:XJ L x.parent
      ·have e:E=29:=by rw[a2,Qg ⟨by simpa using ZG,Jk⟩]
       simp only[go_sem,Qa,Go.undef];exact⟨by rw[e],bad _ (by rw[e];decide)⟩
      ·simp only[go_sem,Qa,Go.undef];refine ZT hb LB rfl ?_ (LI _ t m c T (WK ht) (WK hm) x.parent N hN hE) rfl λd hR=>?_
       ·simp only[go_sem,Qa]
       subst hR;refine Qf hb ?_;simp only[go_sem,Qa];by_cases hd:(Jq L N x.parent).length=16
       ·have e:E=25:=by rw[a2,Qd (by rw[Jk];simp),Qg hd]
        have Kp:(((Jq L N x.parent).length:Int)==16)=true:=by simp;omega
        simp only[go_sem,Qa,Kp];exact⟨by rw[e],bad _ (by rw[e];decide)⟩
       ·have e:E=0:=by rw[a2,Qd (by rw[Jk];simp),Qd hd]
        have Kp:(((Jq L N x.parent).length:Int)==16)=false:=by simp;omega
        simp only[go_sem,Qa,Kp];refine J8 Qh hb 200 mixed [(0,true),(1,true),(2,true),(3,true),(4,true),(5,true),(6,true),(7,false)] (by kernel_rfl) (by kernel_rfl) ?_;simp only[go_sem,Qa,ht,hm,Zi,QK];rw[Qg e];exact⟨by rw[e],Wi.QS h t m c T ht hm x _⟩
end
def Ap(L:List Qn)(id:Int):Int:=if (Qy L id).isNone then 6 else if Wh L id≠[] then 23 else 0
section
variable (h:List Ob)(t m c:Nat){es:List QR}{L:List Qn}(T:K7 es L)(hlen:L.length<1000000)
 (ht:h[t]? = some ⟨.one,0,1,1,λ_=>[.mref m 0]⟩) (hm:h[m]? = some (QM .i64 c es))
include T ht hm hlen
omit hlen T in
theorem Wi.put{c'}{es'}{L'}(T':K7 es' L')(g):Wi h t m L' (h.set m (QM .i64 c' es')++g):=by
 have QK:=Qc hm;have Zi:=Qc ht;have QB:m≠t:=by rintro rfl;rw[ht]at hm;cases hm
 refine⟨⟨c',es',?_,?_,T'⟩,by simp,λl hl JA=>?_⟩
 ·rw[QC (by simpa using Zi),Qi QB];exact ht
 ·rw[QC (by simpa using QK),Qv QK]
 ·rw[QC (by simpa using hl),Qi (Q3 JA)]
theorem Qtd(id):MFn prog 157 h [.ptr t 0 0 0,Qb id] (λd h'=>d=Qb (Ap L id)/\Wi h t m (if Ap L id=0 then WJ L id else L) h'):=by
 have hk:=T.look id;have Zi:=Qc ht;have QK:=Qc hm;obtain⟨E,js⟩:∃E,E=Ap L id:=⟨_,rfl⟩;rw[<- js];have bad:∀g:List Ob,E≠0->Wi h t m (if E=0 then WJ L id else L) (h++g):=λg QB=>by rw[Qd QB];exact Wi.same h t m c ht hm T g
 cases hf:Qy L id with
 | none=>
  have e:E=6:=by rw[js,Ap,Qg (by simp[hf])]
  rw[hf,YU]at hk;refine QU Qh 200 func157 rfl ntmps157 results157 rfl λbase w pl hb=>?_;have Zi:=Qc ht;have QK:=Qc hm;simp only[go_sem,Qa,ht,Zi,hm,QK,hk];exact⟨by rw[e],bad _ (by rw[e];decide)⟩
 | some x=>
  rw[hf,Kt]at hk;have a1:E=if Wh L id≠[] then 23 else 0:=by rw[js,Ap,Qd (by simp[hf])]
  refine QU Qh 200 func157 rfl ntmps157 results157 rfl λbase w pl hb=>?_;have Zi:=Qc ht;have QK:=Qc hm;simp only[go_sem,Qa,ht,Zi,hm,QK,hk];refine E9 hb fR rfl ?_ (gF _ t m c T hlen (WK ht) (WK hm) id) rfl λd g hs=>?_
  ·simp only[go_sem]
  rcases hs with ⟨rfl,h0⟩|⟨lo,gn,off,row,rfl,ZE,ho,hr⟩
  ·have e:E=0:=by rw[a1,Qd (by simp[h0])]
   refine Qf hb ?_;simp only[go_sem,Qa,ht,hm,Zi,QK];rw[Qg e];exact⟨by rw[e],Wi.put h t m c ht hm (Qen T id) _⟩
  ·have Qe:=Qc ho;refine Qf hb ?_;by_cases h0:Wh L id=[]
   ·have e:E=0:=by rw[a1,Qd (by simp[h0])]
    simp only[go_sem,Qa,ht,hm,Zi,QK,ho,Qe,h0];rw[Qg e];exact⟨by rw[e],Wi.put h t m c ht hm (Qen T id) _⟩
   ·have e:E=23:=by rw[a1,Qg h0]
    have yR:0<(Wh L id).length:=QkI.2 h0;have XK:(0:Int)<((Wh L id).length:Int):=by omega
    simp only[go_sem,Qa,ht,hm,Zi,QK,ho,Qe,XK,Q7 XK];exact⟨by rw[e],bad _ (by rw[e];decide)⟩
end
def gG(h:List Ob):(h.map Ob.ro).map Ob.ro=h.map Ob.ro:=by rw[Ef];exact Sk λo _=>ro_ro o
def Qex(F:List Ob)(f nf:Nat)(Qz:List D)(g:Int->Bool):Prop:=∀(h:List Ob) (n:Int),KZ F h->Zg prog f h (Jj nf Qz [Qb n]) (λd=>d=QY (g n))
def vm(g:Int->Bool)(l:List Int):Int:=match l.findIdx? g with
 | some i=>i
 | none=>-1
def gH{g}{l:List Int}{k}(hk:k<l.length)(h:∀i,i<k->g (l.getD i 0)=false)(hg:g (l.getD k 0)=true):vm g l=k:=by
 have e:l.findIdx? g=some k:=by
  rw[Ec];refine⟨hk,by simpa[Q8,hk] using hg,λi hi=>?_⟩;have:=h i hi;simpa[Q8,show i<l.length by omega] using this
 rw[vm,e]
def gI{g}{l:List Int}(h:∀i,i<l.length->g (l.getD i 0)=false):vm g l=-1:=by
 have e:l.findIdx? g=none:=by
  rw[Ge];intro x hx;obtain⟨i,hi,rfl⟩:=yE hx;have:=h i hi;simpa[Q8,hi] using this
 rw[vm,e]
section
variable (h:List Ob)(l:List Int)(lo gn off:Nat)(row:Nat->List D)(hlen:l.length<1000000)(ho:(h.map Ob.ro)[lo]? = some ⟨.xm,gn,1,off+l.length,row⟩)(hr:∀i,i<l.length->row (off+i)=[Qb (l.getD i 0)])
include hlen ho hr
theorem Qte(so:D)(f nf:Nat)(Qz:List D)(hf:Qq prog f)(Vd:J4 so=some (f,nf,Qz))(gk:Int->Bool)(hg:Qex (h.map Ob.ro) f nf Qz gk):
  Zg prog 125 h [.ref lo gn off l.length,so] (λd=>d=Qb (vm gk l)):=by
 refine Zt Qh 200 func125 rfl ntmps125 results125 rfl λbase w pl F hF Za hb=>?_;rw[<- hF]at ho;have Qe:=Qc ho;simp only[go_sem,Qa,ho,Qe];refine ZZ (λk s=>(∀i,i<k->gk (l.getD i 0)=false)/\s=⟨[(0,.ref lo gn off l.length),(1,so),(7,Qb l.length),(8,Qb k)],F⟩) l.length (QI.frame (by simp only[go_sem])) ⟨λi hi=>absurd hi (by omega),rfl⟩ ?_;rintro k s hk ⟨hn,rfl⟩;refine Qf hb ?_;simp only[go_sem,Qa];have Qe:=Qc ho;have Zq:=Vp (show k<4611686018427387904 by omega);first|refine Ad hk (λQs=>?_) (λQs=>?_)|refine Ae hk (λQs=>?_) (λQs=>?_)
 ·have vn:=hr k Qs;have qH:off+k<off+l.length:=by omega
  simp only[go_sem,Qa,ho,Qe,Qs,vn,qH];refine ZT hb hf Vd ?_ (hg F (l.getD k 0) (by rw[<- hF];exact KZ.refl F)) rfl λd2 hR=>?_
  ·simp only[go_sem];exact Bz _
  subst hR;refine Qf hb ?_;cases zn:gk (l.getD k 0)
  ·simp only[go_sem,Qa];refine⟨Qs,_,QI.frame (by simp only[go_sem,Zq]),λi hi=>?_,rfl⟩;by_cases h1:i<k
   ·exact hn i h1
   ·have:i=k:=by omega
    subst this;exact zn
  ·rw[gH Qs hn zn];simp only[go_sem,Qa];exact⟨[],(Zd F).symm⟩
 ·have Qs:k=l.length:=by omega
  subst Qs;simp only[go_sem,Gj];rw[gI hn];refine Qf hb ?_;simp only[go_sem,Qa];exact⟨[],(Zd F).symm⟩
theorem Qtf(so:D)(f nf:Nat)(Qz:List D)(hf:Qq prog f)(Vd:J4 so=some (f,nf,Qz))(gk:Int->Bool)(hg:Qex (h.map Ob.ro) f nf Qz gk):
  Zg prog 76 h [.ref lo gn off l.length,so] (λd=>d=QY (decide (0<=vm gk l))):=by
 refine Zt Qh 200 func76 rfl ntmps76 results76 rfl λbase w pl F hF Za hb=>?_;rw[<- hF]at ho;have Qe:=Qc ho;simp only[go_sem,Qa,ho,Qe];refine ZT hb OM rfl ?_ (Qte F l lo gn off row hlen (ZM ho) hr so f nf Qz hf Vd gk (λh' n hx=>?_)) rfl λd2 hR=>?_
 ·simp only[go_sem];exact G9 so
 ·rw[hF,gG]at hx;exact hg h' n hx
 subst hR;refine Qf hb ?_;simp only[go_sem,Qa];exact⟨[],(Zd F).symm⟩
end
def Qey(h)(so):Zg prog 125 h [.nil,so] (λd=>d=Qb (-1)):=by
 refine Zt Qh 200 func125 rfl ntmps125 results125 rfl λbase w pl F hF Za hb=>?_;simp only[go_sem,Qa];refine ZZ (λk s=>s=⟨[(7,Qb 0),(8,Qb 0)],F⟩) 0 (QI.frame (by simp only[go_sem])) rfl ?_;rintro k s hk rfl;refine Qf hb ?_;simp only[go_sem,Qa];refine Qf hb ?_;simp only[go_sem,Qa];exact⟨[],(Zd F).symm⟩
def Qtg(h)(so):Zg prog 76 h [.nil,so] (λd=>d=QY false):=by
 refine Zt Qh 200 func76 rfl ntmps76 results76 rfl λbase w pl F hF Za hb=>?_;simp only[go_sem,Qa];refine ZT hb OM rfl ?_ (Qey F so) rfl λd2 hR=>?_
 ·simp only[go_sem];exact G9 so
 subst hR;refine Qf hb ?_;simp only[go_sem,Qa];exact⟨[],(Zd F).symm⟩
def OT(g)(l:List Int):decide (0<=vm g l)=l.any g:=by
 unfold vm;cases h:l.findIdx? g with
 | some i=>
  have:=Ec.1 h;obtain⟨h1,h2,_⟩:=this;have e:l.any g=true:=Eb.2 ⟨_,qz h1,h2⟩;rw[e];simp
 | none=>
  have:=Ge.1 h;have e:l.any g=false:=by rw[List.any_eq_false];intro x hx;simp[this x hx]
  rw[e];decide
def vp(L:List Qn)(id:Int):Bool:=decide (1<QZ ((Qy L id).getD default).ls)
def Aq(L:List Qn)(x:Qn):Int:=
 if KY x≠0 then KY x
 else if (Qy L x.iD).isNone then 6
 else if x.parent≠((Qy L x.iD).getD default).parent\/x.leaf≠((Qy L x.iD).getD default).leaf then 1
 else if (1<QZ x.ls/\XJ L x.parent=false)\/(¬ 1<QZ x.ls/\(Wh L x.iD).any (vp L)=true) then 29
 else 0
section
variable (h:List Ob)(t m c tb:Nat){es:List QR}{L:List Qn}(T:K7 es L)
 (ht:(h.map Ob.ro)[t]? = some ⟨.Wd,0,1,1,λ_=>[.mref m 0]⟩) (hm:(h.map Ob.ro)[m]? = some (QM .i64 c es).ro)
 (Zo:(h.map Ob.ro)[tb]? = some ⟨.Wd,0,1,1,λ_=>[.ptr t 0 0 0]⟩)
include T ht hm Zo
theorem Qth(id):Zg prog 190 h [Qb id,.ptr tb 0 0 0] (λd=>d=QY (vp L id)):=by
 have hk:=T.look id;unfold vp;cases hf:Qy L id with
 | none=>
  rw[hf,YU]at hk;refine Zt Qh 200 func190 rfl ntmps190 results190 rfl λbase w pl F hF Za hb=>?_;rw[<- hF]at ht hm Zo;have Zi:=Qc ht;have QK:=Qc hm;have wv:=Qc Zo;simp only[go_sem,Qa,ht,Zi,hm,QK,Zo,wv,hk];refine ZA hb j5 rfl ?_ (j6 ⟨0,0,false,⟨0,0,0⟩,⟨0,0,0⟩,⟨0,0,0⟩,0,0⟩) (Qo.flat rfl) rfl λd h hR=>?_
  ·simp only[go_sem,Qa]
  obtain⟨rfl,rfl⟩:=hR;refine Qf hb ?_;simp only[go_sem,Qa];exact⟨[],(Zd F).symm,rfl⟩
 | some x=>
  rw[hf,Kt]at hk;refine Zt Qh 200 func190 rfl ntmps190 results190 rfl λbase w pl F hF Za hb=>?_;rw[<- hF]at ht hm Zo;have Zi:=Qc ht;have QK:=Qc hm;have wv:=Qc Zo;simp only[go_sem,Qa,ht,Zi,hm,QK,Zo,wv,hk];refine ZA hb j5 rfl ?_ (j6 x) (Qo.flat rfl) rfl λd h hR=>?_
  ·simp only[go_sem,Qa]
  obtain⟨rfl,rfl⟩:=hR;refine Qf hb ?_;simp only[go_sem,Qa];exact⟨[],by simp⟩
end
section
variable (h:List Ob)(t m c:Nat){es:List QR}{L:List Qn}(T:K7 es L)(hlen:L.length<1000000)
 (ht:h[t]? = some ⟨.one,0,1,1,λ_=>[.mref m 0]⟩) (hm:h[m]? = some (QM .i64 c es))
include T ht hm hlen
theorem Qti(x):MFn prog 155 h [.ptr t 0 0 0,Xd x] (λd h'=>d=Qb (Aq L x)/\Wi h t m (if Aq L x=0 then VM L x else L) h'):=by
 have hk:=T.look x.iD;have Zi:=Qc ht;have QK:=Qc hm;obtain⟨E,js⟩:∃E,E=Aq L x:=⟨_,rfl⟩;rw[<- js];have bad:∀g:List Ob,E≠0->Wi h t m (if E=0 then VM L x else L) (h++g):=λg QB=>by rw[Qd QB];exact Wi.same h t m c ht hm T g
 refine QU Qh 200 func155 rfl ntmps155 results155 rfl λbase w pl hb=>?_;have Zi:=Qc ht;have QK:=Qc hm;simp only[go_sem,Qa,ht,Zi,hm,QK];refine ZA hb QdS rfl ?_ (Qeh x) (Qo.flat rfl) rfl λd h hR=>?_
 ·simp only[go_sem,Qa]
 obtain⟨rfl,rfl⟩:=hR;refine Qf hb ?_;simp only[go_sem,Qa];by_cases h0:KY x=0;case neg=>
  have e:E=KY x:=by rw[js,Aq,Qg h0]
  simp only[go_sem,Qa,Xt h0,bne];exact⟨by rw[e],bad _ (by rw[e];exact h0)⟩
 simp only[go_sem,Qa,zl h0,bne];cases BA:Qy L x.iD with
 | none=>
  have e:E=6:=by rw[js,Aq,Qd (by simpa using h0),Qg (by simp[BA])]
  rw[BA,YU]at hk;refine J8 Qh hb 200 mixed [(0,true),(1,true),(2,true),(3,true),(4,true),(5,true),(6,true),(7,true),(8,true),(9,true),(10,false),(11,false),(12,true)] (by kernel_rfl) (by kernel_rfl) ?_;simp only[go_sem,Qa,ht,hm,Zi,QK,hk];exact⟨by rw[e],bad _ (by rw[e];decide)⟩
 | some y=>
  rw[BA,Kt]at hk;have a1:E=(if x.parent≠y.parent\/x.leaf≠y.leaf then 1 else if (1<QZ x.ls/\XJ L x.parent=false)\/(¬ 1<QZ x.ls/\(Wh L x.iD).any (vp L)=true) then 29 else 0):=by
   rw[js,Aq,Qd (by simpa using h0),Qd (by simp[BA]),BA];rfl
  by_cases hp:x.parent=y.parent;case neg=>
   have e:E=1:=by rw[a1,Qg (.inl hp)]
   refine J8 Qh hb 200 mixed [(0,true),(1,true),(2,true),(3,true),(4,true),(5,true),(6,true),(7,true),(8,true),(9,true),(10,false),(11,false),(12,true)] (by kernel_rfl) (by kernel_rfl) ?_;simp only[go_sem,Qa,ht,hm,Zi,QK,hk,Xt hp,bne];exact⟨by rw[e],bad _ (by rw[e];decide)⟩
  by_cases hl:x.leaf=y.leaf;case neg=>
   have e:E=1:=by rw[a1,Qg (.inr hl)]
   have JA:(x.leaf==y.leaf)=false:=by simpa using hl
   refine J8 Qh hb 200 mixed [(0,true),(1,true),(2,true),(3,true),(4,true),(5,true),(6,true),(7,true),(8,true),(9,true),(10,false),(11,false),(12,true)] (by kernel_rfl) (by kernel_rfl) ?_;simp only[go_sem,Qa,ht,hm,Zi,QK,hk,zl hp,bne,JA];exact⟨by rw[e],bad _ (by rw[e];decide)⟩
  have JA:(x.leaf==y.leaf)=true:=by simpa using hl
  rw[Qd (by simp[hp,hl])]at a1;refine J8 Qh hb 200 mixed [(0,true),(1,true),(2,true),(3,true),(4,true),(5,true),(6,true),(7,true),(8,true),(9,true),(10,false),(11,false),(12,true)] (by kernel_rfl) (by kernel_rfl) ?_;simp only[go_sem,Qa,ht,hm,Zi,QK,hk,zl hp,bne,JA];refine ZA hb j5 rfl ?_ (j6 x) (Qo.flat rfl) rfl λd h hR=>?_
  ·simp only[go_sem,Qa]
  obtain⟨rfl,rfl⟩:=hR;refine Qf hb ?_;simp only[go_sem,Qa];cases ZG:decide (1<QZ x.ls)
  ·have LK:¬ 1<QZ x.ls:=by simpa using ZG
   simp only[go_sem,Qa,Go.undef];refine ZA hb j5 rfl ?_ (j6 x) (Qo.flat rfl) rfl λd h hR=>?_
   ·simp only[go_sem,Qa,ZG,Go.undef]
   obtain⟨rfl,rfl⟩:=hR;refine Qf hb ?_;simp only[go_sem,Qa,ZG,Go.undef];refine E9 hb fR rfl ?_ (gF _ t m c T hlen (WK ht) (WK hm) x.iD) rfl λd g hs=>?_
   ·simp only[go_sem]
   rcases hs with ⟨rfl,LL⟩|⟨lo,gn,off,row,rfl,ZE,ho,hr⟩
   ·have e:E=0:=by rw[a1,Qd (by rintro (⟨h1,_⟩|⟨_,h1⟩);exact LK h1;rw[LL]at h1;simp at h1)]
    refine Qf hb ?_;simp only[go_sem,Qa,ht,hm,Zi,QK];refine ZT hb OK rfl ?_ (Qtg _ (.clo 190 0 [.ptr h.length 0 0 0])) rfl λd hR=>?_
    ·simp only[go_sem,Qa,Go.undef]
    subst hR;refine Qf hb ?_;simp only[go_sem,Qa,Go.undef];refine J8 Qh hb 200 mixed [(0,true),(1,true),(2,true),(3,true),(4,true),(5,true),(6,true),(7,false)] (by kernel_rfl) (by kernel_rfl) ?_;simp only[go_sem,Qa,ht,hm,Zi,QK];rw[Qg e];exact⟨by rw[e],Wi.QS h t m c T ht hm x _⟩
   ·refine Qf hb ?_;have Z6:(Wh L x.iD).length<1000000:=by
     have:=Yo (λy:Qn=>y.parent==x.iD) L;unfold Wh;rw[J6];omega
    rw[Wb]at ho;simp only[go_sem,Qa,ht,hm,Zi,QK];refine ZT hb OK rfl ?_ (Qtf _ (Wh L x.iD) lo gn off row Z6 (ZM ho) hr (.clo 190 0 [.ptr h.length 0 0 0]) 190 0 [.ptr h.length 0 0 0] QrZ rfl (vp L) (λh' n hx=>Qth h' t m c h.length T (ZM (hx.get (WK ht))) (G8 (hx.get (WK hm))) (ZM (hx.get (ZM (o:=⟨.one,0,1,1,λ_=>[.ptr t 0 0 0]⟩) (by rw[Ko rfl];rfl)))) n)) rfl λd hR=>?_
    ·simp only[go_sem,Qa,Go.undef,OT]
    subst hR;refine Qf hb ?_;simp only[go_sem,Qa,Go.undef,OT];cases CX:(Wh L x.iD).any (vp L)
    ·have e:E=0:=by rw[a1,Qd (by rw[CX];simp[LK])]
     simp only[go_sem,Qa,Go.undef];refine J8 Qh hb 200 mixed [(0,true),(1,true),(2,true),(3,true),(4,true),(5,true),(6,true),(7,false)] (by kernel_rfl) (by kernel_rfl) ?_;simp only[go_sem,Qa,ht,hm,Zi,QK];rw[Qg e];exact⟨by rw[e],Wi.QS h t m c T ht hm x _⟩
    ·have e:E=29:=by rw[a1,Qg (.inr ⟨LK,CX⟩)]
     simp only[go_sem,Qa,Go.undef];exact⟨by rw[e],bad _ (by rw[e];decide)⟩
  ·have LK:1<QZ x.ls:=by simpa using ZG
   simp only[go_sem,Qa,Go.undef];refine ZT hb Uz rfl ?_ (UM _ t m c T (WK ht) (WK hm) x.parent) rfl λd hR=>?_
   ·simp only[go_sem,Qa]
   subst hR;refine Qf hb ?_;simp only[go_sem,Qa];cases Jk:XJ L x.parent
   ·have e:E=29:=by rw[a1,Qg (.inl ⟨LK,Jk⟩)]
    simp only[go_sem,Qa,Go.undef];exact⟨by rw[e],bad _ (by rw[e];decide)⟩
   ·have e:E=0:=by rw[a1,Qd (by rw[Jk];simp[LK])]
    simp only[go_sem,Qa,Go.undef];refine ZA hb j5 rfl ?_ (j6 x) (Qo.flat rfl) rfl λd h hR=>?_
    ·simp only[go_sem,Qa,ZG,Go.undef]
    obtain⟨rfl,rfl⟩:=hR;refine Qf hb ?_;simp only[go_sem,Qa,ZG,Go.undef];refine J8 Qh hb 200 mixed [(0,true),(1,true),(2,true),(3,true),(4,true),(5,true),(6,true),(7,false)] (by kernel_rfl) (by kernel_rfl) ?_;simp only[go_sem,Qa,ht,hm,Zi,QK];rw[Qg e];exact⟨by rw[e],Wi.QS h t m c T ht hm x _⟩
end
def xW{L}(h:Wx L)(x:Qn)(k):Qy (VM L x) k=if k=x.iD then some x else Qy L k:=by
 have hr:=LG x h;have hm:=λc=>(G6 x h).mem_iff (a:=c);by_cases hk:k=x.iD
 ·rw[Qg hk];exact(Wy hr).2 ⟨(hm x).2 (by simp),hk.symm⟩
 ·rw[Qd hk];cases hf:Qy L k with
  | some c=>
   obtain⟨h1,h2⟩:=(Wy h).1 hf;exact(Wy hr).2 ⟨(hm c).2 (QF.2 (.inr (JE.2 ⟨h1,by simp;omega⟩))),h2⟩
  | none=>
   rw[Ff]at hf ⊢;intro c hc;rcases QF.1 ((hm c).1 hc) with rfl|hc
   ·exact λe=>hk e.symm
   ·exact hf c (JE.1 hc).1
def OU{L}(h:Wx L)(k0 k):Qy (WJ L k0) k=if k=k0 then none else Qy L k:=by
 have hr:=gA k0 h;by_cases hk:k=k0
 ·rw[Qg hk,Ff];intro c hc;have:=(JE.1 hc).2;simp at this;omega
 ·rw[Qd hk];cases hf:Qy L k with
  | some c=>
   obtain⟨h1,h2⟩:=(Wy h).1 hf;exact(Wy hr).2 ⟨JE.2 ⟨h1,by simp;omega⟩,h2⟩
  | none=>
   rw[Ff]at hf ⊢;exact λc hc=>hf c (JE.1 hc).1
def Ends.succ{L}:∀{n:Nat} {id:Int},Ends L n id->Ends L (n+1) id
 | 0,id,h=>by simp only[Ends]at h ⊢;rw[h];trivial
 | n+1,id,h=>by
  rw[Ends]at h ⊢;cases hf:Qy L id with
  | none=>trivial
  | some c=>rw[hf]at h;exact Ends.succ h
def Ends.le{L}{n k}{id}(h:Ends L n id)(hk:n<=k):Ends L k id:=by
 induction hk with
 | refl=>exact h
 | step _ ih=>exact ih.succ
def Qez{L}:∀{n:Nat} {id:Int},Ends L n id->Jq L (n+1) id=Jq L n id
 | 0,id,h=>by simp only[Ends]at h;simp only[Jq,h]
 | n+1,id,h=>by
  rw[Ends]at h;rw[Jq]
  conv=>rhs;rw[Jq]
  cases hf:Qy L id with
  | none=>rfl
  | some c=>rw[hf]at h;simp only[Qez h]
def Ar{L}:∀{n:Nat} {id:Int},(Jq L n id).length<=n
 | 0,_=>QD _
 | n+1,id=>by
  rw[Jq];cases Qy L id with
  | none=>exact JQ _
  | some c=>have:=Ar (L:=L) (n:=n) (id:=c.parent);simp only[Vu];omega
def Ends.short{L}:∀{n k:Nat} {id:Int},Ends L n id->(Jq L n id).length<=k->Ends L k id
 | 0,k,id,h,_=>h.le (JQ _)
 | n+1,k,id,h,hk=>by
  rw[Ends]at h;rw[Jq]at hk;cases hf:Qy L id with
  | none=>cases k with
   | zero=>exact hf
   | succ k=>rw[Ends,hf];trivial
  | some c=>
   rw[hf]at h hk;simp only[Vu]at hk;cases k with
   | zero=>omega
   | succ k=>rw[Ends,hf];exact Ends.short h (by omega)
structure TreeInv (L:List Qn):Prop where
 rising:Wx L
 ids:∀c∈L,1<=c.iD
 par:∀c∈L,c.parent=0\/(Qy L c.parent).isSome=true
 ends:∀id,Ends L 16 id
def TreeInv.nil:TreeInv []:=⟨by simp[Wx],by simp,by simp,λid=>by simp[Ends,Qy]⟩
def right_id{x:Qn}(h:KY x=0):1<=x.iD/\x.iD<=65536/\x.parent≠x.iD:=by
 have h2:CU x=true:=by
  cases h3:CU x with
  | true=>rfl
  | false=>rw[KY,h3]at h;simp at h
 simp[CU,xV]at h2;exact⟨h2.1.1.1,h2.1.1.2,h2.2⟩
def UR{L}(h:Wx L)(x){k:Int}(hk:(Qy L k).isSome=true):(Qy (VM L x) k).isSome=true:=by
 rw[xW h];split
 ·rfl
 ·exact hk
def xX{L}(h:Wx L)(x){c}(hc:c∈VM L x):c=x\/c∈L:=by
 rcases QF.1 ((G6 x h).mem_iff.1 hc) with h1|h1
 ·exact .inl h1
 ·exact .inr (JE.1 h1).1
def TreeInv.add{L}(I:TreeInv L){x:Qn}(h0:KY x=0)(h1:Qy L x.iD=none)(h2:x.parent=0\/(Qy L x.parent).isSome=true)(h3:(Jq L 16 x.parent).length≠16):TreeInv (VM L x):=by
 obtain⟨i1,_,i3⟩:=right_id h0;have key:∀n id,id≠x.iD->Ends L n id->Ends (VM L x) n id:=by
  intro n;induction n with
  | zero=>intro id Zk h;rw[Ends]at h ⊢;rw[xW I.rising,Qd Zk];exact h
  | succ n ih=>
   intro id Zk h;rw[Ends]at h ⊢;rw[xW I.rising,Qd Zk];cases hf:Qy L id with
   | none=>trivial
   | some c=>
    rw[hf]at h;refine ih _ ?_ h;rcases I.par c ((Wy I.rising).1 hf).1 with hp|hp
    ·rw[hp];omega
    ·intro e;rw[e,h1]at hp;cases hp
 refine⟨LG x I.rising,λc hc=>?_,λc hc=>?_,λid=>?_⟩
 ·rcases xX I.rising x hc with rfl|hc
  ·exact i1
  ·exact I.ids c hc
 ·rcases xX I.rising x hc with rfl|hc
  ·exact h2.imp id λh=>UR I.rising c h
  ·exact(I.par c hc).imp id λh=>UR I.rising x h
 ·by_cases Zk:id=x.iD
  ·subst Zk;rw[Ends,xW I.rising,Qg rfl];refine key 15 _ i3 ((I.ends x.parent).short ?_);have:=Ar (L:=L) (n:=16) (id:=x.parent);omega
  ·exact key 16 id Zk (I.ends id)
def TreeInv.del{L}(I:TreeInv L){k0}(h:Wh L k0=[]):TreeInv (WJ L k0):=by
 have Jw:∀c∈L,c.parent≠k0:=λc hc e=>by
  have:c∈L.filter (λy=>y.parent==k0):=JE.2 ⟨hc,by simp[e]⟩;have h2:(L.filter λy=>y.parent==k0)=[]:=by simpa[Wh] using h
  rw[h2]at this;simp at this
 refine⟨gA k0 I.rising,λc hc=>I.ids c (JE.1 hc).1,λc hc=>?_,λid=>?_⟩
 ·have xB:=(JE.1 hc).1;exact(I.par c xB).imp id λhp=>by rw[OU I.rising,Qd (Jw c xB)];exact hp
 ·have key:∀n id,Ends L n id->Ends (WJ L k0) n id:=by
   intro n;induction n with
   | zero=>intro id h;rw[Ends]at h ⊢;rw[OU I.rising];split<;>simp[h]
   | succ n ih=>
    intro id h;rw[Ends]at h ⊢;rw[OU I.rising];by_cases Zk:id=k0
    ·rw[Qg Zk];trivial
    ·rw[Qd Zk];cases hf:Qy L id with
     | none=>trivial
     | some c=>rw[hf]at h;exact ih _ h
  exact key 16 id (I.ends id)
def TreeInv.set{L}(I:TreeInv L){x y:Qn}(h0:KY x=0)(h1:Qy L x.iD=some y)(h2:x.parent=y.parent):TreeInv (VM L x):=by
 obtain⟨i1,_,i3⟩:=right_id h0;have key:∀n id,Ends L n id->Ends (VM L x) n id:=by
  intro n;induction n with
  | zero=>
   intro id h;rw[Ends]at h ⊢;rw[xW I.rising];by_cases Zk:id=x.iD
   ·subst Zk;rw[h1]at h;cases h
   ·rw[Qd Zk];exact h
  | succ n ih=>
   intro id h;rw[Ends]at h ⊢;rw[xW I.rising];by_cases Zk:id=x.iD
   ·subst Zk;rw[Qg rfl];rw[h1]at h;show Ends (VM L x) n x.parent;rw[h2];exact ih _ h
   ·rw[Qd Zk];cases hf:Qy L id with
    | none=>trivial
    | some c=>rw[hf]at h;exact ih _ h
 refine⟨LG x I.rising,λc hc=>?_,λc hc=>?_,λid=>key 16 id (I.ends id)⟩
 ·rcases xX I.rising x hc with rfl|hc
  ·exact i1
  ·exact I.ids c hc
 ·rcases xX I.rising x hc with rfl|hc
  ·rw[h2];exact(I.par y ((Wy I.rising).1 h1).1).imp id λh=>UR I.rising c h
  ·exact(I.par c hc).imp id λh=>UR I.rising x h
def up(T:List Qn)(id:Int):List Int:=Jq T 16 id
structure K0 (T:List Qn):Prop extends TreeInv T where
 right:∀c∈T,KY c=0
 X9:∀c∈T,c.parent≠0->∃d,Qy T c.parent=some d/\d.leaf=false
 US:∀c∈T,1<QZ c.ls->c.parent≠0->vp T c.parent=true
 len:T.length<=64
section
variable {T:List Qn}(I:K0 T)
include I
theorem gJ(id):up T id=match Qy T id with|none=>[]|some c=>id::up T c.parent:=by
 have h1:=Qez (I.ends id);unfold up;rw[<- h1,Jq];all_goals (cases Qy T id<;>rfl)
theorem K8{id}{c:Qn}(h:Qy T id=some c):up T id=id::up T c.parent:=by rw[gJ I,h]
theorem OV{id}(h:Qy T id=none):up T id=[]:=by rw[gJ I,h]
theorem Qtj{id}{c:Qn}(h:Qy T id=some c):c.iD=id:=((Wy I.rising).1 h).2
theorem wx{id}{c}(h:Qy T id=some c):c∈T:=((Wy I.rising).1 h).1
theorem CY:Qy T 0=none:=Ff.2 λc hc e=>by have:=I.ids c hc;omega
theorem Hb:up T 0=[]:=OV I (CY I)
omit I in
theorem Fj{id j:Int}(h:j∈up T id):(Qy T j).isSome=true:=by
 have:∀n id,j∈Jq T n id->(Qy T j).isSome=true:=by
  intro n;induction n with
  | zero=>intro id h;cases h
  | succ n ih=>
   intro id h;rw[Jq]at h;cases hf:Qy T id with
   | none=>rw[hf]at h;cases h
   | some c=>
    rw[hf]at h;rcases QF.1 h with rfl|h
    ·rw[hf];rfl
    ·exact ih _ h
 exact this 16 id h
theorem OW{a p}(h:p∈up T a):∃l,up T a=l++up T p:=by
 generalize hn:(up T a).length=n;induction n using Nat.strongRecOn generalizing a with
 | ind n ih=>
  cases hf:Qy T a with
  | none=>rw[OV I hf]at h;cases h
  | some c=>
   have e:=K8 I hf;rw[e]at h hn;rcases QF.1 h with rfl|h
   ·exact⟨[],rfl⟩
   ·obtain⟨l,hl⟩:=ih _ (by simp only[Vu]at hn;omega) h rfl;exact⟨a::l,by rw[e,hl];rfl⟩
theorem up_sub{a p q}(h:p∈up T a)(h2:q∈up T p):q∈up T a:=by
 obtain⟨l,e⟩:=OW I h;rw[e];exact Iw _ h2
theorem Xe{id}{c}(h:Qy T id=some c):id∈up T id:=by rw[K8 I h];simp
theorem OX(id:Int):(up T id).Nodup:=by
 generalize hn:(up T id).length=n;induction n using Nat.strongRecOn generalizing id with
 | ind n ih=>
  cases hf:Qy T id with
  | none=>rw[OV I hf];simp
  | some c=>
   have e:=K8 I hf;rw[e]at hn ⊢;rw[ZK];refine⟨λh=>?_,ih _ (by simp only[Vu]at hn;omega) _ rfl⟩;obtain⟨l,hl⟩:=OW I h;have:=congrArg List.length hl;rw[e]at this;simp only[ZX,Vu]at this;omega
theorem UT{a p}(h:p∈up T a)(QB:a≠p):∃i c,i∈up T a/\Qy T i=some c/\c.parent=p:=by
 generalize hn:(up T a).length=n;induction n using Nat.strongRecOn generalizing a with
 | ind n ih=>
  cases hf:Qy T a with
  | none=>rw[OV I hf]at h;cases h
  | some c=>
   have e:=K8 I hf;rw[e]at h hn;rcases QF.1 h with rfl|h
   ·exact absurd rfl QB
   ·by_cases h2:c.parent=p
    ·exact⟨a,c,by rw[e];simp,hf,h2⟩
    ·obtain⟨i,d,h3,h4⟩:=ih _ (by simp only[Vu]at hn;omega) h h2 rfl;exact⟨i,d,by rw[e];simp[h3],h4⟩
theorem Qtk{a i j}{c d:Qn}(hi:i∈up T a)(hj:j∈up T a)(ci:Qy T i=some c)(dj:Qy T j=some d)(e:c.parent=d.parent):i=j:=by
 obtain⟨l,hl⟩:=OW I hi;obtain⟨m,hm⟩:=OW I hj;have e1:=congrArg List.length (K8 I ci);have e2:=congrArg List.length (K8 I dj);have e3:(up T i).length=(up T j).length:=by rw[e1,e2,e];rfl
 have e4:=hl.symm.trans hm;obtain⟨_,e5⟩:=List.append_inj' e4 e3;rw[K8 I ci,K8 I dj]at e5;exact(kH e5).1
def Z4(T:List Qn)(A:List Int)(id:Int):Bool:=A.any λa=>(up T a).contains id
omit I in
theorem Yy{A}{id}:Z4 T A id=true↔∃a∈A,id∈up T a:=by simp[Z4]
def qc(T:List Qn)(A:List Int)(p i:Int):Bool:=(match Qy T i with|some c=>c.parent==p|none=>false)&&Z4 T A i
omit I in
theorem vq{A}{p i}:qc T A p i=true↔∃c,Qy T i=some c/\c.parent=p/\Z4 T A i=true:=by
 unfold qc;cases Qy T i with
 | none=>simp
 | some c=>simp
def wy(T:List Qn)(A:List Int):Prop:=∀a∈A,∃c,Qy T a=some c/\c.leaf=true/\1<QZ c.ls
theorem Hc{A}{i p}(h:Z4 T A i=true)(hp:p∈up T i):Z4 T A p=true:=by
 obtain⟨a,ha,hi⟩:=Yy.1 h;exact Yy.2 ⟨a,ha,up_sub I hi hp⟩
theorem QeA{A}(hA:wy T A){p}{d:Qn}(hp:Qy T p=some d)(hd:d.leaf=false):Z4 T A p=true↔∃i,qc T A p i=true:=by
 constructor
 ·intro h;obtain⟨a,ha,gK⟩:=Yy.1 h;obtain⟨c,h1,h2,h3⟩:=hA a ha;have QB:a≠p:=by rintro rfl;rw[h1]at hp;cases hp;rw[h2]at hd;cases hd
  obtain⟨i,c,h4,h5,h6⟩:=UT I gK QB;exact⟨i,vq.2 ⟨c,h5,h6,Yy.2 ⟨a,ha,h4⟩⟩⟩
 ·rintro⟨i,hi⟩;obtain⟨c,h1,h2,h3⟩:=vq.1 hi;have XK:p∈up T i:=by
   rw[K8 I h1,h2];exact Ks _ (Xe I hp)
  exact Hc I h3 XK
def WL(T:List Qn)(A:List Int)(leaf:Int):List Int:=(up T leaf).takeWhile λi=>!Z4 T A i
theorem QeB{id}{c:Qn}(h:Qy T id=some c)(hs:1<QZ c.ls):∀i∈up T id,∃d,Qy T i=some d/\1<QZ d.ls:=by
 generalize hn:(up T id).length=n;induction n using Nat.strongRecOn generalizing id c with
 | ind n ih=>
  have e:=K8 I h;rw[e]at hn ⊢;intro i hi;rcases QF.1 hi with rfl|hi
  ·exact⟨c,h,hs⟩
  ·by_cases h0:c.parent=0
   ·rw[h0,Hb I]at hi;cases hi
   ·obtain⟨d,hd,_⟩:=I.X9 c (wx I h) h0;have Jk:=I.US c (wx I h) hs h0;unfold vp at Jk;rw[hd]at Jk;exact ih _ (by simp only[Vu]at hn;omega) hd (by simpa using Jk) rfl i hi
end
section
variable {T:List Qn}(I:K0 T)
def zo(T:List Qn)(A:List Int)(dn:List Int)(p i:Int):Bool:=qc T A p i || (dn.contains i&&(match Qy T i with|some c=>c.parent==p|none=>false))
def jt(T:List Qn)(A:List Int)(dn:List Int)(p i:Int):Bool:=qc T A p i&&!dn.contains i
include I
theorem OY{A dn}{p i}:zo T A dn p i=true↔qc T A p i=true\/(i∈dn/\∃c,Qy T i=some c/\c.parent=p):=by
 unfold zo;cases Qy T i with
 | none=>simp
 | some c=>simp
theorem Qtl{a i}{l m}{c:Qn}(h:up T a=l++i::m)(hi:Qy T i=some c):m=up T c.parent:=by
 have hm:i∈up T a:=by rw[h];simp
 obtain⟨l2,h2⟩:=OW I hm;rw[K8 I hi]at h2;have nd:=OX I a;have e:=h.symm.trans h2;have n2:=nd;rw[h]at nd;rw[h2]at n2;have h3:l=l2:=by
  have a1:∀x∈l,x≠i:=λx hx e=>by
   subst e;rw[JF]at nd;exact nd.2.2 x hx x (by simp) rfl
  have a2:∀x∈l2,x≠i:=λx hx e=>by
   subst e;rw[JF]at n2;exact n2.2.2 x hx x (by simp) rfl
  clear h h2 nd n2 hm;induction l generalizing l2 with
  | nil=>cases l2 with
   | nil=>rfl
   | cons y l2=>simp only[YT,XW,Gd]at e;exact absurd e.1.symm (a2 y (by simp))
  | cons x l ih=>cases l2 with
   | nil=>simp only[YT,XW,Gd]at e;exact absurd e.1 (a1 x (by simp))
   | cons y l2=>
    simp only[XW,Gd]at e;rw[e.1,ih l2 e.2 (λx hx=>a1 x (by simp[hx])) (λx hx=>a2 x (by simp[hx]))]
 subst h3;have:=List.append_cancel_left e;exact(kH this).2
theorem Qtm{A}(hA:wy T A){leaf id}{dn}{c}(hu:up T leaf=dn++up T id)(hc:Qy T id=some c)(hn:∀i∈dn++[id],Z4 T A i=false):
  (∃i,zo T A dn c.parent i=true)↔∃i,qc T A c.parent i=true:=by
 constructor
 ·rintro⟨i,hi⟩;rcases (OY I).1 hi with h|⟨h1,d,h2,h3⟩
  ·exact⟨i,h⟩
  ·exfalso;have e1:i=id:=Qtk I (a:=leaf) (by rw[hu];simp[h1]) (by rw[hu];exact Iw _ (Xe I hc)) h2 hc h3;subst e1;have nd:=OX I leaf;rw[hu,JF]at nd;exact nd.2.2 i h1 i (Xe I hc) rfl
 ·rintro⟨i,hi⟩;exact⟨i,(OY I).2 (.inl hi)⟩
theorem Qtn{A dn}{id}{c:Qn}(hc:Qy T id=some c)(p i):zo T A (dn++[id]) p i=if p=c.parent/\i=id then true else zo T A dn p i:=by
 rw[kG,OY I];split
 ·rename_i h;obtain⟨rfl,rfl⟩:=h;simp[hc]
 ·rename_i h;rw[OY I];constructor
  ·rintro (h1|⟨h1,d,h2,h3⟩)
   ·exact .inl h1
   ·rcases QT.1 h1 with h1|h1
    ·exact .inr ⟨h1,d,h2,h3⟩
    ·simp only[qA]at h1;subst h1;rw[h2]at hc;cases hc;exact absurd ⟨h3.symm,rfl⟩ h
  ·rintro (h1|⟨h1,d,h2,h3⟩)
   ·exact .inl h1
   ·exact .inr ⟨Sl _ h1,d,h2,h3⟩
omit I in
theorem Qto(T)(A)(p i):zo T A [] p i=qc T A p i:=by simp[zo]
theorem Qtp{A}(hA:wy T A){leaf id}{dn}{c:Qn}(hu:up T leaf=dn++up T id)(hc:Qy T id=some c)(hn:∀i∈dn++[id],Z4 T A i=false)(he:c.parent=0\/Z4 T A c.parent=true):
  dn++[id]=WL T A leaf/\∀p i,zo T A (dn++[id]) p i=qc T (leaf::A) p i:=by
 have wk:up T leaf=(dn++[id])++up T c.parent:=by rw[hu,K8 I hc];simp
 have Fk:∀j∈up T c.parent,Z4 T A j=true:=λj hj=>by
  rcases he with he|he
  ·rw[he,Hb I]at hj;cases hj
  ·exact Hc I he hj
 refine⟨?_,λp i=>?_⟩
 ·unfold WL;rw[wk,List.takeWhile_append_of_pos (λi hi=>by rw[hn i hi];rfl)];have:(up T c.parent).takeWhile (λi=>!Z4 T A i)=[]:=by
   cases hq:up T c.parent with
   | nil=>rfl
   | cons x q=>rw[Sr,Fk x (by rw[hq];simp)];rfl
  rw[this,Zd]
 ·rw[kG,OY I,vq (A:=leaf::A)];have vr:∀j,Z4 T (leaf::A) j=true↔j∈up T leaf\/Z4 T A j=true:=λj=>by
   rw[Yy,Yy];simp
  constructor
  ·rintro (h|⟨h1,d,h2,h3⟩)
   ·obtain⟨d,h2,h3,h4⟩:=vq.1 h;exact⟨d,h2,h3,(vr i).2 (.inr h4)⟩
   ·exact⟨d,h2,h3,(vr i).2 (.inl (by rw[wk];exact Sl _ h1))⟩
  ·rintro⟨d,h2,h3,h4⟩;rcases (vr i).1 h4 with h4|h4
   ·rw[wk]at h4;rcases QT.1 h4 with h4|h4
    ·exact .inr ⟨h4,d,h2,h3⟩
    ·exact .inl (vq.2 ⟨d,h2,h3,Fk i h4⟩)
   ·exact .inl (vq.2 ⟨d,h2,h3,h4⟩)
end
def JP(A:List Int)(leaf:Int):List Int:=A.filter λa=>a != leaf
section
variable {T:List Qn}(I:K0 T)
def He{A}{leaf}(hl:leaf∈A)(j):Z4 T A j=true↔j∈up T leaf\/Z4 T (JP A leaf) j=true:=by
 rw[Yy,Yy];constructor
 ·rintro⟨a,ha,hj⟩;by_cases h:a=leaf
  ·subst h;exact .inl hj
  ·exact .inr ⟨a,JE.2 ⟨ha,by simpa using h⟩,hj⟩
 ·rintro (h|⟨a,ha,hj⟩)
  ·exact⟨leaf,hl,h⟩
  ·exact⟨a,(JE.1 ha).1,hj⟩
def wy.off{A}(h:wy T A)(leaf):wy T (JP A leaf):=λa ha=>h a (JE.1 ha).1
def LM{A dn}{p i}:jt T A dn p i=true↔qc T A p i=true/\i ∉ dn:=by simp[jt]
include I
theorem QeC{A}(hA:wy T A){leaf id}(hl:leaf∈A){dn}{c:Qn}(hu:up T leaf=dn++up T id)(hc:Qy T id=some c)(hn:∀i∈dn++[id],Z4 T (JP A leaf) i=false)(h0:c.parent≠0):
  (∃i,jt T A (dn++[id]) c.parent i=true)↔Z4 T (JP A leaf) c.parent=true:=by
 have wk:up T leaf=(dn++[id])++up T c.parent:=by rw[hu,K8 I hc];simp
 obtain⟨d,hd,CZ⟩:=I.X9 c (wx I hc) h0;constructor
 ·rintro⟨i,hi⟩;obtain⟨h1,h2⟩:=LM.1 hi;obtain⟨e,h3,h4,h5⟩:=vq.1 h1;have XK:c.parent∈up T i:=by rw[K8 I h3,h4];exact Ks _ (Xe I hd)
  rcases (He hl i).1 h5 with h6|h6
  ·exfalso;rw[wk]at h6;rcases QT.1 h6 with h6|h6
   ·exact h2 h6
   ·have nd:=OX I i;rw[K8 I h3,h4,ZK]at nd;exact nd.1 h6
  ·exact Hc I h6 XK
 ·intro h;obtain⟨a,ha,gK⟩:=Yy.1 h;obtain⟨e,h1,h2,h3⟩:=hA.off leaf a ha;have QB:a≠c.parent:=by rintro rfl;rw[h1]at hd;cases hd;rw[h2]at CZ;cases CZ
  obtain⟨i,f,h4,h5,h6⟩:=UT I gK QB;have h7:Z4 T (JP A leaf) i=true:=Yy.2 ⟨a,ha,h4⟩;refine⟨i,LM.2 ⟨vq.2 ⟨f,h5,h6,(He hl i).2 (.inr h7)⟩,λh8=>?_⟩⟩;rw[hn i h8]at h7;cases h7
theorem Qtq{A}{leaf id}(hl:leaf∈A){dn}{c:Qn}(hu:up T leaf=dn++up T id)(hc:Qy T id=some c)(hn:∀i∈dn++[id],Z4 T (JP A leaf) i=false)(he:c.parent=0\/Z4 T (JP A leaf) c.parent=true):
  dn++[id]=WL T (JP A leaf) leaf/\∀p i,jt T A (dn++[id]) p i=qc T (JP A leaf) p i:=by
 have wk:up T leaf=(dn++[id])++up T c.parent:=by rw[hu,K8 I hc];simp
 have Fk:∀j∈up T c.parent,Z4 T (JP A leaf) j=true:=λj hj=>by
  rcases he with he|he
  ·rw[he,Hb I]at hj;cases hj
  ·exact Hc I he hj
 refine⟨?_,λp i=>?_⟩
 ·unfold WL;rw[wk,List.takeWhile_append_of_pos (λi hi=>by rw[hn i hi];rfl)];have:(up T c.parent).takeWhile (λi=>!Z4 T (JP A leaf) i)=[]:=by
   cases hq:up T c.parent with
   | nil=>rfl
   | cons x q=>rw[Sr,Fk x (by rw[hq];simp)];rfl
  rw[this,Zd]
 ·rw[kG,LM,vq,vq];constructor
  ·rintro⟨⟨d,h2,h3,h4⟩,h5⟩;refine⟨d,h2,h3,?_⟩;rcases (He hl i).1 h4 with h6|h6
   ·rw[wk]at h6;rcases QT.1 h6 with h6|h6
    ·exact absurd h6 h5
    ·exact Fk i h6
   ·exact h6
  ·rintro⟨d,h2,h3,h4⟩;refine⟨⟨d,h2,h3,(He hl i).2 (.inr h4)⟩,λh5=>?_⟩;rw[hn i h5]at h4;cases h4
end
@[go_sem] def u64(n:Nat):D:=.raw (.int .u64 n)
@[go_sem] theorem wl0:IntKind.i64.wrap 0=0:=by decide
@[go_sem] theorem wl1:IntKind.i64.wrap 1=1:=by decide
@[go_sem] theorem wl2:IntKind.i64.wrap 2=2:=by decide
@[go_sem] theorem wl3:IntKind.i64.wrap 3=3:=by decide
@[go_sem] theorem wl4:IntKind.i64.wrap 4=4:=by decide
def never:Nat:=9223372036854775808
attribute [go_sem] Go.undef
def Hf(a b:Nat):IntKind.u64.wrap ((a:Int)+(b:Int))=(((a+b) % 18446744073709551616:Nat):Int):=by rw[IntKind.wrap_u64];omega
def OZ(a b:Nat):IntKind.u64.wrap ((a:Int)*(b:Int))=((a*b % 18446744073709551616:Nat):Int):=by rw[IntKind.wrap_u64,<- Se];omega
def gL(a b:Nat)(h:b<=18446744073709551616):IntKind.u64.wrap ((a:Int) - (b:Int))=(((a+18446744073709551616 - b) % 18446744073709551616:Nat):Int):=by rw[IntKind.wrap_u64];omega
def UU(a b:Nat)(h:b<=a)(ha:a<18446744073709551616):IntKind.u64.wrap ((a:Int) - (b:Int))=((a - b:Nat):Int):=by rw[IntKind.wrap_u64];omega
def QeD(a b:Nat)(h:a+b<18446744073709551616):IntKind.u64.wrap ((a:Int)+(b:Int))=((a+b:Nat):Int):=by rw[IntKind.wrap_u64];omega
def Qtr(a b:Nat)(h:a*b<18446744073709551616):IntKind.u64.wrap ((a:Int)*(b:Int))=((a*b:Nat):Int):=by rw[OZ,yG h]
def Hg(a s:Nat):((a:Int).fdiv (2 ^ s))=((a / 2 ^ s:Nat):Int):=by
 have h:((2:Int) ^ s)=((2 ^ s:Nat):Int):=by simp
 rw[h,Int.fdiv_eq_ediv_of_nonneg _ (Int.natCast_nonneg _),Int.natCast_ediv]
def Qts(a:Nat)(ha:a<18446744073709551616):bits .and .u64 (a:Int) 4294967295=((a % 4294967296:Nat):Int):=by
 have:=u64_and_nat a 4294967295 ha (by decide);rw[show ((4294967295:Nat):Int)=4294967295 from rfl]at this;rw[this,show (4294967295:Nat)=2 ^ 32 - 1 from rfl,Nat.and_two_pow_sub_one_eq_mod]
def Qtt(x y:Nat)(hx:x<4294967296)(hy:y<4294967296):bits .or .u64 ((x*4294967296:Nat):Int) (y:Int)=((x*4294967296+y:Nat):Int):=by
 rw[u64_or_nat _ _ (by omega) (by omega),nat_join 32 _ _ (by rw[show (2:Nat) ^ 32=4294967296 from rfl];omega) (by simpa using hy)]
def LN(a)(ha:a<18446744073709551616):a / 9223372036854775808=0\/a / 9223372036854775808=1:=by omega
def UW(a b)(ha:a<18446744073709551616)(hb:b<18446744073709551616):(a &&& b) / 9223372036854775808=(a / 9223372036854775808) &&& (b / 9223372036854775808):=by
 rw[show (9223372036854775808:Nat)=2 ^ 63 from rfl,<- Cc,Nat.shiftRight_and_distrib,Cc,Cc]
def gM(a b)(ha:a<18446744073709551616)(hb:b<18446744073709551616):(a ||| b) / 9223372036854775808=(a / 9223372036854775808) ||| (b / 9223372036854775808):=by
 rw[show (9223372036854775808:Nat)=2 ^ 63 from rfl,<- Cc,Nat.shiftRight_or_distrib,Cc,Cc]
def gN(a b)(ha:a<18446744073709551616)(hb:b<18446744073709551616):(a ^^^ b) / 9223372036854775808=(a / 9223372036854775808) ^^^ (b / 9223372036854775808):=by
 rw[show (9223372036854775808:Nat)=2 ^ 63 from rfl,<- Cc,Nat.shiftRight_xor_distrib,Cc,Cc]
def Qtu(a b c x y z u v)(ha:a<18446744073709551616)(hb:b<18446744073709551616)(hc:c<2)(hl:u=(a+18446744073709551616 - b+18446744073709551616 - c) % 18446744073709551616)
  (hx:x=a / 9223372036854775808) (hy:y=b / 9223372036854775808) (hz:z=u / 9223372036854775808) (hv:v=(1 ^^^ x) &&& y ||| ((1 ^^^ (x ^^^ y)) &&& z)):v=if a<b+c then 1 else 0:=by
 have h1:=LN a ha;have h2:=LN b hb;have h3:=LN u (by omega);rw[<- hx]at h1;rw[<- hy]at h2;rw[<- hz]at h3;rcases h1 with h1|h1<;>rcases h2 with h2|h2<;>rcases h3 with h3|h3<;>(rw[h1,h2,h3]at hv;simp at hv;subst hv;split<;>omega)
def Qtv(a b c x y z u v)(ha:a<18446744073709551616)(hb:b<18446744073709551616)(hc:c<2)(hl:u=(a+b+c) % 18446744073709551616)
  (hx:x=a / 9223372036854775808) (hy:y=b / 9223372036854775808) (hz:z=u / 9223372036854775808) (hv:v=x &&& y ||| ((x ||| y) &&& (1 - z))):v=if 18446744073709551616<=a+b+c then 1 else 0:=by
 have h1:=LN a ha;have h2:=LN b hb;have h3:=LN u (by omega);rw[<- hx]at h1;rw[<- hy]at h2;rw[<- hz]at h3;rcases h1 with h1|h1<;>rcases h2 with h2|h2<;>rcases h3 with h3|h3<;>(rw[h1,h2,h3]at hv;simp at hv;subst hv;split<;>omega)
end Go.Fg.X
namespace Go.Fg.X
open Go.Proofs Go.Fg
structure It where
 ka:Nat
 ki:Int
 va:Nat
 vi:Int
deriving DecidableEq
instance:Inhabited It:=⟨⟨0,0,0,0⟩⟩
@[go_sem] def It.cells(x:It):List D:=[u64 x.ka,Qb x.ki,u64 x.va,Qb x.vi]
def JW(a:Nat)(i:Int)(b:Nat)(j:Int):Prop:=a<b\/(a=b/\i<j)
instance (a:Nat) (i:Int) (b:Nat) (j:Int):Decidable (JW a i b j):=inferInstanceAs (Decidable (_\/_))
def It.lt(x y:It):Prop:=JW x.ka x.ki y.ka y.ki
instance (x y:It):Decidable (x.lt y):=inferInstanceAs (Decidable (JW _ _ _ _))
def qd(a:Nat)(i:Int)(b:Nat)(j:Int):Int:=if a=b/\i=j then 0 else if JW a i b j then -1 else 1
def zq(a b:It):It:=if qd b.va b.vi a.va a.vi<0\/(qd b.va b.vi a.va a.vi=0/\qd b.ka b.ki a.ka a.ki<0) then b else a
inductive Tr where
 | nil
 | node (loc:Nat) (it:It) (l r:Tr)
deriving Inhabited
namespace Tr
def list:Tr->List It
 | .nil=>[]
 | .node _ it l r=>l.list++it::r.list
def QJ:Tr->List Nat
 | .nil=>[]
 | .node loc _ l r=>loc::(l.QJ++r.QJ)
def high:Tr->Nat
 | .nil=>0
 | .node _ _ l r=>1+max l.high r.high
def size:Tr->Nat
 | .nil=>0
 | .node _ _ l r=>1+l.size+r.size
def ptr:Tr->D
 | .nil=>.raw (.pointer none)
 | .node loc _ _ _=>.ptr loc 0 0 0
@[go_sem] theorem Fl:Tr.nil.ptr=.raw (.pointer none):=rfl
@[go_sem] theorem BB(loc)(it)(l r:Tr):(Tr.node loc it l r).ptr=.ptr loc 0 0 0:=rfl
@[go_sem] theorem QD2(t:Tr):Xr t.ptr=some [t.ptr]:=by cases t<;>rfl
@[go_sem] theorem QD3(t:Tr):t.ptr.KJ=true:=by cases t<;>rfl
@[go_sem] theorem QD4(t:Tr):W9 t.ptr t.ptr=True:=by cases t<;>simp[W9,ptr]
def least:Tr->It
 | .nil=>default
 | .node _ it l r=>match l,r with
  | .nil,.nil=>it
  | .nil,.node a b c d=>zq it (least (.node a b c d))
  | .node a b c d,.nil=>zq it (least (.node a b c d))
  | .node a b c d,.node a' b' c' d'=>zq (zq it (least (.node a b c d))) (least (.node a' b' c' d'))
def As:∀t:Tr,t.list.length=t.size
 | .nil=>rfl
 | .node _ _ l r=>by simp only[list,size,ZX,Vu,As l,As r];omega
def LO:∀t:Tr,t.high<=t.size
 | .nil=>QD _
 | .node _ _ l r=>by have:=LO l;have:=LO r;simp only[high,size];omega
end Tr
@[go_sem] def Qtw(it:It)(p q:D)(le:It)(hi n:Int):List D:=[u64 it.ka,Qb it.ki,u64 it.va,Qb it.vi,p,q,u64 le.ka,Qb le.ki,u64 le.va,Qb le.vi,Qb hi,Qb n]
@[go_sem] def Da(it:It)(p q:D)(le:It)(hi n:Int):Ob:=⟨.one,0,12,1,λ_=>Qtw it p q le hi n⟩
def KC(h:List Ob):Tr->Prop
 | .nil=>True
 | .node loc it l r=>h[loc]? = some (Da it l.ptr r.ptr (Tr.node loc it l r).least ((Tr.node loc it l r).high:Nat) ((Tr.node loc it l r).size:Nat))/\KC h l/\KC h r
def KC.frame{h h':List Ob}:∀{t:Tr},KC h t->(∀l∈t.QJ,h'[l]? = h[l]?)->KC h' t
 | .nil,_,_=>trivial
 | .node loc it l r,⟨h1,h2,h3⟩,e=>⟨by rw[e loc (by simp[Tr.QJ])];exact h1,h2.frame λx hx=>e x (by simp[Tr.QJ,hx]),h3.frame λx hx=>e x (by simp[Tr.QJ,hx])⟩
def KC.lt{h:List Ob}:∀{t:Tr},KC h t->∀l∈t.QJ,l<h.length
 | .nil,_,l,hl=>by cases hl
 | .node loc it l r,⟨h1,h2,h3⟩,x,hx=>by
  simp only[Tr.QJ,QF,QT]at hx;rcases hx with rfl|hx|hx
  ·exact Ku h1
  ·exact h2.lt x hx
  ·exact h3.lt x hx
def qI(h:List Ob):Tr->Prop
 | .nil=>True
 | .node loc it l r=>(h.map Ob.ro)[loc]? = some (Da it l.ptr r.ptr (Tr.node loc it l r).least ((Tr.node loc it l r).high:Nat) ((Tr.node loc it l r).size:Nat)).ro/\qI h l/\qI h r
def KC.toR{h}:∀{t:Tr},KC h t->qI h t
 | .nil,_=>trivial
 | .node _ _ _ _,⟨h1,h2,h3⟩=>⟨ZM h1,h2.toR,h3.toR⟩
def qI.more{h h':List Ob}(e:∀(l:Nat) (o:Ob),(h.map Ob.ro)[l]? = some o->(h'.map Ob.ro)[l]? = some o):∀{t:Tr},qI h t->qI h' t
 | .nil,_=>trivial
 | .node _ _ _ _,⟨h1,h2,h3⟩=>⟨e _ _ h1,h2.more e,h3.more e⟩
def Fm{h F g:List Ob}(hF:F=h.map Ob.ro)(l:Nat)(o:Ob)(e:(h.map Ob.ro)[l]? = some o):((F++g).map Ob.ro)[l]? = some o:=by
 subst hF;have h1:l<(h.map Ob.ro).length:=Ku e;rw[vS,Jy (by simpa using h1),Ef];rw[Ky]at e ⊢;cases hh:h[l]? with
 | none=>rw[hh]at e;cases e
 | some u=>rw[hh]at e;cases e;simp[ro_ro]
structure zw (h:List Ob) (t:Tr) (L:List It) (h':List Ob) (t':Tr):Prop where
 is:KC h' t'
 list:t'.list=L
 nd:t'.QJ.Nodup
 mem:∀l∈t'.QJ,l∈t.QJ\/h.length<=l
 keep:∀l,l<h.length->l ∉ t.QJ->h'[l]? = h[l]?
 len:h.length<=h'.length
def zw.refl{h}{t:Tr}(i:KC h t)(n:t.QJ.Nodup):zw h t t.list h t:=⟨i,rfl,n,λ_ h=>.inl h,λ_ _ _=>rfl,QD _⟩
def zw.trans{h h' XZ}{t t' t''}{L L'}(a:zw h t L h' t')(b:zw h' t' L' XZ t''):zw h t L' XZ t'':=
 ⟨b.is,b.list,b.nd,λl hl=>by
  rcases b.mem l hl with h1|h1
  ·exact a.mem l h1
  ·exact .inr (Kz a.len h1),λl hl hn=>by
  rw[b.keep l (jO hl a.len) λh1=>by
   rcases a.mem l h1 with h2|h2
   ·exact hn h2
   ·omega]
  exact a.keep l hl hn,Kz a.len b.len⟩
def It.Ya(x y:It):Prop:=JW x.va x.vi y.va y.vi\/(x.va=y.va/\x.vi=y.vi/\JW x.ka x.ki y.ka y.ki)
instance (x y:It):Decidable (x.Ya y):=inferInstanceAs (Decidable (_\/_))
def Au(a)(i):¬ JW a i a i:=by unfold JW;omega
def Fo{a}{i}{b}{j}{c}{k}(h:JW a i b j)(h2:JW b j c k):JW a i c k:=by unfold JW at *;omega
def LP(a)(i)(b)(j):JW a i b j\/(a=b/\i=j)\/JW b j a i:=by unfold JW;omega
def gO{a}{i}{b}{j}:qd a i b j<0↔JW a i b j:=by
 unfold qd;by_cases h:a=b/\i=j
 ·rw[Qg h];obtain⟨rfl,rfl⟩:=h;exact⟨λh=>by omega,λh=>absurd h (Au _ _)⟩
 ·rw[Qd h];by_cases h2:JW a i b j
  ·rw[Qg h2];exact⟨λ_=>h2,λ_=>by omega⟩
  ·rw[Qd h2];exact⟨λh=>by omega,λh=>absurd h h2⟩
def QeE{a}{i}{b}{j}:qd a i b j=0↔a=b/\i=j:=by
 unfold qd;by_cases h:a=b/\i=j
 ·rw[Qg h];exact⟨λ_=>h,λ_=>rfl⟩
 ·rw[Qd h];by_cases h2:JW a i b j
  ·rw[Qg h2];exact⟨λh=>by omega,λh1=>absurd h1 h⟩
  ·rw[Qd h2];exact⟨λh=>by omega,λh1=>absurd h1 h⟩
def Qtx{a}{i}{b}{j}:0<qd a i b j↔JW b j a i:=by
 have h1:=@gO a i b j;have h2:=@QeE a i b j;have h3:=LP a i b j;constructor
 ·intro h;rcases h3 with h3|h3|h3
  ·have:=h1.2 h3;omega
  ·have:=h2.2 h3;omega
  ·exact h3
 ·intro h;have n1:¬ qd a i b j<0:=λh4=>Au _ _ (Fo h (h1.1 h4));have n2:¬ qd a i b j=0:=λh4=>by obtain⟨rfl,rfl⟩:=h2.1 h4;exact Au _ _ h
  omega
def QeF(a b:It):zq a b=if b.Ya a then b else a:=by
 have h:(qd b.va b.vi a.va a.vi<0\/(qd b.va b.vi a.va a.vi=0/\qd b.ka b.ki a.ka a.ki<0))↔b.Ya a:=by
  rw[gO,QeE,gO,It.Ya,and_assoc]
 unfold zq;by_cases hb:b.Ya a
 ·rw[Qg (h.2 hb),Qg hb]
 ·rw[Qd (λh1=>hb (h.1 h1)),Qd hb]
def O1(a:It):¬ a.Ya a:=λh=>by
 rcases h with h|⟨_,_,h⟩<;>exact Au _ _ h
def QeG{a b c:It}(h:a.Ya b)(h2:b.Ya c):a.Ya c:=by
 rcases h with h|⟨e1,e2,h⟩<;>rcases h2 with h2|⟨e3,e4,h2⟩
 ·exact .inl (Fo h h2)
 ·exact .inl (by rw[<- e3,<- e4];exact h)
 ·exact .inl (by rw[e1,e2];exact h2)
 ·exact .inr ⟨e1.trans e3,e2.trans e4,Fo h h2⟩
def QeH(a b:It):a.Ya b\/a=b\/b.Ya a:=by
 rcases LP a.va a.vi b.va b.vi with h|⟨h1,h2⟩|h
 ·exact .inl (.inl h)
 ·rcases LP a.ka a.ki b.ka b.ki with h|⟨h3,h4⟩|h
  ·exact .inl (.inr ⟨h1,h2,h⟩)
  ·refine .inr (.inl ?_);cases a;cases b;simp_all
  ·exact .inr (.inr (.inr ⟨h1.symm,h2.symm,h⟩))
 ·exact .inr (.inr (.inl h))
def QeI(a b:It):(zq a b=a/\¬ b.Ya a)\/(zq a b=b/\b.Ya a):=by
 rw[QeF];by_cases h:b.Ya a
 ·rw[Qg h];exact .inr ⟨rfl,h⟩
 ·rw[Qd h];exact .inl ⟨rfl,h⟩
def Qty(a b:It):¬ a.Ya (zq a b)/\¬ b.Ya (zq a b):=by
 rcases QeI a b with ⟨e,h⟩|⟨e,h⟩<;>rw[e]
 ·exact⟨O1 _,h⟩
 ·exact⟨λh2=>O1 _ (QeG h h2),O1 _⟩
structure Vq (x:It) (L:List It):Prop where
 mem:x∈L
 le:∀y∈L,¬ y.Ya x
def Vq.uniq{x y}{L}(a:Vq x L)(b:Vq y L):x=y:=by
 rcases QeH x y with h|h|h
 ·exact absurd h (b.le x a.mem)
 ·exact h
 ·exact absurd h (a.le y b.mem)
def Vq.one(x):Vq x [x]:=⟨by simp,λy hy=>by simp only[qA]at hy;subst hy;exact O1 _⟩
def Vq.join{x y}{L M}(a:Vq x L)(b:Vq y M):Vq (zq x y) (L++M):=by
 obtain⟨h1,h2⟩:=Qty x y;have nle:∀{p q r:It},¬ p.Ya q->¬ q.Ya r->¬ p.Ya r:=λ{p q r} h h2 h3=>by
  rcases QeH q p with h4|h4|h4
  ·exact h2 (QeG h4 h3)
  ·subst h4;exact h2 h3
  ·exact h h4
 refine⟨?_,λz hz=>?_⟩
 ·rcases QeI x y with ⟨e,_⟩|⟨e,_⟩<;>rw[e]
  ·exact Sl _ a.mem
  ·exact Iw _ b.mem
 ·rcases QT.1 hz with hz|hz
  ·exact nle (a.le z hz) h1
  ·exact nle (b.le z hz) h2
def Vq.perm{x:It}{L M}(a:Vq x L)(h:∀y,y∈M↔y∈L):Vq x M:=⟨(h x).2 a.mem,λy hy=>a.le y ((h y).1 hy)⟩
def Tr.LQ:∀(t:Tr),t≠.nil->Vq t.least t.list
 | .nil,h=>absurd rfl h
 | .node _ it .nil .nil,_=>Vq.one it
 | .node _ it .nil (.node a b c d),_=>by
  have:=Tr.LQ (.node a b c d) (by simp);exact((Vq.one it).join this).perm λy=>by simp[Tr.list]
 | .node _ it (.node a b c d) .nil,_=>by
  have:=Tr.LQ (.node a b c d) (by simp);exact((Vq.one it).join this).perm λy=>by simp[Tr.list];constructor<;>(intro h;rcases h with h|h|h|h<;>simp[h])
 | .node _ it (.node a b c d) (.node a' b' c' d'),_=>by
  have h1:=Tr.LQ (.node a b c d) (by simp);have h2:=Tr.LQ (.node a' b' c' d') (by simp);refine(((Vq.one it).join h1).join h2).perm λy=>?_;simp only[Tr.list,QT,QF,qA];grind
end Go.Fg.X
namespace Go.Fg.X
open Go.Proofs Go.Fg
open Go.Proofs.Tryz
def KD(L:List It):Prop:=L.Pairwise It.lt
def It.lt_trans{a b c:It}(h:a.lt b)(h2:b.lt c):a.lt c:=Fo h h2
def Db{L M}{x:It}:KD (L++x::M)↔KD L/\KD M/\(∀y∈L,y.lt x)/\(∀y∈M,x.lt y):=by
 unfold KD;rw[Sm,yF];constructor
 ·rintro⟨h1,⟨h2,h3⟩,h4⟩;exact⟨h1,h3,λy hy=>h4 y hy x (by simp),h2⟩
 ·rintro⟨h1,h2,h3,h4⟩;refine⟨h1,⟨h4,h2⟩,λa ha b hb=>?_⟩;rcases QF.1 hb with rfl|hb
  ·exact h3 a ha
  ·exact It.lt_trans (h3 a ha) (h4 b hb)
def Av(a:Nat)(i:Int)(x:It):Bool:=x.ka==a&&x.ki==i
def XL(a:Nat)(i:Int)(L:List It):Option It:=L.find? (Av a i)
def Xu(x:It):List It->List It
 | []=>[x]
 | y::r=>if y.lt x then y::Xu x r else x::y::r
def WM(a:Nat)(i:Int)(L:List It):List It:=L.filter λx=>!Av a i x
def vu{a}{i}{x:It}:Av a i x=true↔x.ka=a/\x.ki=i:=by simp[Av]
def QeK(a)(i)(L M)(x)(hs:KD (L++x::M)):
  XL a i (L++x::M)=if x.ka=a/\x.ki=i then some x else if JW x.ka x.ki a i then XL a i M else XL a i L:=by
 obtain⟨_,_,hl,hm⟩:=Db.1 hs;unfold XL;rw[List.find?_append,kJ];have nL:(x.ka=a/\x.ki=i)\/JW x.ka x.ki a i->L.find? (Av a i)=none:=λh=>by
  rw[zU];intro y hy hk;obtain⟨e1,e2⟩:=vu.1 hk;have h3:JW y.ka y.ki x.ka x.ki:=hl y hy;rw[e1,e2]at h3;rcases h with ⟨rfl,rfl⟩|h
  ·exact Au _ _ h3
  ·exact Au _ _ (Fo h h3)
 have nM:JW a i x.ka x.ki->M.find? (Av a i)=none:=λh=>by
  rw[zU];intro y hy hk;obtain⟨e1,e2⟩:=vu.1 hk;have h3:JW x.ka x.ki y.ka y.ki:=hm y hy;rw[e1,e2]at h3;exact Au _ _ (Fo h h3)
 by_cases h1:x.ka=a/\x.ki=i
 ·rw[Qg h1,vu.2 h1,nL (.inl h1)];rfl
 ·have hk:Av a i x=false:=by rw[zT];exact λh=>h1 (vu.1 h)
  rw[Qd h1,hk];by_cases h2:JW x.ka x.ki a i
  ·rw[Qg h2,nL (.inr h2)];rfl
  ·rw[Qd h2,nM (by rcases LP x.ka x.ki a i with h|h|h;exact absurd h h2;exact absurd h h1;exact h)];simp
def Qtz(y:It)(L M)(x:It)(hs:KD (L++x::M))(hn:¬ (x.ka=y.ka/\x.ki=y.ki)):
  Xu y (L++x::M)=if x.lt y then L++x::Xu y M else Xu y L++x::M:=by
 obtain⟨_,_,hl,hm⟩:=Db.1 hs;by_cases h:x.lt y
 ·rw[Qg h];have:∀l:List It,(∀z∈l,z.lt y)->Xu y (l++x::M)=l++x::Xu y M:=by
   intro l hl;induction l with
   | nil=>simp only[YT,Xu,Qg h]
   | cons z l ih=>simp only[XW,Xu,Qg (hl z (by simp)),ih λw hw=>hl w (by simp[hw])]
  exact this L λz hz=>It.lt_trans (hl z hz) h
 ·rw[Qd h];have:∀l:List It,Xu y (l++x::M)=Xu y l++x::M:=by
   intro l;induction l with
   | nil=>simp only[YT,Xu,Qd h,XW]
   | cons z l ih=>
    simp only[XW,Xu];split
    ·rw[ih,XW]
    ·simp only[XW]
  exact this L
def QeL(a)(i)(L M)(x)(hs:KD (L++x::M)):
  WM a i (L++x::M)=if x.ka=a/\x.ki=i then L++M else if JW x.ka x.ki a i then L++x::WM a i M else WM a i L++x::M:=by
 obtain⟨_,_,hl,hm⟩:=Db.1 hs;have keep:∀l:List It,(∀y∈l,¬ (y.ka=a/\y.ki=i))->WM a i l=l:=λl h=>by
  unfold WM;rw[xi];intro y hy;have:=h y hy;rw[qy,zT];exact λh2=>this (vu.1 h2)
 have QtA:WM a i (L++x::M)=WM a i L++WM a i (x::M):=by unfold WM;rw[NB]
 have kL:(x.ka=a/\x.ki=i)\/JW x.ka x.ki a i->WM a i L=L:=λh=>keep L λy hy ⟨e1,e2⟩=>by
  have h3:JW y.ka y.ki x.ka x.ki:=hl y hy;rw[e1,e2]at h3;rcases h with ⟨rfl,rfl⟩|h
  ·exact Au _ _ h3
  ·exact Au _ _ (Fo h h3)
 have kM:(x.ka=a/\x.ki=i)\/JW a i x.ka x.ki->WM a i M=M:=λh=>keep M λy hy ⟨e1,e2⟩=>by
  have h3:JW x.ka x.ki y.ka y.ki:=hm y hy;rw[e1,e2]at h3;rcases h with ⟨rfl,rfl⟩|h
  ·exact Au _ _ h3
  ·exact Au _ _ (Fo h h3)
 rw[QtA];by_cases h1:x.ka=a/\x.ki=i
 ·have hx:WM a i (x::M)=WM a i M:=by unfold WM;rw[kI,vu.2 h1];rfl
  rw[Qg h1,kL (.inl h1),hx,kM (.inl h1)]
 ·have hk:Av a i x=false:=by rw[zT];exact λh=>h1 (vu.1 h)
  have hx:WM a i (x::M)=x::WM a i M:=by unfold WM;rw[kI,hk];rfl
  rw[Qd h1,hx];by_cases h2:JW x.ka x.ki a i
  ·rw[Qg h2,kL (.inr h2)]
  ·rw[Qd h2,kM (.inr (by rcases LP x.ka x.ki a i with h|h|h;exact absurd h h2;exact absurd h h1;exact h))]
def Fp{y x}:∀{L:List It},x∈Xu y L↔x=y\/x∈L
 | []=>by simp[Xu]
 | z::L=>by
  simp only[Xu];split
  ·rw[QF,Fp,QF];grind
  ·rw[QF]
def gP{y:It}:∀{L:List It},KD L->XL y.ka y.ki L=none->KD (Xu y L)
 | [],_,_=>by simp[Xu,KD]
 | z::L,hs,hf=>by
  obtain⟨h1,h2⟩:=yF.1 hs;unfold XL at hf;rw[kJ]at hf;cases hk:Av y.ka y.ki z with
  | true=>rw[hk]at hf;cases hf
  | false=>
   rw[hk]at hf;have QB:¬ (z.ka=y.ka/\z.ki=y.ki):=λh=>by rw[vu.2 h]at hk;cases hk
   simp only[Xu];split
   ·rename_i hl;refine yF.2 ⟨λw hw=>?_,gP h2 hf⟩;rcases Fp.1 hw with rfl|hw
    ·exact hl
    ·exact h1 w hw
   ·rename_i hl;have hyz:y.lt z:=by
     rcases LP z.ka z.ki y.ka y.ki with h|h|h
     ·exact absurd h hl
     ·exact absurd h QB
     ·exact h
    refine yF.2 ⟨λw hw=>?_,hs⟩;rcases QF.1 hw with rfl|hw
    ·exact hyz
    ·exact It.lt_trans hyz (h1 w hw)
def QtB{a}{i}{L}(h:KD L):KD (WM a i L):=Is _ h
def Tr.Aw(a:Nat)(i:Int)(f:Tr->List It):Tr->List It
 | .nil=>f .nil
 | .node loc it l r=>if it.ka=a/\it.ki=i then f (.node loc it l r) else if JW it.ka it.ki a i then l.list++it::r.Aw a i f else l.Aw a i f++it::r.list
def gQ{y:It}{f}(hf:f .nil=[y]):∀(t:Tr),KD t.list->XL y.ka y.ki t.list=none->t.Aw y.ka y.ki f=Xu y t.list
 | .nil,_,_=>hf
 | .node loc it l r,hs,hn=>by
  obtain⟨s1,s2,_,_⟩:=Db.1 hs;simp only[Tr.list]at hs hn ⊢;rw[QeK _ _ _ _ _ hs]at hn;rw[Tr.Aw];by_cases h1:it.ka=y.ka/\it.ki=y.ki
  ·rw[Qg h1]at hn;cases hn
  ·rw[Qd h1]at hn ⊢;rw[Qtz y _ _ _ hs h1];by_cases h2:JW it.ka it.ki y.ka y.ki
   ·rw[Qg h2]at hn ⊢;rw[Qg (show it.lt y from h2),gQ hf r s2 hn]
   ·rw[Qd h2]at hn ⊢;rw[Qd (show ¬ it.lt y from h2),gQ hf l s1 hn]
def Tr.Hh:Tr->List It
 | .nil=>[]
 | .node _ _ l r=>l.list++r.list
def UX{a}{i}:∀(t:Tr),KD t.list->t.Aw a i Tr.Hh=WM a i t.list
 | .nil,_=>rfl
 | .node loc it l r,hs=>by
  obtain⟨s1,s2,_,_⟩:=Db.1 hs;simp only[Tr.list]at hs ⊢;rw[QeL _ _ _ _ _ hs,Tr.Aw];by_cases h1:it.ka=a/\it.ki=i
  ·rw[Qg h1,Qg h1];rfl
  ·rw[Qd h1,Qd h1];by_cases h2:JW it.ka it.ki a i
   ·rw[Qg h2,Qg h2,UX r s2]
   ·rw[Qd h2,Qd h2,UX l s1]
def Tr.find(a:Nat)(i:Int):Tr->Tr
 | .nil=>.nil
 | .node loc it l r=>if it.ka=a/\it.ki=i then .node loc it l r else if JW it.ka it.ki a i then r.find a i else l.find a i
def Tr.item:Tr->Option It
 | .nil=>none
 | .node _ it _ _=>some it
def Tr.O3{a}{i:Int}:∀(t:Tr),KD t.list->(t.find a i).item=XL a i t.list
 | .nil,_=>rfl
 | .node loc it l r,hs=>by
  obtain⟨s1,s2,_,_⟩:=Db.1 hs;simp only[Tr.list]at hs ⊢;rw[QeK _ _ _ _ _ hs,Tr.find];by_cases h1:it.ka=a/\it.ki=i
  ·rw[Qg h1,Qg h1];rfl
  ·rw[Qd h1,Qd h1];by_cases h2:JW it.ka it.ki a i
   ·rw[Qg h2,Qg h2,Tr.O3 r s2]
   ·rw[Qd h2,Qd h2,Tr.O3 l s1]
def Tr.hasB(at_:Nat):Tr->Bool
 | .nil=>false
 | .node a b c d=>decide ((Tr.node a b c d).least.va<=at_)
def Vq.va{x y:It}{L}(h:Vq x L)(hy:y∈L):x.va<=y.va:=by
 have:=h.le y hy;unfold It.Ya JW at this;omega
def Tr.O5(at_):∀t:Tr,t.hasB at_=true↔∃x∈t.list,x.va<=at_
 | .nil=>by simp[Tr.hasB,Tr.list]
 | .node a b c d=>by
  have h:=Tr.LQ (.node a b c d) (by simp);simp only[Tr.hasB,Yq];constructor
  ·intro h1;exact⟨_,h.mem,h1⟩
  ·rintro⟨x,hx,hv⟩;exact Kz (h.va hx) hv
def Tr.first(at_:Nat):Tr->Option It
 | .nil=>none
 | .node _ it l r=>if l.hasB at_ then l.first at_ else if it.va<=at_ then some it else r.first at_
def Tr.UY(at_):∀t:Tr,t.first at_=t.list.find? λx=>decide (x.va<=at_)
 | .nil=>rfl
 | .node _ it l r=>by
  simp only[Tr.first,Tr.list];rw[List.find?_append,kJ];by_cases h:l.hasB at_=true
  ·rw[Qg h,Tr.UY at_ l];obtain⟨x,hx,hv⟩:=(Tr.O5 at_ l).1 h;cases hf:l.list.find? λx=>decide (x.va<=at_) with
   | some y=>rfl
   | none=>exact absurd hv (by simpa using zU.1 hf x hx)
  ·rw[Qd h,Tr.UY at_ r];have hn:l.list.find? (λx=>decide (x.va<=at_))=none:=by
    rw[zU];intro x hx hv;exact h ((Tr.O5 at_ l).2 ⟨x,hx,by simpa using hv⟩)
   rw[hn,Option.none_or];by_cases h2:it.va<=at_
   ·rw[Qg h2,Q7 h2]
   ·rw[Qd h2,QQ h2]
def Tr.Dc:Tr->It
 | .nil=>default
 | .node _ it l _=>match l with
  | .nil=>it
  | .node a b c d=>Tr.Dc (.node a b c d)
def Tr.gS:∀t:Tr,t≠.nil->t.list.head? = some t.Dc
 | .nil,h=>absurd rfl h
 | .node _ it .nil r,_=>rfl
 | .node _ it (.node a b c d) r,_=>by
  have:=Tr.gS (.node a b c d) (by simp);simp only[Tr.list,Tr.Dc,List.head?_append]at this ⊢;rw[this];rfl
def qf(o:Option It)(i:It):Option It:=match o with
 | none=>some i
 | some a=>some (zq a i)
def Tr.qJ(at_:Nat):Tr->Option It->Option It
 | .nil,o=>o
 | .node _ it l r,o=>if at_<it.ka then l.qJ at_ o else r.qJ at_ (match l with
  | .nil=>qf o it
  | .node a b c d=>qf (qf o it) (Tr.node a b c d).least)
def wz(o:Option It)(L:List It):Prop:=match o with
 | none=>L=[]
 | some x=>Vq x L
def wz.take{o}{L}(h:wz o L){i}{M}(hi:Vq i M):wz (qf o i) (L++M):=by
 cases o with
 | none=>simp only[wz]at h;subst h;exact hi
 | some a=>exact Vq.join h hi
def wz.perm{o}{L M}(h:wz o L)(e:∀y,y∈M↔y∈L):wz o M:=by
 cases o with
 | none=>
  simp only[wz]at h ⊢;subst h;exact dt.2 λy hy=>by simpa using (e y).1 hy
 | some a=>exact Vq.perm h e
def Tr.O6(at_):∀(t:Tr) (o:Option It) (T:List It),KD t.list->wz o T->wz (t.qJ at_ o) (T++t.list.filter λx=>decide (x.ka<=at_))
 | .nil,o,T,_,h=>by simpa[Tr.qJ,Tr.list] using h
 | .node _ it l r,o,T,hs,h=>by
  obtain⟨s1,s2,hl,hr⟩:=Db.1 (show KD (l.list++it::r.list) from hs);have kle:∀{x y:It},x.lt y->x.ka<=y.ka:=λh=>by
   have h:JW _ _ _ _:=h;unfold JW at h;omega
  simp only[Tr.qJ,Tr.list,NB,kI];by_cases h1:at_<it.ka
  ·rw[Qg h1,QQ (by omega)];have hn:r.list.filter (λx=>decide (x.ka<=at_))=[]:=by
    rw[List.filter_eq_nil_iff];intro x hx;have:=kle (hr x hx);simp;omega
   rw[hn];have:=Tr.O6 at_ l o T s1 h;simpa using this
  ·rw[Qd h1,Q7 (by omega)];have ha:l.list.filter (λx=>decide (x.ka<=at_))=l.list:=by
    rw[xi];intro x hx;have:=kle (hl x hx);simp;omega
   rw[ha];cases l with
   | nil=>
    have:=Tr.O6 at_ r _ _ s2 (h.take (Vq.one it));simpa[Tr.list] using this
   | node a b c d=>
    have:=Tr.O6 at_ r _ _ s2 ((h.take (Vq.one it)).take (Tr.LQ (.node a b c d) (by simp)));refine this.perm λy=>?_;simp only[Tr.list,QT,QF,qA,JE,K6];grind
end Go.Fg.X
namespace Go.Fg
open Go.RowKit (Below)
def Yz(off len:Nat)(zs:List D)(row:Nat->List D):Nat->List D:=λk=>bif Nat.ble off k&&Nat.blt k (off+len) then zs else row k
def gT{off len k}{zs}{row}(h:k<off):Yz off len zs row k=row k:=by
 have:Nat.ble off k=false:=by rw[<- W3,Gi];omega
 simp[Yz,this]
section
variable {P:Program}{L:Zm}{base nt:Nat}{s:St}{o:Oper}
def QtC(hL:ZR P L){t e:TypeId}{x}{l g off len a b c}{z}{zt}{ob}(ho:o.op=.call ⟨.builtin .clear,#[x],#[t]⟩)(hx:Qr s.fr x=.ref l g off len)(Q9:s.h[l]? = some ob)
  (hk:ob.kd.Gl=false) (hg:ob.gen=g) (hs:ob.sz=1) (hro:ob.kd.ro=false) (hn:off+len<=ob.n) (ht:ty L t=some ⟨.slice e,a,b,zt⟩) {k:TK} (he:ty L e=some ⟨k,1,c,[z]⟩) (hz:xu z=true) :
  q7 P base nt o s (s.h.set l ⟨ob.kd,ob.gen,ob.sz,ob.n,Yz off len [JM z] ob.row⟩) (.tup []):=by
 refine Gs.up ?_ (by simp[calm,ho]);intro Z pl ac w r Kb;have hv:=r.eval x;rw[hx]at hv;obtain⟨o',p',ad,cap,gU,Zv,ZN,ZD,zZ,Wo⟩:=Cm hv;rw[Q9]at Zv;cases Zv;have hy:=hL _ _ ht;have VV:=hL _ _ he;have hu:P.underlying t=some (.slice e):=vT hy rfl;obtain⟨zv,vU,YY⟩:=VV.zeroValue;have Ct:zv.cells=#[z]:=by apply Array.toList_inj.1;rw[vU]
 have Eu:(Builtin.zeroCells zv.cells len).toList=List.replicate len z:=by
  rw[Ct];simp[Builtin.zeroCells];apply List.ext_getElem
  ·simp
  ·intro i h1 h2;simp[Nat.mod_one]
 have hrz:∀Z' h' Qj w',QA Z' h' Qj w' (JM z) z:=λZ' h' Qj w'=>
  .cl _ _ (A7 _ _ _)
 rcases Wo hg.symm with ⟨qK,LL⟩|⟨bb,q,c0,el,VI,haa,Zo,QD5,Ba⟩
 ·subst qK;have Zx:∀i,Yz off 0 [JM z] ob.row i=ob.row i:=λi=>by
   unfold Yz;cases h1:Nat.ble off i&&Nat.blt i (off+0)
   ·rfl
   ·simp at h1;omega
  have qC:s.h.set l ⟨ob.kd,ob.gen,ob.sz,ob.n,Yz off 0 [JM z] ob.row⟩=s.h:=by
   have e1:(⟨ob.kd,ob.gen,ob.sz,ob.n,Yz off 0 [JM z] ob.row⟩:Ob)=ob:=by rw[funext Zx]
   rw[e1];exact xh λi=>by
    by_cases h:l=i
    ·subst h;rw[WE (Ku Q9),Q9]
    ·rw[JL h]
  rw[qC];refine⟨.tuple #[],w,pl,.inl ?_,Tr.refl _ _ _,r.o,.tup [] [] rfl (λi hi=>absurd hi (XY i)),Below.refl _ _⟩;subst LL;cases ad<;>simp[execOp,ho,gU,resolve,invoke,Go.builtin,Builtin.clear_,run_underlying hu]
 ·subst VI;obtain⟨QX,xx⟩:=r.o.at_ l ob bb q Q9 ZN;obtain⟨c1,dD,hb,Gt,JR,Zx⟩:=xx.cells ZD;rw[hb]at Zo;cases Zo;have Jo:∀c2:Nat->List D,(⟨ob.kd,ob.gen,ob.sz,ob.n,c2⟩:Ob).kd=ob.kd:=λ_=>rfl;obtain⟨w',c',g1,g2,g3,g4,g5,g6,g7,g8,g9⟩:=SU (P:=P) bb el (List.replicate len z) 0 (q+off*ob.sz) w c0 hb (by simp;rw[hs]at Gt ⊢;omega) (λk hk=>by
   have ZW:k<len:=by simpa using hk
   have:QW (List.replicate len z) k=z:=by simp[QW,Q8,ZW]
   rw[this];exact hz)
  have T:Tr s.h pl w (s.h.set l ⟨ob.kd,ob.gen,ob.sz,ob.n,Yz off len [JM z] ob.row⟩) pl w':=Tr.QS r.o Q9 ZN rfl rfl rfl (λk hk _=>g5 k hk) (λc2 el2 e2=>by rw[hb]at e2;cases e2;exact⟨c',g2,g3⟩);refine⟨.tuple #[],w',pl,.inl ?_,T,?_,.tup [] [] rfl (λi hi=>absurd hi (XY i)),IK (QX hro) g5 g6 g7 g8 g9⟩
  ·subst haa;by_cases qK:len=0
   ·subst qK;have e1:w'=w:=by
     have:(storeCells ⟨bb,q+off*ob.sz,none⟩ (List.replicate 0 z) 0).run P w=.ok () w:=by simp[storeCells]
     rw[g1]at this;cases this;rfl
    rw[e1];simp[execOp,ho,gU,resolve,invoke,Go.builtin,Builtin.clear_,run_underlying hu]
   ·obtain⟨m,rfl⟩:∃m,len=m+1:=⟨len - 1,by omega⟩;simp[execOp,ho,gU,resolve,invoke,Go.builtin,Builtin.clear_,run_underlying hu,YY,Eu,g1]
  ·refine Ze.QS (hro:=rfl) r.o Q9 ZN ZD ZD rfl rfl (λk hk _=>g5 k hk) hb g2 g3 (by rw[g3];exact Gt) (λk hk=>?_) (λk m hk hm=>?_)
   ·show (Yz off len [JM z] ob.row k).length=ob.sz;unfold Yz;cases Nat.ble off k&&Nat.blt k (off+len)
    ·exact JR k hk
    ·simp[hs]
   ·have ZW:k<ob.n:=hk;have Wg:m<ob.sz:=hm;show ∃v,c'[q+(k*ob.sz+m)]? = some v/\QA Z _ pl w' (nth (Yz off len [JM z] ob.row k) m) v;rw[hs]at Wg;have Oe:m=0:=by omega
    subst Oe;have UZ:k*ob.sz+0=k:=by rw[hs];omega
    have QtF:q+off*ob.sz+0=q+off:=by rw[hs];omega
    rw[g4,UZ,QtF];simp only[List.length_replicate];by_cases XI:off<=k/\k<off+len
    ·rw[Qg (by omega)];have e1:Yz off len [JM z] ob.row k=[JM z]:=by simp[Yz,GU,Qmc,XI.1,XI.2]
     rw[e1];exact⟨z,by rw[List.getElem?_replicate,Qg (by omega)],hrz _ _ _ _⟩
    ·rw[Qd (by omega)];have e1:Yz off len [JM z] ob.row k=ob.row k:=by
      unfold Yz;cases h:(Nat.ble off k&&Nat.blt k (off+len))
      ·rfl
      ·simp at h;omega
     rw[e1];obtain⟨v,Es,Vm⟩:=Zx k 0 ZW (by omega);rw[UZ]at Es;exact⟨v,Es,Vm.tr T⟩
end
section
variable {P:Program}{L:Zm}{base nt:Nat}{w0:Start}{Q:Exit->St->Prop}
def gV(hL:ZR P L)(hb:base<=w0.w.heap.size){k}{dst}{Dd:TypeId}{pos}{after}{gd}{r}{s}{t e:TypeId}{x}{l g off len a b c}{z}{zt}{ob}
  (hx:Qr s.fr x=.ref l g off len) (Q9:s.h[l]? = some ob)
  (hk:ob.kd.Gl=false) (hg:ob.gen=g) (hs:ob.sz=1) (hro:ob.kd.ro=false) (hn:off+len<=ob.n) (ht:ty L t=some ⟨.slice e,a,b,zt⟩) {tk:TK} (he:ty L e=some ⟨tk,1,c,[z]⟩) (hz:xu z=true) (hd:Zr nt dst=true)
  (h1:Qw P base nt w0 Q (.ops r::k) .normal ⟨Zj s.fr dst (.tup []),s.h.set l ⟨ob.kd,ob.gen,ob.sz,ob.n,Yz off len [JM z] ob.row⟩⟩) :
  Qw P base nt w0 Q (.ops ((⟨dst,.call ⟨.builtin .clear,#[x],#[t]⟩,Dd,pos,after,gd⟩,none)::r)::k) .normal s:=by
 simp only[Qw]at h1 ⊢;exact TA hb (QtC hL rfl hx Q9 hk hg hs hro hn ht he hz) hd h1
end
def MFn.cut{P}{f}{F}{args}{R R'}(hf:MFn P f F args R)
  (hr:∀d h,R d h->∃l o n',h[l]? = some o/\o.kd.ty=0/\n'<=o.n/\R' d (h.set l ⟨o.kd,o.gen,o.sz,n',o.row⟩)):MFn P f F args R':=by
 intro Z base w pl vs h1 h2 h3 hl hc;refine(hf Z base w pl vs h1 h2 h3 hl hc).mono λe w' he=>?_;obtain⟨v,d,h,Qj,rfl,hR,hO,hV,hT,hB⟩:=he;obtain⟨l,o,n',ho,hk,hn,hR'⟩:=hr _ _ hR;have hl:=Ku ho;have key:∀(x:Nat) (u:Ob),h[x]? = some u->∃u',(h.set l ⟨o.kd,o.gen,o.sz,n',o.row⟩)[x]? = some u'/\u'.gen=u.gen/\u'.sz=u.sz/\u'.kd.ty=u.kd.ty:=λx u e=>by
  by_cases hx:l=x
  ·subst hx;rw[ho]at e;cases e;exact⟨_,WE hl,rfl,rfl,rfl⟩
  ·exact⟨u,by rw[JL hx];exact e,rfl,rfl,rfl⟩
 refine⟨v,d,_,Qj,rfl,hR',⟨by simp[hO.len],hO.inj,λx u e ep=>?_,λx u b q e ep=>?_⟩,hV.Bs key,⟨hT.Kj,λx u p e ep=>?_,λx u u' b q e e' hg ep c el hc=>?_⟩,hB⟩
 ·by_cases hx:l=x
  ·subst hx;rw[WE hl]at e;cases e;have:=hO.Vv l o ho ep;show n'=0;omega
  ·rw[JL hx]at e;exact hO.Vv x u e ep
 ·by_cases hx:l=x
  ·subst hx;rw[WE hl]at e;cases e;obtain⟨g1,xx⟩:=hO.at_ l o b q ho ep;obtain⟨c,el,c1,c2,c3,c4⟩:=xx.cells hk;refine⟨g1,.IE hk ⟨c,el,c1,?_,λi hi=>c3 i (jO hi hn),λi j hi hj=>?_⟩⟩
   ·have:=Yp o.sz hn;show q+n'*o.sz<=c.size;omega
   ·obtain⟨u,hu,hr⟩:=c4 i j (jO hi hn) hj;exact⟨u,hu,hr.Bs key⟩
  ·rw[JL hx]at e;obtain⟨g1,xx⟩:=hO.at_ x u b q e ep;exact⟨g1,xx.to rfl rfl rfl rfl (λ_ _=>rfl) λi j v _ _ hr=>hr.Bs key⟩
 ·obtain⟨u',p',a1,a2,a3,a4,a5⟩:=hT.obj x u p e ep;obtain⟨u2,b1,b2,b3,b4⟩:=key x u' a1;exact⟨u2,p',b1,a2,by omega,by rw[b4,a4],λhh=>by rw[b3];exact a5 (by omega)⟩
 ·obtain⟨u1,p',a1,a2,a3,a4,a5⟩:=hT.obj x u _ e ep;obtain⟨u2,b1,b2,b3,b4⟩:=key x u1 a1;rw[e']at b1;cases b1;exact hT.shape x u u1 b q e a1 (by omega) ep c el hc
section
variable {P:Program}{L:Zm}{base nt:Nat}{s:St}{o:Oper}
def QtH(hL:ZR P L){t:TypeId}{x:Operand}(ho:o.op=.call ⟨.builtin .cap,#[x],#[t]⟩)(hx:Qr s.fr x=.nil){e a b:Nat}{zt:List Value}(ht:ty L t=some ⟨.slice e,a,b,zt⟩):VJ P base nt o s (.raw (.int .i64 0)):=by
 intro Z pl ac w r;have hr:=r.eval x;rw[hx]at hr;obtain⟨a0,hv⟩:=Cj hr;refine⟨_,.cl _ _ (.raw _),λw' _=>?_⟩;rw[z7 ho];simp[builtin,hv,Builtin.cap_,run_underlying (vT (hL _ _ ht) rfl),goInt]
def QtI{t ti e:TypeId}{ty0:TypeId}{y:Ty}{k kn:IntKind}(ht:P.underlying t=some (.slice e))(O7:P.underlying ti=some (.int kn))(hy:We P e y)(hz:y.zero.length=y.size)(hs:0<y.size)(w:World)(b:Option Addr)(n:Nat)
  (h0:0<n) (z8:n<=4294967296) (q8:y.bytes<=1024) :
  ∃jT rest,(Builtin.append_ #[t,ti] ty0 #[.slice b 0 0,.int k n]).run P w=.ok (.slice (some ⟨w.heap.size,0,none⟩) n jT) (w.drew.alloc (.cells ((flat n y.size λ_ j=>QW y.zero j).toArray++rest) e))/\n<=jT/\rest.size=(jT - n)*y.size:=by
 obtain⟨z,vU,YY⟩:=hy.zeroValue;obtain⟨i,hi,xw,Ys⟩:=hy.typeInfo w;have Jf:∀w,(typeInfo e).run P w=.ok i w:=λw=>by
  have h4:=hy.info;cases hx:P.info? e with
  | none=>rw[hx]at h4;cases h4
  | some k=>
   simp[typeInfo,hx]at hi ⊢;exact hi
 refine⟨grownCap w n 0 e,Builtin.zeroCells z.cells (grownCap w n 0 e - n),?_,grownCap_ge _ _ _ _,by rw[dY];congr 1;rw[<- hz,<- vU];simp⟩;have hn:¬ n=0:=by omega
 have hw:IntKind.i64.wrap (n:Int)=n:=by rw[IntKind.wrap_i64];omega
 have dZ:¬ (9223372036854775807<(n:Int)):=by omega
 have hmul:n*y.bytes<=4294967296*1024:=kO z8 q8;have eh:¬ (281474976710656<Builtin.nextslicecap n 0*i.bytes):=by rw[nextslicecap_zero h0,Ys];omega
 have gW:¬ (281474976710656<(n:Int)*(i.bytes:Int)):=by
  rw[<- Se,Ys];omega
 have O8:¬ ((n:Int)<0):=by omega
 have EG:¬ (n*y.size=0):=Nat.mul_ne_zero hn (by omega);have Cs:z.cells.size=y.size:=by rw[<- hz,<- vU];simp
 have ju:(flat n y.size λ_ j=>QW y.zero j).toArray=Builtin.zeroCells z.cells n:=by
  apply Array.ext
  ·rw[dY,Cs];simp[YX]
  ·intro j h1 h2;simp only[Eg,YX]at h1;obtain⟨d1,d2,d3⟩:=div_lt h1;have Pa:y.zero=z.cells.toList:=vU.symm;have hj:j % y.size<z.cells.size:=by rw[Cs];exact d2
   simp[flat,Builtin.zeroCells,QW,Pa,Q8,Cs,hj];rw[getElem!_pos z.cells _ hj,qZ hj];rfl
 rw[ju];cases b<;>simp[Builtin.append_,run_underlying ht,run_underlying O7,hy.sizeOf,Jf,YY,asInt,asIntOf,hw,hn,O8,EG,dZ,eh,gW,Question.forced,Builtin.firstCells,loadCells,loadCellsFrom,newRow,grownCap,askRoom,mark,Sem.run]
def QtJ(hL:ZR P L){t ti e:TypeId}{x0 x:Operand}{n:Nat}{kn:IntKind}{a b c d:Nat}{zt zi:List Value}{y:Ty}{k:IntKind}(ho:o.op=.call ⟨.builtin .append,#[x0,x],#[t,ti]⟩)(yM:Qr s.fr x0=.nil)(hx:Qr s.fr x=.raw (.int k n))
  (ht:ty L t=some ⟨.slice e,a,b,zt⟩) (O7:ty L ti=some ⟨.int kn,c,d,zi⟩) (VV:ty L e=some y) (hz:y.zero.length=y.size) (hs:0<y.size) (h0:0<n) (z8:n<=4294967296) (q8:y.bytes<=1024) :
  q7 P base nt o s (s.h++[⟨.arr,0,y.size,n,λ_=>y.zero.map JM⟩]) (.ref s.h.length 0 0 n):=by
 refine Gs.up ?_ (by simp[calm,ho]);intro Z pl ac w r Kb;have Wp:=r.eval x0;have Cr:=r.eval x;rw[yM]at Wp;rw[hx]at Cr;obtain⟨a0,IM⟩:=Cj Wp;have hv:=Z9 Cr;have hy:=hL _ _ VV;have Zf:pl.length=s.h.length:=r.o.len;obtain⟨jT,rest,Q5,Ex,xz⟩:=QtI (ty0:=o.type) (k:=k) (vT (hL _ _ ht) rfl) (A5 (hL _ _ O7) rfl) hy hz hs w a0 n h0 z8 q8;have e1:∀b,b<w.heap.size->(w.drew.alloc (.cells ((flat n y.size λ_ j=>QW y.zero j).toArray++rest) e)).heap[b]? = w.heap[b]? := λb hb=>kR w.drew _ b hb;have JH:(w.drew.alloc (.cells ((flat n y.size λ_ j=>QW y.zero j).toArray++rest) e)).heap[w.heap.size]? = some (.cells ((flat n y.size λ_ j=>QW y.zero j).toArray++rest) e (0,0)):=heap_alloc_new w.drew _;have T:Tr s.h pl w (s.h++[⟨.arr,0,y.size,n,λ_=>y.zero.map JM⟩]) (pl++[some (w.heap.size,0)]) (w.drew.alloc (.cells ((flat n y.size λ_ j=>QW y.zero j).toArray++rest) e)):=Tr.push r.o e1 _ _ (by intro b q h;simp at h;omega);refine⟨.slice (some ⟨w.heap.size,0,none⟩) n jT,_,_,.inl ?_,T,Ze.push r.o e1 _ rfl (QD _) Kb JH (by simp[YX]) (λi hi=>by simp[hz]) (λi j hi hj=>⟨QW y.zero j,?_,?_⟩),.ref _ _ _ _ ⟨.arr,0,y.size,n,λ_=>y.zero.map JM⟩ (some (w.heap.size,0)) _ _ (by simp) (by rw[<- Zf];simp) rfl (QD _) (λ_=>.inr ⟨w.heap.size,0,_,_,rfl,by simp,JH,?_,Ex⟩),((Below.refl base w).drew).alloc Kb _⟩
 ·rw[z7 ho];have:(Array.map ac.eval #[x0,x])=#[.slice a0 0 0,.int k n]:=by simp[IM,hv]
  rw[this];simp only[builtin,Sem.run_bind,Q5,Result.andThen_ok,Sem.run_pure]
 ·have hg:=Et (vs:=λ_ j=>QW y.zero j) hi hj;have Qc:=(Wc.1 hg).1;rw[JG,Ip (by simpa using Qc)];simpa using hg
 ·have VD:j<y.zero.length:=by rw[hz];exact hj
  have:nth (y.zero.map JM) j=JM (QW y.zero j):=by simp[nth,QW,Q8,VD]
  show QA Z _ _ _ (nth (y.zero.map JM) j) _;rw[this];exact .cl _ _ (A7 _ _ _)
 ·simp only[JG,Array.size_append,Eg,YX,xz];rw[<- Vl];exact Yp _ (by omega)
end
section
variable {P:Program}{L:Zm}{base nt:Nat}{w0:Start}{Q:Exit->St->Prop}
def gX(hL:ZR P L){k:List Item}{dst:Option Nat}{Dd:TypeId}{pos:String}{after:Array Edge}{gd:Option (Nat × Bool)}{r:List (Oper × G)}{s:St}{t e a b:Nat}{x:Operand}{zt:List Value}
  (hx:Qr s.fr x=.nil) (ht:ty L t=some ⟨.slice e,a,b,zt⟩) (hd:Zr nt dst=true) (h1:Qw P base nt w0 Q (.ops r::k) .normal ⟨Zj s.fr dst (.raw (.int .i64 0)),s.h⟩) :
  Qw P base nt w0 Q (.ops ((⟨dst,.call ⟨.builtin .cap,#[x],#[t]⟩,Dd,pos,after,gd⟩,none)::r)::k) .normal s:=by
 simp only[Qw]at h1 ⊢;exact eU (QtH hL rfl hx ht) hd h1
def QtK(hL:ZR P L)(hb:base<=w0.w.heap.size){k:List Item}{dst:Option Nat}{Dd:TypeId}{pos:String}{after:Array Edge}{gd:Option (Nat × Bool)}{r:List (Oper × G)}{s:St}{t ti e:TypeId}{x0 x:Operand}{n:Nat}{kn:IntKind}{a b c d:Nat}{zt zi:List Value}{y:Ty}{ki:IntKind}
  (yM:Qr s.fr x0=.nil) (hx:Qr s.fr x=.raw (.int ki n)) (ht:ty L t=some ⟨.slice e,a,b,zt⟩) (O7:ty L ti=some ⟨.int kn,c,d,zi⟩) (VV:ty L e=some y) (hz:y.zero.length=y.size) (hs:0<y.size) (h0:0<n) (z8:n<=4294967296) (q8:y.bytes<=1024) (hd:Zr nt dst=true)
  (h1:Qw P base nt w0 Q (.ops r::k) .normal ⟨Zj s.fr dst (.ref s.h.length 0 0 n),s.h++[⟨.arr,0,y.size,n,λ_=>y.zero.map JM⟩]⟩) :
  Qw P base nt w0 Q (.ops ((⟨dst,.call ⟨.builtin .append,#[x0,x],#[t,ti]⟩,Dd,pos,after,gd⟩,none)::r)::k) .normal s:=by
 simp only[Qw]at h1 ⊢;exact TA hb (QtJ hL rfl yM hx ht O7 VV hz hs h0 z8 q8) hd h1
end
section
variable {P:Program}{L:Zm}{base nt:Nat}{s:St}{o:Oper}
end
section
variable {P:Program}{L:Zm}{base nt:Nat}{w0:Start}{Q:Exit->St->Prop}
end
section
variable {Z:Nat->Prop}
def QA.QeO{h:List Ob}{pl:List Pl}{w}{l}{o:Ob}{p}(ho:h[l]? = some o)(hp:pl[l]? = some p)(hk:o.kd.ty=0){d}{v}(r:QA Z h pl w d v):QA Z (h.set l o.gone) (pl.set l none) w d v:=by
 have Zf:∀(l':Nat),l'≠l->(pl.set l none)[l']? = pl[l']? := λl' Yt=>by rw[JL (Q3 Yt)]
 have Lj:∀b,WU pl b->WU (pl.set l none) b:=λb hb l' q e=>by
  by_cases e1:l'=l
  ·subst e1;rw[WE (VU hp)]at e;cases e
  ·rw[Zf l' e1]at e;exact hb l' q e
 have X4:∀b,free Z pl b->free Z (pl.set l none) b:=λb hb=>⟨hb.1,Lj b hb.2⟩;have xy:(h.set l o.gone)[l]? = some o.gone:=WE (Ku ho);have QeP:(pl.set l none)[l]? = some none:=WE (VU hp);induction r with
 | cl d v hc=>exact .cl _ _ (hc.mono λb hb _=>⟨X4 b hb,rfl⟩)
 | ref l' g off len o' p' a cap Zv ZN ZD hg hs=>
  by_cases e:l'=l
  ·subst e;rw[ho]at Zv;cases Zv;exact .ref _ g off len o.gone none a cap xy QeP rfl (by simp[Ob.gone];omega) (λh1=>by simp[Ob.gone]at h1;omega)
  ·exact .ref _ g off len o' p' a cap (by rw[JL (Q3 e)];exact Zv) (by rw[Zf l' e];exact ZN) ZD hg hs
 | ptr l' g i j o' p' a Zv ZN ZD hg hs=>
  by_cases e:l'=l
  ·subst e;rw[ho]at Zv;cases Zv;exact .ptr _ g i j o.gone none a xy QeP rfl (by simp[Ob.gone];omega) (λh1=>by simp[Ob.gone]at h1;omega)
  ·exact .ptr _ g i j o' p' a (by rw[JL (Q3 e)];exact Zv) (by rw[Zf l' e];exact ZN) ZD hg hs
 | mref l' g o' p' b Zv ZN ZD hg hs=>
  by_cases e:l'=l
  ·subst e;rw[ho]at Zv;cases Zv;exact absurd hk ZD.1
  ·exact .mref _ g o' p' b (by rw[JL (Q3 e)];exact Zv) (by rw[Zf l' e];exact ZN) ZD hg hs
 | clo f nf cs vs hl hr ih=>exact .clo f nf cs vs hl ih
 | agg cs vs hl hr ih=>exact .agg cs vs hl ih
 | tup cs vs hl hr ih=>exact .tup cs vs hl ih
end
def QeQ(F h:List Ob):Prop:=∀(l:Nat) (o:Ob),F[l]? = some o->∃o',h[l]? = some o'/\o'.gen=o.gen
def QI.Pb{w0:Start}(hF:w0.pl.length=w0.F.length){fr}{h:List Ob}(QtL:QeQ w0.F h)(t l)(hl:w0.F.length<=l){o:Ob}{off len}(ht:get fr t=.ref l o.gen off len)(ho:h[l]? = some o)(hn:off+len<=o.n)(hk:o.kd.ty=0)(Z6:∀i,i<o.n->(o.row i).all D.Y6=true):
  QI w0 ⟨fr,h⟩ ⟨put fr t (.imm o.sz len (rowFrom off o.row)),h.set l o.gone⟩:=by
 intro Z z base nt pl a w r b;have hlen:pl.length=h.length:=r.o.len;have hlp:l<pl.length:=by have h1:=Ku ho;omega
 have hp:pl[l]? = some pl[l]:=QP hlp;generalize rC:pl[l]=p at hp;have QtM:∀bb q:Nat,p=some (bb,q)->w0.w.heap.size<=bb:=λbb q e=>by
  subst e;rcases A3 bb w0.w.heap.size with Qc|wg
  ·exfalso;have XM:¬ WU w0.pl bb:=λha=>(b.2.1.Kj bb ha Qc).1 l q hp;obtain⟨l0,h1⟩:=Ir.1 XM;obtain⟨q0,h2⟩:=Ir.1 h1;have h3:=Classical.not_not.1 h2;have qK:l0<w0.F.length:=by rw[<- hF];exact VU h3
   obtain⟨o1,p1,k1,k2,k3,k4,k5⟩:=b.2.1.obj l0 _ _ (QP qK) h3;obtain⟨o2,k6,k7⟩:=QtL l0 _ (QP qK);rw[k6]at k1;cases k1;obtain⟨_,k8⟩:=k5 k7;subst k8;have:=r.o.inj l0 l bb q0 q k2 hp;omega
  ·exact wg
 have Wo:∀bb q,p=some (bb,q)->Z bb/\(∀l' q',pl[l']? = some (some (bb,q'))->l'=l)/\NS Z h pl w o bb q:=λbb q e=>by
  have h1:=QtM bb q e;subst e;exact⟨b.2.2.own l bb q hp h1,λl' q' e'=>r.o.inj _ _ _ _ _ e' hp,(r.o.at_ l o bb q ho hp).2.cells hk⟩
 have Zf:∀(l':Nat),l'≠l->(pl.set l none)[l']? = pl[l']? := λl' Yt=>by rw[JL (Q3 Yt)]
 have xy:(pl.set l none)[l]? = some none:=WE hlp;have LR:∀l' bb q:Nat,(pl.set l none)[l']? = some (some (bb,q))->l'≠l/\pl[l']? = some (some (bb,q)):=λl' bb q e=>by
  by_cases e1:l'=l
  ·subst e1;rw[xy]at e;cases e
  ·exact⟨e1,by rw[<- Zf l' e1];exact e⟩
 have hh:∀(l':Nat) (o':Ob),l'≠l->h[l']? = some o'->∃u:Ob,(h.set l o.gone)[l']? = some u/\u.gen=o'.gen/\u.sz=o'.sz/\u.kd.ty=o'.kd.ty:=λl' o' QB e=>
  ⟨o',by rw[JL (Q3 QB)];exact e,rfl,rfl,rfl⟩
 have K:Bi w0.F.length h pl (h.set l o.gone) (pl.set l none):=⟨λb' Kl l' q e=>Kl l' q (LR _ _ _ e).2,λl' o' p' Yt Zv ZN=>by
  have QB:l'≠l:=by omega
  exact⟨o',by rw[JL (Q3 QB)];exact Zv,by rw[Zf l' QB];exact ZN,rfl,rfl,rfl⟩⟩
 refine⟨pl.set l none,⟨r.nt,r.defers,λu=>?_,⟨by simp[hlen],λl1 l2 bb q q' e1 e2=>r.o.inj l1 l2 bb q q' (LR _ _ _ e1).2 (LR _ _ _ e2).2,λl1 o1 h1 e1=>?_,λl1 o1 bb q h1 e1=>?_⟩⟩,b.keep K⟩
 ·show QA Z _ _ w (get (put fr t _) u) _;rw[Ek];by_cases e:u=t
  ·subst e;rw[Qg rfl];have h1:=(r.fr u).fz ho hp hk Wo Z6 hh;rw[ht]at h1;have h2:Nat.ble (off+len) o.n=true:=by rw[Gi];exact hn
   simpa only[D.fz,Iz,h2,Bool.and_self,jQ] using h1
  ·rw[Qd e];exact(r.fr u).QeO ho hp hk
 ·by_cases e2:l1=l
  ·subst e2;rw[WE (by omega)]at h1;cases h1;rfl
  ·rw[JL (Q3 e2)]at h1;rw[Zf l1 e2]at e1;exact r.o.Vv l1 o1 h1 e1
 ·obtain⟨QB,e2⟩:=LR _ _ _ e1;rw[JL (Q3 QB)]at h1;obtain⟨g1,x⟩:=r.o.at_ l1 o1 bb q h1 e2;exact⟨g1,x.to rfl rfl rfl rfl (λi _=>rfl) λi j v hi hj hr=>hr.QeO ho hp hk⟩
section
variable {P:Program}{base nt:Nat}{w0:Start}
end
section
variable {P:Program}{base nt:Nat}{w0:Start}{Q:Exit->St->Prop}
end
section
variable {P:Program}{base nt:Nat}{w0:Start}{Q:Exit->St->Prop}
end
end Go.Fg
namespace Go.Fg
section
variable {P:Program}{base nt:Nat}{w0:Start}{Q:Exit->St->Prop}{k:List Item}{s:St}
def LS(P:Program)(base nt:Nat)(w0:Start)(Q:Exit->St->Prop)(k:List Item)(c:Code):Nat->Exit->St->Prop
 | 0,.normal,_=>False
 | n+1,.normal,s=>Qw P base nt w0 (LS P base nt w0 Q k c n) [.code c] .normal s
 | _,e,s=>Qw P base nt w0 Q k e s
@[go_sem] theorem QD7{c}{n}:LS P base nt w0 Q k c (n+1) .normal s=Qw P base nt w0 (LS P base nt w0 Q k c n) [.code c] .normal s:=Kw rfl
@[go_sem] theorem QD8{c}{n j}:LS P base nt w0 Q k c n (.exit j) s=Qw P base nt w0 Q k (.exit j) s:=Kw (by cases n<;>rfl)
@[go_sem] theorem QD9{c}{n}:LS P base nt w0 Q k c n .ret s=Qw P base nt w0 Q k .ret s:=Kw (by cases n<;>rfl)
def vv(n){c}(h:Qw P base nt w0 (LS P base nt w0 Q k c n) [.code c] .normal s):Qw P base nt w0 Q (.code (.loop c)::k) .normal s:=by
 simp only[Qw];intro Z z pl a w r b;refine wp_loop_rounds (n+1) ?_;induction n generalizing s pl a w with
 | zero=>
  simp only[Qw]at h;rw[rounds_succ];refine Code.wp_mono (λe a w q=>?_) (h Z z pl a w r b);obtain⟨s',Qj,h1,h2,h3⟩:=q;cases e with
  | normal=>exact h1.elim
  | _=>exact⟨s',Qj,h1,h2,h3⟩
 | succ n ih=>
  simp only[Qw]at h;rw[rounds_succ];refine Code.wp_mono (λe a w q=>?_) (h Z z pl a w r b);obtain⟨s',Qj,h1,h2,h3⟩:=q;cases e with
  | normal=>exact ih h1 Qj a w h2 h3
  | _=>exact⟨s',Qj,h1,h2,h3⟩
end
end Go.Fg
namespace Go.Fg.X
open Go.Proofs Go.Fg
open Go.Proofs.Tryz
def gY(a)(i)(b)(j):Zh prog 234 [.agg [u64 a,Qb i],.agg [u64 b,Qb j]] (Qo (Qb (qd a i b j))):=by
 refine Zy 0 Qh 200 func234 rfl ntmps234 results234 rfl λbase w hb=>?_;simp only[go_sem]
 repeat' (first|((first|refine EX (λh=>?_) (λh=>?_)|refine EY (λh=>?_) (λh=>?_)|refine EZ (λh=>?_) (λh=>?_)|refine vg (λh=>?_) (λh=>?_)|refine E0 (λh=>?_) (λh=>?_)|refine E6 (λh=>?_) (λh=>?_)|refine E7 (λh=>?_) (λh=>?_)|refine ET (λh=>?_) (λh=>?_))<;>(try simp only[go_sem,Go.undef]))|(refine And.intro (by first|assumption|omega) ?_;try simp only[go_sem,Go.undef])|fail)
 all_goals (congr 2;(try simp only[ZJ,F9,yD,Ea,zY,zX,bne_iff_ne,bne_eq_false_iff_eq,Yq,NP,ne_eq]at *);(try unfold qd JW);(repeat' split)<;>omega)
def LU(x y:It):Zh prog 183 [.agg x.cells,.agg y.cells] (Qo (.agg (zq x y).cells)):=by
 have c1:=gY y.va y.vi x.va x.vi;have c2:=gY y.ka y.ki x.ka x.ki;simp only[zq];generalize qd y.va y.vi x.va x.vi=p at *;generalize qd y.ka y.ki x.ka x.ki=q at *;refine Zy 0 Qh 200 func183 rfl ntmps183 results183 rfl λbase w hb=>?_;simp only[go_sem];refine ZA hb fW rfl ?_ c1 (Qo.flat rfl) rfl λd h hR=>?_
 ·simp only[go_sem]
 obtain⟨rfl,rfl⟩:=hR;refine Qf hb ?_;simp only[go_sem]
 repeat' (first|((first|refine EX (λh=>?_) (λh=>?_)|refine EY (λh=>?_) (λh=>?_)|refine EZ (λh=>?_) (λh=>?_)|refine vg (λh=>?_) (λh=>?_)|refine E0 (λh=>?_) (λh=>?_)|refine E6 (λh=>?_) (λh=>?_)|refine E7 (λh=>?_) (λh=>?_)|refine ET (λh=>?_) (λh=>?_))<;>(try simp only[go_sem,Go.undef]))|(refine And.intro (by first|assumption|omega) ?_;try simp only[go_sem,Go.undef])|(refine xM hb [] fW rfl ?_ (c2) rfl ?_;(· simp only[go_sem,Go.undef]);intro d h hR;obtain⟨rfl,rfl⟩:=hR;(simp only[go_sem,Go.undef]);refine Qf hb ?_;simp only[go_sem,Go.undef])|fail)
 all_goals (try simp only[zY,zX,ne_eq]at *);(first|rw[Qg (by omega)]|rw[Qd (by omega)])
section
variable {h:List Ob}{t:Tr}(i:qI h t)
include i
theorem jv:Zg prog 272 h [t.ptr] (λd=>d=Qb t.high):=by
 cases t with
 | nil=>
  refine Zt Qh 200 func272 rfl ntmps272 results272 rfl λbase w pl F hF Za hb=>?_;simp only[go_sem,Qa];exact⟨[],by simp[Tr.high]⟩
 | node loc it l r=>
  have h2:=i.1;refine Zt Qh 200 func272 rfl ntmps272 results272 rfl λbase w pl F hF Za hb=>?_;rw[<- hF]at h2;have KE:=Qc h2;simp only[go_sem,Qa,h2,KE];exact⟨[],by simp⟩
theorem De:Zg prog 233 h [t.ptr] (λd=>d=Qb t.size):=by
 cases t with
 | nil=>
  refine Zt Qh 200 func233 rfl ntmps233 results233 rfl λbase w pl F hF Za hb=>?_;simp only[go_sem,Qa];exact⟨[],by simp[Tr.size]⟩
 | node loc it l r=>
  have h2:=i.1;refine Zt Qh 200 func233 rfl ntmps233 results233 rfl λbase w pl F hF Za hb=>?_;rw[<- hF]at h2;have KE:=Qc h2;simp only[go_sem,Qa,h2,KE];exact⟨[],by simp⟩
theorem gZ(n):Zg prog 273 h [t.ptr,u64 n] (λd=>d=QY (t.hasB n)):=by
 cases t with
 | nil=>
  refine Zt Qh 200 func273 rfl ntmps273 results273 rfl λbase w pl F hF Za hb=>?_;simp only[go_sem,Qa];exact⟨[],by simp[Tr.hasB]⟩
 | node loc it l r=>
  have h2:=i.1;refine Zt Qh 200 func273 rfl ntmps273 results273 rfl λbase w pl F hF Za hb=>?_;rw[<- hF]at h2;have KE:=Qc h2;simp only[go_sem,Qa,h2,KE];exact⟨[],by simp[Tr.hasB]⟩
end
structure Raw (h:List Ob) (loc:Nat) (it:It) (l r:Tr) (le:It) (hi n:Int):Prop where
 o:h[loc]? = some (Da it l.ptr r.ptr le hi n)
 il:KC h l
 ir:KC h r
def KC.set{h:List Ob}{t:Tr}(i:KC h t){k}(o)(hn:k ∉ t.QJ):KC (h.set k o) t:=i.frame λl hl=>Qi λe=>hn (e▸hl)
def BC{h}{loc}{it}{l r:Tr}{le}{hi n}(i:Raw h loc it l r le hi n)(hs:l.size<1000000)(Jk:r.size<1000000)(nl:loc ∉ l.QJ)(nr:loc ∉ r.QJ):
  MFn prog 260 h [.ptr loc 0 0 0] (λd h'=>h'=h.set loc (Da it l.ptr r.ptr (Tr.node loc it l r).least ((Tr.node loc it l r).high:Nat) ((Tr.node loc it l r).size:Nat))):=by
 have h1:=i.o;have il:=i.il;have ir:=i.ir;have w1:=l.LO;have w2:=r.LO;have e1:max (l.high:Int) (r.high:Int)=((max l.high r.high:Nat):Int):=by omega
 have e2:IntKind.i64.wrap (1+((max l.high r.high:Nat):Int))=((1+max l.high r.high:Nat):Int):=by rw[wrap64 (by omega) (by omega)];omega
 have e3:IntKind.i64.wrap (1+(l.size:Int))=((1+l.size:Nat):Int):=by rw[wrap64 (by omega) (by omega)];omega
 have e4:IntKind.i64.wrap (((1+l.size:Nat):Int)+(r.size:Int))=((1+l.size+r.size:Nat):Int):=by rw[wrap64 (by omega) (by omega)];omega
 rcases l with _|⟨a,b,c,d⟩<;>rcases r with _|⟨a',b',c',d'⟩
 ·simp only[Tr.Fl,Tr.BB]at h1;refine QU Qh 200 func260 rfl ntmps260 results260 rfl λbase w pl hb=>?_;have QG:=Qc h1;simp only[go_sem,Qa,h1,QG];refine J8 Qh hb 200 mixed [(0,true),(1,true),(2,true),(3,true),(4,true),(5,true),(7,true),(8,true),(9,true),(10,true),(11,true),(6,false),(12,false),(13,true),(14,true),(15,true),(16,true),(17,false)] (by kernel_rfl) (by kernel_rfl) ?_;simp only[go_sem,Qa,h1,QG];refine Wv hb jo rfl ?_ (jv il.toR) rfl λd hR=>?_
  ·simp only[go_sem,Qa,h1,QG]
  subst hR;refine Zb hb ?_;simp only[go_sem,Qa,h1,QG];refine Wv hb jo rfl ?_ (jv ir.toR) rfl λd hR=>?_
  ·simp only[go_sem,Qa,h1,QG,e1,e2]
  subst hR;refine Zb hb ?_;simp only[go_sem,Qa,h1,QG,e1,e2];refine J8 Qh hb 200 mixed [(0,true),(1,true),(2,true),(3,true),(4,true),(5,true),(8,true),(9,true),(10,true),(11,true),(12,true),(6,false),(7,true),(13,false),(14,true),(15,true),(16,true),(17,false)] (by kernel_rfl) (by kernel_rfl) ?_;simp only[go_sem,Qa,h1,QG,Qv QG];refine Wv hb CP rfl ?_ (De (il.set _ nl).toR) rfl λd hR=>?_
  ·simp only[go_sem,Qa,h1,QG,Qv QG,e3]
  subst hR;refine Zb hb ?_;simp only[go_sem,Qa,h1,QG,Qv QG,e3];refine Wv hb CP rfl ?_ (De (ir.set _ nr).toR) rfl λd hR=>?_
  ·simp only[go_sem,Qa,h1,QG,Qv QG,e4]
  subst hR;refine Zb hb ?_;simp only[go_sem,Qa,h1,QG,Qv QG,e4];refine vv 2 ?_;refine Qf hb ?_;simp only[go_sem,Qa,h1,QG,Qv QG];refine Qf hb ?_;simp only[go_sem,Qa,h1,QG,Qv QG];refine Qf hb ?_;simp only[go_sem,Qa,h1,QG,Qv QG];rfl
 ·simp only[Tr.Fl,Tr.BB]at h1;have Kl:=ir.1;have W8:loc≠a':=by rintro rfl;exact nr (by simp[Tr.QJ])
  refine QU Qh 200 func260 rfl ntmps260 results260 rfl λbase w pl hb=>?_;have QG:=Qc h1;simp only[go_sem,Qa,h1,QG];refine J8 Qh hb 200 mixed [(0,true),(1,true),(2,true),(3,true),(4,true),(5,true),(7,true),(8,true),(9,true),(10,true),(11,true),(6,false),(12,false),(13,true),(14,true),(15,true),(16,true),(17,false)] (by kernel_rfl) (by kernel_rfl) ?_;simp only[go_sem,Qa,h1,QG];refine Wv hb jo rfl ?_ (jv il.toR) rfl λd hR=>?_
  ·simp only[go_sem,Qa,h1,QG]
  subst hR;refine Zb hb ?_;simp only[go_sem,Qa,h1,QG];refine Wv hb jo rfl ?_ (jv ir.toR) rfl λd hR=>?_
  ·simp only[go_sem,Qa,h1,QG,e1,e2]
  subst hR;refine Zb hb ?_;simp only[go_sem,Qa,h1,QG,e1,e2];refine J8 Qh hb 200 mixed [(0,true),(1,true),(2,true),(3,true),(4,true),(5,true),(8,true),(9,true),(10,true),(11,true),(12,true),(6,false),(7,true),(13,false),(14,true),(15,true),(16,true),(17,false)] (by kernel_rfl) (by kernel_rfl) ?_;simp only[go_sem,Qa,h1,QG,Qv QG];refine Wv hb CP rfl ?_ (De (il.set _ nl).toR) rfl λd hR=>?_
  ·simp only[go_sem,Qa,h1,QG,Qv QG,e3]
  subst hR;refine Zb hb ?_;simp only[go_sem,Qa,h1,QG,Qv QG,e3];refine Wv hb CP rfl ?_ (De (ir.set _ nr).toR) rfl λd hR=>?_
  ·simp only[go_sem,Qa,h1,QG,Qv QG,e4]
  subst hR;refine Zb hb ?_;simp only[go_sem,Qa,h1,QG,Qv QG,e4];refine vv 2 ?_;refine Qf hb ?_;simp only[go_sem,Qa,h1,QG,Qv QG,Kl,Qi W8];refine Qf hb ?_;simp only[go_sem,Qa,h1,QG,Qv QG,Kl,Qi W8];refine J8 Qh hb 200 mixed [(0,true),(1,true),(2,true),(3,true),(4,true),(5,true),(6,true),(7,true),(8,true),(9,false),(10,true),(11,true),(12,false)] (by kernel_rfl) (by kernel_rfl) ?_;simp only[go_sem,Qa,h1,QG,Qv QG,Kl,Qi W8];refine KB hb LA rfl ?_ (LU it (Tr.node a' b' c' d').least) (Qo.flat rfl) rfl λd h hR=>?_
  ·simp only[go_sem,Qa,h1,QG,Qv QG,Kl,Qi W8]
  obtain⟨rfl,rfl⟩:=hR;refine Zb hb ?_;simp only[go_sem,Qa,h1,QG,Qv QG,Kl,Qi W8];refine Qf hb ?_;simp only[go_sem,Qa,h1,QG,Qv QG,Kl,Qi W8];rfl
 ·simp only[Tr.Fl,Tr.BB]at h1;have ha:=il.1;have XM:loc≠a:=by rintro rfl;exact nl (by simp[Tr.QJ])
  refine QU Qh 200 func260 rfl ntmps260 results260 rfl λbase w pl hb=>?_;have QG:=Qc h1;simp only[go_sem,Qa,h1,QG];refine J8 Qh hb 200 mixed [(0,true),(1,true),(2,true),(3,true),(4,true),(5,true),(7,true),(8,true),(9,true),(10,true),(11,true),(6,false),(12,false),(13,true),(14,true),(15,true),(16,true),(17,false)] (by kernel_rfl) (by kernel_rfl) ?_;simp only[go_sem,Qa,h1,QG];refine Wv hb jo rfl ?_ (jv il.toR) rfl λd hR=>?_
  ·simp only[go_sem,Qa,h1,QG]
  subst hR;refine Zb hb ?_;simp only[go_sem,Qa,h1,QG];refine Wv hb jo rfl ?_ (jv ir.toR) rfl λd hR=>?_
  ·simp only[go_sem,Qa,h1,QG,e1,e2]
  subst hR;refine Zb hb ?_;simp only[go_sem,Qa,h1,QG,e1,e2];refine J8 Qh hb 200 mixed [(0,true),(1,true),(2,true),(3,true),(4,true),(5,true),(8,true),(9,true),(10,true),(11,true),(12,true),(6,false),(7,true),(13,false),(14,true),(15,true),(16,true),(17,false)] (by kernel_rfl) (by kernel_rfl) ?_;simp only[go_sem,Qa,h1,QG,Qv QG];refine Wv hb CP rfl ?_ (De (il.set _ nl).toR) rfl λd hR=>?_
  ·simp only[go_sem,Qa,h1,QG,Qv QG,e3]
  subst hR;refine Zb hb ?_;simp only[go_sem,Qa,h1,QG,Qv QG,e3];refine Wv hb CP rfl ?_ (De (ir.set _ nr).toR) rfl λd hR=>?_
  ·simp only[go_sem,Qa,h1,QG,Qv QG,e4]
  subst hR;refine Zb hb ?_;simp only[go_sem,Qa,h1,QG,Qv QG,e4];refine vv 2 ?_;refine Qf hb ?_;simp only[go_sem,Qa,h1,QG,Qv QG,ha,Qi XM];refine J8 Qh hb 200 mixed [(0,true),(1,true),(2,true),(3,true),(4,true),(5,true),(6,true),(7,true),(8,true),(9,false),(10,true),(11,true),(12,false)] (by kernel_rfl) (by kernel_rfl) ?_;simp only[go_sem,Qa,h1,QG,Qv QG,ha,Qi XM];refine KB hb LA rfl ?_ (LU it (Tr.node a b c d).least) (Qo.flat rfl) rfl λd h hR=>?_
  ·simp only[go_sem,Qa,h1,QG,Qv QG,ha,Qi XM]
  obtain⟨rfl,rfl⟩:=hR;refine Zb hb ?_;simp only[go_sem,Qa,h1,QG,Qv QG,ha,Qi XM];refine Qf hb ?_;simp only[go_sem,Qa,h1,QG,Qv QG,ha,Qi XM];refine Qf hb ?_;simp only[go_sem,Qa,h1,QG,Qv QG,ha,Qi XM];rfl
 ·simp only[Tr.Fl,Tr.BB]at h1;have ha:=il.1;have XM:loc≠a:=by rintro rfl;exact nl (by simp[Tr.QJ])
  have Kl:=ir.1;have W8:loc≠a':=by rintro rfl;exact nr (by simp[Tr.QJ])
  refine QU Qh 200 func260 rfl ntmps260 results260 rfl λbase w pl hb=>?_;have QG:=Qc h1;simp only[go_sem,Qa,h1,QG];refine J8 Qh hb 200 mixed [(0,true),(1,true),(2,true),(3,true),(4,true),(5,true),(7,true),(8,true),(9,true),(10,true),(11,true),(6,false),(12,false),(13,true),(14,true),(15,true),(16,true),(17,false)] (by kernel_rfl) (by kernel_rfl) ?_;simp only[go_sem,Qa,h1,QG];refine Wv hb jo rfl ?_ (jv il.toR) rfl λd hR=>?_
  ·simp only[go_sem,Qa,h1,QG]
  subst hR;refine Zb hb ?_;simp only[go_sem,Qa,h1,QG];refine Wv hb jo rfl ?_ (jv ir.toR) rfl λd hR=>?_
  ·simp only[go_sem,Qa,h1,QG,e1,e2]
  subst hR;refine Zb hb ?_;simp only[go_sem,Qa,h1,QG,e1,e2];refine J8 Qh hb 200 mixed [(0,true),(1,true),(2,true),(3,true),(4,true),(5,true),(8,true),(9,true),(10,true),(11,true),(12,true),(6,false),(7,true),(13,false),(14,true),(15,true),(16,true),(17,false)] (by kernel_rfl) (by kernel_rfl) ?_;simp only[go_sem,Qa,h1,QG,Qv QG];refine Wv hb CP rfl ?_ (De (il.set _ nl).toR) rfl λd hR=>?_
  ·simp only[go_sem,Qa,h1,QG,Qv QG,e3]
  subst hR;refine Zb hb ?_;simp only[go_sem,Qa,h1,QG,Qv QG,e3];refine Wv hb CP rfl ?_ (De (ir.set _ nr).toR) rfl λd hR=>?_
  ·simp only[go_sem,Qa,h1,QG,Qv QG,e4]
  subst hR;refine Zb hb ?_;simp only[go_sem,Qa,h1,QG,Qv QG,e4];refine vv 2 ?_;refine Qf hb ?_;simp only[go_sem,Qa,h1,QG,Qv QG,ha,Qi XM,Kl,Qi W8];refine J8 Qh hb 200 mixed [(0,true),(1,true),(2,true),(3,true),(4,true),(5,true),(6,true),(7,true),(8,true),(9,false),(10,true),(11,true),(12,false)] (by kernel_rfl) (by kernel_rfl) ?_;simp only[go_sem,Qa,h1,QG,Qv QG,ha,Qi XM,Kl,Qi W8];refine KB hb LA rfl ?_ (LU it (Tr.node a b c d).least) (Qo.flat rfl) rfl λd h hR=>?_
  ·simp only[go_sem,Qa,h1,QG,Qv QG,ha,Qi XM,Kl,Qi W8]
  obtain⟨rfl,rfl⟩:=hR;refine Zb hb ?_;simp only[go_sem,Qa,h1,QG,Qv QG,ha,Qi XM,Kl,Qi W8];refine Qf hb ?_;simp only[go_sem,Qa,h1,QG,Qv QG,ha,Qi XM,Kl,Qi W8];refine J8 Qh hb 200 mixed [(0,true),(1,true),(2,true),(3,true),(4,true),(5,true),(6,true),(7,true),(8,true),(9,false),(10,true),(11,true),(12,false)] (by kernel_rfl) (by kernel_rfl) ?_;simp only[go_sem,Qa,h1,QG,Qv QG,ha,Qi XM,Kl,Qi W8];refine KB hb LA rfl ?_ (LU (zq it (Tr.node a b c d).least) (Tr.node a' b' c' d').least) (Qo.flat rfl) rfl λd h hR=>?_
  ·simp only[go_sem,Qa,h1,QG,Qv QG,ha,Qi XM,Kl,Qi W8]
  obtain⟨rfl,rfl⟩:=hR;refine Zb hb ?_;simp only[go_sem,Qa,h1,QG,Qv QG,ha,Qi XM,Kl,Qi W8];refine Qf hb ?_;simp only[go_sem,Qa,h1,QG,Qv QG,ha,Qi XM,Kl,Qi W8];rfl
def ie{h:List Ob}{lx ly}{ix iy}{a b c:Tr}{e e'}{p p' q q'}(hx:h[lx]? = some (Da ix (.ptr ly 0 0 0) c.ptr e p p'))(hy:h[ly]? = some (Da iy a.ptr b.ptr e' q q'))
  (ia:KC h a) (ib:KC h b) (ic:KC h c) (nd:(lx::ly::(a.QJ++b.QJ++c.QJ)).Nodup) (hs:a.size+b.size+c.size<900000) :
  MFn prog 284 h [.ptr lx 0 0 0,Qb 0] (λd h'=>d=.ptr ly 0 0 0/\KC h' (.node ly iy a (.node lx ix b c))/\h'.length=h.length/\∀l,l≠lx->l≠ly->h'[l]? = h[l]?):=by
 have vw:=nd;simp only[ZK,QF,QT,Yr]at vw;obtain⟨⟨QB,⟨na,nb⟩,nc⟩,⟨⟨ma,mb⟩,mc⟩,_⟩:=vw;have Yb:ly≠lx:=Q3 QB;rcases b with _|⟨b1,b2,b3,b4⟩
 ·simp only[Tr.Fl,Tr.BB]at hx hy;refine QU Qh 200 func284 rfl ntmps284 results284 rfl λbase w pl hb=>?_;have V5:=Qc hx;have Yc:=Qc hy;simp only[go_sem,Qa,hx,V5,hy,Yc];refine J8 Qh hb 200 mixed [(0,true),(1,true),(2,true),(3,true),(4,true),(5,true),(6,true),(7,true),(8,true),(9,true),(10,true),(11,true),(12,false)] (by kernel_rfl) (by kernel_rfl) ?_;simp only[go_sem,Qa,hx,V5,hy,Yc,Qi QB,Qv V5];refine KW hb Bv rfl ?_ (BC (loc:=lx) (l:=Tr.nil) (r:=c) (it:=ix) (hi:=p) (n:=p') (le:=e) ⟨?_,?_,?_⟩ ?_ ?_ nb nc) rfl λd h' hR=>?_
  ·simp only[go_sem]
  ·rw[Qi Yb,Qv V5];rfl
  ·exact(ib.set _ nb).set _ mb
  ·exact(ic.set _ nc).set _ mc
  ·omega
  ·omega
  subst hR;refine Qf hb ?_;simp only[go_sem,Qa];refine KW hb Bv rfl ?_ (BC (loc:=ly) (l:=a) (r:=(.node lx ix Tr.nil c)) (it:=iy) (hi:=q) (n:=q') (le:=e') ⟨?_,?_,?_⟩ ?_ ?_ ?_ ?_) rfl λd h' hR=>?_
  ·simp only[go_sem]
  ·rw[Qi QB,Qv (by simpa using Yc)];rfl
  ·exact((ia.set _ na).set _ ma).set _ na
  ·exact⟨Qv (by simpa using V5),((ib.set _ nb).set _ mb).set _ nb,((ic.set _ nc).set _ mc).set _ nc⟩
  ·simp only[Tr.size]at *;omega
  ·simp only[Tr.size]at *;omega
  ·exact ma
  ·intro hm;rcases QF.1 hm with hm|hm;exact Yb hm;rcases QT.1 hm with hm|hm;exact mb hm;exact mc hm
  subst hR;refine Qf hb ?_;simp only[go_sem,Qa];exact⟨⟨Qv (by simpa using Yc),(((ia.set _ na).set _ ma).set _ na).set _ ma,⟨by rw[Qi Yb,Qv (by simpa using V5)];rfl,(((ib.set _ nb).set _ mb).set _ nb).set _ mb,(((ic.set _ nc).set _ mc).set _ nc).set _ mc⟩⟩,λl k1 k2=>by rw[Qi (Q3 k2),Qi (Q3 k1),Qi (Q3 k2),Qi (Q3 k1)]⟩
 ·simp only[Tr.Fl,Tr.BB]at hx hy;refine QU Qh 200 func284 rfl ntmps284 results284 rfl λbase w pl hb=>?_;have V5:=Qc hx;have Yc:=Qc hy;simp only[go_sem,Qa,hx,V5,hy,Yc];refine J8 Qh hb 200 mixed [(0,true),(1,true),(2,true),(3,true),(4,true),(5,true),(6,true),(7,true),(8,true),(9,true),(10,true),(11,true),(12,false)] (by kernel_rfl) (by kernel_rfl) ?_;simp only[go_sem,Qa,hx,V5,hy,Yc,Qi QB,Qv V5];refine KW hb Bv rfl ?_ (BC (loc:=lx) (l:=(Tr.node b1 b2 b3 b4)) (r:=c) (it:=ix) (hi:=p) (n:=p') (le:=e) ⟨?_,?_,?_⟩ ?_ ?_ nb nc) rfl λd h' hR=>?_
  ·simp only[go_sem]
  ·rw[Qi Yb,Qv V5];rfl
  ·exact(ib.set _ nb).set _ mb
  ·exact(ic.set _ nc).set _ mc
  ·omega
  ·omega
  subst hR;refine Qf hb ?_;simp only[go_sem,Qa];refine KW hb Bv rfl ?_ (BC (loc:=ly) (l:=a) (r:=(.node lx ix (Tr.node b1 b2 b3 b4) c)) (it:=iy) (hi:=q) (n:=q') (le:=e') ⟨?_,?_,?_⟩ ?_ ?_ ?_ ?_) rfl λd h' hR=>?_
  ·simp only[go_sem]
  ·rw[Qi QB,Qv (by simpa using Yc)];rfl
  ·exact((ia.set _ na).set _ ma).set _ na
  ·exact⟨Qv (by simpa using V5),((ib.set _ nb).set _ mb).set _ nb,((ic.set _ nc).set _ mc).set _ nc⟩
  ·simp only[Tr.size]at *;omega
  ·simp only[Tr.size]at *;omega
  ·exact ma
  ·intro hm;rcases QF.1 hm with hm|hm;exact Yb hm;rcases QT.1 hm with hm|hm;exact mb hm;exact mc hm
  subst hR;refine Qf hb ?_;simp only[go_sem,Qa];exact⟨⟨Qv (by simpa using Yc),(((ia.set _ na).set _ ma).set _ na).set _ ma,⟨by rw[Qi Yb,Qv (by simpa using V5)];rfl,(((ib.set _ nb).set _ mb).set _ nb).set _ mb,(((ic.set _ nc).set _ mc).set _ nc).set _ mc⟩⟩,λl k1 k2=>by rw[Qi (Q3 k2),Qi (Q3 k1),Qi (Q3 k2),Qi (Q3 k1)]⟩
def ig{h:List Ob}{lx ly}{ix iy}{a b c:Tr}{e e'}{p p' q q'}(hx:h[lx]? = some (Da ix a.ptr (.ptr ly 0 0 0) e p p'))(hy:h[ly]? = some (Da iy b.ptr c.ptr e' q q'))
  (ia:KC h a) (ib:KC h b) (ic:KC h c) (nd:(lx::ly::(a.QJ++b.QJ++c.QJ)).Nodup) (hs:a.size+b.size+c.size<900000) :
  MFn prog 284 h [.ptr lx 0 0 0,Qb 1] (λd h'=>d=.ptr ly 0 0 0/\KC h' (.node ly iy (.node lx ix a b) c)/\h'.length=h.length/\∀l,l≠lx->l≠ly->h'[l]? = h[l]?):=by
 have vw:=nd;simp only[ZK,QF,QT,Yr]at vw;obtain⟨⟨QB,⟨na,nb⟩,nc⟩,⟨⟨ma,mb⟩,mc⟩,_⟩:=vw;have Yb:ly≠lx:=Q3 QB;rcases b with _|⟨b1,b2,b3,b4⟩
 ·simp only[Tr.Fl,Tr.BB]at hx hy;refine QU Qh 200 func284 rfl ntmps284 results284 rfl λbase w pl hb=>?_;have V5:=Qc hx;have Yc:=Qc hy;simp only[go_sem,Qa,hx,V5,hy,Yc];refine J8 Qh hb 200 mixed [(0,true),(1,true),(2,true),(3,true),(4,true),(5,true),(6,true),(7,true),(8,true),(9,true),(10,true),(11,true),(12,false)] (by kernel_rfl) (by kernel_rfl) ?_;simp only[go_sem,Qa,hx,V5,hy,Yc,Qi QB,Qv V5];refine KW hb Bv rfl ?_ (BC (loc:=lx) (l:=a) (r:=Tr.nil) (it:=ix) (hi:=p) (n:=p') (le:=e) ⟨?_,?_,?_⟩ ?_ ?_ na nb) rfl λd h' hR=>?_
  ·simp only[go_sem]
  ·rw[Qi Yb,Qv V5];rfl
  ·exact(ia.set _ na).set _ ma
  ·exact(ib.set _ nb).set _ mb
  ·omega
  ·omega
  subst hR;refine Qf hb ?_;simp only[go_sem,Qa];refine KW hb Bv rfl ?_ (BC (loc:=ly) (l:=(.node lx ix a Tr.nil)) (r:=c) (it:=iy) (hi:=q) (n:=q') (le:=e') ⟨?_,?_,?_⟩ ?_ ?_ ?_ ?_) rfl λd h' hR=>?_
  ·simp only[go_sem]
  ·rw[Qi QB,Qv (by simpa using Yc)];rfl
  ·exact⟨Qv (by simpa using V5),((ia.set _ na).set _ ma).set _ na,((ib.set _ nb).set _ mb).set _ nb⟩
  ·exact((ic.set _ nc).set _ mc).set _ nc
  ·simp only[Tr.size]at *;omega
  ·simp only[Tr.size]at *;omega
  ·intro hm;rcases QF.1 hm with hm|hm;exact Yb hm;rcases QT.1 hm with hm|hm;exact ma hm;exact mb hm
  ·exact mc
  subst hR;refine Qf hb ?_;simp only[go_sem,Qa];exact⟨⟨Qv (by simpa using Yc),⟨by rw[Qi Yb,Qv (by simpa using V5)];rfl,(((ia.set _ na).set _ ma).set _ na).set _ ma,(((ib.set _ nb).set _ mb).set _ nb).set _ mb⟩,(((ic.set _ nc).set _ mc).set _ nc).set _ mc⟩,λl k1 k2=>by rw[Qi (Q3 k2),Qi (Q3 k1),Qi (Q3 k2),Qi (Q3 k1)]⟩
 ·simp only[Tr.Fl,Tr.BB]at hx hy;refine QU Qh 200 func284 rfl ntmps284 results284 rfl λbase w pl hb=>?_;have V5:=Qc hx;have Yc:=Qc hy;simp only[go_sem,Qa,hx,V5,hy,Yc];refine J8 Qh hb 200 mixed [(0,true),(1,true),(2,true),(3,true),(4,true),(5,true),(6,true),(7,true),(8,true),(9,true),(10,true),(11,true),(12,false)] (by kernel_rfl) (by kernel_rfl) ?_;simp only[go_sem,Qa,hx,V5,hy,Yc,Qi QB,Qv V5];refine KW hb Bv rfl ?_ (BC (loc:=lx) (l:=a) (r:=(Tr.node b1 b2 b3 b4)) (it:=ix) (hi:=p) (n:=p') (le:=e) ⟨?_,?_,?_⟩ ?_ ?_ na nb) rfl λd h' hR=>?_
  ·simp only[go_sem]
  ·rw[Qi Yb,Qv V5];rfl
  ·exact(ia.set _ na).set _ ma
  ·exact(ib.set _ nb).set _ mb
  ·omega
  ·omega
  subst hR;refine Qf hb ?_;simp only[go_sem,Qa];refine KW hb Bv rfl ?_ (BC (loc:=ly) (l:=(.node lx ix a (Tr.node b1 b2 b3 b4))) (r:=c) (it:=iy) (hi:=q) (n:=q') (le:=e') ⟨?_,?_,?_⟩ ?_ ?_ ?_ ?_) rfl λd h' hR=>?_
  ·simp only[go_sem]
  ·rw[Qi QB,Qv (by simpa using Yc)];rfl
  ·exact⟨Qv (by simpa using V5),((ia.set _ na).set _ ma).set _ na,((ib.set _ nb).set _ mb).set _ nb⟩
  ·exact((ic.set _ nc).set _ mc).set _ nc
  ·simp only[Tr.size]at *;omega
  ·simp only[Tr.size]at *;omega
  ·intro hm;rcases QF.1 hm with hm|hm;exact Yb hm;rcases QT.1 hm with hm|hm;exact ma hm;exact mb hm
  ·exact mc
  subst hR;refine Qf hb ?_;simp only[go_sem,Qa];exact⟨⟨Qv (by simpa using Yc),⟨by rw[Qi Yb,Qv (by simpa using V5)];rfl,(((ia.set _ na).set _ ma).set _ na).set _ ma,(((ib.set _ nb).set _ mb).set _ nb).set _ mb⟩,(((ic.set _ nc).set _ mc).set _ nc).set _ mc⟩,λl k1 k2=>by rw[Qi (Q3 k2),Qi (Q3 k1),Qi (Q3 k2),Qi (Q3 k1)]⟩
end Go.Fg.X
namespace Go.Fg
section
variable {P:Program}{base nt:Nat}{w0:Start}
def wB(QX:base<=w0.w.heap.size){K}{dst}{ty:TypeId}{after}{gd}{r}{s}{x}{args}{ZO:Array TypeId}{f}{nf}{Qz}(hf:Qq P f)
  (hx:J4 (Qr s.fr x)=some (f,nf,Qz)) {cs:List D} (he:VL (Jj nf Qz (args.toList.map (Qr s.fr))) cs) {R:D->List Ob->Prop} (hF:MFn P f s.h cs R)
  (ht:Zr nt dst=true) (hk:∀d h,R d h->AX P base nt w0 K r ⟨Zj s.fr dst d,h⟩) :
  AX P base nt w0 K ((false, ⟨dst, .call ⟨.value x, args, ZO⟩, ty, "!", after, gd⟩, none) :: r) s := by
 simp only[AX,WI,Y8];intro Z z pl a w rr b;exact Oper.wp_mono (λa' w' ⟨d,h,Qj,hR,r',b',T,v,e⟩=>⟨λhc=>absurd hc (by simp[CC]),_,_,Qj,v,hk d h hR,r',b',T,e⟩) (tP QX hf rfl hx (hF.args he) ht pl a w rr b _)
end
end Go.Fg
namespace Go.Fg.X
open Go.Proofs Go.Fg
open Go.Proofs.Tryz
def ml:List Nat->List (Nat × Bool)
 | []=>[]
 | a::l=>(if a<1000 then (a,true) else (a - 1000,false))::ml l
@[go_sem] theorem QEa:ml []=[]:=rfl
@[go_sem] theorem QEb(a)(l):ml (a::l)=(if a<1000 then (a,true) else (a - 1000,false))::ml l:=rfl
section
variable {base nt:Nat}{w0:Start}{Q:Exit->St->Prop}{k:List Item}{s:St}{B:Prop}{K:St->Prop}{l:List (Bool × Oper × G)}
def Q1(hb:base<=w0.w.heap.size)(h:B)(e:hx prog base w0 Q cx nt 200 k s=B:=by (simp only[go_sem,Qa];rfl)):Qw prog base nt w0 Q k .normal s:=Qf hb (e▸h)
def LV(hb:base<=w0.w.heap.size)(e:hx prog base w0 Q cx nt 200 k s:=by simp only[go_sem,Qa]):Qw prog base nt w0 Q k .normal s:=Qf hb e
def XN(hb:base<=w0.w.heap.size)(h:B)(e:Kn prog base w0 cx nt K l s=B:=by (simp only[go_sem,Qa];rfl)):AX prog base nt w0 K l s:=Zb hb (e▸h)
def az1(hb:base<=w0.w.heap.size)(e:Kn prog base w0 cx nt K l s:=by simp only[go_sem,Qa]):AX prog base nt w0 K l s:=Zb hb e
def ZC(hb:base<=w0.w.heap.size)(h:B)(e:hx prog base w0 Q cx nt 200 k s=B:=by (simp only[go_sem];rfl)):Qw prog base nt w0 Q k .normal s:=Qf hb (e▸h)
def xY(hb:base<=w0.w.heap.size)(e:hx prog base w0 Q cx nt 200 k s:=by simp only[go_sem]):Qw prog base nt w0 Q k .normal s:=Qf hb e
def V6(hb:base<=w0.w.heap.size)(h:B)(e:Kn prog base w0 cx nt K l s=B:=by (simp only[go_sem];rfl)):AX prog base nt w0 K l s:=Zb hb (e▸h)
def LW(hb:base<=w0.w.heap.size)(e:Kn prog base w0 cx nt K l s:=by simp only[go_sem]):AX prog base nt w0 K l s:=Zb hb e
def QH{id}{ops}(hb:base<=w0.w.heap.size)(l)(h:Kn prog base w0 cx nt (Lm prog base w0 Q cx nt 200 k) (Go.Fg.KV [] ops (ml l)) s)(hB:Ud cx.L ops (ml l)=true:=by kernel_rfl)(hU:y6 ops s.fr=true:=by kernel_rfl):Qw prog base nt w0 Q (.code (.region id ops true)::k) .normal s:=J8 Qh hb 200 mixed (ml l) hB hU h
def BD{dst}{ty:TypeId}{pos}{after}{gd}{r}{x}{args:Array Operand}{ZO:Array TypeId}{f}{nf}{Qz}{cs}(hb:base<=w0.w.heap.size)(hf:Qq prog f){R}(hF:MFn prog f s.h cs R)(hk:∀d h,R d h->Qw prog base nt w0 Q (.ops r::k) .normal ⟨Zj s.fr dst d,h⟩)(hx:J4 (Qr s.fr x)=some (f,nf,Qz):=by rfl)(he:VL (Jj nf Qz (args.toList.map (Qr s.fr))) cs:=by simp only[go_sem,Qa])(ht:Zr nt dst=true:=by rfl):Qw prog base nt w0 Q (.ops ((⟨dst,.call ⟨.value x,args,ZO⟩,ty,pos,after,gd⟩,none)::r)::k) .normal s:=KW hb hf hx he hF ht hk
def JJ{dst}{ty:TypeId}{pos}{after}{gd}{r}{x}{args:Array Operand}{ZO:Array TypeId}{f}{nf}{Qz}{cs}(hb:base<=w0.w.heap.size)(hf:Qq prog f){R}(hF:Zg prog f s.h cs R)(hk:∀d,R d->Qw prog base nt w0 Q (.ops r::k) .normal ⟨Zj s.fr dst d,s.h⟩)(hx:J4 (Qr s.fr x)=some (f,nf,Qz):=by rfl)(he:VL (Jj nf Qz (args.toList.map (Qr s.fr))) cs:=by simp only[go_sem,Qa])(ht:Zr nt dst=true:=by rfl):Qw prog base nt w0 Q (.ops ((⟨dst,.call ⟨.value x,args,ZO⟩,ty,pos,after,gd⟩,none)::r)::k) .normal s:=ZT hb hf hx he hF ht hk
def Ax{dst}{ty:TypeId}{pos}{after}{gd}{r}{x}{args:Array Operand}{ZO:Array TypeId}{f}{nf}{Qz}{cs}(hb:base<=w0.w.heap.size)(hf:Qq prog f){R}(hF:Zh prog f cs R)(hl:∀d h,R d h->d.flat=true/\∀o∈h,o.flat)(hk:∀d h,R d h->Qw prog base nt w0 Q (.ops r::k) .normal ⟨Zj s.fr dst (d.shift s.h.length),s.h++h.map (Ob.shift s.h.length)⟩)(hx:J4 (Qr s.fr x)=some (f,nf,Qz):=by rfl)(he:match jh (WH s.h 4) (Jj nf Qz (args.toList.map (Qr s.fr))) with|some (p,cs')=>p/\VL cs' cs|none=>False:=by simp only[go_sem,Qa])(ht:Zr nt dst=true:=by rfl):Qw prog base nt w0 Q (.ops ((⟨dst,.call ⟨.value x,args,ZO⟩,ty,pos,after,gd⟩,none)::r)::k) .normal s:=ZA hb hf hx he hF hl ht hk
def XO{dst}{ty:TypeId}{pos}{after}{gd}{r}{x}{args:Array Operand}{ZO:Array TypeId}{f}{nf}{Qz}{cs}(hb:base<=w0.w.heap.size)(hf:Qq prog f){R}(hF:Zg prog f s.h cs R)(hk:∀d,R d->AX prog base nt w0 K r ⟨Zj s.fr dst d,s.h⟩)(hx:J4 (Qr s.fr x)=some (f,nf,Qz):=by rfl)(he:VL (Jj nf Qz (args.toList.map (Qr s.fr))) cs:=by simp only[go_sem,Qa])(ht:Zr nt dst=true:=by rfl):AX prog base nt w0 K ((false,⟨dst,.call ⟨.value x,args,ZO⟩,ty,pos,after,gd⟩,none)::r) s:=Wv hb hf hx he hF ht hk
def xH1{dst}{ty : TypeId}{after}{gd}{r}{x}{args : Array Operand}{ZO : Array TypeId}{f}{nf}{Qz}{cs}(hb : base <= w0.w.heap.size)(hf : Qq prog f){R}(hF : MFn prog f s.h cs R)(hk : ∀ d h, R d h -> AX prog base nt w0 K r ⟨Zj s.fr dst d, h⟩)(hx : J4 (Qr s.fr x) = some (f, nf, Qz) := by rfl)(he : VL (Jj nf Qz (args.toList.map (Qr s.fr))) cs := by simp only[go_sem, Qa])(ht : Zr nt dst = true := by rfl): AX prog base nt w0 K ((false, ⟨dst, .call ⟨.value x, args, ZO⟩, ty, "!", after, gd⟩, none) :: r) s := wB hb hf hx he hF ht hk
def Pc{dst}{ty:TypeId}{pos}{after}{gd}{r}{x}{args:Array Operand}{ZO:Array TypeId}{f}{nf}{Qz}{cs}(hb:base<=w0.w.heap.size)(hf:Qq prog f){R}(hF:Zh prog f cs R)(hl:∀d h,R d h->d.flat=true/\∀o∈h,o.flat)(hk:∀d h,R d h->AX prog base nt w0 K r ⟨Zj s.fr dst (d.shift s.h.length),s.h++h.map (Ob.shift s.h.length)⟩)(hx:J4 (Qr s.fr x)=some (f,nf,Qz):=by rfl)(he:match jh (WH s.h 4) (Jj nf Qz (args.toList.map (Qr s.fr))) with|some (p,cs')=>p/\VL cs' cs|none=>False:=by simp only[go_sem,Qa])(ht:Zr nt dst=true:=by rfl):AX prog base nt w0 K ((false,⟨dst,.call ⟨.value x,args,ZO⟩,ty,pos,after,gd⟩,none)::r) s:=KB hb hf hx he hF hl ht hk
def Jl{dst}{ty:TypeId}{pos}{after}{gd}{r}{x}{args:Array Operand}{ZO:Array TypeId}{f}{nf}{Qz}{cs}(hb:base<=w0.w.heap.size)(hf:Qq prog f){R}(hF:MFn prog f s.h cs R)(hk:∀d h,R d h->Qw prog base nt w0 Q (.ops r::k) .normal ⟨Zj s.fr dst d,h⟩)(hx:J4 (Qr s.fr x)=some (f,nf,Qz):=by rfl)(he:VL (Jj nf Qz (args.toList.map (Qr s.fr))) cs:=by simp only[go_sem])(ht:Zr nt dst=true:=by rfl):Qw prog base nt w0 Q (.ops ((⟨dst,.call ⟨.value x,args,ZO⟩,ty,pos,after,gd⟩,none)::r)::k) .normal s:=KW hb hf hx he hF ht hk
def cR2{dst}{ty:TypeId}{pos}{after}{gd}{r}{x}{args:Array Operand}{ZO:Array TypeId}{f}{nf}{Qz}{cs}(hb:base<=w0.w.heap.size)(hf:Qq prog f){R}(hF:Zg prog f s.h cs R)(hk:∀d,R d->Qw prog base nt w0 Q (.ops r::k) .normal ⟨Zj s.fr dst d,s.h⟩)(hx:J4 (Qr s.fr x)=some (f,nf,Qz):=by rfl)(he:VL (Jj nf Qz (args.toList.map (Qr s.fr))) cs:=by simp only[go_sem])(ht:Zr nt dst=true:=by rfl):Qw prog base nt w0 Q (.ops ((⟨dst,.call ⟨.value x,args,ZO⟩,ty,pos,after,gd⟩,none)::r)::k) .normal s:=ZT hb hf hx he hF ht hk
def Wj{dst}{ty:TypeId}{pos}{after}{gd}{r}{x}{args:Array Operand}{ZO:Array TypeId}{f}{nf}{Qz}{cs}(hb:base<=w0.w.heap.size)(hf:Qq prog f){R}(hF:Zh prog f cs R)(hl:∀d h,R d h->d.flat=true/\∀o∈h,o.flat)(hk:∀d h,R d h->Qw prog base nt w0 Q (.ops r::k) .normal ⟨Zj s.fr dst (d.shift s.h.length),s.h++h.map (Ob.shift s.h.length)⟩)(hx:J4 (Qr s.fr x)=some (f,nf,Qz):=by rfl)(he:match jh (WH s.h 4) (Jj nf Qz (args.toList.map (Qr s.fr))) with|some (p,cs')=>p/\VL cs' cs|none=>False:=by simp only[go_sem])(ht:Zr nt dst=true:=by rfl):Qw prog base nt w0 Q (.ops ((⟨dst,.call ⟨.value x,args,ZO⟩,ty,pos,after,gd⟩,none)::r)::k) .normal s:=ZA hb hf hx he hF hl ht hk
def xR2{dst}{ty:TypeId}{pos}{after}{gd}{r}{x}{args:Array Operand}{ZO:Array TypeId}{f}{nf}{Qz}{cs}(hb:base<=w0.w.heap.size)(hf:Qq prog f){R}(hF:Zg prog f s.h cs R)(hk:∀d,R d->AX prog base nt w0 K r ⟨Zj s.fr dst d,s.h⟩)(hx:J4 (Qr s.fr x)=some (f,nf,Qz):=by rfl)(he:VL (Jj nf Qz (args.toList.map (Qr s.fr))) cs:=by simp only[go_sem])(ht:Zr nt dst=true:=by rfl):AX prog base nt w0 K ((false,⟨dst,.call ⟨.value x,args,ZO⟩,ty,pos,after,gd⟩,none)::r) s:=Wv hb hf hx he hF ht hk
def j9{dst}{ty : TypeId}{after}{gd}{r}{x}{args : Array Operand}{ZO : Array TypeId}{f}{nf}{Qz}{cs}(hb : base <= w0.w.heap.size)(hf : Qq prog f){R}(hF : MFn prog f s.h cs R)(hk : ∀ d h, R d h -> AX prog base nt w0 K r ⟨Zj s.fr dst d, h⟩)(hx : J4 (Qr s.fr x) = some (f, nf, Qz) := by rfl)(he : VL (Jj nf Qz (args.toList.map (Qr s.fr))) cs := by simp only[go_sem])(ht : Zr nt dst = true := by rfl): AX prog base nt w0 K ((false, ⟨dst, .call ⟨.value x, args, ZO⟩, ty, "!", after, gd⟩, none) :: r) s := wB hb hf hx he hF ht hk
def K9{dst}{ty:TypeId}{pos}{after}{gd}{r}{x}{args:Array Operand}{ZO:Array TypeId}{f}{nf}{Qz}{cs}(hb:base<=w0.w.heap.size)(hf:Qq prog f){R}(hF:Zh prog f cs R)(hl:∀d h,R d h->d.flat=true/\∀o∈h,o.flat)(hk:∀d h,R d h->AX prog base nt w0 K r ⟨Zj s.fr dst (d.shift s.h.length),s.h++h.map (Ob.shift s.h.length)⟩)(hx:J4 (Qr s.fr x)=some (f,nf,Qz):=by rfl)(he:match jh (WH s.h 4) (Jj nf Qz (args.toList.map (Qr s.fr))) with|some (p,cs')=>p/\VL cs' cs|none=>False:=by simp only[go_sem])(ht:Zr nt dst=true:=by rfl):AX prog base nt w0 K ((false,⟨dst,.call ⟨.value x,args,ZO⟩,ty,pos,after,gd⟩,none)::r) s:=KB hb hf hx he hF hl ht hk
def KL(nc){id}{ops}(hb:base<=w0.w.heap.size)(l:List Nat)(R:List Nat)(h:Kn prog base w0 cx nt (CL prog base w0 cx nt (Lm prog base w0 Q cx nt 200 k) R.length (Go.Fg.zg nc ops R) ((ml l).map (·.1))) (Go.Fg.KV nc ops (ml l)) s)(hB:Bo nc cx.L ops (ml l) R=true:=by kernel_rfl)(hU:y6 ops s.fr=true:=by kernel_rfl):Qw prog base nt w0 Q (.code (.region id ops true)::k) .normal s:=tv nc Qh hb 200 mixed (ml l) R hB hU h
end
def QO{w0}{fr g}{h}(e:EP fr g:=by simp only[go_sem]):QI w0 ⟨fr,h⟩ ⟨g,h⟩:=QI.frame e
end Go.Fg.X
