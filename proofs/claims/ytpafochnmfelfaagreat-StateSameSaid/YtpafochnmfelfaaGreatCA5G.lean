/- Contracts and laws on the way to the statement. No conditions. -/
import Derived.Test.YtpafochnmfelfaaGreatFgHeapG
import Derived.Test.YtpafochnmfelfaaGreatProg
import Derived.KernelRfl
import Derived.Deep.Slices
import Derived.ChangeArms
import Derived.OpenShut
import Derived.ProofKit
import Derived.ChangeOld
import Derived.Below
import Derived.WideShapes
import Derived.Laws.BytesString
import Derived.LoopN
import Derived.Shelf.Sort.Plain
import Derived.Shelf.Slices.In.SortNone
import Derived.Lib.SortBridge
import Derived.Laws.BitsAllLaws
set_option maxRecDepth 100000
set_option maxHeartbeats 16000000
set_option linter.unusedVariables false
set_option linter.unusedSimpArgs false
set_option linter.unusedSectionVars false
set_option linter.defProp false
namespace Go.Fg.X
open Go.Proofs Go.Fg
open Go.Proofs.Tryz
@[go_sem] def zi:Value:=.int .i64 0
@[go_sem] def zu:Value:=.int .u64 0
@[go_sem] def zh:Value:=.int .u16 0
@[go_sem] def zb:Value:=.bool false
@[go_sem] def zp:Value:=.pointer none
@[go_sem] def zc:Value:=.int .u8 0
@[go_sem] def zs:Value:=.slice none 0 0
@[go_sem] def zm:Value:=.map none
@[go_sem] def Y1:Ty:=⟨.fn,1,8,[.nilFunc]⟩
@[go_sem] def Y2:Ty:=⟨.int .i64,1,8,[zi]⟩
@[go_sem] def Y4:Ty:=⟨.bool,1,1,[zb]⟩
@[go_sem] def Y5:Ty:=⟨.int .u8,1,1,[zc]⟩
@[go_sem] def Y9:Ty:=⟨.str,1,16,[.string ByteArray.empty]⟩
@[go_sem] def FT:Ty:=⟨.int .u64,1,8,[zu]⟩
@[go_sem] def eQ:Ty:=⟨.ptr 372,1,8,[zp]⟩
@[go_sem] def Y20:Ty:=⟨.iface,1,16,[.nilIface]⟩
@[go_sem] def Y21:Ty:=⟨.int .i32,1,4,[.int .i32 0]⟩
@[go_sem] def Mv:Ty:=⟨.struct [(0,3),(1,3)],2,16,[zi,zi]⟩
@[go_sem] def Y24:Ty:=⟨.slice 51,1,24,[zs]⟩
@[go_sem] def az:Ty:=⟨.struct [(0,23),(2,24)],3,40,[zi,zi,zs]⟩
@[go_sem] def Y30:Ty:=⟨.ptr 109,1,8,[zp]⟩
@[go_sem] def Y35:Ty:=⟨.slice 98,1,24,[zs]⟩
@[go_sem] def Y36:Ty:=⟨.slice 85,1,24,[zs]⟩
@[go_sem] def Y37:Ty:=⟨.slice 89,1,24,[zs]⟩
@[go_sem] def Y39:Ty:=⟨.struct [(0,23),(2,34),(3,34),(4,34),(5,35),(6,36),(7,37)],8,112,[zi,zi,zu,zu,zu,zs,zs,zs]⟩
@[go_sem] def Y44:Ty:=⟨.slice 96,1,24,[zs]⟩
@[go_sem] def Y45:Ty:=⟨.int .u16,1,2,[zh]⟩
@[go_sem] def aA:Ty:=⟨.array 4 45,4,8,[zh,zh,zh,zh]⟩
@[go_sem] def aB:Ty:=⟨.struct [(0,34),(1,3),(2,47)],6,24,[zu,zi,zh,zh,zh,zh]⟩
@[go_sem] def aC:Ty:=⟨.struct [(0,3),(1,44),(2,35),(3,49),(9,34)],10,88,[zi,zs,zs,zu,zi,zh,zh,zh,zh,zu]⟩
@[go_sem] def aD:Ty:=⟨.struct [(0,31),(1,3),(2,3)],3,24,[zi,zi,zi]⟩
@[go_sem] def Y54:Ty:=⟨.slice 58,1,24,[zs]⟩
@[go_sem] def aE:Ty:=⟨.struct [(0,3),(1,4),(2,4),(3,34),(4,34),(5,3),(6,49)],12,64,[zi,zb,zb,zu,zu,zi,zu,zi,zh,zh,zh,zh]⟩
@[go_sem] def Y61:Ty:=⟨.slice 3,1,24,[zs]⟩
@[go_sem] def aF:Ty:=⟨.struct [(0,34),(1,34),(2,34)],3,24,[zu,zu,zu]⟩
@[go_sem] def Y69:Ty:=⟨.struct [(0,3),(1,3),(2,4),(3,67),(6,67),(9,67),(12,3),(13,3)],14,112,[zi,zi,zb,zu,zu,zu,zu,zu,zu,zu,zu,zu,zi,zi]⟩
@[go_sem] def Y71:Ty:=⟨.struct [(0,34),(1,34)],2,16,[zu,zu]⟩
@[go_sem] def Y73:Ty:=⟨.struct [(0,34),(1,71),(3,34)],4,32,[zu,zu,zu,zu]⟩
@[go_sem] def Y75:Ty:=⟨.struct [(0,73),(4,73),(8,4)],9,72,[zu,zu,zu,zu,zu,zu,zu,zu,zb]⟩
@[go_sem] def aG:Ty:=⟨.struct [(0,4),(1,75),(10,75),(19,34),(20,34),(21,34)],22,176,[zb,zu,zu,zu,zu,zu,zu,zu,zu,zb,zu,zu,zu,zu,zu,zu,zu,zu,zb,zu,zu,zu]⟩
@[go_sem] def Mw:Ty:=⟨.struct [(0,4),(1,75),(10,34)],11,88,[zb,zu,zu,zu,zu,zu,zu,zu,zu,zb,zu]⟩
@[go_sem] def aH:Ty:=⟨.struct [(0,34),(1,34),(2,34),(3,34),(4,34),(5,34)],6,48,[zu,zu,zu,zu,zu,zu]⟩
@[go_sem] def aI:Ty:=⟨.struct [(0,69),(14,4),(15,34),(16,77),(38,79),(49,81),(60,34),(61,83)],67,536,[zi,zi,zb,zu,zu,zu,zu,zu,zu,zu,zu,zu,zi,zi,zb,zu,zb,zu,zu,zu,zu,zu,zu,zu,zu,zb,zu,zu,zu,zu,zu,zu,zu,zu,zb,zu,zu,zu,zb,zu,zu,zu,zu,zu,zu,zu,zu,zb,zu,zb,zu,zu,zu,zu,zu,zu,zu,zu,zb,zu,zu,zu,zu,zu,zu,zu,zu]⟩
@[go_sem] def Y89:Ty:=⟨.slice 49,1,24,[zs]⟩
@[go_sem] def Y96:Ty:=⟨.struct [(0,3),(1,69)],15,120,[zi,zi,zi,zb,zu,zu,zu,zu,zu,zu,zu,zu,zu,zi,zi]⟩
@[go_sem] def aJ:Ty:=⟨.struct [(0,47),(4,47),(8,3)],9,24,[zh,zh,zh,zh,zh,zh,zh,zh,zi]⟩
@[go_sem] def Qa0:Ty:=⟨.ptr 133,1,8,[zp]⟩
@[go_sem] def Qa1:Ty:=⟨.ptr 150,1,8,[zp]⟩
@[go_sem] def Qa2:Ty:=⟨.ptr 154,1,8,[zp]⟩
@[go_sem] def Qa3:Ty:=⟨.ptr 176,1,8,[zp]⟩
@[go_sem] def aK:Ty:=⟨.struct [(0,104),(1,105),(2,106),(3,107),(4,34),(5,3)],6,48,[zp,zp,zp,zp,zu,zi]⟩
@[go_sem] def Qa4:Ty:=⟨.ptr 191,1,8,[zp]⟩
@[go_sem] def Qa5:Ty:=⟨.map 3 140,1,8,[zm]⟩
@[go_sem] def Qa6:Ty:=⟨.ptr 203,1,8,[zp]⟩
@[go_sem] def Qa7:Ty:=⟨.ptr 226,1,8,[zp]⟩
@[go_sem] def Qa8:Ty:=⟨.map 3 142,1,8,[zm]⟩
@[go_sem] def Qa9:Ty:=⟨.struct [(0,23),(2,118),(3,128),(4,129),(5,130),(6,131),(7,34),(8,34)],9,72,[zi,zi,zp,zm,zp,zp,zm,zu,zu]⟩
@[go_sem] def Qba:Ty:=⟨.ptr 167,1,8,[zp]⟩
@[go_sem] def Qbb:Ty:=⟨.ptr 198,1,8,[zp]⟩
@[go_sem] def Qbc:Ty:=⟨.struct [(0,148),(3,3),(4,34)],5,40,[zu,zu,zu,zi,zu]⟩
@[go_sem] def Qbd:Ty:=⟨.map 47 3,1,8,[zm]⟩
@[go_sem] def Qbe:Ty:=⟨.struct [(0,35),(1,152),(2,61)],3,56,[zs,zm,zs]⟩
@[go_sem] def Qbf:Ty:=⟨.ptr 222,1,8,[zp]⟩
@[go_sem] def Qbg:Ty:=⟨.struct [(0,165),(1,69),(15,34),(16,77),(38,79),(49,81)],60,480,[zp,zi,zi,zb,zu,zu,zu,zu,zu,zu,zu,zu,zu,zi,zi,zu,zb,zu,zu,zu,zu,zu,zu,zu,zu,zb,zu,zu,zu,zu,zu,zu,zu,zu,zb,zu,zu,zu,zb,zu,zu,zu,zu,zu,zu,zu,zu,zb,zu,zb,zu,zu,zu,zu,zu,zu,zu,zu,zb,zu]⟩
@[go_sem] def Qbh:Ty:=⟨.map 3 209,1,8,[zm]⟩
@[go_sem] def Qbi:Ty:=⟨.map 3 259,1,8,[zm]⟩
@[go_sem] def Qbj:Ty:=⟨.struct [(0,173),(1,174)],2,16,[zm,zm]⟩
@[go_sem] def Qbk:Ty:=⟨.slice 67,1,24,[zs]⟩
@[go_sem] def Qbl:Ty:=⟨.map 3 69,1,8,[zm]⟩
@[go_sem] def Qbm:Ty:=⟨.struct [(0,189)],1,8,[zm]⟩
@[go_sem] def Qbn:Ty:=⟨.ptr 242,1,8,[zp]⟩
@[go_sem] def Qbo:Ty:=⟨.map 3 266,1,8,[zm]⟩
@[go_sem] def aL:Ty:=⟨.struct [(0,194),(1,196)],2,16,[zp,zm]⟩
@[go_sem] def Qbp:Ty:=⟨.map 3 205,1,8,[zm]⟩
@[go_sem] def Qbq:Ty:=⟨.map 3 3,1,8,[zm]⟩
@[go_sem] def Qbr:Ty:=⟨.map 3 200,1,8,[zm]⟩
@[go_sem] def Qbs:Ty:=⟨.struct [(0,199),(1,200),(2,201)],3,24,[zm,zm,zm]⟩
@[go_sem] def Qbt:Ty:=⟨.slice 34,1,24,[zs]⟩
@[go_sem] def Qbu:Ty:=⟨.struct [(0,3),(1,49),(7,4)],8,40,[zi,zu,zi,zh,zh,zh,zh,zb]⟩
@[go_sem] def Qbv:Ty:=⟨.ptr 270,1,8,[zp]⟩
@[go_sem] def Qbw:Ty:=⟨.struct [(0,220),(1,3),(2,3),(3,83)],9,72,[zp,zi,zi,zu,zu,zu,zu,zu,zu]⟩
@[go_sem] def Qbx:Ty:=⟨.slice 61,1,24,[zs]⟩
@[go_sem] def Qby:Ty:=⟨.ptr 310,1,8,[zp]⟩
@[go_sem] def Qbz:Ty:=⟨.struct [(0,240)],1,8,[zp]⟩
@[go_sem] def QbA:Ty:=⟨.struct [(0,34),(1,34),(2,34),(3,34),(4,34)],5,40,[zu,zu,zu,zu,zu]⟩
@[go_sem] def QbB:Ty:=⟨.struct [(0,34),(1,3)],2,16,[zu,zi]⟩
@[go_sem] def QbC:Ty:=⟨.struct [(0,264),(2,264)],4,32,[zu,zi,zu,zi]⟩
@[go_sem] def QbD:Ty:=⟨.struct [(0,89),(1,3),(2,3)],3,40,[zs,zi,zi]⟩
@[go_sem] def QbE:Ty:=⟨.int .u32,1,4,[.int .u32 0]⟩
@[go_sem] def QbF:Ty:=⟨.ptr 148,1,8,[zp]⟩
@[go_sem] def QbG:Ty:=⟨.array 2 240,2,16,[zp,zp]⟩
@[go_sem] def QbH:Ty:=⟨.struct [(0,266),(4,308),(6,266),(10,3),(11,3)],12,96,[zu,zi,zu,zi,zp,zp,zu,zi,zu,zi,zi,zi]⟩
@[go_sem] def QbI:Ty:=⟨.array 3 67,9,72,[zu,zu,zu,zu,zu,zu,zu,zu,zu]⟩
@[go_sem] def QbJ:Ty:=⟨.ptr 3,1,8,[zp]⟩
@[go_sem] def QbK:Ty:=⟨.array 2 73,8,64,[zu,zu,zu,zu,zu,zu,zu,zu]⟩
@[go_sem] def QbL:Ty:=⟨.ptr 321,1,8,[zp]⟩
def lay:ZW:=[(1,Y1),(2,Y2),(3,Y2),(4,Y4),(5,Y5),(9,Y9),(12,FT),(17,eQ),(20,Y20),(21,Y21),(22,Mv),(23,Mv),(24,Y24),(25,az),(26,az),(27,Y1),(28,Y1),(29,Y1),(30,Y30),(31,Y2),(33,Y1),(34,FT),(35,Y35),(36,Y36),(37,Y37),(39,Y39),(41,Y1),(42,Y1),(44,Y44),(45,Y45),(46,aA),(47,aA),(48,aB),(49,aB),(50,aC),(51,aC),(52,aD),(53,aD),(54,Y54),(56,Y1),(57,aE),(58,aE),(60,Y1),(61,Y61),(62,Y1),(63,Y1),(64,Y1),(65,Y1),(67,aF),(69,Y69),(71,Y71),(73,Y73),(75,Y75),(76,aG),(77,aG),(78,Mw),(79,Mw),(81,Mw),(82,aH),(83,aH),(84,aI),(85,aI),(87,Y1),(88,Y1),(89,Y89),(90,Y1),(94,Y1),(96,Y96),(97,aJ),(98,aJ),(99,Y1),(100,Y1),(101,Y1),(102,Y1),(103,Y1),(104,Qa0),(105,Qa1),(106,Qa2),(107,Qa3),(108,aK),(109,aK),(110,Y1),(113,Y1),(116,Y1),(117,Y1),(118,Qa4),(128,Qa5),(129,Qa6),(130,Qa7),(131,Qa8),(133,Qa9),(134,Y1),(135,Y1),(136,Y1),(140,Qba),(142,Qbb),(148,aF),(150,Qbc),(152,Qbd),(154,Qbe),(163,Y1),(165,Qbf),(167,Qbg),(168,Y1),(173,Qbh),(174,Qbi),(176,Qbj),(179,Qbk),(189,Qbl),(191,Qbm),(194,Qbn),(196,Qbo),(198,aL),(199,Qbp),(200,Qbq),(201,Qbr),(203,Qbs),(205,Mv),(209,Qbt),(211,Qbu),(220,Qbv),(222,Qbw),(226,aL),(231,Qbx),(235,FT),(237,Y1),(240,Qby),(242,Qbz),(259,QbA),(264,QbB),(266,QbC),(270,QbD),(279,Y2),(287,QbE),(289,Y2),(291,Y1),(304,QbF),(308,QbG),(310,QbH),(312,QbI),(320,Y1),(321,FT),(324,QbJ),(332,Y1),(333,QbK),(338,QbL)]
def QbM{P:Program}:∀{L:ZW},L.map (λp=>(P.underlying p.1).map TK.of)=L.map (λp=>some p.2.k)->L.map (λp=>(P.info? p.1).map λi=>(i.size,i.bytes,i.zero.map λz=>z.cells.toList))=L.map (λp=>some (p.2.size,p.2.bytes,some p.2.zero))->L.map (λp=>((P.info? p.1).bind (·.zero)).map TM)=L.map (λp=>some p.2.k.agg)->ZU P L
 | [],_,_,_=>.nil _
 | (_,_)::_,c,b,a=>.cons ⟨(vG c).1,(vG b).1,(vG a).1⟩ (QbM (vG c).2 (vG b).2 (vG a).2)
def xB:ZU prog lay:=QbM τ τ τ
theorem L1:ty lay 1=some Y1:=rfl
theorem L2:ty lay 2=some Y2:=rfl
theorem L3:ty lay 3=some Y2:=rfl
theorem L4:ty lay 4=some Y4:=rfl
theorem L5:ty lay 5=some Y5:=rfl
theorem L9:ty lay 9=some Y9:=rfl
theorem L12:ty lay 12=some FT:=rfl
theorem L17:ty lay 17=some eQ:=rfl
theorem L20:ty lay 20=some Y20:=rfl
theorem L21:ty lay 21=some Y21:=rfl
theorem L22:ty lay 22=some Mv:=rfl
theorem L23:ty lay 23=some Mv:=rfl
theorem L24:ty lay 24=some Y24:=rfl
theorem L25:ty lay 25=some az:=rfl
theorem L26:ty lay 26=some az:=rfl
theorem L27:ty lay 27=some Y1:=rfl
theorem L28:ty lay 28=some Y1:=rfl
theorem L29:ty lay 29=some Y1:=rfl
theorem L30:ty lay 30=some Y30:=rfl
theorem L31:ty lay 31=some Y2:=rfl
theorem L33:ty lay 33=some Y1:=rfl
theorem L34:ty lay 34=some FT:=rfl
theorem L35:ty lay 35=some Y35:=rfl
theorem L36:ty lay 36=some Y36:=rfl
theorem L37:ty lay 37=some Y37:=rfl
theorem L39:ty lay 39=some Y39:=rfl
theorem L41:ty lay 41=some Y1:=rfl
theorem L42:ty lay 42=some Y1:=rfl
theorem L44:ty lay 44=some Y44:=rfl
theorem L45:ty lay 45=some Y45:=rfl
theorem L46:ty lay 46=some aA:=rfl
theorem L47:ty lay 47=some aA:=rfl
theorem L48:ty lay 48=some aB:=rfl
theorem L49:ty lay 49=some aB:=rfl
theorem L50:ty lay 50=some aC:=rfl
theorem L51:ty lay 51=some aC:=rfl
theorem L52:ty lay 52=some aD:=rfl
theorem L53:ty lay 53=some aD:=rfl
theorem L54:ty lay 54=some Y54:=rfl
theorem L56:ty lay 56=some Y1:=rfl
theorem L57:ty lay 57=some aE:=rfl
theorem L58:ty lay 58=some aE:=rfl
theorem L60:ty lay 60=some Y1:=rfl
theorem L61:ty lay 61=some Y61:=rfl
theorem L62:ty lay 62=some Y1:=rfl
theorem L63:ty lay 63=some Y1:=rfl
theorem L64:ty lay 64=some Y1:=rfl
theorem L65:ty lay 65=some Y1:=rfl
theorem L67:ty lay 67=some aF:=rfl
theorem L69:ty lay 69=some Y69:=rfl
theorem L71:ty lay 71=some Y71:=rfl
theorem L73:ty lay 73=some Y73:=rfl
theorem L75:ty lay 75=some Y75:=rfl
theorem L76:ty lay 76=some aG:=rfl
theorem L77:ty lay 77=some aG:=rfl
theorem L78:ty lay 78=some Mw:=rfl
theorem L79:ty lay 79=some Mw:=rfl
theorem L81:ty lay 81=some Mw:=rfl
theorem L82:ty lay 82=some aH:=rfl
theorem L83:ty lay 83=some aH:=rfl
theorem L84:ty lay 84=some aI:=rfl
theorem L85:ty lay 85=some aI:=rfl
theorem L87:ty lay 87=some Y1:=rfl
theorem L88:ty lay 88=some Y1:=rfl
theorem L89:ty lay 89=some Y89:=rfl
theorem L90:ty lay 90=some Y1:=rfl
theorem L94:ty lay 94=some Y1:=rfl
theorem L96:ty lay 96=some Y96:=rfl
theorem L97:ty lay 97=some aJ:=rfl
theorem L98:ty lay 98=some aJ:=rfl
theorem L99:ty lay 99=some Y1:=rfl
theorem QqM:ty lay 100=some Y1:=rfl
theorem Qmf:ty lay 101=some Y1:=rfl
theorem Qmg:ty lay 102=some Y1:=rfl
theorem Qmh:ty lay 103=some Y1:=rfl
theorem Qmi:ty lay 104=some Qa0:=rfl
theorem Qmj:ty lay 105=some Qa1:=rfl
theorem Qmk:ty lay 106=some Qa2:=rfl
theorem Qml:ty lay 107=some Qa3:=rfl
theorem Qmm:ty lay 108=some aK:=rfl
theorem Qmn:ty lay 109=some aK:=rfl
theorem Qmo:ty lay 110=some Y1:=rfl
theorem Qmp:ty lay 113=some Y1:=rfl
theorem Qmq:ty lay 116=some Y1:=rfl
theorem Qmr:ty lay 117=some Y1:=rfl
theorem Qms:ty lay 118=some Qa4:=rfl
theorem Qmt:ty lay 128=some Qa5:=rfl
theorem Qmu:ty lay 129=some Qa6:=rfl
theorem Qmv:ty lay 130=some Qa7:=rfl
theorem Qmw:ty lay 131=some Qa8:=rfl
theorem Qmx:ty lay 133=some Qa9:=rfl
theorem Qmy:ty lay 134=some Y1:=rfl
theorem Qmz:ty lay 135=some Y1:=rfl
theorem QmA:ty lay 136=some Y1:=rfl
theorem QmB:ty lay 140=some Qba:=rfl
theorem QmC:ty lay 142=some Qbb:=rfl
theorem QmD:ty lay 148=some aF:=rfl
theorem QmE:ty lay 150=some Qbc:=rfl
theorem QmF:ty lay 152=some Qbd:=rfl
theorem QmG:ty lay 154=some Qbe:=rfl
theorem QmH:ty lay 163=some Y1:=rfl
theorem QmI:ty lay 165=some Qbf:=rfl
theorem QmJ:ty lay 167=some Qbg:=rfl
theorem QmK:ty lay 168=some Y1:=rfl
theorem QmL:ty lay 173=some Qbh:=rfl
theorem QmM:ty lay 174=some Qbi:=rfl
theorem QmN:ty lay 176=some Qbj:=rfl
theorem QmO:ty lay 179=some Qbk:=rfl
theorem QmP:ty lay 189=some Qbl:=rfl
theorem QmQ:ty lay 191=some Qbm:=rfl
theorem QmR:ty lay 194=some Qbn:=rfl
theorem QmS:ty lay 196=some Qbo:=rfl
theorem QmT:ty lay 198=some aL:=rfl
theorem QmU:ty lay 199=some Qbp:=rfl
theorem QmV:ty lay 200=some Qbq:=rfl
theorem QmW:ty lay 201=some Qbr:=rfl
theorem QmX:ty lay 203=some Qbs:=rfl
theorem QmY:ty lay 205=some Mv:=rfl
theorem QmZ:ty lay 209=some Qbt:=rfl
theorem Qm0:ty lay 211=some Qbu:=rfl
theorem Qm1:ty lay 220=some Qbv:=rfl
theorem Qm2:ty lay 222=some Qbw:=rfl
theorem Qm3:ty lay 226=some aL:=rfl
theorem Qm4:ty lay 231=some Qbx:=rfl
theorem Qm5:ty lay 235=some FT:=rfl
theorem Qm6:ty lay 237=some Y1:=rfl
theorem Qm7:ty lay 240=some Qby:=rfl
theorem Qm8:ty lay 242=some Qbz:=rfl
theorem Qm9:ty lay 259=some QbA:=rfl
theorem Qna:ty lay 264=some QbB:=rfl
theorem Qnb:ty lay 266=some QbC:=rfl
theorem Qnc:ty lay 270=some QbD:=rfl
theorem Qnd:ty lay 279=some Y2:=rfl
theorem Qne:ty lay 287=some QbE:=rfl
theorem Qnf:ty lay 289=some Y2:=rfl
theorem Qng:ty lay 291=some Y1:=rfl
theorem Qnh:ty lay 304=some QbF:=rfl
theorem Qni:ty lay 308=some QbG:=rfl
theorem Qnj:ty lay 310=some QbH:=rfl
theorem Qnk:ty lay 312=some QbI:=rfl
theorem Qnl:ty lay 320=some Y1:=rfl
theorem Qnm:ty lay 321=some FT:=rfl
theorem Qnn:ty lay 324=some QbJ:=rfl
theorem Qno:ty lay 332=some Y1:=rfl
theorem Qnp:ty lay 333=some QbK:=rfl
theorem Qnq:ty lay 338=some QbL:=rfl
def AY:BT:=[(23,[0,0]),(47,[0,0,0,0]),(49,[0,0,0,0,0,0]),(67,[0,0,0]),(69,[0,0,1,0,0,0,0,0,0,0,0,0,0,0]),(71,[0,0]),(85,[0,0,1,0,0,0,0,0,0,0,0,0,0,0,1,0,1,0,0,0,0,0,0,0,0,1,0,0,0,0,0,0,0,0,1,0,0,0,1,0,0,0,0,0,0,0,0,1,0,1,0,0,0,0,0,0,0,0,1,0,0,0,0,0,0,0,0]),(98,[0,0,0,0,0,0,0,0,0]),(264,[0,0])]
def QbN{P:Program}:∀{E:BT},E.map (λp=>Y0 P 60 p.1)=E.map (λp=>some p.2)->E.map (λp=>P.eqGuardType P.depth p.1)=E.map (λ_=>false)->E.map (λp=>match P.underlying p.1 with|some (.struct _)|some (.array _ _)=>true|_=>false)=E.map (λ_=>true)->yz P E
 | [],_,_,_=>.nil _
 | (_,_)::_,c,b,a=>.cons ⟨(vG c).1,(vG b).1,(vG a).1⟩ (QbN (vG c).2 (vG b).2 (vG a).2)
def Qnr:yz prog AY:=QbN τ τ τ
theorem E23:kF AY 23=some [0,0]:=rfl
theorem E47:kF AY 47=some [0,0,0,0]:=rfl
theorem E49:kF AY 49=some [0,0,0,0,0,0]:=rfl
theorem E67:kF AY 67=some [0,0,0]:=rfl
theorem E69:kF AY 69=some [0,0,1,0,0,0,0,0,0,0,0,0,0,0]:=rfl
theorem E71:kF AY 71=some [0,0]:=rfl
theorem E85:kF AY 85=some [0,0,1,0,0,0,0,0,0,0,0,0,0,0,1,0,1,0,0,0,0,0,0,0,0,1,0,0,0,0,0,0,0,0,1,0,0,0,1,0,0,0,0,0,0,0,0,1,0,1,0,0,0,0,0,0,0,0,1,0,0,0,0,0,0,0,0]:=rfl
theorem E98:kF AY 98=some [0,0,0,0,0,0,0,0,0]:=rfl
theorem QnA:kF AY 264=some [0,0]:=rfl
def cx:Cx:=⟨lay,AY⟩
def J8:qE prog cx:=⟨xB,Qnr⟩
def PL:Qk prog 7:=call7
def aM:Qk prog 8:=call8
def Mx:Qk prog 9:=call9
def QbO:Qk prog 10:=call10
def HS:Qk prog 11:=call11
def aN:Qk prog 12:=call12
def Qdl:Qk prog 13:=call13
def iG:Qk prog 14:=call14
def My:Qk prog 15:=call15
def QnB:Qk prog 16:=call16
def QnC:Qk prog 17:=call17
def QnD:Qk prog 18:=call18
def QnE:Qk prog 19:=call19
def QrM:Qk prog 20:=call20
def QnF:Qk prog 21:=call21
def QnG:Qk prog 22:=call22
def Qsi:Qk prog 23:=call23
def QnH:Qk prog 24:=call24
def QbP:Qk prog 26:=call26
def QnI:Qk prog 27:=call27
def QnJ:Qk prog 28:=call28
def QbQ:Qk prog 29:=call29
def QnK:Qk prog 30:=call30
def QnL:Qk prog 31:=call31
def Qdm:Qk prog 32:=call32
def QbR:Qk prog 33:=call33
def QbS:Qk prog 34:=call34
def QnM:Qk prog 35:=call35
def aO:Qk prog 36:=call36
def iH:Qk prog 37:=call37
def QnN:Qk prog 38:=call38
def QnO:Qk prog 39:=call39
def QnP:Qk prog 40:=call40
def aP:Qk prog 41:=call41
def QbT:Qk prog 42:=call42
def QnQ:Qk prog 43:=call43
def QnR:Qk prog 44:=call44
def QnS:Qk prog 45:=call45
def QnT:Qk prog 46:=call46
def QnU:Qk prog 48:=call48
def QnV:Qk prog 49:=call49
def QnW:Qk prog 50:=call50
def QnX:Qk prog 51:=call51
def Qsz:Qk prog 52:=call52
def QnY:Qk prog 53:=call53
def QbU:Qk prog 54:=call54
def PM:Qk prog 55:=call55
def QnZ:Qk prog 56:=call56
def iI:Qk prog 57:=call57
def iJ:Qk prog 58:=call58
def kS:Qk prog 59:=call59
def Qn0:Qk prog 60:=call60
def QbV:Qk prog 61:=call61
def QbW:Qk prog 62:=call62
def iK:Qk prog 63:=call63
def QbX:Qk prog 64:=call64
def iL:Qk prog 65:=call65
def QbY:Qk prog 66:=call66
def QbZ:Qk prog 67:=call67
def Qn1:Qk prog 68:=call68
def Qn2:Qk prog 69:=call69
def Qb0:Qk prog 70:=call70
def Qn3:Qk prog 71:=call71
def Qb1:Qk prog 72:=call72
def aQ:Qk prog 73:=call73
def Qn4:Qk prog 74:=call74
def FU:Qk prog 75:=call75
def Qb2:Qk prog 76:=call76
def Qn5:Qk prog 77:=call77
def Qn6:Qk prog 78:=call78
def FV:Qk prog 79:=call79
def Qn7:Qk prog 81:=call81
def Qn8:Qk prog 82:=call82
def Qn9:Qk prog 83:=call83
def Qoa:Qk prog 84:=call84
def Qob:Qk prog 85:=call85
def Qoc:Qk prog 86:=call86
def aR:Qk prog 87:=call87
def Qb3:Qk prog 88:=call88
def PN:Qk prog 89:=call89
def Qod:Qk prog 90:=call90
def Qoe:Qk prog 91:=call91
def aS:Qk prog 92:=call92
def Qof:Qk prog 93:=call93
def B9:Qk prog 94:=call94
def Qb4:Qk prog 95:=call95
def Qog:Qk prog 96:=call96
def Qoh:Qk prog 97:=call97
def Qoi:Qk prog 98:=call98
def Qb5:Qk prog 99:=call99
def kU:Qk prog 100:=call100
def aT:Qk prog 101:=call101
def Qb6:Qk prog 102:=call102
def Qoj:Qk prog 103:=call103
def Qok:Qk prog 104:=call104
def Qol:Qk prog 105:=call105
def Qom:Qk prog 106:=call106
def Qon:Qk prog 107:=call107
def Qoo:Qk prog 108:=call108
def Qop:Qk prog 109:=call109
def Qb7:Qk prog 110:=call110
def Qb8:Qk prog 111:=call111
def iM:Qk prog 112:=call112
def iN:Qk prog 113:=call113
def Qoq:Qk prog 114:=call114
def Qor:Qk prog 115:=call115
def Qos:Qk prog 116:=call116
def Qot:Qk prog 117:=call117
def Qou:Qk prog 118:=call118
def aU:Qk prog 119:=call119
def Qb9:Qk prog 120:=call120
def Qca:Qk prog 121:=call121
def Qcb:Qk prog 123:=call123
def Qov:Qk prog 124:=call124
def aV:Qk prog 125:=call125
def Qow:Qk prog 126:=call126
def Qox:Qk prog 127:=call127
def Qoy:Qk prog 128:=call128
def Qoz:Qk prog 129:=call129
def Qcc:Qk prog 130:=call130
def QoA:Qk prog 131:=call131
def QoB:Qk prog 132:=call132
def QoC:Qk prog 133:=call133
def iO:Qk prog 134:=call134
def QoD:Qk prog 135:=call135
def QoE:Qk prog 136:=call136
def QoF:Qk prog 137:=call137
def iP:Qk prog 138:=call138
def QoG:Qk prog 139:=call139
def QoH:Qk prog 140:=call140
def QoI:Qk prog 141:=call141
def QoJ:Qk prog 142:=call142
def QoK:Qk prog 143:=call143
def QoL:Qk prog 144:=call144
def QoM:Qk prog 145:=call145
def QoN:Qk prog 146:=call146
def iQ:Qk prog 148:=call148
def Qcd:Qk prog 149:=call149
def iR:Qk prog 150:=call150
def Qce:Qk prog 151:=call151
def aW:Qk prog 152:=call152
def Mz:Qk prog 153:=call153
def QoO:Qk prog 154:=call154
def iS:Qk prog 155:=call155
def QoP:Qk prog 156:=call156
def QoQ:Qk prog 157:=call157
def MA:Qk prog 158:=call158
def QoR:Qk prog 159:=call159
def QoS:Qk prog 160:=call160
def QoT:Qk prog 161:=call161
def Qcf:Qk prog 162:=call162
def QoU:Qk prog 163:=call163
def QoV:Qk prog 164:=call164
def QoW:Qk prog 175:=call175
def DP:Qk prog 176:=call176
def Qcg:Qk prog 177:=call177
def Qch:Qk prog 178:=call178
def aX:Qk prog 179:=call179
def aY:Qk prog 180:=call180
def iT:Qk prog 181:=call181
def Qci:Qk prog 182:=call182
def iU:Qk prog 183:=call183
def Qcj:Qk prog 184:=call184
def iV:Qk prog 185:=call185
def Qck:Qk prog 186:=call186
def AZ:Qk prog 187:=call187
def iW:Qk prog 188:=call188
def QoX:Qk prog 189:=call189
def QoY:Qk prog 190:=call190
def QoZ:Qk prog 191:=call191
def Qo0:Qk prog 192:=call192
def aZ:Qk prog 193:=call193
def Qo1:Qk prog 194:=call194
def Qcl:Qk prog 195:=call195
def Qo2:Qk prog 196:=call196
def Qcm:Qk prog 197:=call197
def Qo3:Qk prog 198:=call198
def ba:Qk prog 199:=call199
def zV:Qk prog 200:=call200
def Qcn:Qk prog 201:=call201
def Qco:Qk prog 202:=call202
def MB:Qk prog 203:=call203
def bc:Qk prog 204:=call204
def Qcp:Qk prog 205:=call205
def Qo4:Qk prog 206:=call206
def Qo5:Qk prog 207:=call207
def Qo6:Qk prog 208:=call208
def Qo7:Qk prog 209:=call209
def iX:Qk prog 210:=call210
def Qo8:Qk prog 211:=call211
def Qcq:Qk prog 212:=call212
def Qo9:Qk prog 213:=call213
def Qpa:Qk prog 214:=call214
def Qpb:Qk prog 215:=call215
def Qcr:Qk prog 216:=call216
def Qpc:Qk prog 218:=call218
def Qpd:Qk prog 219:=call219
def Qcs:Qk prog 223:=call223
def PO:Qk prog 224:=call224
def iY:Qk prog 225:=call225
def Qct:Qk prog 226:=call226
def PQ:Qk prog 227:=call227
def Qpe:Qk prog 228:=call228
def Ca:Qk prog 229:=call229
def Qcu:Qk prog 230:=call230
def Qcv:Qk prog 231:=call231
def Qpf:Qk prog 232:=call232
def Qpg:Qk prog 233:=call233
def be:Qk prog 234:=call234
def Qcw:Qk prog 235:=call235
def iZ:Qk prog 236:=call236
def ld:Qk prog 237:=call237
def Qcx:Qk prog 239:=call239
def Qcy:Qk prog 240:=call240
def Qph:Qk prog 241:=call241
def Qcz:Qk prog 242:=call242
def lg:Qk prog 243:=call243
def jN:Qk prog 244:=call244
def DQ:Qk prog 245:=call245
def lh:Qk prog 246:=call246
def Qpi:Qk prog 247:=call247
def QcA:Qk prog 248:=call248
def Qpj:Qk prog 249:=call249
def Qpk:Qk prog 250:=call250
def Qpl:Qk prog 251:=call251
def Qpm:Qk prog 252:=call252
def Qpn:Qk prog 253:=call253
def Qpo:Qk prog 254:=call254
def Qpp:Qk prog 255:=call255
def Qpq:Qk prog 256:=call256
def MC:Qk prog 257:=call257
def QcB:Qk prog 258:=call258
def QcC:Qk prog 259:=call259
def QcD:Qk prog 260:=call260
def QcE:Qk prog 261:=call261
def lj:Qk prog 262:=call262
def lu:Qk prog 263:=call263
def lz:Qk prog 264:=call264
attribute [go_sem] cx L1 L2 L3 L4 L5 L9 L12 L17 L20 L21 L22 L23 L24 L25 L26 L27 L28 L29 L30 L31 L33 L34 L35 L36 L37 L39 L41 L42 L44 L45 L46 L47 L48 L49 L50 L51 L52 L53 L54 L56 L57 L58 L60 L61 L62 L63 L64 L65 L67 L69 L71 L73 L75 L76 L77 L78 L79 L81 L82 L83 L84 L85 L87 L88 L89 L90 L94 L96 L97 L98 L99 QqM Qmf Qmg Qmh Qmi Qmj Qmk Qml Qmm Qmn Qmo Qmp Qmq Qmr Qms Qmt Qmu Qmv Qmw Qmx Qmy Qmz QmA QmB QmC QmD QmE QmF QmG QmH QmI QmJ QmK QmL QmM QmN QmO QmP QmQ QmR QmS QmT QmU QmV QmW QmX QmY QmZ Qm0 Qm1 Qm2 Qm3 Qm4 Qm5 Qm6 Qm7 Qm8 Qm9 Qna Qnb Qnc Qnd Qne Qnf Qng Qnh Qni Qnj Qnk Qnl Qnm Qnn Qno Qnp Qnq E23 E47 E49 E67 E69 E71 E85 E98 QnA
def Qg{a c}{b:Start}{Q}{k}{s}(d:a<=b.w.heap.size)(h:hx prog a b Q cx c 200 k s):Qr prog a c b Q k .normal s:=HH J8 d 200 h
def Q7{a c}{b:Start}{K}{l}{s}(d:a<=b.w.heap.size)(h:KB prog a b cx c K l s):AX prog a c b K l s:=QkO J8 d h
end Go.Fg.X
namespace Go.Fg
open Go.RowKit (Below)
def Rd(P:Program)(t:TypeId){f:Type}(g:f->Prop)(b:f->List D):Prop:=
 ∀{H:Type} {h:TypeId × Value->H} {w:World} {d:Nat} {c:Bool} (m:Nat) (e:List Value) (x:DataW H × List MemPlace),DataW.trod h P w d (λ_=>true) c m t e=some x ->
  ∃a,g a/\(b a).length=e.length/\∀j,j<e.length->Cl (λ_=>True) w (nth (b a) j) (QY e j)
def Rd.int{P:Program}{t:TypeId}(k)(d:P.underlying t=some (.int k)):Rd P t (λn:Int=>(Lit.int k n).wf=true) (λn=>[.raw (.int k n)]):=by
 intro H f w b a m g x h;obtain⟨n,rfl,_,c⟩:=DataW.trod_int d h;refine⟨n,c,rfl,λj e=>?_⟩;obtain rfl:j=0:=by simpa using e
 exact .raw _
def Rd.bool{P:Program}{t:TypeId}(c:P.underlying t=some .bool):Rd P t (λ_:Bool=>True) (λn=>[.raw (.bool n)]):=by
 intro H e w b a m f x h;obtain⟨n,rfl,_⟩:=DataW.trod_bool c h;refine⟨n,trivial,rfl,λj d=>?_⟩;obtain rfl:j=0:=by simpa using d
 exact .raw _
def Rd.map{P}{t:TypeId}{l k:Type}{d}{b}(r:Rd P t d b)(g:l->k){f}{c}(e:∀a,c (g a)=b a)(n:∀a,d a->f (g a)):Rd P t f c:=by
 intro H u w j i m s x h;obtain⟨a,q,p,o⟩:=r m s x h;exact⟨g a,n a q,by rw[e];exact p,by rw[e];exact o⟩
def Ki(P:Program)(l:List Field)(b h:Nat){i:Type}(k:i->Prop)(c:i->List D):Prop:=
 ∀{H:Type} {n:TypeId × Value->H} {w:World} {e:Nat} {d:Bool} (m:Nat) (g:List Value),g.length=h ->
  (∀f∈l,∃x,DataW.trod n P w e (λ_=>true) d m f.type ((g.drop f.offset).take (P.cellsOf f.type))=some x) ->
  ∃a,k a/\b+(c a).length=h/\∀j,b+j<h->Cl (λ_=>True) w (nth (c a) j) (QY g (b+j))
def Ki.nil{P}{a}:Ki P [] a a (λ_:Unit=>True) (λ_=>[]):=by
 intro H f w c b m g d h;exact⟨(),trivial,rfl,λj e=>ω⟩
def Ki.cons{P}{f:Field}{t}{d l p}{E C:Type}{q}{c}{y}{e}(r:Rd P f.type q c)(F:Ki P t l p y e)
  (I:f.offset=d) (S:d+P.cellsOf f.type=l) (Q:l<=p):Ki P (f::t) d p (λi:E × C=>q i.1/\y i.2) (λi=>c i.1++e i.2):=by
 intro H T w B z m n J h;obtain⟨x,hx⟩:=h f σ;obtain⟨a,O,v,u⟩:=r m _ x hx;obtain⟨b,N,U,M⟩:=F m n J λg K=>h g (by simp[K]);have k:((n.drop f.offset).take (P.cellsOf f.type)).length=P.cellsOf f.type:=ξ;rw[k]at v u;refine⟨(a,b),⟨O,N⟩,ξ,λj R=>?_⟩;by_cases s:j<P.cellsOf f.type
 .have:=u j s;have o:nth (c a++e b) j=nth (c a) j:=fZ ω;have L:QY ((n.drop f.offset).take (P.cellsOf f.type)) j=QY n (d+j):=by
   simp only[QY,Q5,Xc,Qf s,GZ,I]
  show Cl _ w (nth (c a++e b) j) _;rw[o,<- L];exact this
 .have o:nth (c a++e b) j=nth (e b) (j - P.cellsOf f.type):=by rw[gh ω,v]
  have:=M (j - P.cellsOf f.type) ω;show Cl _ w (nth (c a++e b) j) _;rw[o,show d+j=l+(j - P.cellsOf f.type) by omega];exact this
def Rd.struct{P:Program}{t:TypeId}{c:Array Field}{Ja:Nat}{e:Type}{k:e->Prop}{b:e->List D}(s:P.underlying t=some (.struct c))(F:P.cellsOf t=Ja)(r:Ki P c.toList 0 Ja k b):Rd P t k b:=by
 intro H I w o n m y x h;obtain⟨g,q,rfl,_,C,p,v⟩:=DataW.trod_struct s h;obtain⟨a,B,J,z⟩:=r q y ω λf d=>by
  obtain⟨i,u⟩:=E6 d;have l:c[i]? = some f:=by simpa using u
  have Qc:i<g.length:=by rw[p];exact(Wg.1 l).1
  exact⟨g[i],by rw[v i f l];exact QP Qc⟩
 exact⟨a,B,ω,λj E=>by have:=z j ω;rwa [Jv]at this⟩
def YA(P:Program)(e:TypeId)(i n:Nat){g:Type}(h:g->Prop)(b:g->List D):Prop:=
 ∀{H:Type} {l:TypeId × Value->H} {w:World} {d:Nat} {c:Bool} (m:Nat) (f:List Value),f.length=n*P.cellsOf e ->
  (∀k,k<n->∃x,DataW.trod l P w d (λ_=>true) c m e ((f.drop (k*P.cellsOf e)).take (P.cellsOf e))=some x) ->
  ∃a,h a/\i*P.cellsOf e+(b a).length=n*P.cellsOf e/\∀j,i*P.cellsOf e+j<n*P.cellsOf e->Cl (λ_=>True) w (nth (b a) j) (QY f (i*P.cellsOf e+j))
def YA.nil{P}{e:TypeId}{n}:YA P e n n (λ_:Unit=>True) (λ_=>[]):=by
 intro H f w b a m g c h;exact⟨(),trivial,rfl,λj d=>ω⟩
def YA.cons{P}{e:TypeId}{i n}{C B:Type}{o}{c}{v}{d}(p:i<n)(r:Rd P e o c)(E:YA P e (i+1) n v d):
  YA P e i n (λf:C × B=>o f.1/\v f.2) (λf=>c f.1++d f.2):=by
 intro H O w z y m k I h;obtain⟨x,hx⟩:=h i p;obtain⟨a,M,u,t⟩:=r m _ x hx;obtain⟨b,L,K,s⟩:=E m k I h;have F:=YV (P.cellsOf e) (show i+1<=n from p);rw[Vw,Nat.one_mul]at F;rw[Vw,Nat.one_mul]at K s;have g:((k.drop (i*P.cellsOf e)).take (P.cellsOf e)).length=P.cellsOf e:=ξ;rw[g]at u t;refine⟨(a,b),⟨M,L⟩,ξ,λj N=>?_⟩;by_cases q:j<P.cellsOf e
 .have:=t j q;have l:nth (c a++d b) j=nth (c a) j:=fZ ω;have J:QY ((k.drop (i*P.cellsOf e)).take (P.cellsOf e)) j=QY k (i*P.cellsOf e+j):=by
   simp only[QY,Q5,Xc,Qf q,GZ]
  show Cl _ w (nth (c a++d b) j) _;rw[l,<- J];exact this
 .have l:nth (c a++d b) j=nth (d b) (j - P.cellsOf e):=by rw[gh ω,u]
  have:=s (j - P.cellsOf e) ω;show Cl _ w (nth (c a++d b) j) _;rw[l,show i*P.cellsOf e+j=i*P.cellsOf e+P.cellsOf e+(j - P.cellsOf e) by omega];exact this
def Rd.array{P:Program}{t e:TypeId}{n:Nat}{c:Type}{f:c->Prop}{b:c->List D}(p:P.underlying t=some (.array n e))(E:P.cellsOf t=n*P.cellsOf e)(r:YA P e 0 n f b):Rd P t f b:=by
 intro H F w l i m u x h;obtain⟨d,o,rfl,_,B,z,s⟩:=DataW.trod_array p h;obtain⟨a,y,v,g⟩:=r o u ω λk q=>by
  have Qc:k<d.length:=ω;exact⟨d[k],by rw[s k q];exact QP Qc⟩
 simp only[Nat.zero_mul,Jv]at v g;exact⟨a,y,ω,λj C=>g j ω⟩
def Rd.slice{P:Program}{t e:TypeId}{B:Type}[Inhabited B]{C}{g}(k)(O:P.underlying t=some (.slice e))(R:P.cellsOf e=k)(W:0<k)(r:Rd P e C g):
  Rd P t (λl:List B=>l.length<=maxLen/\∀a∈l,C a) (λl=>[.imm k l.length λi=>g (l.getD i default)]):=by
 intro H en w M L m cs x h;rcases Deep.open_slice O h with ⟨rfl,_⟩|⟨a,c,J,m,N,D',Pl,rfl,hb,Q,hm,U,_,I⟩
 .refine⟨[],⟨σ,σ⟩,rfl,λj p=>?_⟩;obtain rfl:j=0:=by simpa using p
  exact .imm _ _ _ _ _ 0 0 (λ_ _=>Go.undef) (λh=>by simp at h) σ (λi d=>by simp at d) (λi j d=>by simp at d) (λi j d=>by simp at d)
 .simp only[Va]at U;have F:∀i,∃u:B × List Value,i<c->C u.1/\(g u.1).length=k/\u.2.length=k/\(∀j,j<k->w.cell? (a.add (i*k+j))=some (QY u.2 j))/\∀j,j<k->Cl (λ_=>True) w (nth (g u.1) j) (QY u.2 j):=λi=>by
   by_cases d:i<c
   .obtain⟨q,s,z⟩:=I i ω;obtain⟨x,hx,Y,S⟩:=r N q _ z;obtain⟨_,n,V⟩:=World.cells?_some s;have T:q.length=k:=ω;refine⟨(x,q),λ_=>⟨hx,(by show (g x).length=k;omega),T,λj p=>?_,λj p=>S j ω⟩⟩;have:=V j ω;rw[Deep.add_add,R]at this;rw[this];simp[QY,Q5,QP (show j<q.length from ω)]
   .exact⟨(default,[]),λh=>absurd h d⟩
  obtain⟨f,v⟩:=Classical.axiomOfChoice F;have n:((List.range c).map λi=>(f i).1).length=c:=σ;have K:∀i,i<c->((List.range c).map λi=>(f i).1).getD i default=(f i).1:=λi d=>by simp[Q5,d]
  refine⟨(List.range c).map λi=>(f i).1,⟨by rw[n];omega,λx hx=>?_⟩,rfl,λj p=>?_⟩
  .obtain⟨i,d,rfl⟩:=Jm.1 hx;exact(v i (G1.1 d)).1
  .obtain rfl:j=0:=by simpa using p
   show Cl _ w (.imm k ((List.range c).map λi=>(f i).1).length λi=>g (((List.range c).map λi=>(f i).1).getD i default)) (.slice (some a) c J);rw[n];have y:0<c->a=⟨a.block,a.off,none⟩:=λE=>by
    have s:=(v 0 E).2.2.2.1 0 W;have z:=World.cell?_spot s;obtain⟨b,o,Z⟩:=a;simp[Addr.add]at z;subst z;rfl
   refine .imm _ _ _ _ _ a.block a.off (λi j=>QY (f i).2 j) (λE=>by rw[<- y E]) Q (λi d=>?_) (λi j d p=>⟨trivial,?_⟩) (λi j d p=>?_)
   .rw[K i d];exact(v i d).2.1
   .have s:=(v i d).2.2.2.1 j p;rw[y ω]at s;rw[<- s];congr 1;simp only[Addr.add];split<;>simp_all
   .rw[K i d];exact(v i d).2.2.2.2 j p
def Rd.many{P:Program}{t:TypeId}{j:Type}{k:j->Prop}{b:j->List D}(r:Rd P t k b){H:Type}{s:TypeId × Value->H}{w:World}{g:Nat}{f:Bool}{c:Array Value}{d:DataW H}{n:List MemPlace}
  (h:DataW.Trod s P w g (λ_=>true) f t (.agg c) d n):∃a,k a/\Cl (λ_=>True) w (.agg (b a)) (.agg c):=by
 obtain⟨m,l⟩:=h;have e:(Value.agg c).cells.toList=c.toList:=rfl;rw[e]at l;obtain⟨a,q,p,o⟩:=r m _ _ l;have:=Cl.agg (N:=λ_=>True) (w:=w) (b a) c.toList p.symm (λi u=>o i ω);exact⟨a,q,by simpa using this⟩
def Qpt{P}{f}{c:List D}(h:Q6 P f c λd h=>d=.raw (.bool true)/\h=[])(W)(a:List Value)(k:a.length=c.length)(p:∀i,i<c.length->Cl (λ_=>True) W (nth c i) (QY a i)):
  Calls P f a.toArray W λe g=>e=.returned (.bool true)/\Below W.heap.size W g:=by
 refine(h (λ_=>True) W.heap.size W [] a (QB _) (λ_ _=>trivial) ⟨rfl,λl t b q s e=>by simp at e,λl o e=>by simp at e,λl o b q e=>by simp at e⟩ k (λi m=>.cl _ _ ((p i m).mono λb _ _=>⟨⟨trivial,λl q e=>by simp at e⟩,rfl⟩))).mono λe g n=>?_;obtain⟨v,d,u,w,rfl,⟨rfl,rfl⟩,_,j,_,r⟩:=n;rw[Jh j];exact⟨rfl,r⟩
end Go.Fg
namespace Go.Fg.X
open Go.Proofs Go.Fg
open Go.Proofs.Tryz
def QcG(k:IntKind)(l:List Int):Nat->List D:=λi=>[.raw (.int k (l.getD i 0))]
@[go_sem] theorem Qpu(k)(l:List Int)(i):QcG k l i=[.raw (.int k (l.getD i 0))]:=rfl
structure Cf where
 t:Int
 JU:Int
instance:Inhabited Cf:=⟨⟨0,0⟩⟩
@[go_sem] def Cf.cells(x:Cf):List D:=[.raw (.int .i64 x.t),.raw (.int .i64 x.JU)]
def Cf.rows(l:List Cf):Nat->List D:=λi=>(l.getD i default).cells
@[go_sem] theorem Cf.wh(l:List Cf)(i):Cf.rows l i=(l.getD i default).cells:=rfl
def Cf.Ok(x:Cf):Prop:=(Lit.int .i64 x.t).wf=true/\(Lit.int .i64 x.JU).wf=true/\True
def Qpv:Rd prog 23 Cf.Ok Cf.cells:=
 Rd.map (Rd.struct (Ja:=2) underlying23 τ (Ki.cons (Rd.int .i64 underlying3) (Ki.cons (Rd.int .i64 underlying3) Ki.nil rfl τ π) rfl τ π)) (λp=>⟨p.1,p.2.1⟩) (λ_=>rfl) (λ_ h=>⟨h.1,h.2.1,trivial⟩)
structure Cv where
 m1:Int
 d:Int
 m2:Int
instance:Inhabited Cv:=⟨⟨0,0,0⟩⟩
@[go_sem] def Cv.cells(x:Cv):List D:=[.raw (.int .u64 x.m1),.raw (.int .u64 x.d),.raw (.int .u64 x.m2)]
def Cv.rows(l:List Cv):Nat->List D:=λi=>(l.getD i default).cells
@[go_sem] theorem Cv.wh(l:List Cv)(i):Cv.rows l i=(l.getD i default).cells:=rfl
def Cv.Ok(x:Cv):Prop:=(Lit.int .u64 x.m1).wf=true/\(Lit.int .u64 x.d).wf=true/\(Lit.int .u64 x.m2).wf=true/\True
def lA:Rd prog 67 Cv.Ok Cv.cells:=
 Rd.map (Rd.struct (Ja:=3) underlying67 τ (Ki.cons (Rd.int .u64 underlying34) (Ki.cons (Rd.int .u64 underlying34) (Ki.cons (Rd.int .u64 underlying34) Ki.nil rfl τ π) rfl τ π) rfl τ π)) (λp=>⟨p.1,p.2.1,p.2.2.1⟩) (λ_=>rfl) (λ_ h=>⟨h.1,h.2.1,h.2.2.1,trivial⟩)
structure Pk where
 iD:Int
 len:Int
 wi:Int
 wj:Int
 wk:Int
 wm:Int
instance:Inhabited Pk:=⟨⟨0,0,0,0,0,0⟩⟩
@[go_sem] def Pk.cells(x:Pk):List D:=[.raw (.int .u64 x.iD),.raw (.int .i64 x.len),.raw (.int .u16 x.wi),.raw (.int .u16 x.wj),.raw (.int .u16 x.wk),.raw (.int .u16 x.wm)]
def Pk.rows(l:List Pk):Nat->List D:=λi=>(l.getD i default).cells
@[go_sem] theorem Pk.wh(l:List Pk)(i):Pk.rows l i=(l.getD i default).cells:=rfl
def Pk.Ok(x:Pk):Prop:=(Lit.int .u64 x.iD).wf=true/\(Lit.int .i64 x.len).wf=true/\(Lit.int .u16 x.wi).wf=true/\(Lit.int .u16 x.wj).wf=true/\(Lit.int .u16 x.wk).wf=true/\(Lit.int .u16 x.wm).wf=true/\True
def Qpw:Rd prog 49 Pk.Ok Pk.cells:=
 Rd.map (Rd.struct (Ja:=6) underlying49 τ (Ki.cons (Rd.int .u64 underlying34) (Ki.cons (Rd.int .i64 underlying3) (Ki.cons (Rd.array underlying47 τ (YA.cons π (Rd.int .u16 underlying45) (YA.cons π (Rd.int .u16 underlying45) (YA.cons π (Rd.int .u16 underlying45) (YA.cons π (Rd.int .u16 underlying45) YA.nil))))) Ki.nil rfl τ π) rfl τ π) rfl τ π)) (λp=>⟨p.1,p.2.1,p.2.2.1.1,p.2.2.1.2.1,p.2.2.1.2.2.1,p.2.2.1.2.2.2.1⟩) (λ_=>rfl) (λ_ h=>⟨h.1,h.2.1,h.2.2.1.1,h.2.2.1.2.1,h.2.2.1.2.2.1,h.2.2.1.2.2.2.1,trivial⟩)
structure Qt where
 iD:Int
 parent:Int
 leaf:Bool
 rt:Cv
 ls:Cv
 ul:Cv
 Zz:Int
 bytes:Int
instance:Inhabited Qt:=⟨⟨0,0,false,default,default,default,0,0⟩⟩
@[go_sem] def Qt.cells(x:Qt):List D:=[.raw (.int .i64 x.iD),.raw (.int .i64 x.parent),.raw (.bool x.leaf),.raw (.int .u64 x.rt.m1),.raw (.int .u64 x.rt.d),.raw (.int .u64 x.rt.m2),.raw (.int .u64 x.ls.m1),.raw (.int .u64 x.ls.d),.raw (.int .u64 x.ls.m2),.raw (.int .u64 x.ul.m1),.raw (.int .u64 x.ul.d),.raw (.int .u64 x.ul.m2),.raw (.int .i64 x.Zz),.raw (.int .i64 x.bytes)]
def Qt.rows(l:List Qt):Nat->List D:=λi=>(l.getD i default).cells
@[go_sem] theorem Qt.wh(l:List Qt)(i):Qt.rows l i=(l.getD i default).cells:=rfl
def Qt.Ok(x:Qt):Prop:=(Lit.int .i64 x.iD).wf=true/\(Lit.int .i64 x.parent).wf=true/\True/\Cv.Ok x.rt/\Cv.Ok x.ls/\Cv.Ok x.ul/\(Lit.int .i64 x.Zz).wf=true/\(Lit.int .i64 x.bytes).wf=true/\True
def Qpx:Rd prog 69 Qt.Ok Qt.cells:=
 Rd.map (Rd.struct (Ja:=14) underlying69 τ (Ki.cons (Rd.int .i64 underlying3) (Ki.cons (Rd.int .i64 underlying3) (Ki.cons (Rd.bool underlying4) (Ki.cons lA (Ki.cons lA (Ki.cons lA (Ki.cons (Rd.int .i64 underlying3) (Ki.cons (Rd.int .i64 underlying3) Ki.nil rfl τ π) rfl τ π) rfl τ π) rfl τ π) rfl τ π) rfl τ π) rfl τ π) rfl τ π)) (λp=>⟨p.1,p.2.1,p.2.2.1,p.2.2.2.1,p.2.2.2.2.1,p.2.2.2.2.2.1,p.2.2.2.2.2.2.1,p.2.2.2.2.2.2.2.1⟩) (λ_=>rfl) (λ_ h=>⟨h.1,h.2.1,h.2.2.1,h.2.2.2.1,h.2.2.2.2.1,h.2.2.2.2.2.1,h.2.2.2.2.2.2.1,h.2.2.2.2.2.2.2.1,trivial⟩)
structure Jr where
 kind:Int
 cls:Qt
instance:Inhabited Jr:=⟨⟨0,default⟩⟩
@[go_sem] def Jr.cells(x:Jr):List D:=[.raw (.int .i64 x.kind),.raw (.int .i64 x.cls.iD),.raw (.int .i64 x.cls.parent),.raw (.bool x.cls.leaf),.raw (.int .u64 x.cls.rt.m1),.raw (.int .u64 x.cls.rt.d),.raw (.int .u64 x.cls.rt.m2),.raw (.int .u64 x.cls.ls.m1),.raw (.int .u64 x.cls.ls.d),.raw (.int .u64 x.cls.ls.m2),.raw (.int .u64 x.cls.ul.m1),.raw (.int .u64 x.cls.ul.d),.raw (.int .u64 x.cls.ul.m2),.raw (.int .i64 x.cls.Zz),.raw (.int .i64 x.cls.bytes)]
def Jr.rows(l:List Jr):Nat->List D:=λi=>(l.getD i default).cells
@[go_sem] theorem Jr.wh(l:List Jr)(i):Jr.rows l i=(l.getD i default).cells:=rfl
def Jr.Ok(x:Jr):Prop:=(Lit.int .i64 x.kind).wf=true/\Qt.Ok x.cls/\True
def Qpy:Rd prog 96 Jr.Ok Jr.cells:=
 Rd.map (Rd.struct (Ja:=15) underlying96 τ (Ki.cons (Rd.int .i64 underlying3) (Ki.cons Qpx Ki.nil rfl τ π) rfl τ π)) (λp=>⟨p.1,p.2.1⟩) (λ_=>rfl) (λ_ h=>⟨h.1,h.2.1,trivial⟩)
structure ZX where
 wo:Int
 wu:Int
 A1:Int
 yK:Int
 DS:Int
 DT:Int
 DU:Int
 A3:Int
 cls:Int
instance:Inhabited ZX:=⟨⟨0,0,0,0,0,0,0,0,0⟩⟩
@[go_sem] def ZX.cells(x:ZX):List D:=[.raw (.int .u16 x.wo),.raw (.int .u16 x.wu),.raw (.int .u16 x.A1),.raw (.int .u16 x.yK),.raw (.int .u16 x.DS),.raw (.int .u16 x.DT),.raw (.int .u16 x.DU),.raw (.int .u16 x.A3),.raw (.int .i64 x.cls)]
def ZX.rows(l:List ZX):Nat->List D:=λi=>(l.getD i default).cells
@[go_sem] theorem ZX.wh(l:List ZX)(i):ZX.rows l i=(l.getD i default).cells:=rfl
def ZX.Ok(x:ZX):Prop:=(Lit.int .u16 x.wo).wf=true/\(Lit.int .u16 x.wu).wf=true/\(Lit.int .u16 x.A1).wf=true/\(Lit.int .u16 x.yK).wf=true/\(Lit.int .u16 x.DS).wf=true/\(Lit.int .u16 x.DT).wf=true/\(Lit.int .u16 x.DU).wf=true/\(Lit.int .u16 x.A3).wf=true/\(Lit.int .i64 x.cls).wf=true/\True
def Qpz:Rd prog 98 ZX.Ok ZX.cells:=
 Rd.map (Rd.struct (Ja:=9) underlying98 τ (Ki.cons (Rd.array underlying47 τ (YA.cons π (Rd.int .u16 underlying45) (YA.cons π (Rd.int .u16 underlying45) (YA.cons π (Rd.int .u16 underlying45) (YA.cons π (Rd.int .u16 underlying45) YA.nil))))) (Ki.cons (Rd.array underlying47 τ (YA.cons π (Rd.int .u16 underlying45) (YA.cons π (Rd.int .u16 underlying45) (YA.cons π (Rd.int .u16 underlying45) (YA.cons π (Rd.int .u16 underlying45) YA.nil))))) (Ki.cons (Rd.int .i64 underlying3) Ki.nil rfl τ π) rfl τ π) rfl τ π)) (λp=>⟨p.1.1,p.1.2.1,p.1.2.2.1,p.1.2.2.2.1,p.2.1.1,p.2.1.2.1,p.2.1.2.2.1,p.2.1.2.2.2.1,p.2.2.1⟩) (λ_=>rfl) (λ_ h=>⟨h.1.1,h.1.2.1,h.1.2.2.1,h.1.2.2.2.1,h.2.1.1,h.2.1.2.1,h.2.1.2.2.1,h.2.1.2.2.2.1,h.2.2.1,trivial⟩)
structure ZY where
 kind:Int
 changes:(List Jr)
 rules:(List ZX)
 YB:Pk
 WS:Int
instance:Inhabited ZY:=⟨⟨0,[],[],default,0⟩⟩
@[go_sem] def ZY.cells(x:ZY):List D:=[.raw (.int .i64 x.kind),.imm 15 x.changes.length (Jr.rows x.changes),.imm 9 x.rules.length (ZX.rows x.rules),.raw (.int .u64 x.YB.iD),.raw (.int .i64 x.YB.len),.raw (.int .u16 x.YB.wi),.raw (.int .u16 x.YB.wj),.raw (.int .u16 x.YB.wk),.raw (.int .u16 x.YB.wm),.raw (.int .u64 x.WS)]
def ZY.rows(l:List ZY):Nat->List D:=λi=>(l.getD i default).cells
@[go_sem] theorem ZY.wh(l:List ZY)(i):ZY.rows l i=(l.getD i default).cells:=rfl
def ZY.Ok(x:ZY):Prop:=(Lit.int .i64 x.kind).wf=true/\(x.changes.length<=maxLen/\∀a∈x.changes,Jr.Ok a)/\(x.rules.length<=maxLen/\∀a∈x.rules,ZX.Ok a)/\Pk.Ok x.YB/\(Lit.int .u64 x.WS).wf=true/\True
def QcH:Rd prog 51 ZY.Ok ZY.cells:=
 Rd.map (Rd.struct (Ja:=10) underlying51 τ (Ki.cons (Rd.int .i64 underlying3) (Ki.cons (Rd.slice 15 underlying44 τ π Qpy) (Ki.cons (Rd.slice 9 underlying35 τ π Qpz) (Ki.cons Qpw (Ki.cons (Rd.int .u64 underlying34) Ki.nil rfl τ π) rfl τ π) rfl τ π) rfl τ π) rfl τ π)) (λp=>⟨p.1,p.2.1,p.2.2.1,p.2.2.2.1,p.2.2.2.2.1⟩) (λ_=>rfl) (λ_ h=>⟨h.1,h.2.1,h.2.2.1,h.2.2.2.1,h.2.2.2.2.1,trivial⟩)
structure qI where
 config:Cf
 ops:(List ZY)
instance:Inhabited qI:=⟨⟨default,[]⟩⟩
@[go_sem] def qI.cells(x:qI):List D:=[.raw (.int .i64 x.config.t),.raw (.int .i64 x.config.JU),.imm 10 x.ops.length (ZY.rows x.ops)]
def qI.rows(l:List qI):Nat->List D:=λi=>(l.getD i default).cells
@[go_sem] theorem qI.wh(l:List qI)(i):qI.rows l i=(l.getD i default).cells:=rfl
def qI.Ok(x:qI):Prop:=Cf.Ok x.config/\(x.ops.length<=maxLen/\∀a∈x.ops,ZY.Ok a)/\True
def QpA:Rd prog 26 qI.Ok qI.cells:=
 Rd.map (Rd.struct (Ja:=3) underlying26 τ (Ki.cons Qpv (Ki.cons (Rd.slice 10 underlying24 τ π QcH) Ki.nil rfl τ π) rfl τ π)) (λp=>⟨p.1,p.2.1⟩) (λ_=>rfl) (λ_ h=>⟨h.1,h.2.1,trivial⟩)
@[go_sem] def Qb(n:Int):D:=.raw (.int .i64 n)
@[go_sem] def QT(b:Bool):D:=.raw (.bool b)
@[go_sem] def ints(l:List Int):D:=.imm 1 l.length (QcG .i64 l)
structure Ev where
 op:Int
 Y8:Bool
 real:Bool
 at_:Int
 done:Int
 cls:Int
 id:Int
 len:Int
 h0:Int
 h1:Int
 h2:Int
 h3:Int
instance:Inhabited Ev:=⟨⟨0,false,false,0,0,0,0,0,0,0,0,0⟩⟩
@[go_sem] def Ev.cells(e:Ev):List D:=[.raw (.int .i64 e.op),.raw (.bool e.Y8),.raw (.bool e.real),.raw (.int .u64 e.at_),.raw (.int .u64 e.done),.raw (.int .i64 e.cls),.raw (.int .u64 e.id),.raw (.int .i64 e.len),.raw (.int .u16 e.h0),.raw (.int .u16 e.h1),.raw (.int .u16 e.h2),.raw (.int .u16 e.h3)]
def Ev.Ok(x:Ev):Prop:=(Lit.int .i64 x.op).wf=true/\(Lit.int .u64 x.at_).wf=true/\(Lit.int .u64 x.done).wf=true/\(Lit.int .i64 x.cls).wf=true/\(Lit.int .u64 x.id).wf=true/\(Lit.int .i64 x.len).wf=true/\(Lit.int .u16 x.h0).wf=true/\(Lit.int .u16 x.h1).wf=true/\(Lit.int .u16 x.h2).wf=true/\(Lit.int .u16 x.h3).wf=true
def Ev.rows(l:List Ev):Nat->List D:=λi=>(l.getD i default).cells
@[go_sem] theorem Ev.wh(l:List Ev)(i):Ev.rows l i=(l.getD i default).cells:=rfl
@[go_sem] def evs(l:List Ev):D:=.imm 12 l.length (Ev.rows l)
def wrap64{n}(b:-9223372036854775808<=n)(a:n<=9223372036854775807):IntKind.i64.wrap n=n:=by
 rw[IntKind.wrap_i64];omega
def KJ{k:Nat}(h:k<4611686018427387904):IntKind.i64.wrap ((k:Int)+1)=((k+1:Nat):Int):=by
 rw[wrap64 ω ω];rfl
def bnz{n:Nat}(h:n≠0):((n:Int)==0)=false:=by simp[h]
def dp{n:Nat}(h:n≠0):decide ((0:Int)<n)=true:=ξ
def Zm(d:D):D->List Ob->Prop:=λa h=>a=d/\h=[]
attribute [go_sem] Zm
def Zm.flat{d:D}(b:d.flat=true):∀a h,Zm d a h->a.flat=true/\∀o∈h,o.flat:=by
 rintro a h ⟨rfl,rfl⟩;exact⟨b,σ⟩
def getD_take{a:Type}(l:List a)(d:a)(k)(h:k<l.length):l.take (k+1)=l.take k++[l.getD k d]:=by
 rw[E9,QP h];simp[Q5,QP h]
def mixed:prog.follows .mixedOrders=true:=τ
def getD_map{a b:Type}(f:a->b)(l:List a)(d:a)(e:b)(i)(h:i<l.length):(l.map f).getD i e=f (l.getD i d):=by simp[Q5,h]
def za{a:Type}(l:List a)(d:a)(i)(h:i<l.length):l.getD i d∈l:=by simp[Q5,h]
def wf_u64{n:Int}(h:(Lit.int .u64 n).wf=true):0<=n/\n<=18446744073709551615:=by
 simp only[Lit.wf,ZH,XZ]at h;exact h
def wf_u16{n:Int}(h:(Lit.int .u16 n).wf=true):0<=n/\n<=65535:=by
 simp only[Lit.wf,ZH,XZ]at h;exact h
def bj{n}(b:0<=n)(a:n<=18446744073709551615):IntKind.u64.wrap n=n:=η
@[go_sem] theorem QBC:((0:Nat):Int)=0:=rfl
@[go_sem] theorem QBD:((1:Nat):Int)=1:=rfl
@[go_sem] theorem QBE:((2:Nat):Int)=2:=rfl
@[go_sem] theorem QBF:((3:Nat):Int)=3:=rfl
@[go_sem] theorem QBG:((4:Nat):Int)=4:=rfl
@[go_sem] theorem QBH:((5:Nat):Int)=5:=rfl
@[go_sem] theorem QBI:((6:Nat):Int)=6:=rfl
@[go_sem] theorem QBJ:((7:Nat):Int)=7:=rfl
@[go_sem] theorem QBK:((8:Nat):Int)=8:=rfl
@[go_sem] theorem QBL:((9:Nat):Int)=9:=rfl
@[go_sem] theorem QBM:((10:Nat):Int)=10:=rfl
def qa{a b:Int}(h:a=b):(a==b)=true:=by simp[h]
def Xx{a b:Int}(h:a≠b):(a==b)=false:=by simp[h]
def bk{a b:Int}(h:a=b):(a != b)=false:=by simp[h]
def bn{a b:Int}(h:a≠b):(a != b)=true:=by simp[h]
end Go.Fg.X
namespace Go.Fg
open Go.RowKit (Below)
def ME(a:List Zy):Prop:=(a.map (·.b)).Pairwise (·<·)
def jB.QcI{Z}{h}{f}{w}{q}{c}{b}{a}(E:jB Z h f w q c b a):ME b:=by
 unfold ME;rw[List.pairwise_iff_getElem];intro i j e d g;simp only[JV]at e d;have k:=E.len;obtain⟨_,_,m,_⟩:=E.at_ i b[i] a[i] (QP e) (QP ω);obtain⟨_,_,l,_⟩:=E.at_ j b[j] a[j] (QP d) (QP ω);have:=E.inc i j a[i] a[j] g (QP ω) (QP ω);simp only[List.getElem_map];omega
def ME.nodup{a:List Zy}(B:ME a):(a.map (·.b)).Nodup:=by
 unfold List.Nodup;exact List.Pairwise.imp (λh=>Nat.ne_of_lt h) B
def xC(b:List Zy)(a:List Nat):Nat:=(b.filter λe=>!a.contains e.b).length
def QcJ:∀{a:List Zy} {seen:List Nat} {e:Zy},e∈a->e.b ∉ seen->xC a (seen++[e.b])<xC a seen
 | [],_,_,h,_=>by simp at h
 | x::a,seen,e,h,d=>by
  have b:∀a:List Zy,xC a (seen++[e.b])<=xC a seen:=λa=>by
   induction a with
   | nil=>exact QB _
   | cons y r c=>
    simp only[xC,vH]at c ⊢;by_cases g:y.b∈seen<;>by_cases f:y.b=e.b<;>simp_all<;>omega
  rcases QE.1 h with rfl|h
  .have:=b a;simp only[xC,vH]at this ⊢
   simp_all
   omega
  .have:=QcJ h d;simp only[xC,vH]at this ⊢;by_cases g:x.b∈seen<;>by_cases f:x.b=e.b<;>simp_all<;>omega
section
variable {P:Program}{L:ZW}{base nt:Nat}{w0:Start}{Q:Exit->St->Prop}
def QpC{Z:Nat->Prop}{s:St}{d:List Pl}{a:Act}{w:World}(r:Rel Z base nt s d a w){l c:Nat}{i:List Zy}{f:Kd}{q:IntKind}(k:f.ty=1)(e:s.h[l]? = some (VE f q c i)):ME i:=by
 have h:l<d.length:=by rw[r.o.len];exact Kh e
 cases g:d[l] with
 | none=>
  have:=r.o.Vh l _ e (by rw[QP h,g]);simp[VE]at this
 | some j=>
  obtain⟨b,p⟩:=j;obtain⟨_,x⟩:=r.o.at_ l _ b p e (by rw[QP h,g]);obtain⟨_,m,_,E⟩:=Uv k x;exact E.QcI
def QpD{e:Code}{k:List Item}{s:St}{l c:Nat}{es:List Zy}{kd:Kd}{q:IntKind}(h:kd.ty=1)(g:s.h[l]? = some (VE kd q c es))(d:ME es->Qr P base nt w0 Q (.code e::k) .normal s):Qr P base nt w0 Q (.code e::k) .normal s:=by
 simp only[Qr]at d ⊢;intro Z z f a w r b;exact d (QpC r h g) Z z f a w r b
def QpE{o:Oper}{s}{x}(Y:o.op=.entry x){u l c}{k}{f}{q}{v}{e}
  (V:Qo s.fr x=.mref u 0) (N:s.h[u]? = some (XP l c c (f++[e.b]))) (O:v.ty=1) (M:s.h[l]? = some (VE v q c k)) (he:e∈k):VZ P base nt o s (.tup [.raw (.int q e.k),e.v]):=by
 intro Z pl a w r;have K:=r.eval x;rw[V]at K;obtain⟨o',p,b,t,n,h3,h4,z⟩:=Dq K;rw[N]at t;cases t;have z:=z rfl;rw[z]at n;obtain⟨Zp,U⟩:=r.o.at_ u _ b 0 N n;obtain⟨_,m,T,hb,AH,Pf⟩:=uc U;have W:a.eval x=.pointer (some ⟨b,0,none⟩):=h3.2;obtain⟨o2,p2,bm,H,F,h,k4,y⟩:=Dq Pf;rw[M]at H;cases H;have y:=y rfl;rw[y]at F;have h:=h.2;rw[show (VE v q c k).kd.ty=1 from O]at h;have h:m=bm:=by simpa[OS] using h
 subst h;obtain⟨Pg,gz⟩:=r.o.at_ l _ m 0 M F;obtain⟨_,d,R,E⟩:=Uv O gz;have hl:k.length=d.toList.length:=E.len;obtain⟨j,I⟩:=E6 he;have Qc:=(Wh.1 I).1;obtain⟨d1,d2,d3,d4⟩:=E.at_ j e (d.toList[j]'ω) I (QP ω);have Z3:(d.toList.map (·.born)).Nodup:=by
  have:d.toList.map (·.born)=k.map (·.b):=by
   apply List.ext_getElem (by simp[hl]);intro i t n;simp only[JV]at t n;obtain⟨_,_,g,_⟩:=E.at_ i (k[i]'ω) (d.toList[i]'ω) (QP ω) (QP ω);simp only[List.getElem_map,g]
  rw[this];exact E.QcI.nodup
 have C:T=(f.toArray).push (d.toList[j]'ω).born:=by
  apply Array.toList_inj.1;rw[AH,d3];simp
 have B:=hb;rw[C]at B;refine⟨.tuple #[(d.toList[j]'ω).key,(d.toList[j]'ω).val],?_,λS J=>?_⟩
 .rw[d1];exact .tup _ [.int q e.k,(d.toList[j]'ω).val] rfl λi hi=>match i,hi with
   | 0,_=>.cl _ _ (.raw _)
   | 1,_=>d2
 .have Zb:=run_entry_at (P:=P) S b m c f.toArray d c (d.toList[j]'ω) (by rw[J b (jx B)];exact B) (by rw[J m (jx R)];exact R) (XK _) Z3;simp[execOp,Y,W,Zb]
def QpG{k}{a}{f:TypeId}{pos}{b}{j}{r}{s}{x}{li l c}{es}{seen}{q}{kd}{e}
  (g:Qo s.fr x=.mref li 0) (n:s.h[li]? = some (XP l c c (seen++[e.b]))) (o:kd.ty=1) (m:s.h[l]? = some (VE kd q c es)) (i:e∈es) (h:Zj nt a=true)
  (d:Qr P base nt w0 Q (.ops r::k) .normal ⟨Q8 s.fr a (.tup [.raw (.int q e.k),e.v]),s.h⟩) :
  Qr P base nt w0 Q (.ops ((⟨a,.entry x,f,pos,b,j⟩,none)::r)::k) .normal s:=by
 simp only[Qr]at d ⊢;exact gF (QpE rfl g n o m i) h d
end
def qb(a c:Nat)(d:List D)(b:Nat->List D):Nat->List D:=λk=>bif Nat.ble a k&&Nat.blt k (a+c) then d else b k
def lB{a c k}{d}{b}(h:k<a):qb a c d b k=b k:=by
 have:Nat.ble a k=false:=by rw[<- XY,Nat.ble_eq];omega
 simp[qb,this]
section
variable {P:Program}{L:ZW}{base nt:Nat}{s:St}{o:Oper}
def QpH(hL:ZU P L){t e:TypeId}{x}{l g f j a b c}{z}{zt}{d}(E:o.op=.call ⟨.builtin .clear,#[x],#[t]⟩)(hx:Qo s.fr x=.ref l g f j)(y:s.h[l]? = some d)
  (n:d.kd.G7=false) (hg:d.gen=g) (C:d.sz=1) (V:d.kd.ro=false) (hn:f+j<=d.n) (ht:ty L t=some ⟨.slice e,a,b,zt⟩) {k:TK} (he:ty L e=some ⟨k,1,c,[z]⟩) (hz:yq z=true) :
  zK P base nt o s (s.h.set l ⟨d.kd,d.gen,d.sz,d.n,qb f j [JT z] d.row⟩) (.tup []):=by
 refine He.up ?_ (by simp[calm,E]);intro Z B ac w r Kn;have hv:=r.eval x;rw[hx]at hv;obtain⟨o',p',ad,a1,I,Zw,R,Q,jw,Vx⟩:=BL hv;rw[y]at Zw;cases Zw;have hy:=hL _ _ ht;have Wj:=hL _ _ he;have J:P.underlying t=some (.slice e):=vP hy rfl;obtain⟨zv,xm,qC⟩:=Wj.zeroValue;have Dv:zv.cells=#[z]:=by apply Array.toList_inj.1;rw[xm]
 have Fk:(Builtin.zeroCells zv.cells j).toList=List.replicate j z:=by
  rw[Dv];simp[Builtin.zeroCells];apply List.ext_getElem
  .simp
  .intro i h1 h2;simp[Nat.mod_one]
 have U:∀Z' h' Qh p,Qy Z' h' Qh p (JT z) z:=λZ' h' Qh p=>
  .cl _ _ (BJ _ _ _)
 rcases Vx hg.symm with ⟨H,MF⟩|⟨O,q,c0,el,VY,W,Zp,a2,BN⟩
 .subst H;have ZR:∀i,qb f 0 [JT z] d.row i=d.row i:=λi=>by
   unfold qb;cases h1:Nat.ble f i&&Nat.blt i (f+0)
   .rfl
   .simp at h1;omega
  have q6:s.h.set l ⟨d.kd,d.gen,d.sz,d.n,qb f 0 [JT z] d.row⟩=s.h:=by
   have u:(⟨d.kd,d.gen,d.sz,d.n,qb f 0 [JT z] d.row⟩:Ob)=d:=by rw[funext ZR]
   rw[u];exact xh λi=>by
    by_cases h:l=i
    .subst h;rw[VX (Kh y),y]
    .rw[Jf h]
  rw[q6];refine⟨.tuple #[],w,B,.inl ?_,Tr.refl _ _ _,r.o,.tup [] [] rfl (λi K=>absurd K (XL i)),Below.refl _ _⟩;subst MF;cases ad<;>simp[execOp,E,I,resolve,invoke,Go.builtin,Builtin.clear_,run_underlying J]
 .subst VY;obtain⟨QU,xx⟩:=r.o.at_ l d O q y R;obtain⟨c1,fx,F,Hf,JS,ZR⟩:=xx.cells Q;rw[F]at Zp;cases Zp;have Jw:∀c2:Nat->List D,(⟨d.kd,d.gen,d.sz,d.n,c2⟩:Ob).kd=d.kd:=λ_=>rfl;obtain⟨p,c',g1,g2,N,g4,M,g6,g7,g8,g9⟩:=Ub (P:=P) O el (List.replicate j z) 0 (q+f*d.sz) w c0 F (by simp;rw[C]at Hf ⊢;omega) (λk n=>by
   have S:k<j:=by simpa using n
   have:QY (List.replicate j z) k=z:=by simp[QY,Q5,S]
   rw[this];exact hz)
  have T:Tr s.h B w (s.h.set l ⟨d.kd,d.gen,d.sz,d.n,qb f j [JT z] d.row⟩) B p:=Tr.QV r.o y R rfl rfl rfl (λk n _=>M k n) (λc2 a0 e2=>by rw[F]at e2;cases e2;exact⟨c',g2,N⟩);refine⟨.tuple #[],p,B,.inl ?_,T,?_,.tup [] [] rfl (λi K=>absurd K (XL i)),LH (QU V) M g6 g7 g8 g9⟩
  .subst W;by_cases H:j=0
   .subst H;have u:p=w:=by
     have:(storeCells ⟨O,q+f*d.sz,none⟩ (List.replicate 0 z) 0).run P w=.ok () w:=by simp[storeCells]
     rw[g1]at this;cases this;rfl
    rw[u];simp[execOp,E,I,resolve,invoke,Go.builtin,Builtin.clear_,run_underlying J]
   .obtain⟨m,rfl⟩:∃m,j=m+1:=⟨j - 1,ω⟩;simp[execOp,E,I,resolve,invoke,Go.builtin,Builtin.clear_,run_underlying J,qC,Fk,g1]
  .refine Zg.QV (hro:=rfl) r.o y R Q Q rfl rfl (λk n _=>M k n) F g2 N (by rw[N];exact Hf) (λk n=>?_) (λk m n hm=>?_)
   .show (qb f j [JT z] d.row k).length=d.sz;unfold qb;cases Nat.ble f k&&Nat.blt k (f+j)
    .exact JS k n
    .simp[C]
   .have S:k<d.n:=n;have Xk:m<d.sz:=hm;show ∃v,c'[q+(k*d.sz+m)]? = some v/\Qy Z _ B p (nth (qb f j [JT z] d.row k) m) v;rw[C]at Xk;have Pg:m=0:=ω;subst Pg;have br:k*d.sz+0=k:=by rw[C];omega
    have Y:q+f*d.sz+0=q+f:=by rw[C];omega
    rw[g4,br,Y];simp only[List.length_replicate];by_cases X9:f<=k/\k<f+j
    .rw[Qf ω];have u:qb f j [JT z] d.row k=[JT z]:=by simp[qb,DI,QkJ,X9.1,X9.2]
     rw[u];exact⟨z,by rw[List.getElem?_replicate,Qf ω],U _ _ _ _⟩
    .rw[Qe ω];have u:qb f j [JT z] d.row k=d.row k:=by
      unfold qb;cases h:(Nat.ble f k&&Nat.blt k (f+j))
      .rfl
      .simp at h;omega
     rw[u];obtain⟨v,BP,Wi⟩:=ZR k 0 S ω;rw[br]at BP;exact⟨v,BP,Wi.tr T⟩
end
section
variable {P:Program}{L:ZW}{base nt:Nat}{w0:Start}{Q:Exit->St->Prop}
def lF(I:ZU P L)(H:base<=w0.w.heap.size){k}{i}{K:TypeId}{pos}{j}{J}{r}{s}{t e:TypeId}{x}{l g f h a b c}{z}{o}{d}
  (u:Qo s.fr x=.ref l g f h) (M:s.h[l]? = some d)
  (B:d.kd.G7=false) (C:d.gen=g) (w:d.sz=1) (m:d.kd.ro=false) (y:f+h<=d.n) (v:ty L t=some ⟨.slice e,a,b,o⟩) {p:TK} (E:ty L e=some ⟨p,1,c,[z]⟩) (q:yq z=true) (F:Zj nt i=true)
  (n:Qr P base nt w0 Q (.ops r::k) .normal ⟨Q8 s.fr i (.tup []),s.h.set l ⟨d.kd,d.gen,d.sz,d.n,qb f h [JT z] d.row⟩⟩) :
  Qr P base nt w0 Q (.ops ((⟨i,.call ⟨.builtin .clear,#[x],#[t]⟩,K,pos,j,J⟩,none)::r)::k) .normal s:=by
 simp only[Qr]at n ⊢;exact UG H (QpH I rfl u M B C w m y v E q) F n
end
def QI.cut{P}{f}{F}{k}{R R'}(hf:QI P f F k R)
  (s:∀d h,R d h->∃l o n,h[l]? = some o/\o.kd.ty=0/\n<=o.n/\R' d (h.set l ⟨o.kd,o.gen,o.sz,n,o.row⟩)):QI P f F k R':=by
 intro Z y w pl vs h1 h2 h3 t K;refine(hf Z y w pl vs h1 h2 h3 t K).mono λe w' he=>?_;obtain⟨v,d,h,Qh,rfl,hR,r,hV,B,hB⟩:=he;obtain⟨l,o,n,z,S,I,M⟩:=s _ _ hR;have t:=Kh z;have a:∀(x:Nat) (u:Ob),h[x]? = some u->∃m,(h.set l ⟨o.kd,o.gen,o.sz,n,o.row⟩)[x]? = some m/\m.gen=u.gen/\m.sz=u.sz/\m.kd.ty=u.kd.ty:=λx u e=>by
  by_cases hx:l=x
  .subst hx;rw[z]at e;cases e;exact⟨_,VX t,rfl,rfl,rfl⟩
  .exact⟨u,by rw[Jf hx];exact e,rfl,rfl,rfl⟩
 refine⟨v,d,_,Qh,rfl,M,⟨by simp[r.len],r.inj,λx u e g=>?_,λx u b q e g=>?_⟩,hV.B7 a,⟨B.Kg,λx u p e g=>?_,λx u m b q e e' hg g c el K=>?_⟩,hB⟩
 .by_cases hx:l=x
  .subst hx;rw[VX t]at e;cases e;have:=r.Vh l o z g;show n=0;omega
  .rw[Jf hx]at e;exact r.Vh x u e g
 .by_cases hx:l=x
  .subst hx;rw[VX t]at e;cases e;obtain⟨L,H⟩:=r.at_ l o b q z g;obtain⟨c,el,c1,c2,c3,c4⟩:=H.cells S;refine⟨L,.LA S ⟨c,el,c1,?_,λi J=>c3 i (kv J I),λi j J hj=>?_⟩⟩
   .have:=YV o.sz I;show q+n*o.sz<=c.size;omega
   .obtain⟨u,hu,s⟩:=c4 i j (kv J I) hj;exact⟨u,hu,s.B7 a⟩
  .rw[Jf hx]at e;obtain⟨L,H⟩:=r.at_ x u b q e g;exact⟨L,H.to rfl rfl rfl rfl (λ_ _=>rfl) λi j v _ _ s=>s.B7 a⟩
 .obtain⟨m,Q,E,Y,a3,W,V⟩:=B.obj x u p e g;obtain⟨N,C,b2,U,T⟩:=a x m E;exact⟨N,Q,C,Y,ω,by rw[T,W],λhh=>by rw[U];exact V ω⟩
 .obtain⟨O,Q,E,Y,a3,W,V⟩:=B.obj x u _ e g;obtain⟨N,C,b2,U,T⟩:=a x O E;rw[e']at C;cases C;exact B.shape x u O b q e E ω g c el K
section
variable {P:Program}{L:ZW}{base nt:Nat}{s:St}{o:Oper}
def QpM(j:ZU P L){t:TypeId}{x:Operand}(i:o.op=.call ⟨.builtin .cap,#[x],#[t]⟩)(f:Qo s.fr x=.nil){e a b:Nat}{d:List Value}(h:ty L t=some ⟨.slice e,a,b,d⟩):VZ P base nt o s (.raw (.int .i64 0)):=by
 intro Z l m w r;have c:=r.eval x;rw[f]at c;obtain⟨n,g⟩:=BK c;refine⟨_,.cl _ _ (.raw _),λk _=>?_⟩;rw[jy i];simp[builtin,g,Builtin.cap_,run_underlying (vP (j _ _ h) rfl),goInt]
def QpN{t l e:TypeId}{ty0:TypeId}{y:Ty}{k F:IntKind}(K:P.underlying t=some (.slice e))(S:P.underlying l=some (.int F))(c:Wz P e y)(m:y.zero.length=y.size)(W:0<y.size)(w:World)(b:Option Addr)(n:Nat)
  (M:0<n) (H:n<=4294967296) (B:y.bytes<=1024) :
  ∃f a,(Builtin.append_ #[t,l] ty0 #[.slice b 0 0,.int k n]).run P w=.ok (.slice (some ⟨w.heap.size,0,none⟩) n f) (w.drew.alloc (.cells ((flat n y.size λ_ j=>QY y.zero j).toArray++a) e))/\n<=f/\a.size=(f - n)*y.size:=by
 obtain⟨z,d,C⟩:=c.zeroValue;obtain⟨i,q,V,v⟩:=c.typeInfo w;have T:∀w,(typeInfo e).run P w=.ok i w:=λw=>by
  have r:=c.info;cases hx:P.info? e with
  | none=>rw[hx]at r;cases r
  | some k=>
   simp[typeInfo,hx]at q ⊢;exact q
 refine⟨grownCap w n 0 e,Builtin.zeroCells z.cells (grownCap w n 0 e - n),?_,grownCap_ge _ _ _ _,by rw[fR];congr 1;rw[<- m,<- d];simp⟩;have p:¬ n=0:=ω;have J:IntKind.i64.wrap (n:Int)=n:=by rw[IntKind.wrap_i64];omega
 have O:¬ (9223372036854775807<(n:Int)):=ω;have x:n*y.bytes<=4294967296*1024:=vL H B;have N:¬ (281474976710656<Builtin.nextslicecap n 0*i.bytes):=by rw[nextslicecap_zero M,v];omega
 have E:¬ (281474976710656<(n:Int)*(i.bytes:Int)):=by
  rw[<- Th,v];omega
 have R:¬ ((n:Int)<0):=ω;have U:¬ (n*y.size=0):=Nat.mul_ne_zero p ω;have h:z.cells.size=y.size:=by rw[<- m,<- d];simp
 have I:(flat n y.size λ_ j=>QY y.zero j).toArray=Builtin.zeroCells z.cells n:=by
  apply Array.ext
  .rw[fR,h];simp[qB]
  .intro j u Y;simp only[E8,qB]at u;obtain⟨d1,d2,d3⟩:=div_lt u;have Q:y.zero=z.cells.toList:=d.symm;have g:j % y.size<z.cells.size:=by rw[h];exact d2
   simp[flat,Builtin.zeroCells,QY,Q,Q5,h,g];rw[getElem!_pos z.cells _ g,zF g];rfl
 rw[I];cases b<;>simp[Builtin.append_,run_underlying K,run_underlying S,c.sizeOf,T,C,asInt,asIntOf,J,p,R,U,O,N,E,Question.forced,Builtin.firstCells,loadCells,loadCellsFrom,newRow,grownCap,askRoom,mark,Sem.run]
def QpO(p:ZU P L){t u e:TypeId}{g x:Operand}{n:Nat}{R:IntKind}{a b c d:Nat}{M N:List Value}{y:Ty}{k:IntKind}(v:o.op=.call ⟨.builtin .append,#[g,x],#[t,u]⟩)(Aw:Qo s.fr g=.nil)(W:Qo s.fr x=.raw (.int k n))
  (ht:ty L t=some ⟨.slice e,a,b,M⟩) (PR:ty L u=some ⟨.int R,c,d,N⟩) (Wj:ty L e=some y) (m:y.zero.length=y.size) (hs:0<y.size) (h0:0<n) (U:n<=4294967296) (O:y.bytes<=1024) :
  zK P base nt o s (s.h++[⟨.arr,0,y.size,n,λ_=>y.zero.map JT⟩]) (.ref s.h.length 0 0 n):=by
 refine He.up ?_ (by simp[calm,v]);intro Z l ac w r I;have H:=r.eval g;have K:=r.eval x;rw[Aw]at H;rw[W]at K;obtain⟨F,LJ⟩:=BK H;have Y:=Jh K;have V:=p _ _ Wj;have Zf:l.length=s.h.length:=r.o.len;obtain⟨S,f,Zb,Fm,Q⟩:=QpN (ty0:=o.type) (k:=k) (vP (p _ _ ht) rfl) (BI (p _ _ PR) rfl) V m hs w F n h0 U O;have E:∀b,b<w.heap.size->(w.drew.alloc (.cells ((flat n y.size λ_ j=>QY y.zero j).toArray++f) e)).heap[b]? = w.heap[b]? := λb hb=>kz w.drew _ b hb;have J:(w.drew.alloc (.cells ((flat n y.size λ_ j=>QY y.zero j).toArray++f) e)).heap[w.heap.size]? = some (.cells ((flat n y.size λ_ j=>QY y.zero j).toArray++f) e (0,0)):=heap_alloc_new w.drew _;have T:Tr s.h l w (s.h++[⟨.arr,0,y.size,n,λ_=>y.zero.map JT⟩]) (l++[some (w.heap.size,0)]) (w.drew.alloc (.cells ((flat n y.size λ_ j=>QY y.zero j).toArray++f) e)):=Tr.push r.o E _ _ (by intro b q h;simp at h;omega);refine⟨.slice (some ⟨w.heap.size,0,none⟩) n S,_,_,.inl ?_,T,Zg.push r.o E _ rfl (QB _) I J (by simp[qB]) (λi B=>by simp[m]) (λi j B z=>⟨QY y.zero j,?_,?_⟩),.ref _ _ _ _ ⟨.arr,0,y.size,n,λ_=>y.zero.map JT⟩ (some (w.heap.size,0)) _ _ σ (by rw[<- Zf];simp) rfl (QB _) (λ_=>.inr ⟨w.heap.size,0,_,_,rfl,σ,J,?_,Fm⟩),((Below.refl base w).drew).alloc I _⟩
 .rw[jy v];have:(Array.map ac.eval #[g,x])=#[.slice F 0 0,.int k n]:=by simp[LJ,Y]
  rw[this];simp only[builtin,Sem.run_bind,Zb,Result.andThen_ok,Sem.run_pure]
 .have C:=Fj (vs:=λ_ j=>QY y.zero j) B z;have Qc:=(Wh.1 C).1;rw[Jv,Ll (by simpa using Qc)];simpa using C
 .have VO:j<y.zero.length:=by rw[m];exact z
  have:nth (y.zero.map JT) j=JT (QY y.zero j):=by simp[nth,QY,Q5,VO]
  show Qy Z _ _ _ (nth (y.zero.map JT) j) _;rw[this];exact .cl _ _ (BJ _ _ _)
 .simp only[Jv,Array.size_append,E8,qB,Q];rw[<- Vw];exact YV _ ω
end
section
variable {P:Program}{L:ZW}{base nt:Nat}{w0:Start}{Q:Exit->St->Prop}
def lH(l:ZU P L){k:List Item}{c:Option Nat}{n:TypeId}{pos:String}{d:Array Edge}{m:Option (Nat × Bool)}{r:List (Oper × G)}{s:St}{t e a b:Nat}{x:Operand}{g:List Value}
  (h:Qo s.fr x=.nil) (i:ty L t=some ⟨.slice e,a,b,g⟩) (j:Zj nt c=true) (f:Qr P base nt w0 Q (.ops r::k) .normal ⟨Q8 s.fr c (.raw (.int .i64 0)),s.h⟩) :
  Qr P base nt w0 Q (.ops ((⟨c,.call ⟨.builtin .cap,#[x],#[t]⟩,n,pos,d,m⟩,none)::r)::k) .normal s:=by
 simp only[Qr]at f ⊢;exact gF (QpM l rfl h i) j f
def QpP(F:ZU P L)(E:base<=w0.w.heap.size){k:List Item}{f:Option Nat}{J:TypeId}{pos:String}{g:Array Edge}{I:Option (Nat × Bool)}{r:List (Oper × G)}{s:St}{t i e:TypeId}{h x:Operand}{n:Nat}{p:IntKind}{a b c d:Nat}{l m:List Value}{y:Ty}{q:IntKind}
  (N:Qo s.fr h=.nil) (w:Qo s.fr x=.raw (.int q n)) (z:ty L t=some ⟨.slice e,a,b,l⟩) (M:ty L i=some ⟨.int p,c,d,m⟩) (K:ty L e=some y) (v:y.zero.length=y.size) (B:0<y.size) (H:0<n) (u:n<=4294967296) (o:y.bytes<=1024) (C:Zj nt f=true)
  (j:Qr P base nt w0 Q (.ops r::k) .normal ⟨Q8 s.fr f (.ref s.h.length 0 0 n),s.h++[⟨.arr,0,y.size,n,λ_=>y.zero.map JT⟩]⟩) :
  Qr P base nt w0 Q (.ops ((⟨f,.call ⟨.builtin .append,#[h,x],#[t,i]⟩,J,pos,g,I⟩,none)::r)::k) .normal s:=by
 simp only[Qr]at j ⊢;exact UG E (QpO F rfl N w z M K v B H u o) C j
end
section
variable {P:Program}{L:ZW}{base nt:Nat}{s:St}{o:Oper}
end
section
variable {P:Program}{L:ZW}{base nt:Nat}{w0:Start}{Q:Exit->St->Prop}
end
section
variable {Z:Nat->Prop}
end
def QcM(F h:List Ob):Prop:=∀(l:Nat) (o:Ob),F[l]? = some o->∃a,h[l]? = some a/\a.gen=o.gen
section
variable {P:Program}{base nt:Nat}{w0:Start}
end
section
variable {P:Program}{base nt:Nat}{w0:Start}{Q:Exit->St->Prop}
end
section
variable {P:Program}{base nt:Nat}{w0:Start}{Q:Exit->St->Prop}
end
end Go.Fg
namespace Go.Fg
section
variable {P:Program}{base nt:Nat}{w0:Start}{Q:Exit->St->Prop}{k:List Item}{s:St}
def MG(P:Program)(base nt:Nat)(w0:Start)(Q:Exit->St->Prop)(k:List Item)(c:Code):Nat->Exit->St->Prop
 | 0,.normal,_=>False
 | n+1,.normal,s=>Qr P base nt w0 (MG P base nt w0 Q k c n) [.code c] .normal s
 | _,e,s=>Qr P base nt w0 Q k e s
@[go_sem] theorem QBP{c}{n}:MG P base nt w0 Q k c (n+1) .normal s=Qr P base nt w0 (MG P base nt w0 Q k c n) [.code c] .normal s:=KI rfl
@[go_sem] theorem QBQ{c}{n j}:MG P base nt w0 Q k c n (.exit j) s=Qr P base nt w0 Q k (.exit j) s:=KI (by cases n<;>rfl)
@[go_sem] theorem QBR{c}{n}:MG P base nt w0 Q k c n .ret s=Qr P base nt w0 Q k .ret s:=KI (by cases n<;>rfl)
def kV(n){c}(h:Qr P base nt w0 (MG P base nt w0 Q k c n) [.code c] .normal s):Qr P base nt w0 Q (.code (.loop c)::k) .normal s:=by
 simp only[Qr];intro Z z l a w r b;refine wp_loop_rounds (n+1) ?_;induction n generalizing s l a w with
 | zero=>
  simp only[Qr]at h;rw[rounds_succ];refine Code.wp_mono (λe a w q=>?_) (h Z z l a w r b);obtain⟨j,i,d,g,f⟩:=q;cases e with
  | normal=>exact d.elim
  | _=>exact⟨j,i,d,g,f⟩
 | succ n m=>
  simp only[Qr]at h;rw[rounds_succ];refine Code.wp_mono (λe a w q=>?_) (h Z z l a w r b);obtain⟨j,i,d,g,f⟩:=q;cases e with
  | normal=>exact m d i a w g f
  | _=>exact⟨j,i,d,g,f⟩
end
end Go.Fg
namespace Go.Fg
section
variable {P:Program}{base nt:Nat}{w0:Start}
def xD(M:base<=w0.w.heap.size){K}{g}{m:TypeId}{i}{H}{r}{s}{x}{c}{J:Array TypeId}{f}{j}{l}(y:Qk P f)
  (q:Jo (Qo s.fr x)=some (f,j,l)) {k:List D} (B:Ke (ZS j l (c.toList.map (Qo s.fr))) k) {R:D->List Ob->Prop} (F:QI P f s.h k R)
  (t:Zj nt g=true) (u:∀d h,R d h->AX P base nt w0 K r ⟨Q8 s.fr g d,h⟩) :
  AX P base nt w0 K ((false, ⟨g, .call ⟨.value x, c, J⟩, m, "!", i, H⟩, none) :: r) s := by
 simp only[AX,WR,Y7];intro Z z p a w n b;exact Oper.wp_mono (λO N ⟨d,h,L,E,o,I,T,v,e⟩=>⟨λC=>absurd C (by simp[DB]),_,_,L,v,u d h E,o,I,T,e⟩) (QaE M y rfl q (F.args B) t p a w n b _)
end
end Go.Fg
namespace Go.Fg.X
open Go.Proofs Go.Fg
open Go.Proofs.Tryz
@[go_sem] def ol:List Nat:=[0,1,2,3,4,5,6,7,8,9,1010,1011,12]
@[go_sem] def ut:List Nat:=[0,1,2,3,4,5,6,1007]
@[go_sem] def Eq:List Nat:=[0,1,2,3,4,5,6,7,8,1009]
@[go_sem] def i4:List Nat:=[0,1,2,3,4,5,6,7,8,9,10,11,1012]
@[go_sem] def i5:List Nat:=[0,1,2,3,4,5,6,7,8,9,10]
@[go_sem] def i6:List Nat:=[0,1,2,3,4,5,1006]
@[go_sem] def i7:List Nat:=[0,1,2,3,4,5,6,7,1008]
@[go_sem] def i9:List Nat:=[0,1,2,3,4,5,6,7,8,9,10,11,1012,13]
@[go_sem] def ii:List Nat:=[0,1,2,3,4,5,6,7,8,9,10,11,12,1013,14,1015]
@[go_sem] def Id:List Nat:=[0,1,2,3,4,5,6,7,8,9,10,11,1012,13,14]
@[go_sem] def o00:List Nat:=[0,1,2,3,4,5,6,7,8,1009,10,11,1012]
@[go_sem] def o01:List Nat:=[0,1,2,3,4,5,6,7,8,9]
@[go_sem] def o02:List Nat:=[0,1,2,3,4,5,6,7,8,9,10,11,12,13,14,1015,16,17]
@[go_sem] def o03:List Nat:=[0,1,2,3,4,5,7,8,9,10,11,1006,1012,13,14,15,16,1017]
@[go_sem] def o04:List Nat:=[0,1,2,3,4,5,8,9,10,11,12,1006,7,1013,14,15,16,1017]
@[go_sem] def o05:List Nat:=[0,1,2,3,4,5,6,7,8,9,10,11,12,14,15,1013,16,17]
@[go_sem] def o06:List Nat:=[0,1,2,3,4,5,6,7,8,9,10,11,12,13]
@[go_sem] def o07:List Nat:=[0,1,2,3,4,5,6,7,8,9,1010]
@[go_sem] def o08:List Nat:=[0,1,2,3,4,5,6,7,8,9,10,11,12,13,14,15,16,17,1018,19]
@[go_sem] def o09:List Nat:=[0,1,2,3,4,5,6,7,8,9,10,11,12,13,14,1015,1016,17]
@[go_sem] def o10:List Nat:=[0,1,2,3,4,5,6,7,8,9,10,11,12,13,14,1015,16,17,1018]
@[go_sem] def o11:List Nat:=[0,1,2,3,4,5,6,7,1008,1009,10,11,12,1013,1014,15]
def ml:List Nat->List (Nat × Bool)
 | []=>[]
 | a::l=>(if a<1000 then (a,true) else (a - 1000,false))::ml l
@[go_sem] theorem QBS:ml []=[]:=rfl
@[go_sem] theorem QBT(a)(l):ml (a::l)=(if a<1000 then (a,true) else (a - 1000,false))::ml l:=rfl
section
variable {base nt:Nat}{w0:Start}{Q:Exit->St->Prop}{k:List Item}{s:St}{B:Prop}{K:St->Prop}{l:List (Bool × Oper × G)}
def QC(a:base<=w0.w.heap.size)(h:B)(e:hx prog base w0 Q cx nt 200 k s=B:=by (simp only[go_sem,Qa];rfl)):Qr prog base nt w0 Q k .normal s:=Qg a (e▸h)
def HT(a:base<=w0.w.heap.size)(e:hx prog base w0 Q cx nt 200 k s:=by simp only[go_sem,Qa]):Qr prog base nt w0 Q k .normal s:=Qg a e
def Xy(a:base<=w0.w.heap.size)(h:B)(e:KB prog base w0 cx nt K l s=B:=by (simp only[go_sem,Qa];rfl)):AX prog base nt w0 K l s:=Q7 a (e▸h)
def az1(a:base<=w0.w.heap.size)(e:KB prog base w0 cx nt K l s:=by simp only[go_sem,Qa]):AX prog base nt w0 K l s:=Q7 a e
def Zd(a:base<=w0.w.heap.size)(h:B)(e:hx prog base w0 Q cx nt 200 k s=B:=by (simp only[go_sem];rfl)):Qr prog base nt w0 Q k .normal s:=Qg a (e▸h)
def ze(a:base<=w0.w.heap.size)(e:hx prog base w0 Q cx nt 200 k s:=by simp only[go_sem]):Qr prog base nt w0 Q k .normal s:=Qg a e
def VG(a:base<=w0.w.heap.size)(h:B)(e:KB prog base w0 cx nt K l s=B:=by (simp only[go_sem];rfl)):AX prog base nt w0 K l s:=Q7 a (e▸h)
def MH(a:base<=w0.w.heap.size)(e:KB prog base w0 cx nt K l s:=by simp only[go_sem]):AX prog base nt w0 K l s:=Q7 a e
def Qw{b}{a}(c:base<=w0.w.heap.size)(l)(h:KB prog base w0 cx nt (Mg prog base w0 Q cx nt 200 k) (Go.Fg.Vb [] a (ml l)) s)(e:U8 cx.L a (ml l)=true:=by kernel_rfl)(d:AP a s.fr=true:=by kernel_rfl):Qr prog base nt w0 Q (.code (.region b a true)::k) .normal s:=QkN J8 c 200 mixed (ml l) e d h
def A4{b}{j:TypeId}{pos}{c}{v}{r}{x}{a:Array Operand}{w:Array TypeId}{f}{e}{i}{g}(t:base<=w0.w.heap.size)(p:Qk prog f){R}(u:QI prog f s.h g R)(o:∀d h,R d h->Qr prog base nt w0 Q (.ops r::k) .normal ⟨Q8 s.fr b d,h⟩)(m:Jo (Qo s.fr x)=some (f,e,i):=by rfl)(q:Ke (ZS e i (a.toList.map (Qo s.fr))) g:=by simp only[go_sem,Qa])(n:Zj nt b=true:=by rfl):Qr prog base nt w0 Q (.ops ((⟨b,.call ⟨.value x,a,w⟩,j,pos,c,v⟩,none)::r)::k) .normal s:=Vo t p m q u n o
def lI{b}{i:TypeId}{pos}{c}{u}{r}{x}{a:Array Operand}{v:Array TypeId}{f}{e}{h}{g}(q:base<=w0.w.heap.size)(o:Qk prog f){R}(t:QR prog f s.h g R)(n:∀d,R d->Qr prog base nt w0 Q (.ops r::k) .normal ⟨Q8 s.fr b d,s.h⟩)(j:Jo (Qo s.fr x)=some (f,e,h):=by rfl)(p:Ke (ZS e h (a.toList.map (Qo s.fr))) g:=by simp only[go_sem,Qa])(m:Zj nt b=true:=by rfl):Qr prog base nt w0 Q (.ops ((⟨b,.call ⟨.value x,a,v⟩,i,pos,c,u⟩,none)::r)::k) .normal s:=Xj q o j p t m n
def cA1{b}{m:TypeId}{pos}{c}{C}{r}{x}{a:Array Operand}{E:Array TypeId}{f}{g}{j}{i}(y:base<=w0.w.heap.size)(v:Qk prog f){R}(z:Q6 prog f i R)(t:∀d h,R d h->d.flat=true/\∀o∈h,o.flat)(u:∀d h,R d h->Qr prog base nt w0 Q (.ops r::k) .normal ⟨Q8 s.fr b (d.shift s.h.length),s.h++h.map (Ob.shift s.h.length)⟩)(n:Jo (Qo s.fr x)=some (f,g,j):=by rfl)(w:match X6 (VF s.h 4) (ZS g j (a.toList.map (Qo s.fr))) with|some (p,e)=>p/\Ke e i|none=>False:=by simp only[go_sem,Qa])(q:Zj nt b=true:=by rfl):Qr prog base nt w0 Q (.ops ((⟨b,.call ⟨.value x,a,E⟩,m,pos,c,C⟩,none)::r)::k) .normal s:=Mf y v n w z t q u
def xR1{b}{i:TypeId}{pos}{c}{u}{r}{x}{a:Array Operand}{v:Array TypeId}{f}{e}{h}{g}(q:base<=w0.w.heap.size)(o:Qk prog f){R}(t:QR prog f s.h g R)(n:∀d,R d->AX prog base nt w0 K r ⟨Q8 s.fr b d,s.h⟩)(j:Jo (Qo s.fr x)=some (f,e,h):=by rfl)(p:Ke (ZS e h (a.toList.map (Qo s.fr))) g:=by simp only[go_sem,Qa])(m:Zj nt b=true:=by rfl):AX prog base nt w0 K ((false,⟨b,.call ⟨.value x,a,v⟩,i,pos,c,u⟩,none)::r) s:=Mu q o j p t m n
def xH1{b}{j : TypeId}{c}{v}{r}{x}{a : Array Operand}{w : Array TypeId}{f}{e}{i}{g}(t : base <= w0.w.heap.size)(p : Qk prog f){R}(u : QI prog f s.h g R)(o : ∀ d h, R d h -> AX prog base nt w0 K r ⟨Q8 s.fr b d, h⟩)(m : Jo (Qo s.fr x) = some (f, e, i) := by rfl)(q : Ke (ZS e i (a.toList.map (Qo s.fr))) g := by simp only[go_sem, Qa])(n : Zj nt b = true := by rfl): AX prog base nt w0 K ((false, ⟨b, .call ⟨.value x, a, w⟩, j, "!", c, v⟩, none) :: r) s := xD t p m q u n o
def xA1{b}{m:TypeId}{pos}{c}{C}{r}{x}{a:Array Operand}{E:Array TypeId}{f}{g}{j}{i}(y:base<=w0.w.heap.size)(v:Qk prog f){R}(z:Q6 prog f i R)(t:∀d h,R d h->d.flat=true/\∀o∈h,o.flat)(u:∀d h,R d h->AX prog base nt w0 K r ⟨Q8 s.fr b (d.shift s.h.length),s.h++h.map (Ob.shift s.h.length)⟩)(n:Jo (Qo s.fr x)=some (f,g,j):=by rfl)(w:match X6 (VF s.h 4) (ZS g j (a.toList.map (Qo s.fr))) with|some (p,e)=>p/\Ke e i|none=>False:=by simp only[go_sem,Qa])(q:Zj nt b=true:=by rfl):AX prog base nt w0 K ((false,⟨b,.call ⟨.value x,a,E⟩,m,pos,c,C⟩,none)::r) s:=PF y v n w z t q u
def Jb{b}{j:TypeId}{pos}{c}{v}{r}{x}{a:Array Operand}{w:Array TypeId}{f}{e}{i}{g}(t:base<=w0.w.heap.size)(p:Qk prog f){R}(u:QI prog f s.h g R)(o:∀d h,R d h->Qr prog base nt w0 Q (.ops r::k) .normal ⟨Q8 s.fr b d,h⟩)(m:Jo (Qo s.fr x)=some (f,e,i):=by rfl)(q:Ke (ZS e i (a.toList.map (Qo s.fr))) g:=by simp only[go_sem])(n:Zj nt b=true:=by rfl):Qr prog base nt w0 Q (.ops ((⟨b,.call ⟨.value x,a,w⟩,j,pos,c,v⟩,none)::r)::k) .normal s:=Vo t p m q u n o
def cR2{b}{i:TypeId}{pos}{c}{u}{r}{x}{a:Array Operand}{v:Array TypeId}{f}{e}{h}{g}(q:base<=w0.w.heap.size)(o:Qk prog f){R}(t:QR prog f s.h g R)(n:∀d,R d->Qr prog base nt w0 Q (.ops r::k) .normal ⟨Q8 s.fr b d,s.h⟩)(j:Jo (Qo s.fr x)=some (f,e,h):=by rfl)(p:Ke (ZS e h (a.toList.map (Qo s.fr))) g:=by simp only[go_sem])(m:Zj nt b=true:=by rfl):Qr prog base nt w0 Q (.ops ((⟨b,.call ⟨.value x,a,v⟩,i,pos,c,u⟩,none)::r)::k) .normal s:=Xj q o j p t m n
def cA2{b}{m:TypeId}{pos}{c}{C}{r}{x}{a:Array Operand}{E:Array TypeId}{f}{g}{j}{i}(y:base<=w0.w.heap.size)(v:Qk prog f){R}(z:Q6 prog f i R)(t:∀d h,R d h->d.flat=true/\∀o∈h,o.flat)(u:∀d h,R d h->Qr prog base nt w0 Q (.ops r::k) .normal ⟨Q8 s.fr b (d.shift s.h.length),s.h++h.map (Ob.shift s.h.length)⟩)(n:Jo (Qo s.fr x)=some (f,g,j):=by rfl)(w:match X6 (VF s.h 4) (ZS g j (a.toList.map (Qo s.fr))) with|some (p,e)=>p/\Ke e i|none=>False:=by simp only[go_sem])(q:Zj nt b=true:=by rfl):Qr prog base nt w0 Q (.ops ((⟨b,.call ⟨.value x,a,E⟩,m,pos,c,C⟩,none)::r)::k) .normal s:=Mf y v n w z t q u
def xR2{b}{i:TypeId}{pos}{c}{u}{r}{x}{a:Array Operand}{v:Array TypeId}{f}{e}{h}{g}(q:base<=w0.w.heap.size)(o:Qk prog f){R}(t:QR prog f s.h g R)(n:∀d,R d->AX prog base nt w0 K r ⟨Q8 s.fr b d,s.h⟩)(j:Jo (Qo s.fr x)=some (f,e,h):=by rfl)(p:Ke (ZS e h (a.toList.map (Qo s.fr))) g:=by simp only[go_sem])(m:Zj nt b=true:=by rfl):AX prog base nt w0 K ((false,⟨b,.call ⟨.value x,a,v⟩,i,pos,c,u⟩,none)::r) s:=Mu q o j p t m n
def kW{b}{j : TypeId}{c}{v}{r}{x}{a : Array Operand}{w : Array TypeId}{f}{e}{i}{g}(t : base <= w0.w.heap.size)(p : Qk prog f){R}(u : QI prog f s.h g R)(o : ∀ d h, R d h -> AX prog base nt w0 K r ⟨Q8 s.fr b d, h⟩)(m : Jo (Qo s.fr x) = some (f, e, i) := by rfl)(q : Ke (ZS e i (a.toList.map (Qo s.fr))) g := by simp only[go_sem])(n : Zj nt b = true := by rfl): AX prog base nt w0 K ((false, ⟨b, .call ⟨.value x, a, w⟩, j, "!", c, v⟩, none) :: r) s := xD t p m q u n o
def xA2{b}{m:TypeId}{pos}{c}{C}{r}{x}{a:Array Operand}{E:Array TypeId}{f}{g}{j}{i}(y:base<=w0.w.heap.size)(v:Qk prog f){R}(z:Q6 prog f i R)(t:∀d h,R d h->d.flat=true/\∀o∈h,o.flat)(u:∀d h,R d h->AX prog base nt w0 K r ⟨Q8 s.fr b (d.shift s.h.length),s.h++h.map (Ob.shift s.h.length)⟩)(n:Jo (Qo s.fr x)=some (f,g,j):=by rfl)(w:match X6 (VF s.h 4) (ZS g j (a.toList.map (Qo s.fr))) with|some (p,e)=>p/\Ke e i|none=>False:=by simp only[go_sem])(q:Zj nt b=true:=by rfl):AX prog base nt w0 K ((false,⟨b,.call ⟨.value x,a,E⟩,m,pos,c,C⟩,none)::r) s:=PF y v n w z t q u
def YC{b}{m:TypeId}{pos}{c}{E}{r}{x}{a:Array Operand}{F:Array TypeId}{f}{g}{j}{i}(y:base<=w0.w.heap.size)(u:Qk prog f){v:D}(C:Q6 prog f i (Zm v))(t:Qr prog base nt w0 Q (.ops r::k) .normal ⟨Q8 s.fr b (v.shift s.h.length),s.h++([]:List Ob).map (Ob.shift s.h.length)⟩)(n:Jo (Qo s.fr x)=some (f,g,j):=by rfl)(w:match X6 (VF s.h 4) (ZS g j (a.toList.map (Qo s.fr))) with|some (p,e)=>p/\Ke e i|none=>False:=by simp only[go_sem,Qa])(o:Zj nt b=true:=by rfl)(q:v.flat=true:=by rfl):Qr prog base nt w0 Q (.ops ((⟨b,.call ⟨.value x,a,F⟩,m,pos,c,E⟩,none)::r)::k) .normal s:=Mf y u n w C (Zm.flat q) o λd h z=>by obtain⟨rfl,rfl⟩:=z;exact t
def ZA{b}{i:TypeId}{pos}{c}{w}{r}{x}{a:Array Operand}{y:Array TypeId}{f}{e}{h}{g}(q:base<=w0.w.heap.size)(o:Qk prog f){v}(u:QR prog f s.h g (λd=>d=v))(n:Qr prog base nt w0 Q (.ops r::k) .normal ⟨Q8 s.fr b v,s.h⟩)(j:Jo (Qo s.fr x)=some (f,e,h):=by rfl)(p:Ke (ZS e h (a.toList.map (Qo s.fr))) g:=by simp only[go_sem,Qa])(m:Zj nt b=true:=by rfl):Qr prog base nt w0 Q (.ops ((⟨b,.call ⟨.value x,a,y⟩,i,pos,c,w⟩,none)::r)::k) .normal s:=Xj q o j p u m λd t=>by subst t;exact n
def MI{b}{m:TypeId}{pos}{c}{E}{r}{x}{a:Array Operand}{F:Array TypeId}{f}{g}{j}{i}(y:base<=w0.w.heap.size)(u:Qk prog f){v:D}(C:Q6 prog f i (Zm v))(t:AX prog base nt w0 K r ⟨Q8 s.fr b (v.shift s.h.length),s.h++([]:List Ob).map (Ob.shift s.h.length)⟩)(n:Jo (Qo s.fr x)=some (f,g,j):=by rfl)(w:match X6 (VF s.h 4) (ZS g j (a.toList.map (Qo s.fr))) with|some (p,e)=>p/\Ke e i|none=>False:=by simp only[go_sem,Qa])(o:Zj nt b=true:=by rfl)(q:v.flat=true:=by rfl):AX prog base nt w0 K ((false,⟨b,.call ⟨.value x,a,F⟩,m,pos,c,E⟩,none)::r) s:=PF y u n w C (Zm.flat q) o λd h z=>by obtain⟨rfl,rfl⟩:=z;exact t
def V0{b}{i:TypeId}{pos}{c}{w}{r}{x}{a:Array Operand}{y:Array TypeId}{f}{e}{h}{g}(q:base<=w0.w.heap.size)(o:Qk prog f){v}(u:QR prog f s.h g (λd=>d=v))(n:AX prog base nt w0 K r ⟨Q8 s.fr b v,s.h⟩)(j:Jo (Qo s.fr x)=some (f,e,h):=by rfl)(p:Ke (ZS e h (a.toList.map (Qo s.fr))) g:=by simp only[go_sem,Qa])(m:Zj nt b=true:=by rfl):AX prog base nt w0 K ((false,⟨b,.call ⟨.value x,a,y⟩,i,pos,c,w⟩,none)::r) s:=Mu q o j p u m λd t=>by subst t;exact n
def J2{b}{m:TypeId}{pos}{c}{E}{r}{x}{a:Array Operand}{F:Array TypeId}{f}{g}{j}{i}(y:base<=w0.w.heap.size)(u:Qk prog f){v:D}(C:Q6 prog f i (Zm v))(t:Qr prog base nt w0 Q (.ops r::k) .normal ⟨Q8 s.fr b (v.shift s.h.length),s.h++([]:List Ob).map (Ob.shift s.h.length)⟩)(n:Jo (Qo s.fr x)=some (f,g,j):=by rfl)(w:match X6 (VF s.h 4) (ZS g j (a.toList.map (Qo s.fr))) with|some (p,e)=>p/\Ke e i|none=>False:=by simp only[go_sem])(o:Zj nt b=true:=by rfl)(q:v.flat=true:=by rfl):Qr prog base nt w0 Q (.ops ((⟨b,.call ⟨.value x,a,F⟩,m,pos,c,E⟩,none)::r)::k) .normal s:=Mf y u n w C (Zm.flat q) o λd h z=>by obtain⟨rfl,rfl⟩:=z;exact t
def cS2{b}{i:TypeId}{pos}{c}{w}{r}{x}{a:Array Operand}{y:Array TypeId}{f}{e}{h}{g}(q:base<=w0.w.heap.size)(o:Qk prog f){v}(u:QR prog f s.h g (λd=>d=v))(n:Qr prog base nt w0 Q (.ops r::k) .normal ⟨Q8 s.fr b v,s.h⟩)(j:Jo (Qo s.fr x)=some (f,e,h):=by rfl)(p:Ke (ZS e h (a.toList.map (Qo s.fr))) g:=by simp only[go_sem])(m:Zj nt b=true:=by rfl):Qr prog base nt w0 Q (.ops ((⟨b,.call ⟨.value x,a,y⟩,i,pos,c,w⟩,none)::r)::k) .normal s:=Xj q o j p u m λd t=>by subst t;exact n
def Vc{b}{m:TypeId}{pos}{c}{E}{r}{x}{a:Array Operand}{F:Array TypeId}{f}{g}{j}{i}(y:base<=w0.w.heap.size)(u:Qk prog f){v:D}(C:Q6 prog f i (Zm v))(t:AX prog base nt w0 K r ⟨Q8 s.fr b (v.shift s.h.length),s.h++([]:List Ob).map (Ob.shift s.h.length)⟩)(n:Jo (Qo s.fr x)=some (f,g,j):=by rfl)(w:match X6 (VF s.h 4) (ZS g j (a.toList.map (Qo s.fr))) with|some (p,e)=>p/\Ke e i|none=>False:=by simp only[go_sem])(o:Zj nt b=true:=by rfl)(q:v.flat=true:=by rfl):AX prog base nt w0 K ((false,⟨b,.call ⟨.value x,a,F⟩,m,pos,c,E⟩,none)::r) s:=PF y u n w C (Zm.flat q) o λd h z=>by obtain⟨rfl,rfl⟩:=z;exact t
def xS2{b}{i:TypeId}{pos}{c}{w}{r}{x}{a:Array Operand}{y:Array TypeId}{f}{e}{h}{g}(q:base<=w0.w.heap.size)(o:Qk prog f){v}(u:QR prog f s.h g (λd=>d=v))(n:AX prog base nt w0 K r ⟨Q8 s.fr b v,s.h⟩)(j:Jo (Qo s.fr x)=some (f,e,h):=by rfl)(p:Ke (ZS e h (a.toList.map (Qo s.fr))) g:=by simp only[go_sem])(m:Zj nt b=true:=by rfl):AX prog base nt w0 K ((false,⟨b,.call ⟨.value x,a,y⟩,i,pos,c,w⟩,none)::r) s:=Mu q o j p u m λd t=>by subst t;exact n
def Jk{b}{m:TypeId}{pos}{c}{E}{r}{x}{a:Array Operand}{F:Array TypeId}{f}{g}{j}{i}(y:base<=w0.w.heap.size)(u:Qk prog f)(w:match X6 (VF s.h 4) (ZS g j (a.toList.map (Qo s.fr))) with|some (p,e)=>p/\Ke e i|none=>False){v:D}(C:Q6 prog f i (Zm v))(t:Qr prog base nt w0 Q (.ops r::k) .normal ⟨Q8 s.fr b (v.shift s.h.length),s.h++([]:List Ob).map (Ob.shift s.h.length)⟩)(n:Jo (Qo s.fr x)=some (f,g,j):=by rfl)(o:Zj nt b=true:=by rfl)(q:v.flat=true:=by rfl):Qr prog base nt w0 Q (.ops ((⟨b,.call ⟨.value x,a,F⟩,m,pos,c,E⟩,none)::r)::k) .normal s:=Mf y u n w C (Zm.flat q) o λd h z=>by obtain⟨rfl,rfl⟩:=z;exact t
def VP{b}{i:TypeId}{pos}{c}{w}{r}{x}{a:Array Operand}{y:Array TypeId}{f}{e}{h}{g}(q:base<=w0.w.heap.size)(o:Qk prog f)(p:Ke (ZS e h (a.toList.map (Qo s.fr))) g){v}(u:QR prog f s.h g (λd=>d=v))(n:Qr prog base nt w0 Q (.ops r::k) .normal ⟨Q8 s.fr b v,s.h⟩)(j:Jo (Qo s.fr x)=some (f,e,h):=by rfl)(m:Zj nt b=true:=by rfl):Qr prog base nt w0 Q (.ops ((⟨b,.call ⟨.value x,a,y⟩,i,pos,c,w⟩,none)::r)::k) .normal s:=Xj q o j p u m λd t=>by subst t;exact n
def KK{b}{m:TypeId}{pos}{c}{E}{r}{x}{a:Array Operand}{F:Array TypeId}{f}{g}{j}{i}(y:base<=w0.w.heap.size)(u:Qk prog f)(w:match X6 (VF s.h 4) (ZS g j (a.toList.map (Qo s.fr))) with|some (p,e)=>p/\Ke e i|none=>False){v:D}(C:Q6 prog f i (Zm v))(t:AX prog base nt w0 K r ⟨Q8 s.fr b (v.shift s.h.length),s.h++([]:List Ob).map (Ob.shift s.h.length)⟩)(n:Jo (Qo s.fr x)=some (f,g,j):=by rfl)(o:Zj nt b=true:=by rfl)(q:v.flat=true:=by rfl):AX prog base nt w0 K ((false,⟨b,.call ⟨.value x,a,F⟩,m,pos,c,E⟩,none)::r) s:=PF y u n w C (Zm.flat q) o λd h z=>by obtain⟨rfl,rfl⟩:=z;exact t
def Yb{b}{i:TypeId}{pos}{c}{w}{r}{x}{a:Array Operand}{y:Array TypeId}{f}{e}{h}{g}(q:base<=w0.w.heap.size)(o:Qk prog f)(p:Ke (ZS e h (a.toList.map (Qo s.fr))) g){v}(u:QR prog f s.h g (λd=>d=v))(n:AX prog base nt w0 K r ⟨Q8 s.fr b v,s.h⟩)(j:Jo (Qo s.fr x)=some (f,e,h):=by rfl)(m:Zj nt b=true:=by rfl):AX prog base nt w0 K ((false,⟨b,.call ⟨.value x,a,y⟩,i,pos,c,w⟩,none)::r) s:=Mu q o j p u m λd t=>by subst t;exact n
def KX(b){c}{a}(d:base<=w0.w.heap.size)(l:List Nat)(R:List Nat)(h:KB prog base w0 cx nt (DJ prog base w0 cx nt (Mg prog base w0 Q cx nt 200 k) R.length (Go.Fg.zT b a R) ((ml l).map (·.1))) (Go.Fg.Vb b a (ml l)) s)(f:B4 b cx.L a (ml l) R=true:=by kernel_rfl)(e:AP a s.fr=true:=by kernel_rfl):Qr prog base nt w0 Q (.code (.region c a true)::k) .normal s:=Qan b J8 d 200 mixed (ml l) R f e h
end
def Zs(k){R}{f}{d:Func}{c}{a:List D}{e}{g:Array ResultVar}(j:prog.funcs[f]? = some d)(m:d.ntmps=e)(n:d.results=g)(h:∀(b:Nat) (w:World),b<=w.heap.size->hx prog b ⟨w,[],[]⟩ (AK cx.L g.toList (Kept k R)) cx e 200 [.code c] ⟨jE a 0,[]⟩)(l:d.body=some c:=by rfl)(i:Nat.ble a.length e=true:=by rfl):Q6 prog f a R:=QkM k J8 200 j l m n i h
def QZ{R}{F}{f}{d:Func}{c}{a:List D}{e}{g:Array ResultVar}(k:prog.funcs[f]? = some d)(m:d.ntmps=e)(n:d.results=g)(h:∀(b:Nat) (w:World) (i:List Pl),b<=w.heap.size->hx prog b ⟨w,F,i⟩ (AK cx.L g.toList R) cx e 200 [.code c] ⟨jE a 0,F⟩)(l:d.body=some c:=by rfl)(j:Nat.ble a.length e=true:=by rfl):QI prog f F a R:=ig J8 200 k l m n j h
def Zk{R}{H:List Ob}{f}{e:Func}{c}{a:List D}{i}{j:Array ResultVar}(m:prog.funcs[f]? = some e)(p:e.ntmps=i)(q:e.results=j)(h:∀(b:Nat) (w:World) (k:List Pl) (F:List Ob),F=H.map Ob.ro->F.length=H.length->b<=w.heap.size->hx prog b ⟨w,F,k⟩ (AK cx.L j.toList λd o=>∃g,o=F++g/\d.upto F.length=true/\R d) cx i 200 [.code c] ⟨jE a 0,F⟩)(n:e.body=some c:=by rfl)(l:Nat.ble a.length i=true:=by rfl):QR prog f H a R:=Qlb J8 200 m n p q l h
def KY{p}(h:p:=by first|exact⟨_,rfl,rfl⟩|exact⟨_,rfl⟩|rfl|exact⟨[],(Jl _).symm⟩|exact⟨[],(Jl _).symm,rfl⟩):p:=h
def Zu{e n}(h:-9223372036854775808<=e/\e<=9223372036854775807/\e=n:=by omega):IntKind.i64.wrap e=n:=by rw[wrap64 h.1 h.2.1];exact h.2.2
def QN{b}{a g}{h}(e:FE a g:=by simp only[go_sem]):QF b ⟨a,h⟩ ⟨g,h⟩:=QF.frame e
end Go.Fg.X
namespace Go.Fg
def QpS{P}{o:Oper}{a}{w}{K i}{Q g}(f:∀a w,K a w->i a w)(d:∀e a w,Q e a w->g e a w)(h:o.wp P a w K Q):o.wp P a w i g:=by
 unfold Oper.wp at *;generalize (execOp a.eval o).run P w=r at *;cases r with
 | ok x j=>
  cases x<;>simp only[Oper.upon]at h ⊢<;>first|exact f _ _ h|exact h|skip
  .exact h.mono λe k b=>by
    cases e with
    | returned v=>exact f _ _ b
    | panicked c=>exact d _ _ _ b
    | outgrown=>obtain⟨a,w,h⟩:=b;exact⟨a,w,d _ _ _ h⟩
  .exact h.mono λv k b=>f _ _ b
 | halt x j=>cases x<;>first|exact h|exact d _ _ _ h
def bt{P}{Q d}(b:∀e a w,Q e a w->d e a w):∀(l:List (Oper × G)) (a:Act) (w:World),X5 P Q l a w->X5 P d l a w
 | [],a,w,h=>b _ _ _ h
 | (o,g)::r,a,w,h=>by
  simp only[X5]at h ⊢;split at h
  .rename_i c;rw[Qf c];exact QpS (λa w=>bt b r a w) b h
  .rename_i c;rw[Qe c];exact bt b r _ _ h
section
variable {P:Program}{base nt:Nat}{w0:Start}{Q:Exit->St->Prop}{k:List Item}{s s1:St}
def PU(P:Program)(base nt:Nat)(w0:Start)(Q:Exit->St->Prop)(k:List Item)(s1:St):Exit->St->Prop
 | .normal,s=>QF w0 s s1
 | e,s=>Qr P base nt w0 Q k e s
@[go_sem] theorem QB4:PU P base nt w0 Q k s1 .normal s=QF w0 s s1:=KI rfl
@[go_sem] theorem QB5{j}:PU P base nt w0 Q k s1 (.exit j) s=Qr P base nt w0 Q k (.exit j) s:=KI rfl
@[go_sem] theorem QB6:PU P base nt w0 Q k s1 .ret s=Qr P base nt w0 Q k .ret s:=KI rfl
def lJ{x}{c}(s1)(d:Qr P base nt w0 (PU P base nt w0 Q (.code c::k) s1) [x] .normal s)(f:Qr P base nt w0 Q (.code c::k) .normal s1):Qr P base nt w0 Q (x::.code c::k) .normal s:=by
 cases x with
 | code x=>
  simp only[Qr]at d;show A P base nt w0 x _ s;refine d.mono λe g i=>?_;cases e with
  | normal=>exact FD i f
  | _=>exact i
 | ops l=>
  simp only[Qr]at d;show AG P base nt w0 l _ s;intro Z z m a w r b;refine bt (λe q p ⟨g,o,h,j,n⟩=>⟨g,o,?_,j,n⟩) _ _ _ (d Z z m a w r b);cases e with
  | normal=>exact FD h f
  | _=>exact h
 | inBlock id=>simp only[Qr]at d ⊢;exact FD d f
 | inScope=>simp only[Qr]at d ⊢;exact FD d f
def A5{x}{c}(b)(V){d}{h}{a}(g:au d b=a)
  (f:Qr P base nt w0 (PU P base nt w0 Q (.code c::k) ⟨V++a,h⟩) [x] .normal ⟨d,h⟩) (e:Qr P base nt w0 Q (.code c::k) .normal ⟨V++a,h⟩):Qr P base nt w0 Q (x::.code c::k) .normal ⟨d,h⟩:=lJ _ f e
@[go_sem] theorem QB7{X}:hx P base w0 Q X nt 0 k s=Qr P base nt w0 Q k .normal s:=by cases k<;>exact KI rfl
end
end Go.Fg
namespace Go.Fg.X
open Go.Proofs Go.Fg
open Go.Proofs.Tryz
@[go_sem] def lK(c:Cv):D:=.agg c.cells
@[go_sem] def Xz(c:Qt):D:=.agg c.cells
def Q4(c:Cv):Int:=if c.m1=0/\c.d=0/\c.m2=0 then 1 else if 4294967295<c.m1\/4294967295<c.m2\/1048576<c.d then 0 else if c.d=0/\c.m1=c.m2 then 2 else if 0<c.d/\c.m2<c.m1 then 3 else if 0<c.d/\c.m1=0/\0<c.m2 then 4 else 0
def bu(c):Q6 prog 176 [lK c] (Zm (Qb (Q4 c))):=by
 refine Zs 0 func176 ntmps176 results176 λa w b=>?_;simp only[go_sem]
 repeat' (first|((first|refine FK (λh=>?_) (λh=>?_)|refine FL (λh=>?_) (λh=>?_)|refine FM (λh=>?_) (λh=>?_)|refine vZ (λh=>?_) (λh=>?_)|refine FN (λh=>?_) (λh=>?_)|refine FO (λh=>?_) (λh=>?_)|refine FP (λh=>?_) (λh=>?_)|refine FH (λh=>?_) (λh=>?_))<;>(try simp only[go_sem]))|(refine And.intro ω ?_;try simp only[go_sem]))
 all_goals (congr 2;(try simp only[EV,jv,ZH,zH,ne_eq]at *);unfold Q4;(repeat' split)<;>omega)
def lL(c):Q6 prog 158 [lK c] (Zm (QT (Q4 c != 0))):=by
 refine Zs 0 func158 ntmps158 results158 λb w a=>?_;simp only[go_sem];apply J2 a DP (bu c);exact ze a
def bw(c):Q6 prog 125 [lK c] (Zm (QT (decide (1<Q4 c)))):=by
 refine Zs 0 func125 ntmps125 results125 λb w a=>?_;simp only[go_sem];apply J2 a DP (bu c);exact ze a
def DV(c:Qt):Q6 prog 94 [Xz c] (Zm (QT (decide (1<Q4 c.rt)))):=by
 refine Zs 0 func94 ntmps94 results94 λb w a=>?_;simp only[go_sem];apply J2 a aV (bw c.rt);exact ze a
def kX(c:Qt):Q6 prog 100 [Xz c] (Zm (QT (decide (1<Q4 c.ls)))):=by
 refine Zs 0 func100 ntmps100 results100 λb w a=>?_;simp only[go_sem];apply J2 a aV (bw c.ls);exact ze a
def QcO(c:Qt):Q6 prog 205 [Xz c] (Zm (QT (decide (1<Q4 c.ul)))):=by
 refine Zs 0 func205 ntmps205 results205 λb w a=>?_;simp only[go_sem];apply J2 a aV (bw c.ul);exact ze a
def yM(n a b:Int):Bool:=decide (a<=n)&&decide (n<=b)
def bz(n a b):Q6 prog 204 [Qb n,Qb a,Qb b] (Zm (QT (yM n a b))):=by
 refine Zs 0 func204 ntmps204 results204 λc w d=>?_;simp only[go_sem];unfold yM;by_cases h:a<=n
 .simp only[go_sem,h]
 .simp only[go_sem,h]
def DW(c:Qt):Bool:=yM c.iD 1 65536&&yM c.parent 0 65536&&!(c.parent==c.iD)
def FX(c:Qt):Bool:=(Q4 c.rt != 0)&&((Q4 c.ls != 0)&&!(Q4 c.ls==4))&&((Q4 c.ul != 0)&&!(Q4 c.ul==4))
def kY(c:Qt):Bool:=yM c.Zz 1 64&&yM c.bytes 1 1048576&&(decide (1<Q4 c.rt) || decide (1<Q4 c.ls))
def Cb(c:Qt):Bool:=c.Zz==0&&c.bytes==0&&!decide (1<Q4 c.rt)
def Vd(c:Qt):Int:=if !DW c then 1 else if !FX c then 21 else if (c.leaf&&!kY c) || (!c.leaf&&!Cb c) || (decide (1<Q4 c.ul)&&!decide (1<Q4 c.ls)) then 29 else 0
structure QpT (c:Qt) (k:Nat) (s:St):Prop where
 h0:0<k->Q4 c.rt≠0
 h1:1<k->Q4 c.ls≠0/\Q4 c.ls≠4
 h2:2<k->Q4 c.ul≠0/\Q4 c.ul≠4
 eq:s=⟨[(1,.ptr 0 0 0 0),(2,Qb 0),(30,.agg (c.rt.cells++(c.ls.cells++c.ul.cells))),(31,Qb k)],[⟨.one,0,14,1,λ_=>c.cells⟩]⟩
def QcP(c):Q6 prog 151 [Xz c] (Zm (Qb (Vd c))):=by
 refine Zs 0 func151 ntmps151 results151 λE w f=>?_;simp only[go_sem];apply J2 f bc (bz c.iD 1 65536);apply Zd f;cases q:yM c.iD 1 65536
 .have:Vd c=1:=by simp[Vd,DW,q]
  simp only[go_sem,this]
 .simp only[go_sem];apply J2 f bc (bz c.parent 0 65536);apply Zd f;cases z:yM c.parent 0 65536
  .have:Vd c=1:=by simp[Vd,DW,q,z]
   simp only[go_sem,this]
  .simp only[go_sem];by_cases o:c.parent=c.iD
   .have:Vd c=1:=by simp[Vd,DW,q,z,o]
    simp only[go_sem,qa o,this]
   .simp only[go_sem,Xx o];have n:DW c=true:=by simp[DW,q,z,o]
    have u:IntKind.i64.wrap 1=1:=π;have t:IntKind.i64.wrap 2=2:=π;have r:IntKind.i64.wrap 3=3:=π;refine Z4 (QpT c) 3
     (s0:=⟨[(1,.ptr 0 0 0 0),(2,Qb 0),(30,.agg (c.rt.cells++(c.ls.cells++c.ul.cells))),(31,Qb 0)],[⟨.one,0,14,1,λ_=>c.cells⟩]⟩) QN ⟨ω,ω,ω,rfl⟩ ?_
    rintro k s J ⟨p,y,C,rfl⟩;obtain rfl|rfl|rfl|rfl:k=0\/k=1\/k=2\/k=3:=ω
    .apply Zd f;apply J2 f MA (lL c.rt);apply Zd f;by_cases h:Q4 c.rt=0
     .have:Vd c=21:=by simp[Vd,n,FX,h]
      simp only[go_sem,qa h,bne,this,Go.undef]
     .simp only[go_sem,Xx h,bne,Go.undef];refine⟨_,QF.to 1 ⟨?_,by simp only[go_sem],?_,?_⟩,⟨λ_=>h,ω,ω,rfl⟩⟩<;>simp only[go_sem,u,t,r]
    .apply Zd f;apply J2 f MA (lL c.ls);apply Zd f;by_cases h:Q4 c.ls=0
     .have:Vd c=21:=by simp[Vd,n,FX,h]
      simp only[go_sem,qa h,bne,this,Go.undef]
     .simp only[go_sem,Xx h,bne,Go.undef];apply J2 f DP (bu c.ls);apply Zd f;by_cases j:Q4 c.ls=4
      .have:Vd c=21:=by simp[Vd,n,FX,j]
       simp only[go_sem,qa j,this,Go.undef]
      .simp only[go_sem,Xx j,Go.undef];refine⟨_,QF.to 1 ⟨?_,by simp only[go_sem],?_,?_⟩,⟨λ_=>p ω,λ_=>⟨h,j⟩,ω,rfl⟩⟩<;>simp only[go_sem,u,t,r]
    .apply Zd f;apply J2 f MA (lL c.ul);apply Zd f;by_cases h:Q4 c.ul=0
     .have:Vd c=21:=by simp[Vd,n,FX,h]
      simp only[go_sem,qa h,bne,this,Go.undef]
     .simp only[go_sem,Xx h,bne,Go.undef];apply J2 f DP (bu c.ul);apply Zd f;by_cases j:Q4 c.ul=4
      .have:Vd c=21:=by simp[Vd,n,FX,j]
       simp only[go_sem,qa j,this,Go.undef]
      .simp only[go_sem,Xx j,Go.undef];refine⟨_,QF.to 1 ⟨?_,by simp only[go_sem],?_,?_⟩,⟨λ_=>p ω,λ_=>y ω,λ_=>⟨h,j⟩,rfl⟩⟩<;>simp only[go_sem,u,t,r]
    .have H:FX c=true:=by
      have a:=p ω;have b:=y ω;have d:=C ω;simp[FX,a,b,d]
     clear p y C;apply Zd f;first|refine Y3 ?_|skip
     refine A5 [1,2] [(5,QT (kY c))] rfl ?_ ?_
     .apply Zd f;apply J2 f bc (bz c.Zz 1 64);apply Zd f;cases i:yM c.Zz 1 64
      .have e:kY c=false:=by simp[kY,i]
       simp only[go_sem,Go.undef];exact QF.to 1 (by (simp only[go_sem,e])<;>simp)
      .simp only[go_sem,Go.undef];apply J2 f bc (bz c.bytes 1 1048576);apply Zd f;cases m:yM c.bytes 1 1048576
       .have e:kY c=false:=by simp[kY,i,m]
        simp only[go_sem,Go.undef];exact QF.to 1 (by (simp only[go_sem,e])<;>simp)
       .simp only[go_sem,Go.undef];apply J2 f B9 (DV c);apply Zd f;cases B:decide (1<Q4 c.rt)
        .simp only[go_sem,Go.undef];apply J2 f kU (kX c);apply Zd f;have e:kY c=decide (1<Q4 c.ls):=by simp[kY,i,m,B]
         exact QF.to 1 (by (simp only[go_sem,e])<;>simp)
        .have e:kY c=true:=by simp[kY,i,m,B]
         simp only[go_sem,Go.undef];exact QF.to 1 (by (simp only[go_sem,e])<;>simp)
     first|refine Y3 ?_|skip
     refine A5 [1,2,5] [(6,QT (Cb c))] rfl ?_ ?_
     .apply Zd f;by_cases i:c.Zz=0
      .simp only[go_sem,qa i,Go.undef];by_cases m:c.bytes=0
       .simp only[go_sem,qa m,Go.undef];apply J2 f B9 (DV c);apply Zd f;have e:Cb c=!decide (1<Q4 c.rt):=by simp[Cb,i,m]
        exact QF.to 1 (by (simp only[go_sem,e])<;>simp)
       .have e:Cb c=false:=by simp[Cb,i,m]
        simp only[go_sem,Xx m,Go.undef];exact QF.to 1 (by (simp only[go_sem,e])<;>simp)
      .have e:Cb c=false:=by simp[Cb,i]
       simp only[go_sem,Xx i,Go.undef];exact QF.to 1 (by (simp only[go_sem,e])<;>simp)
     apply Zd f;have g:Vd c=if (c.leaf&&!kY c) || (!c.leaf&&!Cb c) || (decide (1<Q4 c.ul)&&!decide (1<Q4 c.ls)) then 29 else 0:=by simp[Vd,n,H]
     generalize kY c=F at g ⊢;generalize Cb c=I at g ⊢;cases l:c.leaf<;>rw[l]at g
     .cases I
      .simp at g;simp only[go_sem,Go.undef,g]
      .simp only[go_sem,Go.undef];refine Jk f Qcp ?_ (QcO c) ?_
       .simp only[go_sem,l]
       apply Qg f;simp only[go_sem,l];cases v:decide (1<Q4 c.ul)<;>rw[v]at g
       .simp at g;simp only[go_sem,Go.undef,g]
       .simp only[go_sem,Go.undef];refine Jk f kU ?_ (kX c) ?_
        .simp only[go_sem,l]
        apply Qg f;simp only[go_sem,l];cases x:decide (1<Q4 c.ls)<;>rw[x]at g<;>simp at g<;>simp only[go_sem,Go.undef,g]
     .cases F
      .simp at g;simp only[go_sem,Go.undef,g]
      .simp only[go_sem,Go.undef];refine Jk f Qcp ?_ (QcO c) ?_
       .simp only[go_sem,l]
       apply Qg f;simp only[go_sem,l];cases v:decide (1<Q4 c.ul)<;>rw[v]at g
       .simp at g;simp only[go_sem,Go.undef,g]
       .simp only[go_sem,Go.undef];refine Jk f kU ?_ (kX c) ?_
        .simp only[go_sem,l]
        apply Qg f;simp only[go_sem,l];cases x:decide (1<Q4 c.ls)<;>rw[x]at g<;>simp at g<;>simp only[go_sem,Go.undef,g]
def Cv.Nn(c:Cv):Prop:=0<=c.m1/\0<=c.d/\0<=c.m2
def Qt.Nn(c:Qt):Prop:=c.rt.Nn/\c.ls.Nn/\c.ul.Nn
end Go.Fg.X
namespace Go.Fg
open Go.RowKit (Below)
open Go.Proofs Go.Shelf Go.Sort
def sorted(a:List Int):List Int:=a.mergeSort λx y=>decide (x<=y)
def FY(a:List Int):(sorted a).length=a.length:=by simp[sorted]
def kZ(a:Nat)(b:Nat->List D)(c:List Int):Nat->List D:=λi=>if a<=i/\i<a+c.length then [.raw (.int .i64 (c.getD (i - a) 0))] else b i
variable {P:Program}{ρ:Ren}
def QpU{w:World}{b n o}{g}{a}{e:TypeId}{f}(d)(c:w.heap[b]? = some (.cells a e f)):
  (grow (putRow (Value.int .i64) (Sort.ahead w n) b o d) g).heap[b]? = some (.cells (putCells (Value.int .i64) o d a) e f):=by
 have h:b<w.heap.size:=(Wg.1 c).1;rw[heap_grow_old _ _ (by simpa using h)];simp[putRow,mapBlock,Sort.ahead,fo,c,onCells]
def QpV{w:World}{b n o}{a}(d):w.grownBy (grow (putRow (Value.int .i64) (Sort.ahead w n) b o d) a) (some b):=by
 refine⟨rfl,rfl,rfl,σ,λk c f=>?_⟩;rw[heap_grow_old _ _ (by simpa using c)];have:b≠k:=λe=>f (by rw[e]);simp[putRow,mapBlock,Sort.ahead,fo,this]
def QpW(Ly:Lays.n189 P ρ){h:List Ob}{l g f N}{r}{m:List Int}(C:h[l]? = some ⟨.arr,g,1,N,r⟩)(hn:f+m.length<=N)(hr:∀i,i<m.length->r (f+i)=[.raw (.int .i64 (m.getD i 0))])(I:m.length<4611686018427387904):
  QI P (ρ.f 189) h [.ref l g f m.length] (λd h'=>d=.tup []/\h'=h.set l ⟨.arr,g,1,N,kZ f r (sorted m)⟩):=by
 intro Z t w J vs QU hZ R zR hv;match vs,zR with
 | [v],_=>
 have r0:=hv 0 σ;obtain⟨o,p,a,B,E,h1,M,h3,h4,h5⟩:=BL r0;rw[C]at h1;cases h1;have E:v=.slice a m.length B:=E;have AU:=h5 rfl;subst E;have Qc:l<h.length:=Kh C;by_cases h0:m.length=0
 .have hz:m=[]:=G0.1 h0;subst hz;refine(Any.slices_Sort_int_none Ly a B w).mono ?_;rintro e x ⟨rfl,rfl⟩;have hs:h.set l ⟨.arr,g,1,N,kZ f r (sorted [])⟩=h:=by
   have:kZ f r (sorted [])=r:=by
    funext i;have:¬ (f<=i/\i<f+(sorted []).length):=by rw[FY];simp
    unfold kZ;rw[Qe this]
   rw[this];apply xh;intro i;by_cases s:l=i
   .subst s;rw[VX Qc,C]
   .rw[Jf s]
  rw[hs];exact⟨_,.tup [],h,J,rfl,⟨rfl,rfl⟩,R,.tup [] [] rfl (λi s=>by simp at s),Tr.refl _ _ _,.refl _ _⟩
 .rcases AU with ⟨h6,_⟩|⟨b,q,c,el,rfl,rfl,z,Fm,Z1⟩
  .exact absurd h6 h0
  .obtain⟨yn,kG⟩:=R.at_ l _ b q C M;obtain⟨c',Ue,Ky,Jx,JS,ZR⟩:=kG.cells rfl;rw[z]at Ky;cases Ky;simp only[Nat.mul_one]at Fm Jx ZR ⊢;have BO:∀i,i<m.length->c[q+f+i]? = some (.int .i64 (m.getD i 0)):=λi s=>by
    obtain⟨u,K,F⟩:=ZR (f+i) 0 (by show f+i<N;omega) (by show 0<1;omega);have e2:(r (f+i))=_:=hr i s;have F:Qy Z h J w (nth (r (f+i)) 0) u:=F;rw[e2]at F;have:=Jh F;rw[show q+f+i=q+(f+i+0) by omega,K,this]
   have hH:Holds (Value.int .i64) w b (q+f) m.toArray:=by
    intro j H;have Wl:j<m.length:=by simpa using H
    refine⟨?_,by simp[World.frozen?,z]⟩;rw[World.cell?_of_block (w:=w) (w':=w) rfl];simp only[World.cell?,z];simp only[vM,YR,vN];rw[BO j Wl];simp[Q5,Wl]
   refine(Any.slices_Sort_int Ly b (q+f) B m w hH (jx z) I).mono ?_;rintro e x ⟨rfl,n,os,W⟩;have Y:w.grownBy x (some b):=by rw[W];exact QpV _
   have JQ:x.heap[b]? = some (.cells (putCells (Value.int .i64) (q+f) (sorted m).toArray c) el (0,0)):=by rw[W];exact QpU _ z
   have Q:(putCells (Value.int .i64) (q+f) (sorted m).toArray c).size=c.size:=by simp[putCells]
   have y:∀k,k≠b->k<w.heap.size->x.heap[k]? = w.heap[k]? := λk L Qc=>Y.block k Qc (λe=>L (by cases e;rfl));have V:t<=b:=yn rfl;have hB:Below t w x:=(Below.refl t w).grown Y QU (λk L=>by cases L;exact V);have T:=Tr.QV (w':=x) (o':=⟨.arr,g,1,N,kZ f r (sorted m)⟩) R C M rfl rfl rfl y (λc1 fx E=>by rw[z]at E;cases E;exact⟨_,JQ,Q⟩);have xE:∀i,i<c.size->(putCells (Value.int .i64) (q+f) (sorted m).toArray c)[i]? = if q+f<=i/\i<q+f+m.length then some (.int .i64 ((sorted m).getD (i - (q+f)) 0)) else c[i]? := λi s=>by
    have hl:(sorted m).toArray.size=m.length:=by simp[FY]
    simp only[putCells,Array.getElem?_mapIdx,hl,zF s,Kx];split
    .rename_i O;have:i - (q+f)<(sorted m).length:=by rw[FY];omega
     simp[Q5,this]
    .rfl
   refine⟨_,.tup [],_,J,rfl,⟨rfl,rfl⟩,Zg.QV (w':=x) (o':=⟨.arr,g,1,N,kZ f r (sorted m)⟩) R C M rfl rfl rfl rfl y z JQ Q (by rw[Q];simpa using Jx) (λi s=>?_) (λi j s H=>?_) rfl,.tup [] [] rfl (λi s=>by simp at s),T,hB⟩
   .show (kZ f r (sorted m) i).length=1;unfold kZ;split
    .rfl
    .exact JS i s
   .have s:i<N:=s;have H:j<1:=H;have lN:j=0:=ω;subst lN;have U:q+(i+0)<c.size:=ω;show ∃v,(putCells (Value.int .i64) (q+f) (sorted m).toArray c)[q+(i*1+0)]? = some v/\Qy Z _ J x (nth (kZ f r (sorted m) i) 0) v;rw[Nat.mul_one,xE _ U];have S:kZ f r (sorted m) i=if f<=i/\i<f+m.length then [.raw (.int .i64 ((sorted m).getD (i - f) 0))] else r i:=by unfold kZ;rw[FY]
    rw[S];by_cases O:f<=i/\i<f+m.length
    .rw[Qf ω,Qf O];exact⟨_,rfl,by rw[show q+(i+0) - (q+f)=i - f by omega];exact .cl _ _ (.raw _)⟩
    .rw[Qe ω,Qe O];obtain⟨u,K,F⟩:=ZR i 0 s H;exact⟨u,K,F.tr T⟩
end Go.Fg
namespace Go.Fg.X
open Go.Proofs Go.Fg
open Go.Proofs.Tryz
def Qz(L:List Qt)(k:Int):Option Qt:=L.find? λc=>c.iD==k
def VH(e:Zy):Int × D:=(e.k,e.v)
def X0(c:Qt):Int × D:=(c.iD,Xz c)
def WB(L:List Qt):Prop:=L.Pairwise λa b=>a.iD<b.iD
structure Vk (es:List Zy) (L:List Qt):Prop where
 perm:(es.map VH).Perm (L.map X0)
 sorted:WB L
def QcQ{c:Type}{f:c->Int}:∀{l:List c},(l.map f).Nodup->∀{x y:c},x∈l->y∈l->f x=f y->x=y
 | [],_,x,_,hx,_,_=>by simp at hx
 | a::l,b,x,y,hx,d,e=>by
  simp only[JN,ZN,Jm,Dl,not_and]at b;rcases QE.1 hx with h1|h1<;>rcases QE.1 d with h2|h2
  .rw[h1,h2]
  .exact absurd (by rw[<- e,h1]) (b.1 y h2)
  .exact absurd (by rw[e,h2]) (b.1 x h1)
  .exact QcQ b.2 h1 h2 e
def WB.nd{L:List Qt}(h:WB L):(L.map (·.iD)).Nodup:=by
 unfold List.Nodup;rw[OK];exact List.Pairwise.imp (λh=>ω) h
def Vk.A7{a}{L}(T:Vk a L):Xs a:=by
 have c:a.map (·.k)=(a.map VH).map Prod.fst:=by simp[VH,Tg]
 have b:(L.map X0).map Prod.fst=L.map (·.iD):=by simp[X0,Tg]
 unfold Xs;rw[c,(T.perm.map Prod.fst).nodup_iff,b];exact T.sorted.nd
def lO:∀{b:List Zy},Xs b->∀{k:Int} {v:D},ZP b k=some v↔(k,v)∈b.map VH
 | [],_,k,v=>by simp[ZP]
 | e::b,a,k,v=>by
  have g:Xs b:=by unfold Xs at a ⊢;simp only[JN,ZN]at a;exact a.2
  simp only[ZP];by_cases h:e.k=k
  .rw[Qf h];constructor
   .rintro⟨rfl⟩;simp[VH,h]
   .intro hm;simp only[JN,QE]at hm;rcases hm with hm|hm
    .simp only[VH,Q9]at hm;rw[hm.2]
    .exfalso;obtain⟨d,f,c⟩:=Jm.1 hm;simp only[VH,Q9]at c;unfold Xs at a;simp only[JN,ZN,Jm,Dl,not_and]at a;exact a.1 d f (by rw[c.1,h])
  .rw[Qe h,lO g];simp only[JN,QE];constructor
   .exact λh=>.inr h
   .rintro (hm|hm)
    .simp only[VH,Q9]at hm;exact absurd hm.1.symm h
    .exact hm
def WC{L}(h:WB L){k}{c:Qt}:Qz L k=some c↔c∈L/\c.iD=k:=by
 constructor
 .intro e;exact⟨xj e,by have:=xi e;simpa using this⟩
 .rintro⟨b,rfl⟩;cases a:Qz L c.iD with
  | none=>
   have:=js.1 a c b;simp at this
  | some d=>
   have g:=xj a;have f:d.iD=c.iD:=by have:=xi a;simpa using this
   rw[QcQ h.nd g b f]
def FZ{L}{k}:Qz L k=none↔∀c∈L,c.iD≠k:=by
 simp[Qz,js]
def Vk.look{a}{L}(T:Vk a L)(k:Int):ZP a k=(Qz L k).map Xz:=by
 cases b:Qz L k with
 | some c=>
  obtain⟨h,g⟩:=(WC T.sorted).1 b;rw[Kx,lO T.A7,T.perm.mem_iff];exact Jm.2 ⟨c,h,by simp[X0,g]⟩
 | none=>
  rw[YW];cases d:ZP a k with
  | none=>rfl
  | some v=>
   rw[lO T.A7,T.perm.mem_iff]at d;obtain⟨c,f,e⟩:=Jm.1 d;simp only[X0,Q9]at e;exact absurd e.1 (FZ.1 b c f)
def Vk.len{a:List Zy}{L:List Qt}(T:Vk a L):a.length=L.length:=by
 have:=T.perm.length_eq;simpa using this
def Vk.nil:Vk [] []:=⟨σ,by simp[WB]⟩
def V5:List Qt->Qt->List Qt
 | [],x=>[x]
 | c::r,x=>if x.iD<c.iD then x::c::r else if c.iD=x.iD then x::r else c::V5 r x
def W4(L:List Qt)(k:Int):List Qt:=L.filter λc=>c.iD != k
def PV{a:Type}{p}{l:List a}(h:∀x∈l,p x=true):l.filter p=l:=yf.2 h
def HU:∀{L:List Qt} (x:Qt),WB L->(V5 L x).Perm (x::W4 L x.iD)
 | [],x,_=>by simp[V5,W4]
 | c::r,x,h=>by
  have i:WB r:=List.Pairwise.of_cons h;have e:∀d∈r,c.iD<d.iD:=λd a=>(yi.1 h).1 d a;simp only[V5];by_cases f:x.iD<c.iD
  .rw[Qf f];have:W4 (c::r) x.iD=c::r:=PV λd a=>by
    rcases QE.1 a with rfl|a
    .simp;omega
    .have:=e d a;simp;omega
   rw[this]
  .rw[Qe f];by_cases b:c.iD=x.iD
   .rw[Qf b];have g:W4 r x.iD=r:=PV λd a=>by have:=e d a;simp;omega
    have:W4 (c::r) x.iD=r:=by unfold W4 at g ⊢;rw[OG (by simp[b]),g]
    rw[this]
   .rw[Qe b];have:W4 (c::r) x.iD=c::W4 r x.iD:=by unfold W4;rw[OH (by simp[b])]
    rw[this];exact((HU x i).cons c).trans (List.Perm.swap x c _)
def MJ:∀{L:List Qt} (x:Qt),WB L->WB (V5 L x)
 | [],x,_=>by simp[V5,WB]
 | c::r,x,h=>by
  have b:WB r:=List.Pairwise.of_cons h;have e:∀d∈r,c.iD<d.iD:=λd a=>(yi.1 h).1 d a;simp only[V5];by_cases f:x.iD<c.iD
  .rw[Qf f];exact yi.2 ⟨λd a=>by
    rcases QE.1 a with rfl|a
    .exact f
    .have:=e d a;omega,h⟩
  .rw[Qe f];by_cases g:c.iD=x.iD
   .rw[Qf g];exact yi.2 ⟨λd a=>by have:=e d a;omega,b⟩
   .rw[Qe g];refine yi.2 ⟨λd a=>?_,MJ x b⟩;have:=(HU x b).mem_iff.1 a;rcases QE.1 this with rfl|i
    .omega
    .exact e d (JO.1 i).1
def lP{L}(k)(h:WB L):WB (W4 L k):=Lo _ h
def QcR:∀{a:List Zy} (k:Int) (v:D),Xs a->(∃u,ZP a k=some u)->((zO a k v).map VH).Perm ((k,v)::(a.map VH).filter λp=>p.1 != k)
 | [],k,v,_,h=>by simp[ZP]at h
 | e::a,k,v,f,h=>by
  have c:=f;unfold Xs at c;simp only[JN,ZN,Jm,Dl,not_and]at c;simp only[zO];by_cases b:e.k=k
  .rw[Qf b];have i:(a.map VH).filter (λp=>p.1 != k)=a.map VH:=PV λp d=>by
    obtain⟨j,l,rfl⟩:=Jm.1 d;have:=c.1 j l;simp[VH];omega
   have:((e::a).map VH).filter (λp=>p.1 != k)=a.map VH:=by rw[JN,OG (by simp[VH,b]),i]
   rw[this];simp[VH]
  .rw[Qe b];have g:∃u,ZP a k=some u:=by simpa only[ZP,Qe b] using h
   have:((e::a).map VH).filter (λp=>p.1 != k)=VH e::(a.map VH).filter (λp=>p.1 != k):=by rw[JN,OH (by simp[VH,b])]
   rw[this,JN];exact((QcR k v c.2 g).cons _).trans (List.Perm.swap _ _ _)
def Qp0{a}{L}(T:Vk a L)(q)(c)(x:Qt):∃i b,JR q c a x.iD (Xz x)=QM q i b/\Vk b (V5 L x):=by
 have d:((V5 L x).map X0).Perm ((x.iD,Xz x)::(L.map X0).filter λp=>p.1 != x.iD):=by
  have:=(HU x T.sorted).map X0;rw[JN]at this;refine this.trans ?_;have:(L.map X0).filter (λp=>p.1 != x.iD)=(W4 L x.iD).map X0:=by
   rw[OI];rfl
  rw[this];exact Lp _
 have e:=T.perm.filter λp=>p.1 != x.iD;unfold JR;cases f:ZP a x.iD with
 | some u=>exact⟨c,_,rfl,⟨(QcR x.iD (Xz x) T.A7 ⟨u,f⟩).trans ((e.cons _).trans d.symm),MJ x T.sorted⟩⟩
 | none=>
  refine⟨c+1,_,rfl,⟨?_,MJ x T.sorted⟩⟩;have g:(a.map VH).filter (λp=>p.1 != x.iD)=a.map VH:=PV λp d=>by
   obtain⟨h,j,rfl⟩:=Jm.1 d;have:=(Pe f).1 h j;simp[VH];omega
  rw[g]at e;rw[ju];refine List.perm_append_comm.trans ?_;exact(e.cons (x.iD,Xz x)).trans d.symm
def QcS:∀{b:List Zy} (k:Int),Xs b->((JK b k).map VH)=((b.map VH).filter λp=>p.1 != k)
 | [],k,_=>rfl
 | e::b,k,f=>by
  have c:=f;unfold Xs at c;simp only[JN,ZN,Jm,Dl,not_and]at c;simp only[JK];by_cases a:e.k=k
  .rw[Qf a,JN,OG (by simp[VH,a])];exact(PV λp d=>by
    obtain⟨g,h,rfl⟩:=Jm.1 d;have:=c.1 g h;simp[VH];omega).symm
  .rw[Qe a,JN,JN,OH (by simp[VH,a]),QcS k c.2]
def QcT{a}{L}(T:Vk a L)(k):Vk (JK a k) (W4 L k):=by
 refine⟨?_,lP k T.sorted⟩;rw[QcS k T.A7];have:(L.map X0).filter (λp=>p.1 != k)=(W4 L k).map X0:=by rw[OI];rfl
 rw[<- this];exact T.perm.filter _
def QcU{d e:List Int}(h:d.Perm e)(f:e.Pairwise (·<·)):sorted d=e:=by
 refine List.Perm.eq_of_pairwise (le:=λa b=>a<=b) (λa b _ _ i g=>ω) ?_ (f.imp (λh=>ω)) ((List.mergeSort_perm _ _).trans h);have:=List.pairwise_mergeSort (le:=λx y:Int=>decide (x<=y)) (λa b c i g=>by simp at *;omega) (λa b=>ξ) d;exact this.imp (λh=>by simpa using h)
section
variable (h:List Ob)(t m c:Nat){es:List Zy}{L:List Qt}(T:Vk es L)
 (ht:(h.map Ob.ro)[t]? = some ⟨.Wy,0,1,1,λ_=>[.mref m 0]⟩) (hm:(h.map Ob.ro)[m]? = some (QM .i64 c es).ro)
include T ht hm
theorem QcV(a:Int):QR prog 59 h [.ptr t 0 0 0,Qb a] (λd=>d=.tup [Xz ((Qz L a).getD default),Qb (if (Qz L a).isSome then 0 else 6)]):=by
 have e:=T.look a;cases j:Qz L a with
 | none=>
  rw[j,YW]at e;refine Zk func59 ntmps59 results59 λb w k F f n l=>?_;rw[<- f]at ht hm;have g:=Qc ht;have i:=Qc hm;simp only[go_sem,Qa,ht,g,hm,i,e];exact⟨_,rfl,rfl⟩
 | some x=>
  rw[j,Kx]at e;refine Zk func59 ntmps59 results59 λb w k F f n l=>?_;rw[<- f]at ht hm;have g:=Qc ht;have i:=Qc hm;simp only[go_sem,Qa,ht,g,hm,i,e];exact⟨_,rfl,rfl⟩
end
def KN(F H:List Ob):Prop:=∃g,H=F++g
def KN.refl(F):KN F F:=⟨[],σ⟩
def KN.app{F H}(h:KN F H)(g):KN F (H++g):=by
 obtain⟨x,rfl⟩:=h;exact⟨x++g,σ⟩
def KN.set{F H:List Ob}(h:KN F H){lo}(a:F.length<=lo)(o):KN F (H.set lo o):=by
 obtain⟨x,rfl⟩:=h;exact⟨x.set (lo - F.length) o,by rw[Lr _ _ a]⟩
def KN.len{F H:List Ob}(h:KN F H):F.length<=H.length:=by
 obtain⟨x,rfl⟩:=h;simp
def KN.get{F H:List Ob}(h:KN F H){l:Nat}{o:Ob}(e:F[l]? = some o):H[l]? = some o:=by
 obtain⟨x,rfl⟩:=h;rw[QG (Qc e)];exact e
def J3(n:Nat)(H:List Ob)(d:D)(L:List Int):Prop:=(d=.nil/\L=[])\/∃c g a b,d=.ref c g a L.length/\(n<=c/\a=0)/\H[c]? = some ⟨.arr,g,1,a+L.length,b⟩/\∀i,i<L.length->b (a+i)=[Qb (L.getD i 0)]
def J3.app{n}{H}{d}{L}(h:J3 n H d L)(g):J3 n (H++g) d L:=by
 rcases h with h|⟨e,k,b,a,j,i,c,f⟩
 .exact .inl h
 .exact .inr ⟨e,k,b,a,j,i,by rw[QG (Qc c)];exact c,f⟩
def J3.base{F h g:List Ob}{d}{L}(f:F.length=h.length)(x:J3 F.length (F++g) d L):J3 h.length (h++g) d L:=by
 rcases x with x|⟨e,k,b,a,j,l,c,i⟩
 .exact .inl x
 .refine .inr ⟨e,k,b,a,j,ω,?_,i⟩;rw[JE ω]at c ⊢;rw[<- f];exact c
def J3.done{F h H:List Ob}{d}{L}(b:F.length=h.length)(a:KN F H)(x:J3 F.length H d L):∃g,H=F++g/\J3 h.length (h++g) d L:=by
 obtain⟨g,rfl⟩:=a;exact⟨g,rfl,x.base b⟩
def HV{dn:List Int}{off}{row}{v}(b:∀i,i<dn.length->row (off+i)=[Qb (dn.getD i 0)]):∀i,i<(dn++[v]).length->J7 dn.length off row (λ_=>[Qb v]) (0+i)=[Qb ((dn++[v]).getD i 0)]:=λi c=>by
 rw[Jv];simp at c;by_cases a:i<dn.length
 .rw[xn a,b i a];simp[a,JD a]
 .have:i=dn.length:=ω;subst this;rw[zM (QB _)];simp
def HW{h:List Ob}{l:Nat}{o:Ob}(e:h[l]? = some o.ro):(h.map Ob.ro)[l]? = some o.ro:=by have:=ZG e;rwa [ro_ro]at this
def Jy(L:List Qt):Nat->Int->List Int
 | 0,_=>[]
 | n+1,id=>match Qz L id with
  | none=>[]
  | some c=>id::Jy L n c.parent
def Ends(L:List Qt):Nat->Int->Prop
 | 0,id=>Qz L id=none
 | n+1,id=>match Qz L id with
  | none=>True
  | some c=>Ends L n c.parent
structure Qp1 (t:Nat) (L:List Qt) (N:Nat) (id:Int) (F:List Ob) (n:Nat) (s:St):Prop where
 ex:∃dn cur d H,dn++Jy L n cur=Jy L N id/\dn.length+n<=N+1/\Ends L n cur/\KN F H/\J3 F.length H d dn/\s=⟨[(0,.ptr t 0 0 0),(1,Qb cur),(5,d)],H⟩
section
variable (h:List Ob)(t m c:Nat){es:List Zy}{L:List Qt}(T:Vk es L)
 (ht:(h.map Ob.ro)[t]? = some ⟨.Wy,0,1,1,λ_=>[.mref m 0]⟩) (hm:(h.map Ob.ro)[m]? = some (QM .i64 c es).ro)
include T ht hm
theorem QcW(b)(N)(hN:N<1000000)(Q:Ends L N b):Kq prog 92 h [.ptr t 0 0 0,Qb b] (λd g=>J3 h.length (h++g) d (Jy L N b)):=by
 refine Yz J8 200 func92 rfl ntmps92 results92 rfl λJ w pl F P V f=>?_;rw[<- P]at ht hm;have U:=Qc ht;have W:=Qc hm;simp only[go_sem,Qa,ht,U,hm,W];refine LV (Qp1 t L N b F) N (s0:=⟨[(0,.ptr t 0 0 0),(1,Qb b),(5,.nil)],F⟩) QN ⟨[],b,.nil,F,rfl,σ,Q,KN.refl F,.inl ⟨rfl,rfl⟩,rfl⟩ ?_;rintro n s ⟨r,a,d,H,q,E,p,hx,B,rfl⟩;have a0:=hx.len;have k:=hx.get ht;have l:=hx.get hm;have o:=Qc k;have v:=Qc l;have e:=QcV H t m c T (ZG k) (HW l) a;apply QC f;cases j:Qz L a with
 | none=>
  rw[j]at e;simp only[vM,YR,vN]at e;apply ZA f kS e;apply Qg f;simp only[go_sem,Qa,k,l,o,v];have R:Jy L n a=[]:=by cases n with
   | zero=>rfl
   | succ n=>simp only[Jy,j]
  rw[R,Jl]at q;rw[<- q];exact J3.done V (hx.app _) (B.app _)
 | some x=>
  rw[j]at e;simp only[kx,Va,KV]at e;obtain⟨n,rfl⟩:∃K,n=K+1:=by
   cases n with
   | zero=>rw[Ends,j]at p;cases p
   | succ n=>exact⟨n,rfl⟩
  have z:Ends L n x.parent:=by simpa only[Ends,j] using p
  have I:(r++[a])++Jy L n x.parent=Jy L N b:=by rw[<- q];simp only[Jy,j,Wx,List.singleton_append]
  rcases B with ⟨rfl,rfl⟩|⟨y,g,Z,Y,rfl,S,C,M⟩
  .apply ZA f kS e;apply Qg f;simp only[go_sem,Qa,k,l,o,v];refine⟨n,⟨[(0,.ptr t 0 0 0),(1,Qb x.parent),(5,.ref (H.length+2) 0 0 1)],_⟩,ω,QN,⟨⟨[a],x.parent,_,_,I,by simp at E ⊢;omega,z,hx.app _,.inr ⟨H.length+2,0,0,_,rfl,ω,by rw[Vj rfl];rfl,λi O=>?_⟩,rfl⟩⟩⟩;have:i=0:=by simp at O;omega
   subst this;rfl
  .have u:=Qc C;apply ZA f kS e;apply Qg f;simp only[go_sem,Qa,k,l,o,v,C,u];refine⟨ω,n,⟨[(0,.ptr t 0 0 0),(1,Qb x.parent),(5,.ref y (g+1) 0 (r.length+1))],_⟩,ω,QN,⟨⟨r++[a],x.parent,_,_,I,?_,z,?_,?_,rfl⟩⟩⟩
   .simp at E ⊢;omega
   .exact(hx.set S.1 _).app _
   .refine .inr ⟨y,g+1,0,_,σ,ω,?_,HV M⟩;rw[QG (by simpa using u),Qv u];simp[Qb]
end
def Yc(L:List Qt)(a:Int):Bool:=a==0 || decide (1<Q4 ((Qz L a).getD default).ls)
section
variable (h:List Ob)(t m c:Nat){es:List Zy}{L:List Qt}(T:Vk es L)
 (ht:(h.map Ob.ro)[t]? = some ⟨.Wy,0,1,1,λ_=>[.mref m 0]⟩) (hm:(h.map Ob.ro)[m]? = some (QM .i64 c es).ro)
include T ht hm
theorem MK(a:Int)(N)(j:N<1000000)(l:Ends L N a):QR prog 153 h [.ptr t 0 0 0,Qb a] (λd=>d=Qb (Jy L N a).length):=by
 refine Zk func153 ntmps153 results153 λf w u F k B b=>?_;rw[<- k]at ht hm;have o:=Qc ht;have q:=Qc hm;simp only[go_sem,Qa,ht,o,hm,q];refine AW b aS rfl ?_ (QcW F t m c T (ZG ht) (HW hm) a N j l) rfl λd y i=>?_
 .simp only[go_sem]
 rcases i with ⟨rfl,n⟩|⟨v,g,s,r,rfl,z,e,x⟩
 .apply Qg b;simp only[go_sem,Qa,n];exact⟨_,rfl⟩
 .have p:=Qc e;apply Qg b;simp only[go_sem,Qa,e,p];exact⟨_,rfl⟩
theorem bA(a):QR prog 152 h [.ptr t 0 0 0,Qb a] (λd=>d=QT (Yc L a)):=by
 by_cases i:a=0
 .have e:Yc L a=true:=by simp[Yc,i]
  rw[e];refine Zk func152 ntmps152 results152 λb w n F g p f=>?_;rw[<- g]at ht hm;have j:=Qc ht;have k:=Qc hm;simp only[go_sem,Qa,ht,j,hm,k,qa i];exact⟨[],σ⟩
 .have l:=T.look a;have e:Yc L a=decide (1<Q4 ((Qz L a).getD default).ls):=by simp[Yc,i]
  rw[e];cases o:Qz L a with
  | none=>
   rw[o,YW]at l;refine Zk func152 ntmps152 results152 λb w n F g p f=>?_;rw[<- g]at ht hm;have j:=Qc ht;have k:=Qc hm;simp only[go_sem,Qa,ht,j,hm,k,l,Xx i];apply YC f kU (kX ⟨0,0,false,⟨0,0,0⟩,⟨0,0,0⟩,⟨0,0,0⟩,0,0⟩);apply QC f;exact⟨[],(Jl F).symm,rfl⟩
  | some x=>
   rw[o,Kx]at l;refine Zk func152 ntmps152 results152 λb w n F g p f=>?_;rw[<- g]at ht hm;have j:=Qc ht;have k:=Qc hm;simp only[go_sem,Qa,ht,j,hm,k,l,Xx i];apply YC f kU (kX x);apply QC f;exact⟨[],σ⟩
end
def Qp(L:List Qt)(g:Qt->Bool)(k:Int):Bool:=((Qz L k).map g).getD false
def Qp2{es:List Zy}{seen:List Nat}{b:Nat}(p:Zy->Bool)(h:∀e∈es,e.b≠b):(es.filter λx=>(seen++[b]).contains x.b&&p x)=es.filter λx=>seen.contains x.b&&p x:=by
 apply Tl;intro x hx;have:=h x hx;simp[this]
def QcX:∀{a:List Zy} {seen:List Nat} {e:Zy} (p:Zy->Bool),(a.map (·.b)).Nodup->e∈a->e.b ∉ seen->(a.filter λx=>(seen++[e.b]).contains x.b&&p x).Perm (if p e then e::a.filter (λx=>seen.contains x.b&&p x) else a.filter λx=>seen.contains x.b&&p x)
 | [],_,_,_,_,h,_=>by simp at h
 | x::a,seen,e,p,d,h,j=>by
  simp only[JN,ZN,Jm,Dl,not_and]at d;rcases QE.1 h with h1|h1
  .subst h1;have m:=Qp2 (seen:=seen) (b:=e.b) p (es:=a) λy l g=>d.1 y l g;have i:seen.contains e.b=false:=by simpa using j
   rw[vH,vH,m];simp only[i,EW,YR,vN];have:(seen++[e.b]).contains e.b=true:=σ;rw[this,Df]
  .have c:=QcX p d.2 h1 j;have n:x.b≠e.b:=λg=>d.1 e h1 g.symm;have i:(seen++[e.b]).contains x.b=seen.contains x.b:=by simp[n]
   rw[vH,vH,i];by_cases f:(seen.contains x.b&&p x)=true
   .rw[Qf f,Qf f];by_cases k:p e=true
    .rw[Qf k]at c ⊢;exact(c.cons x).trans (List.Perm.swap _ _ _)
    .rw[Qe k]at c ⊢;exact c.cons x
   .rw[Qe f,Qe f];exact c
def Vk.wv{b}{L}(T:Vk b L){e:Zy}(c:e∈b):∃x,Qz L e.k=some x/\e.v=Xz x/\x.iD=e.k:=by
 have:VH e∈L.map X0:=T.perm.mem_iff.1 (Jm.2 ⟨e,c,rfl⟩);obtain⟨x,hx,a⟩:=Jm.1 this;simp only[X0,VH,Q9]at a;exact⟨x,(WC T.sorted).2 ⟨hx,a.1⟩,a.2.symm,a.1⟩
def Vk.pick{a:List Zy}{L:List Qt}(T:Vk a L)(g:Qt->Bool):((a.filter λe=>Qp L g e.k).map (·.k)).Perm ((L.filter g).map (·.iD)):=by
 have b:=(T.perm.filter λp=>Qp L g p.1).map Prod.fst;have d:((a.map VH).filter λp=>Qp L g p.1).map Prod.fst=(a.filter λe=>Qp L g e.k).map (·.k):=by
  rw[OI,E7];rfl
 have c:((L.map X0).filter λp=>Qp L g p.1).map Prod.fst=(L.filter g).map (·.iD):=by
  rw[OI,E7];have:L.filter ((λp=>Qp L g p.1) ∘ X0)=L.filter g:=Tl λx hx=>by
   have:=(WC T.sorted).2 ⟨hx,rfl⟩;simp[Qp,X0,this]
  rw[this];rfl
 rw[d,c]at b;exact b
def Qp3{L:List Qt}(h:WB L)(g:Qt->Bool):((L.filter g).map (·.iD)).Pairwise (·<·):=by
 rw[OK];exact Lo g h
open Go.Shelf in
def Qp4{P}{c:Ren}(o:Lays.n189 P c)(h):QI P (c.f 189) h [.nil] (λd n=>d=.tup []/\n=h):=by
 intro Z f w k j r q R g l;match j,g with
 | [v],_=>
 obtain⟨a,b⟩:=BK (l 0 σ);have b:v=_:=b;subst b;refine(Any.slices_Sort_int_none o a 0 w).mono ?_;rintro e p ⟨rfl,rfl⟩;exact⟨_,.tup [],h,k,rfl,⟨rfl,rfl⟩,R,.tup [] [] rfl (λi m=>by simp at m),Tr.refl _ _ _,.refl _ _⟩
open Go.Shelf in
def Tryz.Qp5:Go.Shelf.Ren:=⟨fun|189=>87|125=>123|257=>122|128=>174|129=>175|294=>165|295=>166|296=>167|297=>168|298=>169|299=>170|216=>171|300=>172|301=>173|328=>217|329=>218|330=>219|331=>220|332=>221|215=>222|343=>238|n=>n,fun|28=>61|3=>3|46=>235|0=>0|51=>287|53=>34|4=>4|183=>280|182=>279|131=>156|5=>5|9=>9|218=>321|222=>324|228=>338|229=>91|n=>n,fun|n=>n⟩
def Tryz.QcY:Go.Proofs.Lays.n189 prog Tryz.Qp5:={
 mixed:=τ
 f125:=func123.trans (congrArg some τ)
 f128:=func174.trans (congrArg some τ)
 f129:=func175.trans (congrArg some τ)
 f189:=func87.trans (congrArg some τ)
 f215:=func222.trans (congrArg some τ)
 f216:=func171.trans (congrArg some τ)
 f257:=func122.trans (congrArg some τ)
 f294:=func165.trans (congrArg some τ)
 f295:=func166.trans (congrArg some τ)
 f296:=func167.trans (congrArg some τ)
 f297:=func168.trans (congrArg some τ)
 f298:=func169.trans (congrArg some τ)
 f299:=func170.trans (congrArg some τ)
 f300:=func172.trans (congrArg some τ)
 f301:=func173.trans (congrArg some τ)
 f328:=func217.trans (congrArg some τ)
 f329:=func218.trans (congrArg some τ)
 f330:=func219.trans (congrArg some τ)
 f331:=func220.trans (congrArg some τ)
 f332:=func221.trans (congrArg some τ)
 f343:=func238.trans (congrArg some τ)
 t0:=underlying0
 a0:=isAgg0
 z0:=sizeOf0
 v0:=zeroValue0
 t3:=underlying3
 a3:=isAgg3
 z3:=sizeOf3
 v3:=zeroValue3
 t4:=underlying4
 a4:=isAgg4
 z4:=sizeOf4
 v4:=zeroValue4
 t5:=underlying5
 a5:=isAgg5
 z5:=sizeOf5
 v5:=zeroValue5
 t9:=underlying9
 a9:=isAgg9
 z9:=sizeOf9
 v9:=zeroValue9
 t28:=underlying61
 a28:=isAgg61
 z28:=sizeOf61
 v28:=zeroValue61
 t46:=underlying235
 a46:=isAgg235
 z46:=sizeOf235
 v46:=zeroValue235
 t51:=underlying287
 a51:=isAgg287
 z51:=sizeOf287
 v51:=zeroValue287
 t53:=underlying34
 a53:=isAgg34
 z53:=sizeOf34
 v53:=zeroValue34
 t131:=underlying156
 a131:=isAgg156
 z131:=sizeOf156
 v131:=zeroValue156
 t182:=underlying279
 a182:=isAgg279
 z182:=sizeOf279
 v182:=zeroValue279
 t183:=underlying280
 a183:=isAgg280
 z183:=sizeOf280
 v183:=zeroValue280
 t218:=underlying321
 a218:=isAgg321
 z218:=sizeOf321
 v218:=zeroValue321
 t222:=underlying324
 a222:=isAgg324
 z222:=sizeOf324
 v222:=zeroValue324
 t228:=underlying338
 a228:=isAgg338
 z228:=sizeOf338
 v228:=zeroValue338
 t229:=underlying91
 a229:=isAgg91
 z229:=sizeOf91
 v229:=zeroValue91 }
def QcZ{h:List Ob}{l g a N}{b}{c:List Int}(j:h[l]? = some ⟨.arr,g,1,N,b⟩)(k:a+c.length<=N)(f:∀i,i<c.length->b (a+i)=[.raw (.int .i64 (c.getD i 0))])(e:c.length<4611686018427387904):
  QI prog 87 h [.ref l g a c.length] (λd m=>d=.tup []/\m=h.set l ⟨.arr,g,1,N,kZ a b (sorted c)⟩):=QpW Tryz.QcY j k f e
def Qc0(h):QI prog 87 h [.nil] (λd a=>d=.tup []/\a=h):=Qp4 Tryz.QcY h
def Cc(d):Xu d d:=by unfold Xu;split<;>first|exact rfl|simp_all
def Cd:∀l:List D,Ke l l
 | []=>trivial
 | d::r=>⟨Cc d,Cd r⟩
def PW(F:List Ob)(f a:Nat)(b:List D)(g:Qt->Bool):Prop:=∀(h:List Ob) (c:Qt),KN F h->QR prog f h (ZS a b [Xz c]) (λd=>d=QT (g c))
structure Qp6 (t m c:Nat) (es:List Zy) (L:List Qt) (gk:Qt->Bool) (so:D) (F:List Ob) (n:Nat) (s:St):Prop where
 ex:∃seen d out H,xC es seen=n/\KN F H/\J3 F.length H d out/\out.Perm ((es.filter λe=>seen.contains e.b&&Qp L gk e.k).map (·.k))/\H[F.length]? = some (XP m c c seen) /\
  s=⟨[(0,.ptr t 0 0 0),(1,so),(5,d),(14,.mref F.length 0)],H⟩
section
variable (h:List Ob)(t m c:Nat){es:List Zy}{L:List Qt}(T:Vk es L)(hlen:L.length<1000000)
 (ht:(h.map Ob.ro)[t]? = some ⟨.Wy,0,1,1,λ_=>[.mref m 0]⟩) (hm:(h.map Ob.ro)[m]? = some (QM .i64 c es).ro)
include T ht hm hlen
theorem bB(p:D)(f nf:Nat)(Qs:List D)(hf:Qk prog f)(Vp:Jo p=some (f,nf,Qs))(b:Qt->Bool)(hg:PW (h.map Ob.ro) f nf Qs b):
  Kq prog 73 h [.ptr t 0 0 0,p] (λd g=>J3 h.length (h++g) d ((L.filter b).map (·.iD))):=by
 refine Yz J8 200 func73 rfl ntmps73 results73 rfl λa0 w pl F hF QQ j=>?_;rw[<- hF]at ht hm;have Zi:=Qc ht;have QJ:=Qc hm;simp only[go_sem,Qa,ht,Zi,hm,QJ];refine QpD (kd:=.OR) (q:=.i64) (l:=m) (c:=c) (es:=es) rfl (by simp only[go_sem,Qa,hm,QJ];rfl) λhB=>?_;refine LV (Qp6 t m c es L b p F) (xC es []) (s0:=⟨[(0,.ptr t 0 0 0),(1,p),(5,.nil),(14,.mref F.length 0)],F++[XP m c c []]⟩) QN ⟨[],.nil,[],_,rfl,⟨_,rfl⟩,.inl ⟨rfl,rfl⟩,σ,by rw[JZ rfl];rfl,rfl⟩ ?_;rintro n s ⟨seen,d,a,H,hn,hx,N,O,W,rfl⟩;have Xk:=hx.get hm;have HX:=Qc Xk;have Z:=Qc W;apply QC j;refine Qk9 j (li:=F.length) (l:=m) (c:=c) (es:=es) (seen:=seen) (q:=.i64) (kd:=.OR) rfl W rfl Xk rfl (λJX=>?_) (λe z Fv=>?_)
 .apply QC j;have Q:sorted a=(L.filter b).map (·.iD):=by
   refine QcU (O.trans ?_) (Qp3 T.sorted b);have:(es.filter λe=>seen.contains e.b&&Qp L b e.k)=es.filter λe=>Qp L b e.k:=Tl λe z=>by
    have:seen.contains e.b=true:=by simpa using JX e z
    rw[this,Df]
   rw[this];exact T.pick b
  have F0:a.length<4611686018427387904:=by
   have B:a.length=((L.filter b).map (·.iD)).length:=by rw[<- Q,FY]
   have h2:=YU b L;rw[JV]at B;omega
  rcases N with ⟨rfl,rfl⟩|⟨r,g,k,o,rfl,P,u,U⟩
  .apply QC j;refine Jb j aR (Qc0 H) λd h E=>?_;obtain⟨rfl,rfl⟩:=E;apply Zd j;exact J3.done QQ hx (.inl ⟨rfl,by rw[<- Q];simp[sorted]⟩)
  .have J:=Qc u;apply QC j;refine Jb j aR (QcZ u (QB _) U F0) λd h E=>?_;obtain⟨rfl,rfl⟩:=E;apply Zd j;refine J3.done QQ (hx.set P.1 _) ?_;have lU:((L.filter b).map (·.iD)).length=a.length:=by rw[<- Q,FY]
   refine .inr ⟨r,g,k,kZ k o (sorted a),?_,P,?_,?_⟩
   .rw[lU]
   .rw[lU];exact Qv J
   .rw[Q];intro i hi;unfold kZ;rw[Qf ω,show k+i - k=i by omega];rfl
 .obtain⟨x,Y,vS,Ze⟩:=T.wv z;rw[vS];have LX:Qp L b e.k=b x:=by simp[Qp,Y]
  obtain⟨v,R⟩:∃v,v=H.set F.length (XP m c c (seen++[e.b])):=⟨_,rfl⟩;have y:KN F v:=by rw[R];exact hx.set (QB _) _
  have C:v[F.length]? = some (XP m c c (seen++[e.b])):=by rw[R];exact Qv Z
  have K:J3 F.length v d a:=by
   rcases N with N|⟨r,g,k,o,B,h2,V,h4⟩
   .exact .inl N
   .refine .inr ⟨r,g,k,o,B,h2,?_,h4⟩;rw[R,Qm (by rintro rfl;rw[W]at V;cases V)];exact V
  have DX:=y.get hm;have bC:=Qc DX;have S:=Qc C;have I:=QcX (λe=>Qp L b e.k) hB.nodup z Fv;have qc:=QcJ z Fv;rw[<- R];apply QC j;apply QC j;refine QpG (li:=F.length) (l:=m) (c:=c) (es:=es) (seen:=seen) (q:=.i64) (kd:=.OR) (e:=e) rfl C rfl DX z rfl ?_;rw[vS];apply QC j;apply QC j;refine Xj j hf Vp ?_ (hg _ x ?_) rfl λd2 E=>?_
  .simp only[go_sem];exact Cd _
  .rw[<- hF];exact y.app _
  subst E;apply Qg j;have F0:a.length<=es.length:=by
   have B:=O.length_eq;rw[JV]at B;rw[B];exact YU _ _
  have a1:=T.len;simp only[LX]at I;cases M:b x
  .simp only[M,YR,vN]at I;simp only[go_sem,Qa];exact⟨xC es (seen++[e.b]),⟨[(0,.ptr t 0 0 0),(1,p),(5,d),(14,.mref F.length 0)],_⟩,ω,QN,⟨⟨seen++[e.b],d,a,_,rfl,y.app _,K.app _,O.trans (I.map _).symm,by rw[QG S];exact C,rfl⟩⟩⟩
  .simp only[M,Va]at I;have bD:(a++[e.k]).Perm ((es.filter λx=>(seen++[e.b]).contains x.b&&Qp L b x.k).map (·.k)):=by
    refine(List.perm_append_comm.trans ?_).trans (I.map _).symm;exact O.cons e.k
   rcases K with ⟨rfl,rfl⟩|⟨r,g,k,o,rfl,P,u,U⟩
   .simp only[go_sem,Qa];refine⟨xC es (seen++[e.b]),⟨[(0,.ptr t 0 0 0),(1,p),(5,.ref (v.length+2) 0 0 1),(14,.mref F.length 0)],_⟩,ω,QN,⟨⟨seen++[e.b],_,[e.k],_,rfl,y.app _,?_,bD,by rw[QG S];exact C,rfl⟩⟩⟩;have:=y.len;refine .inr ⟨v.length+2,0,0,_,rfl,ω,by rw[Vj rfl];rfl,λi hi=>?_⟩;have:i=0:=by simp at hi;omega
    subst this;rfl
   .have J:=Qc u;have QA:F.length≠r:=by rintro rfl;rw[C]at u;cases u
    simp only[go_sem,Qa,u,J];refine⟨ω,xC es (seen++[e.b]),⟨[(0,.ptr t 0 0 0),(1,p),(5,.ref r (g+1) 0 (a.length+1)),(14,.mref F.length 0)],_⟩,ω,QN,⟨⟨seen++[e.b],_,a++[e.k],_,rfl,?_,?_,bD,?_,rfl⟩⟩⟩
    .exact(y.set P.1 _).app _
    .refine .inr ⟨r,g+1,0,_,σ,ω,?_,HV U⟩;rw[QG (by simpa using J),Qv J];simp[Qb]
    .rw[QG (by simpa using S),Qm (Q1 QA)];exact C
end
def W5{h t:List Ob}{l:Nat}{o:Ob}(e:h[l]? = some o):((h++t).map Ob.ro)[l]? = some o.ro:=ZG (by rw[QG (Qc e)];exact e)
def J3.le{n n'}{H}{d}{L}(x:J3 n H d L)(i:n'<=n):J3 n' H d L:=by
 rcases x with x|⟨c,h,b,a,g,j,f,e⟩
 .exact .inl x
 .exact .inr ⟨c,h,b,a,g,ω,f,e⟩
def Qp9(h:List Ob)(b)(c)(x:Qt)(a:(h.map Ob.ro)[b]? = some ⟨.Wy,0,1,1,λ_=>[Qb c]⟩):QR prog 206 h [Xz x,.ptr b 0 0 0] (λd=>d=QT (x.parent==c)):=by
 refine Zk func206 ntmps206 results206 λe w i F f k j=>?_;rw[<- f]at a;have g:=Qc a;simp only[go_sem,Qa,a,g];exact⟨_,rfl⟩
def WD(L:List Qt)(a:Int):List Int:=(L.filter λx=>x.parent==a).map (·.iD)
section
variable (h:List Ob)(t m c:Nat){es:List Zy}{L:List Qt}(T:Vk es L)(hlen:L.length<1000000)
 (ht:(h.map Ob.ro)[t]? = some ⟨.Wy,0,1,1,λ_=>[.mref m 0]⟩) (hm:(h.map Ob.ro)[m]? = some (QM .i64 c es).ro)
include T ht hm hlen
theorem lW(a):Kq prog 155 h [.ptr t 0 0 0,Qb a] (λd g=>J3 h.length (h++g) d (WD L a)):=by
 refine Yz J8 200 func155 rfl ntmps155 results155 rfl λi w v F p s b=>?_;rw[<- p]at ht hm;have r:=Qc ht;have u:=Qc hm;simp only[go_sem,Qa,ht,r,hm,u];have hx:KN F (F++([⟨.one,0,1,1,λ_=>[Qb a]⟩]:List Ob)):=⟨_,rfl⟩;have n:PW ((F++([⟨.one,0,1,1,λ_=>[Qb a]⟩]:List Ob)).map Ob.ro) 206 0 [.ptr F.length 0 0 0] (λx=>x.parent==a):=λq x j=>Qp9 q F.length a x (by
  have e:=j.get (l:=F.length) (o:=⟨.Wy,0,1,1,λ_=>[Qb a]⟩) (by rw[ju,JZ σ];rfl);exact ZG e)
 refine AW b aQ rfl ?_ (bB _ t m c T hlen (ZG (hx.get ht)) (HW (hx.get hm)) (.clo 206 0 [.ptr F.length 0 0 0]) 206 0 [.ptr F.length 0 0 0] Qo4 rfl _ n) rfl λd g k=>?_
 .simp only[go_sem]
 apply QC b;have f:=k.le (n':=F.length) σ;rw[Wx]at f;exact J3.done s ⟨_,rfl⟩ f
def A9(L:List Qt)(x:Qt)(a:Nat):Int:=
 if Vd x≠0 then Vd x
 else if (Qz L x.iD).isSome then 8
 else if L.length=64 then 5
 else if (x.parent≠0/\(Qz L x.parent).isNone)\/((Qz L x.parent).getD default).leaf=true then 23
 else if 1<Q4 x.ls/\Yc L x.parent=false then 29
 else if a=16 then 25
 else 0
end
section
variable (h:List Ob)(t m c:Nat){es:List Zy}{L:List Qt}(T:Vk es L)(hlen:L.length<1000000)
 (ht:h[t]? = some ⟨.one,0,1,1,λ_=>[.mref m 0]⟩) (hm:h[m]? = some (QM .i64 c es))
include T ht hm hlen
structure WE (h:List Ob) (t m:Nat) (L:List Qt) (h':List Ob):Prop where
 ex:∃c es,h'[t]? = some ⟨.one,0,1,1,λ_=>[.mref m 0]⟩/\h'[m]? = some (QM .i64 c es)/\Vk es L
 len:h.length<=h'.length
 Kg:∀l,l<h.length->l≠m->h'[l]? = h[l]?
omit T hlen in
theorem WE.same(T:Vk es L)(g):WE h t m L (h++g):=
 ⟨⟨c,es,by rw[QG (Qc ht)];exact ht,by rw[QG (Qc hm)];exact hm,T⟩,σ,λl a _=>QG a⟩
omit hlen in
theorem WE.QV(x:Qt)(g):WE h t m (V5 L x) (h.set m (JR .i64 c es x.iD (Xz x))++g):=by
 obtain⟨f,a,e,k⟩:=Qp0 T .i64 c x;have b:=Qc hm;have i:=Qc ht;have n:m≠t:=by rintro rfl;rw[ht]at hm;cases hm
 rw[e];refine⟨⟨f,a,?_,?_,k⟩,σ,λl d j=>?_⟩
 .rw[QG (by simpa using i),Qm n];exact ht
 .rw[QG (by simpa using b),Qv b]
 .rw[QG (by simpa using d),Qm (Q1 j)]
omit hlen in
theorem Qqa(x:Qt)(N)(v:N<1000000)(B:Ends L N x.parent):QI prog 115 h [.ptr t 0 0 0,Xz x] (λd M=>d=Qb (A9 L x (Jy L N x.parent).length)/\WE h t m (if A9 L x (Jy L N x.parent).length=0 then V5 L x else L) M):=by
 have H:=T.look x.iD;have n:=T.look x.parent;have Q:=T.len;have i:=Qc ht;have j:=Qc hm;obtain⟨E,F⟩:∃E,E=A9 L x (Jy L N x.parent).length:=⟨_,rfl⟩;rw[<- F];have b:∀g:List Ob,E≠0->WE h t m (if E=0 then V5 L x else L) (h++g):=λg O=>by rw[Qe O];exact WE.same h t m c ht hm T g
 refine QZ func115 ntmps115 results115 λK w P a=>?_;have i:=Qc ht;have j:=Qc hm;simp only[go_sem,Qa,ht,i,hm,j];apply YC a Qce (QcP x);apply QC a;by_cases C:Vd x=0;case neg=>
  have e:E=Vd x:=by rw[F,A9,Qf C]
  simp only[go_sem,Qa,Xx C,bne];exact⟨by rw[e],b _ (by rw[e];exact C)⟩
 simp only[go_sem,Qa,qa C,bne];cases I:Qz L x.iD with
 | some y=>
  have e:E=8:=by rw[F,A9,Qe (by simpa using C),Qf (by simp[I])]
  rw[I,Kx]at H;apply Qw a ol;simp only[go_sem,Qa,ht,hm,i,j,H];cases o:Qz L x.parent with
  | none=>
   rw[o,YW]at n;apply Qw a ol;simp only[go_sem,Qa,ht,hm,i,j,n];exact⟨by rw[e],b _ (by rw[e];decide)⟩
  | some z=>
   rw[o,Kx]at n;apply Qw a ol;simp only[go_sem,Qa,ht,hm,i,j,n];exact⟨by rw[e],b _ (by rw[e];decide)⟩
 | none=>
  rw[I,YW]at H;apply Qw a ol;simp only[go_sem,Qa,ht,hm,i,j,H];have u:E=(if L.length=64 then 5 else if (x.parent≠0/\(Qz L x.parent).isNone)\/((Qz L x.parent).getD default).leaf=true then 23 else if 1<Q4 x.ls/\Yc L x.parent=false then 29 else if (Jy L N x.parent).length=16 then 25 else 0):=by
   rw[F,A9,Qe (by simpa using C),Qe (by simp[I])]
  by_cases J:L.length=64
  .have e:E=5:=by rw[u,Qf J]
   have s:((es.length:Int)==64)=true:=ξ;cases o:Qz L x.parent with
   | none=>
    rw[o,YW]at n;apply Qw a ol;simp only[go_sem,Qa,ht,hm,i,j,n,s];exact⟨by rw[e],b _ (by rw[e];decide)⟩
   | some z=>
    rw[o,Kx]at n;apply Qw a ol;simp only[go_sem,Qa,ht,hm,i,j,n,s];exact⟨by rw[e],b _ (by rw[e];decide)⟩
  rw[Qe J]at u;have s:((es.length:Int)==64)=false:=ξ;cases o:Qz L x.parent with
  | none=>
   rw[o,YW]at n;by_cases p:x.parent=0
   .apply Qw a ol;simp only[go_sem,Qa,ht,hm,i,j,n,s,qa p,bne];have l:E=(if 1<Q4 x.ls/\Yc L x.parent=false then 29 else if (Jy L N x.parent).length=16 then 25 else 0):=by rw[u,Qe (by rw[o];rintro (⟨h1,_⟩|h1);exact h1 p;cases h1)]
    apply YC a kU (kX x);apply QC a;cases q:decide (1<Q4 x.ls)
    .simp only[go_sem,Qa,Go.undef];apply ZA a Mz (MK _ t m c T (W5 ht) (W5 hm) x.parent N v B);apply QC a;by_cases k:(Jy L N x.parent).length=16
     .have e:E=25:=by rw[l,Qe (by simp at q;omega),Qf k]
      have f:(((Jy L N x.parent).length:Int)==16)=true:=ξ;simp only[go_sem,Qa,f];exact⟨by rw[e],b _ (by rw[e];decide)⟩
     .have e:E=0:=by rw[l,Qe (by simp at q;omega),Qe k]
      have f:(((Jy L N x.parent).length:Int)==16)=false:=ξ;simp only[go_sem,Qa,f];apply Qw a ut;simp only[go_sem,Qa,ht,hm,i,j];rw[Qf e];exact⟨by rw[e],WE.QV h t m c T ht hm x _⟩
    .simp only[go_sem,Qa,Go.undef];apply ZA a aW (bA _ t m c T (W5 ht) (W5 hm) x.parent);apply QC a;cases r:Yc L x.parent
     .have e:E=29:=by rw[l,Qf ⟨by simpa using q,r⟩]
      simp only[go_sem,Qa,Go.undef];exact⟨by rw[e],b _ (by rw[e];decide)⟩
     .simp only[go_sem,Qa,Go.undef];apply ZA a Mz (MK _ t m c T (W5 ht) (W5 hm) x.parent N v B);apply QC a;by_cases k:(Jy L N x.parent).length=16
      .have e:E=25:=by rw[l,Qe (by rw[r];simp),Qf k]
       have f:(((Jy L N x.parent).length:Int)==16)=true:=ξ;simp only[go_sem,Qa,f];exact⟨by rw[e],b _ (by rw[e];decide)⟩
      .have e:E=0:=by rw[l,Qe (by rw[r];simp),Qe k]
       have f:(((Jy L N x.parent).length:Int)==16)=false:=ξ;simp only[go_sem,Qa,f];apply Qw a ut;simp only[go_sem,Qa,ht,hm,i,j];rw[Qf e];exact⟨by rw[e],WE.QV h t m c T ht hm x _⟩
   .have e:E=23:=by rw[u,Qf (.inl ⟨p,by simp[o]⟩)]
    apply Qw a ol;simp only[go_sem,Qa,ht,hm,i,j,n,s,Xx p,bne];exact⟨by rw[e],b _ (by rw[e];decide)⟩
  | some z=>
   rw[o,Kx]at n;cases hz:z.leaf with
   | true=>
    have e:E=23:=by rw[u,Qf (.inr (by simp[o,hz]))]
    by_cases p:x.parent=0
    .apply Qw a ol;simp only[go_sem,Qa,ht,hm,i,j,n,s,qa p,bne,hz];exact⟨by rw[e],b _ (by rw[e];decide)⟩
    .apply Qw a ol;simp only[go_sem,Qa,ht,hm,i,j,n,s,Xx p,bne,hz];exact⟨by rw[e],b _ (by rw[e];decide)⟩
   | false=>
    by_cases p:x.parent=0
    .apply Qw a ol;simp only[go_sem,Qa,ht,hm,i,j,n,s,qa p,bne,hz];have l:E=(if 1<Q4 x.ls/\Yc L x.parent=false then 29 else if (Jy L N x.parent).length=16 then 25 else 0):=by rw[u,Qe (by rw[o];rintro (⟨h1,_⟩|h1);exact h1 p;exact absurd h1 (by simp[hz]))]
     apply YC a kU (kX x);apply QC a;cases q:decide (1<Q4 x.ls)
     .simp only[go_sem,Qa,Go.undef];apply ZA a Mz (MK _ t m c T (W5 ht) (W5 hm) x.parent N v B);apply QC a;by_cases k:(Jy L N x.parent).length=16
      .have e:E=25:=by rw[l,Qe (by simp at q;omega),Qf k]
       have f:(((Jy L N x.parent).length:Int)==16)=true:=ξ;simp only[go_sem,Qa,f];exact⟨by rw[e],b _ (by rw[e];decide)⟩
      .have e:E=0:=by rw[l,Qe (by simp at q;omega),Qe k]
       have f:(((Jy L N x.parent).length:Int)==16)=false:=ξ;simp only[go_sem,Qa,f];apply Qw a ut;simp only[go_sem,Qa,ht,hm,i,j];rw[Qf e];exact⟨by rw[e],WE.QV h t m c T ht hm x _⟩
     .simp only[go_sem,Qa,Go.undef];apply ZA a aW (bA _ t m c T (W5 ht) (W5 hm) x.parent);apply QC a;cases r:Yc L x.parent
      .have e:E=29:=by rw[l,Qf ⟨by simpa using q,r⟩]
       simp only[go_sem,Qa,Go.undef];exact⟨by rw[e],b _ (by rw[e];decide)⟩
      .simp only[go_sem,Qa,Go.undef];apply ZA a Mz (MK _ t m c T (W5 ht) (W5 hm) x.parent N v B);apply QC a;by_cases k:(Jy L N x.parent).length=16
       .have e:E=25:=by rw[l,Qe (by rw[r];simp),Qf k]
        have f:(((Jy L N x.parent).length:Int)==16)=true:=ξ;simp only[go_sem,Qa,f];exact⟨by rw[e],b _ (by rw[e];decide)⟩
       .have e:E=0:=by rw[l,Qe (by rw[r];simp),Qe k]
        have f:(((Jy L N x.parent).length:Int)==16)=false:=ξ;simp only[go_sem,Qa,f];apply Qw a ut;simp only[go_sem,Qa,ht,hm,i,j];rw[Qf e];exact⟨by rw[e],WE.QV h t m c T ht hm x _⟩
    .apply Qw a ol;simp only[go_sem,Qa,ht,hm,i,j,n,s,Xx p,bne,hz];have l:E=(if 1<Q4 x.ls/\Yc L x.parent=false then 29 else if (Jy L N x.parent).length=16 then 25 else 0):=by rw[u,Qe (by simp[o,hz])]
     apply YC a kU (kX x);apply QC a;cases q:decide (1<Q4 x.ls)
     .simp only[go_sem,Qa,Go.undef];apply ZA a Mz (MK _ t m c T (W5 ht) (W5 hm) x.parent N v B);apply QC a;by_cases k:(Jy L N x.parent).length=16
      .have e:E=25:=by rw[l,Qe (by simp at q;omega),Qf k]
       have f:(((Jy L N x.parent).length:Int)==16)=true:=ξ;simp only[go_sem,Qa,f];exact⟨by rw[e],b _ (by rw[e];decide)⟩
      .have e:E=0:=by rw[l,Qe (by simp at q;omega),Qe k]
       have f:(((Jy L N x.parent).length:Int)==16)=false:=ξ;simp only[go_sem,Qa,f];apply Qw a ut;simp only[go_sem,Qa,ht,hm,i,j];rw[Qf e];exact⟨by rw[e],WE.QV h t m c T ht hm x _⟩
     .simp only[go_sem,Qa,Go.undef];apply ZA a aW (bA _ t m c T (W5 ht) (W5 hm) x.parent);apply QC a;cases r:Yc L x.parent
      .have e:E=29:=by rw[l,Qf ⟨by simpa using q,r⟩]
       simp only[go_sem,Qa,Go.undef];exact⟨by rw[e],b _ (by rw[e];decide)⟩
      .simp only[go_sem,Qa,Go.undef];apply ZA a Mz (MK _ t m c T (W5 ht) (W5 hm) x.parent N v B);apply QC a;by_cases k:(Jy L N x.parent).length=16
       .have e:E=25:=by rw[l,Qe (by rw[r];simp),Qf k]
        have f:(((Jy L N x.parent).length:Int)==16)=true:=ξ;simp only[go_sem,Qa,f];exact⟨by rw[e],b _ (by rw[e];decide)⟩
       .have e:E=0:=by rw[l,Qe (by rw[r];simp),Qe k]
        have f:(((Jy L N x.parent).length:Int)==16)=false:=ξ;simp only[go_sem,Qa,f];apply Qw a ut;simp only[go_sem,Qa,ht,hm,i,j];rw[Qf e];exact⟨by rw[e],WE.QV h t m c T ht hm x _⟩
end
def Ba(L:List Qt)(a:Int):Int:=if (Qz L a).isNone then 6 else if WD L a≠[] then 23 else 0
section
variable (h:List Ob)(t m c:Nat){es:List Zy}{L:List Qt}(T:Vk es L)(hlen:L.length<1000000)
 (ht:h[t]? = some ⟨.one,0,1,1,λ_=>[.mref m 0]⟩) (hm:h[m]? = some (QM .i64 c es))
include T ht hm hlen
omit hlen T in
theorem WE.put{b}{a}{e}(k:Vk a e)(g):WE h t m e (h.set m (QM .i64 b a)++g):=by
 have d:=Qc hm;have i:=Qc ht;have n:m≠t:=by rintro rfl;rw[ht]at hm;cases hm
 refine⟨⟨b,a,?_,?_,k⟩,σ,λl f j=>?_⟩
 .rw[QG (by simpa using i),Qm n];exact ht
 .rw[QG (by simpa using d),Qv d]
 .rw[QG (by simpa using f),Qm (Q1 j)]
theorem Qqb(a):QI prog 118 h [.ptr t 0 0 0,Qb a] (λd z=>d=Qb (Ba L a)/\WE h t m (if Ba L a=0 then W4 L a else L) z):=by
 have l:=T.look a;have b:=Qc ht;have f:=Qc hm;obtain⟨E,p⟩:∃E,E=Ba L a:=⟨_,rfl⟩;rw[<- p];have j:∀g:List Ob,E≠0->WE h t m (if E=0 then W4 L a else L) (h++g):=λg B=>by rw[Qe B];exact WE.same h t m c ht hm T g
 cases n:Qz L a with
 | none=>
  have e:E=6:=by rw[p,Ba,Qf (by simp[n])]
  rw[n,YW]at l;refine QZ func118 ntmps118 results118 λk w v o=>?_;have b:=Qc ht;have f:=Qc hm;simp only[go_sem,Qa,ht,b,hm,f,l];exact⟨by rw[e],j _ (by rw[e];decide)⟩
 | some x=>
  rw[n,Kx]at l;have r:E=if WD L a≠[] then 23 else 0:=by rw[p,Ba,Qe (by simp[n])]
  refine QZ func118 ntmps118 results118 λk w v o=>?_;have b:=Qc ht;have f:=Qc hm;simp only[go_sem,Qa,ht,b,hm,f,l];refine AW o iS rfl ?_ (lW _ t m c T hlen (W5 ht) (W5 hm) a) rfl λd g y=>?_
  .simp only[go_sem]
  rcases y with ⟨rfl,i⟩|⟨H,J,F,C,rfl,K,q,I⟩
  .have e:E=0:=by rw[r,Qe (by simp[i])]
   apply Qg o;simp only[go_sem,Qa,ht,hm,b,f];rw[Qf e];exact⟨by rw[e],WE.put h t m c ht hm (QcT T a) _⟩
  .have u:=Qc q;apply Qg o;by_cases i:WD L a=[]
   .have e:E=0:=by rw[r,Qe (by simp[i])]
    simp only[go_sem,Qa,ht,hm,b,f,q,u,i];rw[Qf e];exact⟨by rw[e],WE.put h t m c ht hm (QcT T a) _⟩
   .have e:E=23:=by rw[r,Qf i]
    have M:0<(WD L a).length:=List.length_pos_iff.2 i;have s:(0:Int)<((WD L a).length:Int):=ω;simp only[go_sem,Qa,ht,hm,b,f,q,u,s,Q3 s];exact⟨by rw[e],j _ (by rw[e];decide)⟩
end
def bE(h:List Ob):(h.map Ob.ro).map Ob.ro=h.map Ob.ro:=by rw[E7];exact Tq λo _=>ro_ro o
def Qc3(F:List Ob)(f a:Nat)(b:List D)(g:Int->Bool):Prop:=∀(h:List Ob) (n:Int),KN F h->QR prog f h (ZS a b [Qb n]) (λd=>d=QT (g n))
def wx(g:Int->Bool)(l:List Int):Int:=match l.findIdx? g with
 | some i=>i
 | none=>-1
def lX{g}{l:List Int}{k}(a:k<l.length)(h:∀i,i<k->g (l.getD i 0)=false)(c:g (l.getD k 0)=true):wx g l=k:=by
 have e:l.findIdx? g=some k:=by
  rw[E0];refine⟨a,by simpa[Q5,a] using c,λi b=>?_⟩;have:=h i b;simpa[Q5,show i<l.length by omega] using this
 rw[wx,e]
def lY{g}{l:List Int}(h:∀i,i<l.length->g (l.getD i 0)=false):wx g l=-1:=by
 have e:l.findIdx? g=none:=by
  rw[GX];intro x hx;obtain⟨i,a,rfl⟩:=yh hx;have:=h i a;simpa[Q5,a] using this
 rw[wx,e]
section
variable (h:List Ob)(l:List Int)(lo gn off:Nat)(row:Nat->List D)(hlen:l.length<1000000)(ho:(h.map Ob.ro)[lo]? = some ⟨.vO,gn,1,off+l.length,row⟩)(hr:∀i,i<l.length->row (off+i)=[Qb (l.getD i 0)])
include hlen ho hr
theorem Qqc(e:D)(f n:Nat)(r:List D)(y:Qk prog f)(E:Jo e=some (f,n,r))(c:Int->Bool)(x:Qc3 (h.map Ob.ro) f n r c):
  QR prog 89 h [.ref lo gn off l.length,e] (λd=>d=Qb (wx c l)):=by
 refine Zk func89 ntmps89 results89 λt w H F q I b=>?_;rw[<- q]at ho;have j:=Qc ho;simp only[go_sem,Qa,ho,j];refine Z4 (λk s=>(∀i,i<k->c (l.getD i 0)=false)/\s=⟨[(0,.ref lo gn off l.length),(1,e),(7,Qb l.length),(8,Qb k)],F⟩) l.length QN ⟨λi p=>absurd p ω,rfl⟩ ?_;rintro k s o ⟨g,rfl⟩;apply QC b;have j:=Qc ho;have C:=KJ (show k<4611686018427387904 from ω);first|refine jL o (λa=>?_) (λa=>?_)|refine jM o (λa=>?_) (λa=>?_)
 .have v:=hr k a;have u:off+k<off+l.length:=ω;simp only[go_sem,Qa,ho,j,a,v,u];refine Xj b y E ?_ (x F (l.getD k 0) (by rw[<- q];exact KN.refl F)) rfl λd2 z=>?_
  .simp only[go_sem];exact Cd _
  subst z;apply Qg b;cases m:c (l.getD k 0)
  .simp only[go_sem,Qa];refine⟨a,_,QF.frame (by simp only[go_sem,C]),λi p=>?_,rfl⟩;by_cases B:i<k
   .exact g i B
   .have:i=k:=ω;subst this;exact m
  .rw[lX a g m];simp only[go_sem,Qa];exact⟨[],(Jl F).symm⟩
 .have a:k=l.length:=ω;subst a;simp only[go_sem,G4];rw[lY g];apply QC b;exact⟨[],(Jl F).symm⟩
theorem Qqd(a:D)(f b:Nat)(e:List D)(o:Qk prog f)(r:Jo a=some (f,b,e))(c:Int->Bool)(m:Qc3 (h.map Ob.ro) f b e c):
  QR prog 55 h [.ref lo gn off l.length,a] (λd=>d=QT (decide (0<=wx c l))):=by
 refine Zk func55 ntmps55 results55 λk w t F j u g=>?_;rw[<- j]at ho;have s:=Qc ho;simp only[go_sem,Qa,ho,s];refine Xj g PN rfl ?_ (Qqc F l lo gn off row hlen (ZG ho) hr a f b e o r c (λq n hx=>?_)) rfl λd2 p=>?_
 .simp only[go_sem];exact Cc a
 .rw[j,bE]at hx;exact m q n hx
 subst p;apply QC g;exact⟨[],(Jl F).symm⟩
end
def Qc4(h)(c):QR prog 89 h [.nil,c] (λd=>d=Qb (-1)):=by
 refine Zk func89 ntmps89 results89 λb w e F g i a=>?_;simp only[go_sem,Qa];refine Z4 (λk s=>s=⟨[(7,Qb 0),(8,Qb 0)],F⟩) 0 QN rfl ?_;rintro k s f rfl;apply QC a;apply QC a;exact⟨[],(Jl F).symm⟩
def Qqe(h)(a):QR prog 55 h [.nil,a] (λd=>d=QT false):=by
 refine Zk func55 ntmps55 results55 λc w f F g i b=>?_;simp only[go_sem,Qa];refine Xj b PN rfl ?_ (Qc4 F a) rfl λd2 e=>?_
 .simp only[go_sem];exact Cc a
 subst e;apply QC b;exact⟨[],(Jl F).symm⟩
def PX(g)(l:List Int):decide (0<=wx g l)=l.any g:=by
 unfold wx;cases h:l.findIdx? g with
 | some i=>
  have:=E0.1 h;obtain⟨b,a,_⟩:=this;have e:l.any g=true:=EY.2 ⟨_,XK b,a⟩;rw[e];simp
 | none=>
  have:=GX.1 h;have e:l.any g=false:=by rw[List.any_eq_false];intro x hx;simp[this x hx]
  rw[e];decide
def wz(L:List Qt)(a:Int):Bool:=decide (1<Q4 ((Qz L a).getD default).ls)
def Bb(L:List Qt)(x:Qt):Int:=
 if Vd x≠0 then Vd x
 else if (Qz L x.iD).isNone then 6
 else if x.parent≠((Qz L x.iD).getD default).parent\/x.leaf≠((Qz L x.iD).getD default).leaf then 1
 else if (1<Q4 x.ls/\Yc L x.parent=false)\/(¬ 1<Q4 x.ls/\(WD L x.iD).any (wz L)=true) then 29
 else 0
section
variable (h:List Ob)(t m c tb:Nat){es:List Zy}{L:List Qt}(T:Vk es L)
 (ht:(h.map Ob.ro)[t]? = some ⟨.Wy,0,1,1,λ_=>[.mref m 0]⟩) (hm:(h.map Ob.ro)[m]? = some (QM .i64 c es).ro)
 (Zp:(h.map Ob.ro)[tb]? = some ⟨.Wy,0,1,1,λ_=>[.ptr t 0 0 0]⟩)
include T ht hm Zp
theorem Qqf(e):QR prog 154 h [Qb e,.ptr tb 0 0 0] (λd=>d=QT (wz L e)):=by
 have f:=T.look e;unfold wz;cases l:Qz L e with
 | none=>
  rw[l,YW]at f;refine Zk func154 ntmps154 results154 λb w n F i o a=>?_;rw[<- i]at ht hm Zp;have j:=Qc ht;have k:=Qc hm;have g:=Qc Zp;simp only[go_sem,Qa,ht,j,hm,k,Zp,g,f];apply YC a kU (kX ⟨0,0,false,⟨0,0,0⟩,⟨0,0,0⟩,⟨0,0,0⟩,0,0⟩);apply QC a;exact⟨[],(Jl F).symm,rfl⟩
 | some x=>
  rw[l,Kx]at f;refine Zk func154 ntmps154 results154 λb w n F i o a=>?_;rw[<- i]at ht hm Zp;have j:=Qc ht;have k:=Qc hm;have g:=Qc Zp;simp only[go_sem,Qa,ht,j,hm,k,Zp,g,f];apply YC a kU (kX x);apply QC a;exact⟨[],σ⟩
end
section
variable (h:List Ob)(t m c:Nat){es:List Zy}{L:List Qt}(T:Vk es L)(hlen:L.length<1000000)
 (ht:h[t]? = some ⟨.one,0,1,1,λ_=>[.mref m 0]⟩) (hm:h[m]? = some (QM .i64 c es))
include T ht hm hlen
theorem Qqg(x):QI prog 116 h [.ptr t 0 0 0,Xz x] (λd B=>d=Qb (Bb L x)/\WE h t m (if Bb L x=0 then V5 L x else L) B):=by
 have k:=T.look x.iD;have f:=Qc ht;have i:=Qc hm;obtain⟨E,u⟩:∃E,E=Bb L x:=⟨_,rfl⟩;rw[<- u];have b:∀g:List Ob,E≠0->WE h t m (if E=0 then V5 L x else L) (h++g):=λg S=>by rw[Qe S];exact WE.same h t m c ht hm T g
 refine QZ func116 ntmps116 results116 λM w V a=>?_;have f:=Qc ht;have i:=Qc hm;simp only[go_sem,Qa,ht,f,hm,i];apply YC a Qce (QcP x);apply QC a;by_cases l:Vd x=0;case neg=>
  have e:E=Vd x:=by rw[u,Bb,Qf l]
  simp only[go_sem,Qa,Xx l,bne];exact⟨by rw[e],b _ (by rw[e];exact l)⟩
 simp only[go_sem,Qa,qa l,bne];cases s:Qz L x.iD with
 | none=>
  have e:E=6:=by rw[u,Bb,Qe (by simpa using l),Qf (by simp[s])]
  rw[s,YW]at k;apply Qw a ol;simp only[go_sem,Qa,ht,hm,f,i,k];exact⟨by rw[e],b _ (by rw[e];decide)⟩
 | some y=>
  rw[s,Kx]at k;have j:E=(if x.parent≠y.parent\/x.leaf≠y.leaf then 1 else if (1<Q4 x.ls/\Yc L x.parent=false)\/(¬ 1<Q4 x.ls/\(WD L x.iD).any (wz L)=true) then 29 else 0):=by
   rw[u,Bb,Qe (by simpa using l),Qe (by simp[s]),s];rfl
  by_cases r:x.parent=y.parent;case neg=>
   have e:E=1:=by rw[j,Qf (.inl r)]
   apply Qw a ol;simp only[go_sem,Qa,ht,hm,f,i,k,Xx r,bne];exact⟨by rw[e],b _ (by rw[e];decide)⟩
  by_cases v:x.leaf=y.leaf;case neg=>
   have e:E=1:=by rw[j,Qf (.inr v)]
   have C:(x.leaf==y.leaf)=false:=by simpa using v
   apply Qw a ol;simp only[go_sem,Qa,ht,hm,f,i,k,qa r,bne,C];exact⟨by rw[e],b _ (by rw[e];decide)⟩
  have C:(x.leaf==y.leaf)=true:=by simpa using v
  rw[Qe (by simp[r,v])]at j;apply Qw a ol;simp only[go_sem,Qa,ht,hm,f,i,k,qa r,bne,C];apply YC a kU (kX x);apply QC a;cases p:decide (1<Q4 x.ls)
  .have q:¬ 1<Q4 x.ls:=by simpa using p
   simp only[go_sem,Qa,Go.undef];refine Jk a kU ?_ (kX x) ?_
   .simp only[go_sem,Qa,p,Go.undef]
   apply Qg a;simp only[go_sem,Qa,p,Go.undef];refine AW a iS rfl ?_ (lW _ t m c T hlen (W5 ht) (W5 hm) x.iD) rfl λd g O=>?_
   .simp only[go_sem]
   rcases O with ⟨rfl,U⟩|⟨N,Q,H,F,rfl,W,I,P⟩
   .have e:E=0:=by rw[j,Qe (by rintro (⟨z,_⟩|⟨_,z⟩);exact q z;rw[U]at z;simp at z)]
    apply Qg a;simp only[go_sem,Qa,ht,hm,f,i];apply ZA a PM (Qqe _ (.clo 154 0 [.ptr h.length 0 0 0]));apply Qg a;simp only[go_sem,Qa,Go.undef];apply Qw a ut;simp only[go_sem,Qa,ht,hm,f,i];rw[Qf e];exact⟨by rw[e],WE.QV h t m c T ht hm x _⟩
   .apply Qg a;have R:(WD L x.iD).length<1000000:=by
     have:=YU (λy:Qt=>y.parent==x.iD) L;unfold WD;rw[JV];omega
    rw[Wx]at I;simp only[go_sem,Qa,ht,hm,f,i];refine VP a PM ?_ (Qqd _ (WD L x.iD) N Q H F R (ZG I) P (.clo 154 0 [.ptr h.length 0 0 0]) 154 0 [.ptr h.length 0 0 0] QoO rfl (wz L) (λB n hx=>Qqf B t m c h.length T (ZG (hx.get (W5 ht))) (HW (hx.get (W5 hm))) (ZG (hx.get (ZG (o:=⟨.one,0,1,1,λ_=>[.ptr t 0 0 0]⟩) (by rw[JZ rfl];rfl)))) n)) ?_
    .simp only[go_sem,Qa,Go.undef,PX]
    apply Qg a;simp only[go_sem,Qa,Go.undef,PX];cases K:(WD L x.iD).any (wz L)
    .have e:E=0:=by rw[j,Qe (by rw[K];simp[q])]
     simp only[go_sem,Qa,Go.undef];apply Qw a ut;simp only[go_sem,Qa,ht,hm,f,i];rw[Qf e];exact⟨by rw[e],WE.QV h t m c T ht hm x _⟩
    .have e:E=29:=by rw[j,Qf (.inr ⟨q,K⟩)]
     simp only[go_sem,Qa,Go.undef];exact⟨by rw[e],b _ (by rw[e];decide)⟩
  .have q:1<Q4 x.ls:=by simpa using p
   simp only[go_sem,Qa,Go.undef];apply ZA a aW (bA _ t m c T (W5 ht) (W5 hm) x.parent);apply QC a;cases J:Yc L x.parent
   .have e:E=29:=by rw[j,Qf (.inl ⟨q,J⟩)]
    simp only[go_sem,Qa,Go.undef];exact⟨by rw[e],b _ (by rw[e];decide)⟩
   .have e:E=0:=by rw[j,Qe (by rw[J];simp[q])]
    simp only[go_sem,Qa,Go.undef];refine Jk a kU ?_ (kX x) ?_
    .simp only[go_sem,Qa,p,Go.undef]
    apply Qg a;simp only[go_sem,Qa,p,Go.undef];apply Qw a ut;simp only[go_sem,Qa,ht,hm,f,i];rw[Qf e];exact⟨by rw[e],WE.QV h t m c T ht hm x _⟩
end
def yN{L}(h:WB L)(x:Qt)(k):Qz (V5 L x) k=if k=x.iD then some x else Qz L k:=by
 have i:=MJ x h;have d:=λc=>(HU x h).mem_iff (a:=c);by_cases b:k=x.iD
 .rw[Qf b];exact(WC i).2 ⟨(d x).2 σ,b.symm⟩
 .rw[Qe b];cases f:Qz L k with
  | some c=>
   obtain⟨l,j⟩:=(WC h).1 f;exact(WC i).2 ⟨(d c).2 (QE.2 (.inr (JO.2 ⟨l,ξ⟩))),j⟩
  | none=>
   rw[FZ]at f ⊢;intro c g;rcases QE.1 ((d c).1 g) with rfl|g
   .exact λe=>b e.symm
   .exact f c (JO.1 g).1
def PY{L}(h:WB L)(a k):Qz (W4 L a) k=if k=a then none else Qz L k:=by
 have f:=lP a h;by_cases e:k=a
 .rw[Qf e,FZ];intro c d;have:=(JO.1 d).2;simp at this;omega
 .rw[Qe e];cases b:Qz L k with
  | some c=>
   obtain⟨i,g⟩:=(WC h).1 b;exact(WC f).2 ⟨JO.2 ⟨i,ξ⟩,g⟩
  | none=>
   rw[FZ]at b ⊢;exact λc d=>b c (JO.1 d).1
def Ends.succ{L}:∀{n:Nat} {id:Int},Ends L n id->Ends L (n+1) id
 | 0,id,h=>by simp only[Ends]at h ⊢;rw[h];trivial
 | n+1,id,h=>by
  rw[Ends]at h ⊢;cases a:Qz L id with
  | none=>trivial
  | some c=>rw[a]at h;exact Ends.succ h
def Ends.le{L}{n k}{a}(h:Ends L n a)(c:n<=k):Ends L k a:=by
 induction c with
 | refl=>exact h
 | step _ b=>exact b.succ
def Qc5{L}:∀{n:Nat} {id:Int},Ends L n id->Jy L (n+1) id=Jy L n id
 | 0,id,h=>by simp only[Ends]at h;simp only[Jy,h]
 | n+1,id,h=>by
  rw[Ends]at h;rw[Jy]
  conv=>rhs;rw[Jy]
  cases a:Qz L id with
  | none=>rfl
  | some c=>rw[a]at h;simp only[Qc5 h]
def Bc{L}:∀{n:Nat} {id:Int},(Jy L n id).length<=n
 | 0,_=>QB _
 | n+1,id=>by
  rw[Jy];cases Qz L id with
  | none=>exact KF _
  | some c=>have:=Bc (L:=L) (n:=n) (id:=c.parent);simp only[VK];omega
def Ends.short{L}:∀{n k:Nat} {id:Int},Ends L n id->(Jy L n id).length<=k->Ends L k id
 | 0,k,id,h,_=>h.le (KF _)
 | n+1,k,id,h,b=>by
  rw[Ends]at h;rw[Jy]at b;cases a:Qz L id with
  | none=>cases k with
   | zero=>exact a
   | succ k=>rw[Ends,a];trivial
  | some c=>
   rw[a]at h b;simp only[VK]at b;cases k with
   | zero=>omega
   | succ k=>rw[Ends,a];exact Ends.short h ω
structure TreeInv (L:List Qt):Prop where
 rising:WB L
 ids:∀c∈L,1<=c.iD
 par:∀c∈L,c.parent=0\/(Qz L c.parent).isSome=true
 ends:∀id,Ends L 16 id
def TreeInv.nil:TreeInv []:=⟨by simp[WB],σ,σ,λid=>by simp[Ends,Qz]⟩
def right_id{x:Qt}(h:Vd x=0):1<=x.iD/\x.iD<=65536/\x.parent≠x.iD:=by
 have a:DW x=true:=by
  cases b:DW x with
  | true=>rfl
  | false=>rw[Vd,b]at h;simp at h
 simp[DW,yM]at a;exact⟨a.1.1.1,a.1.1.2,a.2⟩
def bF{L}(h:WB L)(x){k:Int}(a:(Qz L k).isSome=true):(Qz (V5 L x) k).isSome=true:=by
 rw[yN h];split
 .rfl
 .exact a
def yO{L}(h:WB L)(x){c}(a:c∈V5 L x):c=x\/c∈L:=by
 rcases QE.1 ((HU x h).mem_iff.1 a) with h1|h1
 .exact .inl h1
 .exact .inr (JO.1 h1).1
def TreeInv.add{L}(I:TreeInv L){x:Qt}(m:Vd x=0)(l:Qz L x.iD=none)(k:x.parent=0\/(Qz L x.parent).isSome=true)(o:(Jy L 16 x.parent).length≠16):TreeInv (V5 L x):=by
 obtain⟨j,_,i⟩:=right_id m;have d:∀n id,id≠x.iD->Ends L n id->Ends (V5 L x) n id:=by
  intro n;induction n with
  | zero=>intro id b h;rw[Ends]at h ⊢;rw[yN I.rising,Qe b];exact h
  | succ n g=>
   intro id b h;rw[Ends]at h ⊢;rw[yN I.rising,Qe b];cases f:Qz L id with
   | none=>trivial
   | some c=>
    rw[f]at h;refine g _ ?_ h;rcases I.par c ((WC I.rising).1 f).1 with hp|hp
    .rw[hp];omega
    .intro e;rw[e,l]at hp;cases hp
 refine⟨MJ x I.rising,λc a=>?_,λc a=>?_,λid=>?_⟩
 .rcases yO I.rising x a with rfl|a
  .exact j
  .exact I.ids c a
 .rcases yO I.rising x a with rfl|a
  .exact k.imp id λh=>bF I.rising c h
  .exact(I.par c a).imp id λh=>bF I.rising x h
 .by_cases b:id=x.iD
  .subst b;rw[Ends,yN I.rising,Qf rfl];refine d 15 _ i ((I.ends x.parent).short ?_);have:=Bc (L:=L) (n:=16) (id:=x.parent);omega
  .exact d 16 id b (I.ends id)
def TreeInv.del{L}(I:TreeInv L){a}(h:WD L a=[]):TreeInv (W4 L a):=by
 have m:∀c∈L,c.parent≠a:=λc b e=>by
  have:c∈L.filter (λy=>y.parent==a):=JO.2 ⟨b,by simp[e]⟩;have l:(L.filter λy=>y.parent==a)=[]:=by simpa[WD] using h
  rw[l]at this;simp at this
 refine⟨lP a I.rising,λc b=>I.ids c (JO.1 b).1,λc b=>?_,λid=>?_⟩
 .have f:=(JO.1 b).1;exact(I.par c f).imp id λj=>by rw[PY I.rising,Qe (m c f)];exact j
 .have d:∀n id,Ends L n id->Ends (W4 L a) n id:=by
   intro n;induction n with
   | zero=>intro id h;rw[Ends]at h ⊢;rw[PY I.rising];split<;>simp[h]
   | succ n i=>
    intro id h;rw[Ends]at h ⊢;rw[PY I.rising];by_cases g:id=a
    .rw[Qf g];trivial
    .rw[Qe g];cases k:Qz L id with
     | none=>trivial
     | some c=>rw[k]at h;exact i _ h
  exact d 16 id (I.ends id)
def TreeInv.set{L}(I:TreeInv L){x y:Qt}(k:Vd x=0)(d:Qz L x.iD=some y)(g:x.parent=y.parent):TreeInv (V5 L x):=by
 obtain⟨i,_,l⟩:=right_id k;have e:∀n id,Ends L n id->Ends (V5 L x) n id:=by
  intro n;induction n with
  | zero=>
   intro id h;rw[Ends]at h ⊢;rw[yN I.rising];by_cases b:id=x.iD
   .subst b;rw[d]at h;cases h
   .rw[Qe b];exact h
  | succ n f=>
   intro id h;rw[Ends]at h ⊢;rw[yN I.rising];by_cases b:id=x.iD
   .subst b;rw[Qf rfl];rw[d]at h;show Ends (V5 L x) n x.parent;rw[g];exact f _ h
   .rw[Qe b];cases j:Qz L id with
    | none=>trivial
    | some c=>rw[j]at h;exact f _ h
 refine⟨MJ x I.rising,λc a=>?_,λc a=>?_,λid=>e 16 id (I.ends id)⟩
 .rcases yO I.rising x a with rfl|a
  .exact i
  .exact I.ids c a
 .rcases yO I.rising x a with rfl|a
  .rw[g];exact(I.par y ((WC I.rising).1 d).1).imp id λh=>bF I.rising c h
  .exact(I.par c a).imp id λh=>bF I.rising x h
def up(T:List Qt)(id:Int):List Int:=Jy T 16 id
structure Ve (T:List Qt):Prop extends TreeInv T where
 right:∀c∈T,Vd c=0
 Y8:∀c∈T,c.parent≠0->∃d,Qz T c.parent=some d/\d.leaf=false
 bG:∀c∈T,1<Q4 c.ls->c.parent≠0->wz T c.parent=true
 len:T.length<=64
section
variable {T:List Qt}(I:Ve T)
include I
theorem lZ(a):up T a=match Qz T a with|none=>[]|some c=>a::up T c.parent:=by
 have b:=Qc5 (I.ends a);unfold up;rw[<- b,Jy];all_goals (cases Qz T a<;>rfl)
theorem Vl{a}{c:Qt}(h:Qz T a=some c):up T a=a::up T c.parent:=by rw[lZ I,h]
theorem PZ{a}(h:Qz T a=none):up T a=[]:=by rw[lZ I,h]
theorem Qqh{a}{c:Qt}(h:Qz T a=some c):c.iD=a:=((WC I.rising).1 h).2
theorem xH{a}{c}(h:Qz T a=some c):c∈T:=((WC I.rising).1 h).1
theorem Ea:Qz T 0=none:=FZ.2 λc a e=>by have:=I.ids c a;omega
theorem HZ:up T 0=[]:=PZ I (Ea I)
omit I in
theorem F3{a j:Int}(h:j∈up T a):(Qz T j).isSome=true:=by
 have:∀n a,j∈Jy T n a->(Qz T j).isSome=true:=by
  intro n;induction n with
  | zero=>intro a h;cases h
  | succ n d=>
   intro a h;rw[Jy]at h;cases b:Qz T a with
   | none=>rw[b]at h;cases h
   | some c=>
    rw[b]at h;rcases QE.1 h with rfl|h
    .rw[b];rfl
    .exact d _ h
 exact this 16 a h
theorem P0{a p}(h:p∈up T a):∃l,up T a=l++up T p:=by
 generalize b:(up T a).length=n;induction n using Nat.strongRecOn generalizing a with
 | ind n f=>
  cases d:Qz T a with
  | none=>rw[PZ I d]at h;cases h
  | some c=>
   have e:=Vl I d;rw[e]at h b;rcases QE.1 h with rfl|h
   .exact⟨[],rfl⟩
   .obtain⟨l,g⟩:=f _ (by simp only[VK]at b;omega) h rfl;exact⟨a::l,by rw[e,g];rfl⟩
theorem up_sub{a p q}(h:p∈up T a)(b:q∈up T p):q∈up T a:=by
 obtain⟨l,e⟩:=P0 I h;rw[e];exact Lq _ b
theorem XA{a}{c}(h:Qz T a=some c):a∈up T a:=by rw[Vl I h];simp
theorem P1(a:Int):(up T a).Nodup:=by
 generalize b:(up T a).length=n;induction n using Nat.strongRecOn generalizing a with
 | ind n f=>
  cases d:Qz T a with
  | none=>rw[PZ I d];simp
  | some c=>
   have e:=Vl I d;rw[e]at b ⊢;rw[ZN];refine⟨λh=>?_,f _ (by simp only[VK]at b;omega) _ rfl⟩;obtain⟨l,g⟩:=P0 I h;have:=congrArg List.length g;rw[e]at this;simp only[JJ,VK]at this;omega
theorem bH{a p}(h:p∈up T a)(m:a≠p):∃i c,i∈up T a/\Qz T i=some c/\c.parent=p:=by
 generalize f:(up T a).length=n;induction n using Nat.strongRecOn generalizing a with
 | ind n j=>
  cases b:Qz T a with
  | none=>rw[PZ I b]at h;cases h
  | some c=>
   have e:=Vl I b;rw[e]at h f;rcases QE.1 h with rfl|h
   .exact absurd rfl m
   .by_cases g:c.parent=p
    .exact⟨a,c,by rw[e];simp,b,g⟩
    .obtain⟨i,d,l,k⟩:=j _ (by simp only[VK]at f;omega) h g rfl;exact⟨i,d,by rw[e];simp[l],k⟩
theorem Qqi{a i j}{c d:Qt}(o:i∈up T a)(n:j∈up T a)(g:Qz T i=some c)(f:Qz T j=some d)(e:c.parent=d.parent):i=j:=by
 obtain⟨l,k⟩:=P0 I o;obtain⟨m,h⟩:=P0 I n;have s:=congrArg List.length (Vl I g);have r:=congrArg List.length (Vl I f);have q:(up T i).length=(up T j).length:=by rw[s,r,e];rfl
 have p:=k.symm.trans h;obtain⟨_,b⟩:=List.append_inj' p q;rw[Vl I g,Vl I f]at b;exact(vG b).1
def Z2(T:List Qt)(A:List Int)(b:Int):Bool:=A.any λa=>(up T a).contains b
omit I in
theorem qd{A}{b}:Z2 T A b=true↔∃a∈A,b∈up T a:=by simp[Z2]
def qJ(T:List Qt)(A:List Int)(p i:Int):Bool:=(match Qz T i with|some c=>c.parent==p|none=>false)&&Z2 T A i
omit I in
theorem wB{A}{p i}:qJ T A p i=true↔∃c,Qz T i=some c/\c.parent=p/\Z2 T A i=true:=by
 unfold qJ;cases Qz T i with
 | none=>simp
 | some c=>simp
def xI(T:List Qt)(A:List Int):Prop:=∀a∈A,∃c,Qz T a=some c/\c.leaf=true/\1<Q4 c.ls
theorem H0{A}{i p}(h:Z2 T A i=true)(b:p∈up T i):Z2 T A p=true:=by
 obtain⟨a,d,c⟩:=qd.1 h;exact qd.2 ⟨a,d,up_sub I c b⟩
theorem Qc6{A}(n:xI T A){p}{d:Qt}(b:Qz T p=some d)(g:d.leaf=false):Z2 T A p=true↔∃i,qJ T A p i=true:=by
 constructor
 .intro h;obtain⟨a,j,l⟩:=qd.1 h;obtain⟨c,f,e,k⟩:=n a j;have t:a≠p:=by rintro rfl;rw[f]at b;cases b;rw[e]at g;cases g
  obtain⟨i,c,r,q,o⟩:=bH I l t;exact⟨i,wB.2 ⟨c,q,o,qd.2 ⟨a,j,r⟩⟩⟩
 .rintro⟨i,m⟩;obtain⟨c,f,e,k⟩:=wB.1 m;have s:p∈up T i:=by
   rw[Vl I f,e];exact Km _ (XA I b)
  exact H0 I k s
def W6(T:List Qt)(A:List Int)(a:Int):List Int:=(up T a).takeWhile λi=>!Z2 T A i
theorem Qc7{b}{c:Qt}(h:Qz T b=some c)(j:1<Q4 c.ls):∀i∈up T b,∃d,Qz T i=some d/\1<Q4 d.ls:=by
 generalize k:(up T b).length=n;induction n using Nat.strongRecOn generalizing b c with
 | ind n m=>
  have e:=Vl I h;rw[e]at k ⊢;intro i a;rcases QE.1 a with rfl|a
  .exact⟨c,h,j⟩
  .by_cases f:c.parent=0
   .rw[f,HZ I]at a;cases a
   .obtain⟨d,l,_⟩:=I.Y8 c (xH I h) f;have g:=I.bG c (xH I h) j f;unfold wz at g;rw[l]at g;exact m _ (by simp only[VK]at k;omega) l (by simpa using g) rfl i a
end
section
variable {T:List Qt}(I:Ve T)
def zX(T:List Qt)(A:List Int)(a:List Int)(p i:Int):Bool:=qJ T A p i || (a.contains i&&(match Qz T i with|some c=>c.parent==p|none=>false))
def jQ(T:List Qt)(A:List Int)(a:List Int)(p i:Int):Bool:=qJ T A p i&&!a.contains i
include I
theorem P2{A a}{p i}:zX T A a p i=true↔qJ T A p i=true\/(i∈a/\∃c,Qz T i=some c/\c.parent=p):=by
 unfold zX;cases Qz T i with
 | none=>simp
 | some c=>simp
theorem Qqj{a i}{l m}{c:Qt}(h:up T a=l++i::m)(p:Qz T i=some c):m=up T c.parent:=by
 have j:i∈up T a:=by rw[h];simp
 obtain⟨b,g⟩:=P0 I j;rw[Vl I p]at g;have d:=P1 I a;have e:=h.symm.trans g;have f:=d;rw[h]at d;rw[g]at f;have q:l=b:=by
  have n:∀x∈l,x≠i:=λx hx e=>by
   subst e;rw[JP]at d;exact d.2.2 x hx x σ rfl
  have k:∀x∈b,x≠i:=λx hx e=>by
   subst e;rw[JP]at f;exact f.2.2 x hx x σ rfl
  clear h g d f j;induction l generalizing b with
  | nil=>cases b with
   | nil=>rfl
   | cons y b=>simp only[q4,YT,EZ]at e;exact absurd e.1.symm (k y σ)
  | cons x l o=>cases b with
   | nil=>simp only[q4,YT,EZ]at e;exact absurd e.1 (n x σ)
   | cons y b=>
    simp only[YT,EZ]at e;rw[e.1,o b e.2 (λx hx=>n x (by simp[hx])) (λx hx=>k x (by simp[hx]))]
 subst q;have:=List.append_cancel_left e;exact(vG this).2
theorem Qqk{A}(r:xI T A){b e}{k}{c}(f:up T b=k++up T e)(j:Qz T e=some c)(q:∀i∈k++[e],Z2 T A i=false):
  (∃i,zX T A k c.parent i=true)↔∃i,qJ T A c.parent i=true:=by
 constructor
 .rintro⟨i,g⟩;rcases (P2 I).1 g with h|⟨m,d,o,n⟩
  .exact⟨i,h⟩
  .exfalso;have p:i=e:=Qqi I (a:=b) (by rw[f];simp[m]) (by rw[f];exact Lq _ (XA I j)) o j n;subst p;have l:=P1 I b;rw[f,JP]at l;exact l.2.2 i m i (XA I j) rfl
 .rintro⟨i,g⟩;exact⟨i,(P2 I).2 (.inl g)⟩
theorem Qql{A dn}{e}{c:Qt}(f:Qz T e=some c)(p i):zX T A (dn++[e]) p i=if p=c.parent/\i=e then true else zX T A dn p i:=by
 rw[vE,P2 I];split
 .rename_i h;obtain⟨rfl,rfl⟩:=h;simp[f]
 .rename_i h;rw[P2 I];constructor
  .rintro (h1|⟨h1,d,b,a⟩)
   .exact .inl h1
   .rcases QW.1 h1 with h1|h1
    .exact .inr ⟨h1,d,b,a⟩
    .simp only[qz]at h1;subst h1;rw[b]at f;cases f;exact absurd ⟨a.symm,rfl⟩ h
  .rintro (h1|⟨h1,d,b,a⟩)
   .exact .inl h1
   .exact .inr ⟨Ts _ h1,d,b,a⟩
omit I in
theorem Qqm(T)(A)(p i):zX T A [] p i=qJ T A p i:=by simp[zX]
theorem Qqn{A}(y:xI T A){a g}{k}{c:Qt}(r:up T a=k++up T g)(v:Qz T g=some c)(t:∀i∈k++[g],Z2 T A i=false)(he:c.parent=0\/Z2 T A c.parent=true):
  k++[g]=W6 T A a/\∀p i,zX T A (k++[g]) p i=qJ T (a::A) p i:=by
 have m:up T a=(k++[g])++up T c.parent:=by rw[r,Vl I v];simp
 have o:∀j∈up T c.parent,Z2 T A j=true:=λj n=>by
  rcases he with he|he
  .rw[he,HZ I]at n;cases n
  .exact H0 I he n
 refine⟨?_,λp i=>?_⟩
 .unfold W6;rw[m,List.takeWhile_append_of_pos (λi u=>by rw[t i u];rfl)];have:(up T c.parent).takeWhile (λi=>!Z2 T A i)=[]:=by
   cases s:up T c.parent with
   | nil=>rfl
   | cons x q=>rw[Tz,o x (by rw[s];simp)];rfl
  rw[this,Jl]
 .rw[vE,P2 I,wB (A:=a::A)];have l:∀j,Z2 T (a::A) j=true↔j∈up T a\/Z2 T A j=true:=λj=>by
   rw[qd,qd];simp
  constructor
  .rintro (h|⟨w,d,f,e⟩)
   .obtain⟨d,f,e,b⟩:=wB.1 h;exact⟨d,f,e,(l i).2 (.inr b)⟩
   .exact⟨d,f,e,(l i).2 (.inl (by rw[m];exact Ts _ w))⟩
  .rintro⟨d,f,e,b⟩;rcases (l i).1 b with b|b
   .rw[m]at b;rcases QW.1 b with b|b
    .exact .inr ⟨b,d,f,e⟩
    .exact .inl (wB.2 ⟨d,f,e,o i b⟩)
   .exact .inl (wB.2 ⟨d,f,e,b⟩)
end
def JY(A:List Int)(b:Int):List Int:=A.filter λa=>a != b
section
variable {T:List Qt}(I:Ve T)
def H4{A}{b}(e:b∈A)(j):Z2 T A j=true↔j∈up T b\/Z2 T (JY A b) j=true:=by
 rw[qd,qd];constructor
 .rintro⟨a,d,c⟩;by_cases h:a=b
  .subst h;exact .inl c
  .exact .inr ⟨a,JO.2 ⟨d,by simpa using h⟩,c⟩
 .rintro (h|⟨a,d,c⟩)
  .exact⟨b,e,h⟩
  .exact⟨a,(JO.1 d).1,c⟩
def xI.off{A}(h:xI T A)(b):xI T (JY A b):=λa c=>h a (JO.1 c).1
def MN{A a}{p i}:jQ T A a p i=true↔qJ T A p i=true/\i ∉ a:=by simp[jQ]
include I
theorem Qc8{A}(E:xI T A){b j}(t:b∈A){l}{c:Qt}(z:up T b=l++up T j)(u:Qz T j=some c)(B:∀i∈l++[j],Z2 T (JY A b) i=false)(H:c.parent≠0):
  (∃i,jQ T A (l++[j]) c.parent i=true)↔Z2 T (JY A b) c.parent=true:=by
 have x:up T b=(l++[j])++up T c.parent:=by rw[z,Vl I u];simp
 obtain⟨d,m,w⟩:=I.Y8 c (xH I u) H;constructor
 .rintro⟨i,C⟩;obtain⟨r,q⟩:=MN.1 C;obtain⟨e,p,k,o⟩:=wB.1 r;have J:c.parent∈up T i:=by rw[Vl I p,k];exact Km _ (XA I m)
  rcases (H4 t i).1 o with g|g
  .exfalso;rw[x]at g;rcases QW.1 g with g|g
   .exact q g
   .have s:=P1 I i;rw[Vl I p,k,ZN]at s;exact s.1 g
  .exact H0 I g J
 .intro h;obtain⟨a,v,y⟩:=qd.1 h;obtain⟨e,r,q,p⟩:=E.off b a v;have K:a≠c.parent:=by rintro rfl;rw[r]at m;cases m;rw[q]at w;cases w
  obtain⟨i,f,k,o,g⟩:=bH I y K;have n:Z2 T (JY A b) i=true:=qd.2 ⟨a,v,k⟩;refine⟨i,MN.2 ⟨wB.2 ⟨f,o,g,(H4 t i).2 (.inr n)⟩,λF=>?_⟩⟩;rw[B i F]at n;cases n
theorem Qqo{A}{a e}(s:a∈A){g}{c:Qt}(t:up T a=g++up T e)(w:Qz T e=some c)(r:∀i∈g++[e],Z2 T (JY A a) i=false)(he:c.parent=0\/Z2 T (JY A a) c.parent=true):
  g++[e]=W6 T (JY A a) a/\∀p i,jQ T A (g++[e]) p i=qJ T (JY A a) p i:=by
 have o:up T a=(g++[e])++up T c.parent:=by rw[t,Vl I w];simp
 have n:∀j∈up T c.parent,Z2 T (JY A a) j=true:=λj h=>by
  rcases he with he|he
  .rw[he,HZ I]at h;cases h
  .exact H0 I he h
 refine⟨?_,λp i=>?_⟩
 .unfold W6;rw[o,List.takeWhile_append_of_pos (λi v=>by rw[r i v];rfl)];have:(up T c.parent).takeWhile (λi=>!Z2 T (JY A a) i)=[]:=by
   cases u:up T c.parent with
   | nil=>rfl
   | cons x q=>rw[Tz,n x (by rw[u];simp)];rfl
  rw[this,Jl]
 .rw[vE,MN,wB,wB];constructor
  .rintro⟨⟨d,m,l,f⟩,k⟩;refine⟨d,m,l,?_⟩;rcases (H4 s i).1 f with b|b
   .rw[o]at b;rcases QW.1 b with b|b
    .exact absurd b k
    .exact n i b
   .exact b
  .rintro⟨d,m,l,f⟩;refine⟨⟨d,m,l,(H4 s i).2 (.inr f)⟩,λk=>?_⟩;rw[r i k]at f;cases f
end
@[go_sem] def u64(n:Nat):D:=.raw (.int .u64 n)
@[go_sem] theorem wl0:IntKind.i64.wrap 0=0:=π
@[go_sem] theorem wl1:IntKind.i64.wrap 1=1:=π
@[go_sem] theorem wl2:IntKind.i64.wrap 2=2:=π
@[go_sem] theorem wl3:IntKind.i64.wrap 3=3:=π
@[go_sem] theorem wl4:IntKind.i64.wrap 4=4:=π
def never:Nat:=9223372036854775808
attribute [go_sem] Go.undef
def H9(a b:Nat):IntKind.u64.wrap ((a:Int)+(b:Int))=(((a+b) % 18446744073709551616:Nat):Int):=η
def P3(a b:Nat):IntKind.u64.wrap ((a:Int)*(b:Int))=((a*b % 18446744073709551616:Nat):Int):=by rw[IntKind.wrap_u64,<- Th];omega
def l7(a b:Nat)(h:b<=18446744073709551616):IntKind.u64.wrap ((a:Int) - (b:Int))=(((a+18446744073709551616 - b) % 18446744073709551616:Nat):Int):=η
def bI(a b:Nat)(h:b<=a)(c:a<18446744073709551616):IntKind.u64.wrap ((a:Int) - (b:Int))=((a - b:Nat):Int):=η
def Qc9(a b:Nat)(h:a+b<18446744073709551616):IntKind.u64.wrap ((a:Int)+(b:Int))=((a+b:Nat):Int):=η
def Qqp(a b:Nat)(h:a*b<18446744073709551616):IntKind.u64.wrap ((a:Int)*(b:Int))=((a*b:Nat):Int):=by rw[P3,As h]
def Ia(a s:Nat):((a:Int).fdiv (2 ^ s))=((a / 2 ^ s:Nat):Int):=by
 have h:((2:Int) ^ s)=((2 ^ s:Nat):Int):=σ;rw[h,Int.fdiv_eq_ediv_of_nonneg _ (Int.natCast_nonneg _),Int.natCast_ediv]
def Qqq(a:Nat)(b:a<18446744073709551616):bits .and .u64 (a:Int) 4294967295=((a % 4294967296:Nat):Int):=by
 have:=u64_and_nat a 4294967295 b π;rw[show ((4294967295:Nat):Int)=4294967295 from rfl]at this;rw[this,show (4294967295:Nat)=2 ^ 32 - 1 from rfl,Nat.and_two_pow_sub_one_eq_mod]
def Qqr(x y:Nat)(b:x<4294967296)(a:y<4294967296):bits .or .u64 ((x*4294967296:Nat):Int) (y:Int)=((x*4294967296+y:Nat):Int):=by
 rw[u64_or_nat _ _ ω ω,nat_join 32 _ _ (by rw[show (2:Nat) ^ 32=4294967296 from rfl];omega) (by simpa using a)]
def MO(a)(b:a<18446744073709551616):a / 9223372036854775808=0\/a / 9223372036854775808=1:=ω
def bJ(a b)(d:a<18446744073709551616)(c:b<18446744073709551616):(a &&& b) / 9223372036854775808=(a / 9223372036854775808) &&& (b / 9223372036854775808):=by
 rw[show (9223372036854775808:Nat)=2 ^ 63 from rfl,<- Dh,Nat.shiftRight_and_distrib,Dh,Dh]
def l9(a b)(d:a<18446744073709551616)(c:b<18446744073709551616):(a ||| b) / 9223372036854775808=(a / 9223372036854775808) ||| (b / 9223372036854775808):=by
 rw[show (9223372036854775808:Nat)=2 ^ 63 from rfl,<- Dh,Nat.shiftRight_or_distrib,Dh,Dh]
def mg(a b)(d:a<18446744073709551616)(c:b<18446744073709551616):(a ^^^ b) / 9223372036854775808=(a / 9223372036854775808) ^^^ (b / 9223372036854775808):=by
 rw[show (9223372036854775808:Nat)=2 ^ 63 from rfl,<- Dh,Nat.shiftRight_xor_distrib,Dh,Dh]
def Qqs(a b c x y z u v)(i:a<18446744073709551616)(h:b<18446744073709551616)(k:c<2)(j:u=(a+18446744073709551616 - b+18446744073709551616 - c) % 18446744073709551616)
  (g:x=a / 9223372036854775808) (f:y=b / 9223372036854775808) (e:z=u / 9223372036854775808) (d:v=(1 ^^^ x) &&& y ||| ((1 ^^^ (x ^^^ y)) &&& z)):v=if a<b+c then 1 else 0:=by
 have h1:=MO a i;have h2:=MO b h;have h3:=MO u ω;rw[<- g]at h1;rw[<- f]at h2;rw[<- e]at h3;rcases h1 with h1|h1<;>rcases h2 with h2|h2<;>rcases h3 with h3|h3<;>(rw[h1,h2,h3]at d;simp at d;subst d;split<;>omega)
def Qqt(a b c x y z u v)(i:a<18446744073709551616)(h:b<18446744073709551616)(k:c<2)(j:u=(a+b+c) % 18446744073709551616)
  (g:x=a / 9223372036854775808) (f:y=b / 9223372036854775808) (e:z=u / 9223372036854775808) (d:v=x &&& y ||| ((x ||| y) &&& (1 - z))):v=if 18446744073709551616<=a+b+c then 1 else 0:=by
 have h1:=MO a i;have h2:=MO b h;have h3:=MO u ω;rw[<- g]at h1;rw[<- f]at h2;rw[<- e]at h3;rcases h1 with h1|h1<;>rcases h2 with h2|h2<;>rcases h3 with h3|h3<;>(rw[h1,h2,h3]at d;simp at d;subst d;split<;>omega)
end Go.Fg.X
namespace Go.Fg.X
open Go.Proofs Go.Fg
structure It where
 ka:Nat
 ki:Int
 va:Nat
 vi:Int
deriving DecidableEq
instance:Inhabited It:=⟨⟨0,0,0,0⟩⟩
@[go_sem] def It.cells(x:It):List D:=[u64 x.ka,Qb x.ki,u64 x.va,Qb x.vi]
def J5(a:Nat)(i:Int)(b:Nat)(j:Int):Prop:=a<b\/(a=b/\i<j)
instance (a:Nat) (i:Int) (b:Nat) (j:Int):Decidable (J5 a i b j):=inferInstanceAs (Decidable (_\/_))
def It.lt(x y:It):Prop:=J5 x.ka x.ki y.ka y.ki
instance (x y:It):Decidable (x.lt y):=inferInstanceAs (Decidable (J5 _ _ _ _))
def qK(a:Nat)(i:Int)(b:Nat)(j:Int):Int:=if a=b/\i=j then 0 else if J5 a i b j then -1 else 1
def zY(a b:It):It:=if qK b.va b.vi a.va a.vi<0\/(qK b.va b.vi a.va a.vi=0/\qK b.ka b.ki a.ka a.ki<0) then b else a
inductive Tr where
 | nil
 | node (loc:Nat) (it:It) (l r:Tr)
deriving Inhabited
namespace Tr
def list:Tr->List It
 | .nil=>[]
 | .node _ a l r=>l.list++a::r.list
def QK:Tr->List Nat
 | .nil=>[]
 | .node a _ l r=>a::(l.QK++r.QK)
def high:Tr->Nat
 | .nil=>0
 | .node _ _ l r=>1+max l.high r.high
def size:Tr->Nat
 | .nil=>0
 | .node _ _ l r=>1+l.size+r.size
def ptr:Tr->D
 | .nil=>.raw (.pointer none)
 | .node a _ _ _=>.ptr a 0 0 0
@[go_sem] theorem F4:Tr.nil.ptr=.raw (.pointer none):=rfl
@[go_sem] theorem Cg(a)(b)(l r:Tr):(Tr.node a b l r).ptr=.ptr a 0 0 0:=rfl
@[go_sem] theorem QCf(t:Tr):XN t.ptr=some [t.ptr]:=by cases t<;>rfl
@[go_sem] theorem QCg(t:Tr):t.ptr.Vi=true:=by cases t<;>rfl
@[go_sem] theorem QCh(t:Tr):Xu t.ptr t.ptr=True:=by cases t<;>simp[Xu,ptr]
def least:Tr->It
 | .nil=>default
 | .node _ e l r=>match l,r with
  | .nil,.nil=>e
  | .nil,.node a b c d=>zY e (least (.node a b c d))
  | .node a b c d,.nil=>zY e (least (.node a b c d))
  | .node a b c d,.node i h g f=>zY (zY e (least (.node a b c d))) (least (.node i h g f))
def Bd:∀t:Tr,t.list.length=t.size
 | .nil=>rfl
 | .node _ _ l r=>by simp only[list,size,JJ,VK,Bd l,Bd r];omega
def MP:∀t:Tr,t.high<=t.size
 | .nil=>QB _
 | .node _ _ l r=>by have:=MP l;have:=MP r;simp only[high,size];omega
end Tr
@[go_sem] def Qqu(b:It)(p q:D)(a:It)(c n:Int):List D:=[u64 b.ka,Qb b.ki,u64 b.va,Qb b.vi,p,q,u64 a.ka,Qb a.ki,u64 a.va,Qb a.vi,Qb c,Qb n]
@[go_sem] def Ec(b:It)(p q:D)(a:It)(c n:Int):Ob:=⟨.one,0,12,1,λ_=>Qqu b p q a c n⟩
def KO(h:List Ob):Tr->Prop
 | .nil=>True
 | .node a b l r=>h[a]? = some (Ec b l.ptr r.ptr (Tr.node a b l r).least ((Tr.node a b l r).high:Nat) ((Tr.node a b l r).size:Nat))/\KO h l/\KO h r
def KO.frame{h b:List Ob}:∀{t:Tr},KO h t->(∀l∈t.QK,b[l]? = h[l]?)->KO b t
 | .nil,_,_=>trivial
 | .node a g l r,⟨f,d,c⟩,e=>⟨by rw[e a (by simp[Tr.QK])];exact f,d.frame λx hx=>e x (by simp[Tr.QK,hx]),c.frame λx hx=>e x (by simp[Tr.QK,hx])⟩
def KO.lt{h:List Ob}:∀{t:Tr},KO h t->∀l∈t.QK,l<h.length
 | .nil,_,l,a=>by cases a
 | .node e f l r,⟨d,c,b⟩,x,hx=>by
  simp only[Tr.QK,QE,QW]at hx;rcases hx with rfl|hx|hx
  .exact Kh d
  .exact c.lt x hx
  .exact b.lt x hx
def zk(h:List Ob):Tr->Prop
 | .nil=>True
 | .node a b l r=>(h.map Ob.ro)[a]? = some (Ec b l.ptr r.ptr (Tr.node a b l r).least ((Tr.node a b l r).high:Nat) ((Tr.node a b l r).size:Nat)).ro/\zk h l/\zk h r
def KO.toR{h}:∀{t:Tr},KO h t->zk h t
 | .nil,_=>trivial
 | .node _ _ _ _,⟨c,b,a⟩=>⟨ZG c,b.toR,a.toR⟩
def zk.more{h h':List Ob}(e:∀(l:Nat) (o:Ob),(h.map Ob.ro)[l]? = some o->(h'.map Ob.ro)[l]? = some o):∀{t:Tr},zk h t->zk h' t
 | .nil,_=>trivial
 | .node _ _ _ _,⟨c,b,a⟩=>⟨e _ _ c,b.more e,a.more e⟩
def F5{h F g:List Ob}(b:F=h.map Ob.ro)(l:Nat)(o:Ob)(e:(h.map Ob.ro)[l]? = some o):((F++g).map Ob.ro)[l]? = some o:=by
 subst b;have c:l<(h.map Ob.ro).length:=Kh e;rw[ju,JD (by simpa using c),E7];rw[Kl]at e ⊢;cases a:h[l]? with
 | none=>rw[a]at e;cases e
 | some u=>rw[a]at e;cases e;simp[ro_ro]
structure zZ (h:List Ob) (t:Tr) (L:List It) (h':List Ob) (t':Tr):Prop where
 is:KO h' t'
 list:t'.list=L
 nd:t'.QK.Nodup
 mem:∀l∈t'.QK,l∈t.QK\/h.length<=l
 keep:∀l,l<h.length->l ∉ t.QK->h'[l]? = h[l]?
 len:h.length<=h'.length
def zZ.refl{h}{t:Tr}(i:KO h t)(n:t.QK.Nodup):zZ h t t.list h t:=⟨i,rfl,n,λ_ h=>.inl h,λ_ _ _=>rfl,QB _⟩
def zZ.trans{h h' g}{t e c}{L i}(a:zZ h t L h' e)(b:zZ h' e i g c):zZ h t i g c:=
 ⟨b.is,b.list,b.nd,λl d=>by
  rcases b.mem l d with h1|h1
  .exact a.mem l h1
  .exact .inr (K9 a.len h1),λl d f=>by
  rw[b.keep l (kv d a.len) λh1=>by
   rcases a.mem l h1 with h2|h2
   .exact f h2
   .omega]
  exact a.keep l d f,K9 a.len b.len⟩
def It.YD(x y:It):Prop:=J5 x.va x.vi y.va y.vi\/(x.va=y.va/\x.vi=y.vi/\J5 x.ka x.ki y.ka y.ki)
instance (x y:It):Decidable (x.YD y):=inferInstanceAs (Decidable (_\/_))
def Be(a)(i):¬ J5 a i a i:=by unfold J5;omega
def F6{a}{i}{b}{j}{c}{k}(h:J5 a i b j)(d:J5 b j c k):J5 a i c k:=by unfold J5 at *;omega
def MQ(a)(i)(b)(j):J5 a i b j\/(a=b/\i=j)\/J5 b j a i:=by unfold J5;omega
def mh{a}{i}{b}{j}:qK a i b j<0↔J5 a i b j:=by
 unfold qK;by_cases h:a=b/\i=j
 .rw[Qf h];obtain⟨rfl,rfl⟩:=h;exact⟨λh=>ω,λh=>absurd h (Be _ _)⟩
 .rw[Qe h];by_cases c:J5 a i b j
  .rw[Qf c];exact⟨λ_=>c,λ_=>ω⟩
  .rw[Qe c];exact⟨λh=>ω,λh=>absurd h c⟩
def Qda{a}{i}{b}{j}:qK a i b j=0↔a=b/\i=j:=by
 unfold qK;by_cases h:a=b/\i=j
 .rw[Qf h];exact⟨λ_=>h,λ_=>rfl⟩
 .rw[Qe h];by_cases d:J5 a i b j
  .rw[Qf d];exact⟨λh=>ω,λc=>absurd c h⟩
  .rw[Qe d];exact⟨λh=>ω,λc=>absurd c h⟩
def Qqv{a}{i}{b}{j}:0<qK a i b j↔J5 b j a i:=by
 have e:=@mh a i b j;have d:=@Qda a i b j;have h3:=MQ a i b j;constructor
 .intro h;rcases h3 with h3|h3|h3
  .have:=e.2 h3;omega
  .have:=d.2 h3;omega
  .exact h3
 .intro h;have g:¬ qK a i b j<0:=λc=>Be _ _ (F6 h (e.1 c));have f:¬ qK a i b j=0:=λc=>by obtain⟨rfl,rfl⟩:=d.1 c;exact Be _ _ h
  omega
def Qdb(a b:It):zY a b=if b.YD a then b else a:=by
 have h:(qK b.va b.vi a.va a.vi<0\/(qK b.va b.vi a.va a.vi=0/\qK b.ka b.ki a.ka a.ki<0))↔b.YD a:=by
  rw[mh,Qda,mh,It.YD,and_assoc]
 unfold zY;by_cases c:b.YD a
 .rw[Qf (h.2 c),Qf c]
 .rw[Qe (λd=>c (h.1 d)),Qe c]
def P4(a:It):¬ a.YD a:=λh=>by
 rcases h with h|⟨_,_,h⟩<;>exact Be _ _ h
def Qdc{a b c:It}(h:a.YD b)(d:b.YD c):a.YD c:=by
 rcases h with h|⟨i,g,h⟩<;>rcases d with d|⟨f,e,d⟩
 .exact .inl (F6 h d)
 .exact .inl (by rw[<- f,<- e];exact h)
 .exact .inl (by rw[i,g];exact d)
 .exact .inr ⟨i.trans f,g.trans e,F6 h d⟩
def Qdd(a b:It):a.YD b\/a=b\/b.YD a:=by
 rcases MQ a.va a.vi b.va b.vi with h|⟨d,c⟩|h
 .exact .inl (.inl h)
 .rcases MQ a.ka a.ki b.ka b.ki with h|⟨f,e⟩|h
  .exact .inl (.inr ⟨d,c,h⟩)
  .refine .inr (.inl ?_);cases a;cases b;simp_all
  .exact .inr (.inr (.inr ⟨d.symm,c.symm,h⟩))
 .exact .inr (.inr (.inl h))
def Qde(a b:It):(zY a b=a/\¬ b.YD a)\/(zY a b=b/\b.YD a):=by
 rw[Qdb];by_cases h:b.YD a
 .rw[Qf h];exact .inr ⟨rfl,h⟩
 .rw[Qe h];exact .inl ⟨rfl,h⟩
def Qqw(a b:It):¬ a.YD (zY a b)/\¬ b.YD (zY a b):=by
 rcases Qde a b with ⟨e,h⟩|⟨e,h⟩<;>rw[e]
 .exact⟨P4 _,h⟩
 .exact⟨λc=>P4 _ (Qdc h c),P4 _⟩
structure Vz (x:It) (L:List It):Prop where
 mem:x∈L
 le:∀y∈L,¬ y.YD x
def Vz.uniq{x y}{L}(a:Vz x L)(b:Vz y L):x=y:=by
 rcases Qdd x y with h|h|h
 .exact absurd h (b.le x a.mem)
 .exact h
 .exact absurd h (a.le y b.mem)
def Vz.one(x):Vz x [x]:=⟨σ,λy a=>by simp only[qz]at a;subst a;exact P4 _⟩
def Vz.join{x y}{L M}(a:Vz x L)(b:Vz y M):Vz (zY x y) (L++M):=by
 obtain⟨i,f⟩:=Qqw x y;have d:∀{p q r:It},¬ p.YD q->¬ q.YD r->¬ p.YD r:=λ{p q r} h f g=>by
  rcases Qdd q p with c|c|c
  .exact f (Qdc c g)
  .subst c;exact f g
  .exact h c
 refine⟨?_,λz hz=>?_⟩
 .rcases Qde x y with ⟨e,_⟩|⟨e,_⟩<;>rw[e]
  .exact Ts _ a.mem
  .exact Lq _ b.mem
 .rcases QW.1 hz with hz|hz
  .exact d (a.le z hz) i
  .exact d (b.le z hz) f
def Vz.perm{x:It}{L M}(a:Vz x L)(h:∀y,y∈M↔y∈L):Vz x M:=⟨(h x).2 a.mem,λy b=>a.le y ((h y).1 b)⟩
def Tr.MS:∀(t:Tr),t≠.nil->Vz t.least t.list
 | .nil,h=>absurd rfl h
 | .node _ e .nil .nil,_=>Vz.one e
 | .node _ e .nil (.node a b c d),_=>by
  have:=Tr.MS (.node a b c d) σ;exact((Vz.one e).join this).perm λy=>by simp[Tr.list]
 | .node _ e (.node a b c d) .nil,_=>by
  have:=Tr.MS (.node a b c d) σ;exact((Vz.one e).join this).perm λy=>by simp[Tr.list];constructor<;>(intro h;rcases h with h|h|h|h<;>simp[h])
 | .node _ e (.node a b c d) (.node l k j i),_=>by
  have g:=Tr.MS (.node a b c d) σ;have f:=Tr.MS (.node l k j i) σ;refine(((Vz.one e).join g).join f).perm λy=>?_;simp only[Tr.list,QW,QE,qz];grind
end Go.Fg.X
namespace Go.Fg.X
open Go.Proofs Go.Fg
open Go.Proofs.Tryz
def KP(L:List It):Prop:=L.Pairwise It.lt
def It.lt_trans{a b c:It}(h:a.lt b)(d:b.lt c):a.lt c:=F6 h d
def Ed{L M}{x:It}:KP (L++x::M)↔KP L/\KP M/\(∀y∈L,y.lt x)/\(∀y∈M,x.lt y):=by
 unfold KP;rw[Tu,yi];constructor
 .rintro⟨g,⟨f,d⟩,c⟩;exact⟨g,d,λy i=>c y i x σ,f⟩
 .rintro⟨g,f,d,c⟩;refine⟨g,⟨c,f⟩,λa h b e=>?_⟩;rcases QE.1 e with rfl|e
  .exact d a h
  .exact It.lt_trans (d a h) (c b e)
def Bf(a:Nat)(i:Int)(x:It):Bool:=x.ka==a&&x.ki==i
def Ye(a:Nat)(i:Int)(L:List It):Option It:=L.find? (Bf a i)
def XR(x:It):List It->List It
 | []=>[x]
 | y::r=>if y.lt x then y::XR x r else x::y::r
def W7(a:Nat)(i:Int)(L:List It):List It:=L.filter λx=>!Bf a i x
def wC{a}{i}{x:It}:Bf a i x=true↔x.ka=a/\x.ki=i:=by simp[Bf]
def Qdg(a)(i)(L M)(x)(m:KP (L++x::M)):
  Ye a i (L++x::M)=if x.ka=a/\x.ki=i then some x else if J5 x.ka x.ki a i then Ye a i M else Ye a i L:=by
 obtain⟨_,_,o,n⟩:=Ed.1 m;unfold Ye;rw[List.find?_append,vI];have k:(x.ka=a/\x.ki=i)\/J5 x.ka x.ki a i->L.find? (Bf a i)=none:=λh=>by
  rw[js];intro y f d;obtain⟨j,g⟩:=wC.1 d;have b:J5 y.ka y.ki x.ka x.ki:=o y f;rw[j,g]at b;rcases h with ⟨rfl,rfl⟩|h
  .exact Be _ _ b
  .exact Be _ _ (F6 h b)
 have l:J5 a i x.ka x.ki->M.find? (Bf a i)=none:=λh=>by
  rw[js];intro y f d;obtain⟨j,g⟩:=wC.1 d;have b:J5 x.ka x.ki y.ka y.ki:=n y f;rw[j,g]at b;exact Be _ _ (F6 h b)
 by_cases c:x.ka=a/\x.ki=i
 .rw[Qf c,wC.2 c,k (.inl c)];rfl
 .have d:Bf a i x=false:=by rw[Ym];exact λh=>c (wC.1 h)
  rw[Qe c,d];by_cases e:J5 x.ka x.ki a i
  .rw[Qf e,k (.inr e)];rfl
  .rw[Qe e,l (by rcases MQ x.ka x.ki a i with h|h|h;exact absurd h e;exact absurd h c;exact h)];simp
def Qqx(y:It)(L M)(x:It)(d:KP (L++x::M))(e:¬ (x.ka=y.ka/\x.ki=y.ki)):
  XR y (L++x::M)=if x.lt y then L++x::XR y M else XR y L++x::M:=by
 obtain⟨_,_,a,f⟩:=Ed.1 d;by_cases h:x.lt y
 .rw[Qf h];have:∀l:List It,(∀z∈l,z.lt y)->XR y (l++x::M)=l++x::XR y M:=by
   intro l a;induction l with
   | nil=>simp only[q4,XR,Qf h]
   | cons z l b=>simp only[YT,XR,Qf (a z σ),b λw c=>a w (by simp[c])]
  exact this L λz hz=>It.lt_trans (a z hz) h
 .rw[Qe h];have:∀l:List It,XR y (l++x::M)=XR y l++x::M:=by
   intro l;induction l with
   | nil=>simp only[q4,XR,Qe h,YT]
   | cons z l b=>
    simp only[YT,XR];split
    .rw[b,YT]
    .simp only[YT]
  exact this L
def Qdh(a)(i)(L M)(x)(n:KP (L++x::M)):
  W7 a i (L++x::M)=if x.ka=a/\x.ki=i then L++M else if J5 x.ka x.ki a i then L++x::W7 a i M else W7 a i L++x::M:=by
 obtain⟨_,_,p,o⟩:=Ed.1 n;have keep:∀l:List It,(∀y∈l,¬ (y.ka=a/\y.ki=i))->W7 a i l=l:=λl h=>by
  unfold W7;rw[yf];intro y e;have:=h y e;rw[qZ,Ym];exact λd=>this (wC.1 d)
 have j:W7 a i (L++x::M)=W7 a i L++W7 a i (x::M):=by unfold W7;rw[OF]
 have m:(x.ka=a/\x.ki=i)\/J5 x.ka x.ki a i->W7 a i L=L:=λh=>keep L λy e ⟨g,f⟩=>by
  have b:J5 y.ka y.ki x.ka x.ki:=p y e;rw[g,f]at b;rcases h with ⟨rfl,rfl⟩|h
  .exact Be _ _ b
  .exact Be _ _ (F6 h b)
 have k:(x.ka=a/\x.ki=i)\/J5 a i x.ka x.ki->W7 a i M=M:=λh=>keep M λy e ⟨g,f⟩=>by
  have b:J5 x.ka x.ki y.ka y.ki:=o y e;rw[g,f]at b;rcases h with ⟨rfl,rfl⟩|h
  .exact Be _ _ b
  .exact Be _ _ (F6 h b)
 rw[j];by_cases c:x.ka=a/\x.ki=i
 .have hx:W7 a i (x::M)=W7 a i M:=by unfold W7;rw[vH,wC.2 c];rfl
  rw[Qf c,m (.inl c),hx,k (.inl c)]
 .have q:Bf a i x=false:=by rw[Ym];exact λh=>c (wC.1 h)
  have hx:W7 a i (x::M)=x::W7 a i M:=by unfold W7;rw[vH,q];rfl
  rw[Qe c,hx];by_cases d:J5 x.ka x.ki a i
  .rw[Qf d,m (.inr d)]
  .rw[Qe d,k (.inr (by rcases MQ x.ka x.ki a i with h|h|h;exact absurd h d;exact absurd h c;exact h))]
def F7{y x}:∀{L:List It},x∈XR y L↔x=y\/x∈L
 | []=>by simp[XR]
 | z::L=>by
  simp only[XR];split
  .rw[QE,F7,QE];grind
  .rw[QE]
def mi{y:It}:∀{L:List It},KP L->Ye y.ka y.ki L=none->KP (XR y L)
 | [],_,_=>by simp[XR,KP]
 | z::L,e,a=>by
  obtain⟨f,g⟩:=yi.1 e;unfold Ye at a;rw[vI]at a;cases c:Bf y.ka y.ki z with
  | true=>rw[c]at a;cases a
  | false=>
   rw[c]at a;have i:¬ (z.ka=y.ka/\z.ki=y.ki):=λh=>by rw[wC.2 h]at c;cases c
   simp only[XR];split
   .rename_i d;refine yi.2 ⟨λw hw=>?_,mi g a⟩;rcases F7.1 hw with rfl|hw
    .exact d
    .exact f w hw
   .rename_i d;have b:y.lt z:=by
     rcases MQ z.ka z.ki y.ka y.ki with h|h|h
     .exact absurd h d
     .exact absurd h i
     .exact h
    refine yi.2 ⟨λw hw=>?_,e⟩;rcases QE.1 hw with rfl|hw
    .exact b
    .exact It.lt_trans b (f w hw)
def Qqz{a}{i}{L}(h:KP L):KP (W7 a i L):=Lo _ h
def Tr.Bg(a:Nat)(i:Int)(f:Tr->List It):Tr->List It
 | .nil=>f .nil
 | .node c b l r=>if b.ka=a/\b.ki=i then f (.node c b l r) else if J5 b.ka b.ki a i then l.list++b::r.Bg a i f else l.Bg a i f++b::r.list
def mj{y:It}{f}(e:f .nil=[y]):∀(t:Tr),KP t.list->Ye y.ka y.ki t.list=none->t.Bg y.ka y.ki f=XR y t.list
 | .nil,_,_=>e
 | .node j b l r,c,a=>by
  obtain⟨i,h,_,_⟩:=Ed.1 c;simp only[Tr.list]at c a ⊢;rw[Qdg _ _ _ _ _ c]at a;rw[Tr.Bg];by_cases g:b.ka=y.ka/\b.ki=y.ki
  .rw[Qf g]at a;cases a
  .rw[Qe g]at a ⊢;rw[Qqx y _ _ _ c g];by_cases d:J5 b.ka b.ki y.ka y.ki
   .rw[Qf d]at a ⊢;rw[Qf (show b.lt y from d),mj e r h a]
   .rw[Qe d]at a ⊢;rw[Qe (show ¬ b.lt y from d),mj e l i a]
def Tr.Ib:Tr->List It
 | .nil=>[]
 | .node _ _ l r=>l.list++r.list
def bK{a}{i}:∀(t:Tr),KP t.list->t.Bg a i Tr.Ib=W7 a i t.list
 | .nil,_=>rfl
 | .node h b l r,e=>by
  obtain⟨g,f,_,_⟩:=Ed.1 e;simp only[Tr.list]at e ⊢;rw[Qdh _ _ _ _ _ e,Tr.Bg];by_cases d:b.ka=a/\b.ki=i
  .rw[Qf d,Qf d];rfl
  .rw[Qe d,Qe d];by_cases c:J5 b.ka b.ki a i
   .rw[Qf c,Qf c,bK r f]
   .rw[Qe c,Qe c,bK l g]
def Tr.find(a:Nat)(i:Int):Tr->Tr
 | .nil=>.nil
 | .node c b l r=>if b.ka=a/\b.ki=i then .node c b l r else if J5 b.ka b.ki a i then r.find a i else l.find a i
def Tr.item:Tr->Option It
 | .nil=>none
 | .node _ a _ _=>some a
def Tr.P5{a}{i:Int}:∀(t:Tr),KP t.list->(t.find a i).item=Ye a i t.list
 | .nil,_=>rfl
 | .node h b l r,e=>by
  obtain⟨g,f,_,_⟩:=Ed.1 e;simp only[Tr.list]at e ⊢;rw[Qdg _ _ _ _ _ e,Tr.find];by_cases d:b.ka=a/\b.ki=i
  .rw[Qf d,Qf d];rfl
  .rw[Qe d,Qe d];by_cases c:J5 b.ka b.ki a i
   .rw[Qf c,Qf c,Tr.P5 r f]
   .rw[Qe c,Qe c,Tr.P5 l g]
def Tr.hasB(e:Nat):Tr->Bool
 | .nil=>false
 | .node a b c d=>decide ((Tr.node a b c d).least.va<=e)
def Vz.va{x y:It}{L}(h:Vz x L)(a:y∈L):x.va<=y.va:=by
 have:=h.le y a;unfold It.YD J5 at this;omega
def Tr.P6(e):∀t:Tr,t.hasB e=true↔∃x∈t.list,x.va<=e
 | .nil=>by simp[Tr.hasB,Tr.list]
 | .node a b c d=>by
  have h:=Tr.MS (.node a b c d) σ;simp only[Tr.hasB,XZ];constructor
  .intro g;exact⟨_,h.mem,g⟩
  .rintro⟨x,hx,f⟩;exact K9 (h.va hx) f
def Tr.first(a:Nat):Tr->Option It
 | .nil=>none
 | .node _ b l r=>if l.hasB a then l.first a else if b.va<=a then some b else r.first a
def Tr.bL(a):∀t:Tr,t.first a=t.list.find? λx=>decide (x.va<=a)
 | .nil=>rfl
 | .node _ d l r=>by
  simp only[Tr.first,Tr.list];rw[List.find?_append,vI];by_cases h:l.hasB a=true
  .rw[Qf h,Tr.bL a l];obtain⟨x,hx,c⟩:=(Tr.P6 a l).1 h;cases f:l.list.find? λx=>decide (x.va<=a) with
   | some y=>rfl
   | none=>exact absurd c (by simpa using js.1 f x hx)
  .rw[Qe h,Tr.bL a r];have e:l.list.find? (λx=>decide (x.va<=a))=none:=by
    rw[js];intro x hx c;exact h ((Tr.P6 a l).2 ⟨x,hx,by simpa using c⟩)
   rw[e,Option.none_or];by_cases b:d.va<=a
   .rw[Qf b,Q3 b]
   .rw[Qe b,QS b]
def Tr.Ee:Tr->It
 | .nil=>default
 | .node _ e l _=>match l with
  | .nil=>e
  | .node a b c d=>Tr.Ee (.node a b c d)
def Tr.mm:∀t:Tr,t≠.nil->t.list.head? = some t.Ee
 | .nil,h=>absurd rfl h
 | .node _ e .nil r,_=>rfl
 | .node _ e (.node a b c d) r,_=>by
  have:=Tr.mm (.node a b c d) σ;simp only[Tr.list,Tr.Ee,List.head?_append]at this ⊢;rw[this];rfl
def qL(o:Option It)(i:It):Option It:=match o with
 | none=>some i
 | some a=>some (zY a i)
def Tr.qM(e:Nat):Tr->Option It->Option It
 | .nil,o=>o
 | .node _ f l r,o=>if e<f.ka then l.qM e o else r.qM e (match l with
  | .nil=>qL o f
  | .node a b c d=>qL (qL o f) (Tr.node a b c d).least)
def xJ(o:Option It)(L:List It):Prop:=match o with
 | none=>L=[]
 | some x=>Vz x L
def xJ.take{o}{L}(h:xJ o L){i}{M}(b:Vz i M):xJ (qL o i) (L++M):=by
 cases o with
 | none=>simp only[xJ]at h;subst h;exact b
 | some a=>exact Vz.join h b
def xJ.perm{o}{L M}(h:xJ o L)(e:∀y,y∈M↔y∈L):xJ o M:=by
 cases o with
 | none=>
  simp only[xJ]at h ⊢;subst h;exact ft.2 λy b=>by simpa using (e y).1 b
 | some a=>exact Vz.perm h e
def Tr.P7(e):∀(t:Tr) (o:Option It) (T:List It),KP t.list->xJ o T->xJ (t.qM e o) (T++t.list.filter λx=>decide (x.ka<=e))
 | .nil,o,T,_,h=>by simpa[Tr.qM,Tr.list] using h
 | .node _ g l r,o,T,m,h=>by
  obtain⟨k,i,q,n⟩:=Ed.1 (show KP (l.list++g::r.list) from m);have f:∀{x y:It},x.lt y->x.ka<=y.ka:=λh=>by
   have h:J5 _ _ _ _:=h;unfold J5 at h;omega
  simp only[Tr.qM,Tr.list,OF,vH];by_cases j:e<g.ka
  .rw[Qf j,QS ω];have p:r.list.filter (λx=>decide (x.ka<=e))=[]:=by
    rw[List.filter_eq_nil_iff];intro x hx;have:=f (n x hx);simp;omega
   rw[p];have:=Tr.P7 e l o T k h;simpa using this
  .rw[Qe j,Q3 ω];have s:l.list.filter (λx=>decide (x.ka<=e))=l.list:=by
    rw[yf];intro x hx;have:=f (q x hx);simp;omega
   rw[s];cases l with
   | nil=>
    have:=Tr.P7 e r _ _ i (h.take (Vz.one g));simpa[Tr.list] using this
   | node a b c d=>
    have:=Tr.P7 e r _ _ i ((h.take (Vz.one g)).take (Tr.MS (.node a b c d) σ));refine this.perm λy=>?_;simp only[Tr.list,QW,QE,qz,JO,Va];grind
def mn(a)(i)(b)(j):Q6 prog 236 [.agg [u64 a,Qb i],.agg [u64 b,Qb j]] (Zm (Qb (qK a i b j))):=by
 refine Zs 0 func236 ntmps236 results236 λc w d=>?_;simp only[go_sem]
 repeat' (first|((first|refine FK (λh=>?_) (λh=>?_)|refine FL (λh=>?_) (λh=>?_)|refine FM (λh=>?_) (λh=>?_)|refine vZ (λh=>?_) (λh=>?_)|refine FN (λh=>?_) (λh=>?_)|refine FO (λh=>?_) (λh=>?_)|refine FP (λh=>?_) (λh=>?_)|refine FH (λh=>?_) (λh=>?_))<;>(try simp only[go_sem,Go.undef]))|(refine And.intro δ ?_;try simp only[go_sem,Go.undef])|fail)
 all_goals (congr 2;(try simp only[ZH,EV,Aq,EX,zH,jv,bne_iff_ne,bne_eq_false_iff_eq,XZ,OQ,ne_eq]at *);(try unfold qK J5);(repeat' split)<;>omega)
def MT(x y:It):Q6 prog 203 [.agg x.cells,.agg y.cells] (Zm (.agg (zY x y).cells)):=by
 have f:=mn y.va y.vi x.va x.vi;have e:=mn y.ka y.ki x.ka x.ki;simp only[zY];generalize qK y.va y.vi x.va x.vi=p at *;generalize qK y.ka y.ki x.ka x.ki=q at *;refine Zs 0 func203 ntmps203 results203 λb w a=>?_;simp only[go_sem];apply J2 a iZ f;apply Zd a
 repeat' (first|((first|refine FK (λh=>?_) (λh=>?_)|refine FL (λh=>?_) (λh=>?_)|refine FM (λh=>?_) (λh=>?_)|refine vZ (λh=>?_) (λh=>?_)|refine FN (λh=>?_) (λh=>?_)|refine FO (λh=>?_) (λh=>?_)|refine FP (λh=>?_) (λh=>?_)|refine FH (λh=>?_) (λh=>?_))<;>(try simp only[go_sem,Go.undef]))|(refine And.intro δ ?_;try simp only[go_sem,Go.undef])|(refine kQ a [] iZ rfl ?_ (e) rfl ?_;(· simp only[go_sem,Go.undef]);intro d h c;obtain⟨rfl,rfl⟩:=c;(simp only[go_sem,Go.undef]);apply Qg a;simp only[go_sem,Go.undef])|fail)
 all_goals (try simp only[zH,jv,ne_eq]at *);(first|rw[Qf ω]|rw[Qe ω])
section
variable {h:List Ob}{t:Tr}(i:zk h t)
include i
theorem jR:QR prog 244 h [t.ptr] (λd=>d=Qb t.high):=by
 cases t with
 | nil=>
  refine Zk func244 ntmps244 results244 λa w e F c g f=>?_;simp only[go_sem,Qa];exact⟨[],by simp[Tr.high]⟩
 | node k m l r=>
  have b:=i.1;refine Zk func244 ntmps244 results244 λa w e F c g f=>?_;rw[<- c]at b;have j:=Qc b;simp only[go_sem,Qa,b,j];exact⟨[],σ⟩
theorem Ef:QR prog 245 h [t.ptr] (λd=>d=Qb t.size):=by
 cases t with
 | nil=>
  refine Zk func245 ntmps245 results245 λa w e F c g f=>?_;simp only[go_sem,Qa];exact⟨[],by simp[Tr.size]⟩
 | node k m l r=>
  have b:=i.1;refine Zk func245 ntmps245 results245 λa w e F c g f=>?_;rw[<- c]at b;have j:=Qc b;simp only[go_sem,Qa,b,j];exact⟨[],σ⟩
theorem mq(n):QR prog 246 h [t.ptr,u64 n] (λd=>d=QT (t.hasB n)):=by
 cases t with
 | nil=>
  refine Zk func246 ntmps246 results246 λa w e F c g f=>?_;simp only[go_sem,Qa];exact⟨[],by simp[Tr.hasB]⟩
 | node k m l r=>
  have b:=i.1;refine Zk func246 ntmps246 results246 λa w e F c g f=>?_;rw[<- c]at b;have j:=Qc b;simp only[go_sem,Qa,b,j];exact⟨[],by simp[Tr.hasB]⟩
end
structure Raw (h:List Ob) (loc:Nat) (it:It) (l r:Tr) (le:It) (hi n:Int):Prop where
 o:h[loc]? = some (Ec it l.ptr r.ptr le hi n)
 il:KO h l
 ir:KO h r
def KO.set{h:List Ob}{t:Tr}(i:KO h t){k}(o)(a:k ∉ t.QK):KO (h.set k o) t:=i.frame λl b=>Qm λe=>a (e▸b)
def Ch{h}{loc}{it}{l r:Tr}{le}{hi n}(i:Raw h loc it l r le hi n)(L:l.size<1000000)(M:r.size<1000000)(z:loc ∉ l.QK)(y:loc ∉ r.QK):
  QI prog 229 h [.ptr loc 0 0 0] (λd I=>I=h.set loc (Ec it l.ptr r.ptr (Tr.node loc it l r).least ((Tr.node loc it l r).high:Nat) ((Tr.node loc it l r).size:Nat))):=by
 have f:=i.o;have s:=i.il;have q:=i.ir;have K:=l.MP;have J:=r.MP;have x:max (l.high:Int) (r.high:Int)=((max l.high r.high:Nat):Int):=ω;have v:IntKind.i64.wrap (1+((max l.high r.high:Nat):Int))=((1+max l.high r.high:Nat):Int):=Zu;have u:IntKind.i64.wrap (1+(l.size:Int))=((1+l.size:Nat):Int):=Zu;have t:IntKind.i64.wrap (((1+l.size:Nat):Int)+(r.size:Int))=((1+l.size+r.size:Nat):Int):=Zu;rcases l with _|⟨a,b,c,d⟩<;>rcases r with _|⟨B,H,F,E⟩
 .simp only[Tr.F4,Tr.Cg]at f;refine QZ func229 ntmps229 results229 λp w C g=>?_;have e:=Qc f;simp only[go_sem,Qa,f,e];apply Qw g o03;simp only[go_sem,Qa,f,e];apply V0 g jN (jR s.toR);apply Q7 g;simp only[go_sem,Qa,f,e];refine Yb g jN ?_ (jR q.toR) ?_
  .simp only[go_sem,Qa,f,e,x,v]
  apply Q7 g;simp only[go_sem,Qa,f,e,x,v];apply Qw g o04;simp only[go_sem,Qa,f,e,Qv e];refine Yb g DQ ?_ (Ef (s.set _ z).toR) ?_
  .simp only[go_sem,Qa,f,e,Qv e,u]
  apply Q7 g;simp only[go_sem,Qa,f,e,Qv e,u];refine Yb g DQ ?_ (Ef (q.set _ y).toR) ?_
  .simp only[go_sem,Qa,f,e,Qv e,t]
  apply Q7 g;simp only[go_sem,Qa,f,e,Qv e,t];refine kV 2 ?_;apply Qg g;simp only[go_sem,Qa,f,e,Qv e];apply Qg g;simp only[go_sem,Qa,f,e,Qv e];apply Qg g;simp only[go_sem,Qa,f,e,Qv e];rfl
 .simp only[Tr.F4,Tr.Cg]at f;have o:=q.1;have m:loc≠B:=by rintro rfl;exact y (by simp[Tr.QK])
  refine QZ func229 ntmps229 results229 λp w C g=>?_;have e:=Qc f;simp only[go_sem,Qa,f,e];apply Qw g o03;simp only[go_sem,Qa,f,e];apply V0 g jN (jR s.toR);apply Q7 g;simp only[go_sem,Qa,f,e];refine Yb g jN ?_ (jR q.toR) ?_
  .simp only[go_sem,Qa,f,e,x,v]
  apply Q7 g;simp only[go_sem,Qa,f,e,x,v];apply Qw g o04;simp only[go_sem,Qa,f,e,Qv e];refine Yb g DQ ?_ (Ef (s.set _ z).toR) ?_
  .simp only[go_sem,Qa,f,e,Qv e,u]
  apply Q7 g;simp only[go_sem,Qa,f,e,Qv e,u];refine Yb g DQ ?_ (Ef (q.set _ y).toR) ?_
  .simp only[go_sem,Qa,f,e,Qv e,t]
  apply Q7 g;simp only[go_sem,Qa,f,e,Qv e,t];refine kV 2 ?_;apply Qg g;simp only[go_sem,Qa,f,e,Qv e,o,Qm m];apply Qg g;simp only[go_sem,Qa,f,e,Qv e,o,Qm m];apply Qw g o00;simp only[go_sem,Qa,f,e,Qv e,o,Qm m];refine KK g MB ?_ (MT it (Tr.node B H F E).least) ?_
  .simp only[go_sem,Qa,f,e,Qv e,o,Qm m]
  apply Q7 g;simp only[go_sem,Qa,f,e,Qv e,o,Qm m];apply Qg g;simp only[go_sem,Qa,f,e,Qv e,o,Qm m];rfl
 .simp only[Tr.F4,Tr.Cg]at f;have j:=s.1;have k:loc≠a:=by rintro rfl;exact z (by simp[Tr.QK])
  refine QZ func229 ntmps229 results229 λp w C g=>?_;have e:=Qc f;simp only[go_sem,Qa,f,e];apply Qw g o03;simp only[go_sem,Qa,f,e];apply V0 g jN (jR s.toR);apply Q7 g;simp only[go_sem,Qa,f,e];refine Yb g jN ?_ (jR q.toR) ?_
  .simp only[go_sem,Qa,f,e,x,v]
  apply Q7 g;simp only[go_sem,Qa,f,e,x,v];apply Qw g o04;simp only[go_sem,Qa,f,e,Qv e];refine Yb g DQ ?_ (Ef (s.set _ z).toR) ?_
  .simp only[go_sem,Qa,f,e,Qv e,u]
  apply Q7 g;simp only[go_sem,Qa,f,e,Qv e,u];refine Yb g DQ ?_ (Ef (q.set _ y).toR) ?_
  .simp only[go_sem,Qa,f,e,Qv e,t]
  apply Q7 g;simp only[go_sem,Qa,f,e,Qv e,t];refine kV 2 ?_;apply Qg g;simp only[go_sem,Qa,f,e,Qv e,j,Qm k];apply Qw g o00;simp only[go_sem,Qa,f,e,Qv e,j,Qm k];refine KK g MB ?_ (MT it (Tr.node a b c d).least) ?_
  .simp only[go_sem,Qa,f,e,Qv e,j,Qm k]
  apply Q7 g;simp only[go_sem,Qa,f,e,Qv e,j,Qm k];apply Qg g;simp only[go_sem,Qa,f,e,Qv e,j,Qm k];apply Qg g;simp only[go_sem,Qa,f,e,Qv e,j,Qm k];rfl
 .simp only[Tr.F4,Tr.Cg]at f;have j:=s.1;have k:loc≠a:=by rintro rfl;exact z (by simp[Tr.QK])
  have o:=q.1;have m:loc≠B:=by rintro rfl;exact y (by simp[Tr.QK])
  refine QZ func229 ntmps229 results229 λp w C g=>?_;have e:=Qc f;simp only[go_sem,Qa,f,e];apply Qw g o03;simp only[go_sem,Qa,f,e];apply V0 g jN (jR s.toR);apply Q7 g;simp only[go_sem,Qa,f,e];refine Yb g jN ?_ (jR q.toR) ?_
  .simp only[go_sem,Qa,f,e,x,v]
  apply Q7 g;simp only[go_sem,Qa,f,e,x,v];apply Qw g o04;simp only[go_sem,Qa,f,e,Qv e];refine Yb g DQ ?_ (Ef (s.set _ z).toR) ?_
  .simp only[go_sem,Qa,f,e,Qv e,u]
  apply Q7 g;simp only[go_sem,Qa,f,e,Qv e,u];refine Yb g DQ ?_ (Ef (q.set _ y).toR) ?_
  .simp only[go_sem,Qa,f,e,Qv e,t]
  apply Q7 g;simp only[go_sem,Qa,f,e,Qv e,t];refine kV 2 ?_;apply Qg g;simp only[go_sem,Qa,f,e,Qv e,j,Qm k,o,Qm m];apply Qw g o00;simp only[go_sem,Qa,f,e,Qv e,j,Qm k,o,Qm m];refine KK g MB ?_ (MT it (Tr.node a b c d).least) ?_
  .simp only[go_sem,Qa,f,e,Qv e,j,Qm k,o,Qm m]
  apply Q7 g;simp only[go_sem,Qa,f,e,Qv e,j,Qm k,o,Qm m];apply Qg g;simp only[go_sem,Qa,f,e,Qv e,j,Qm k,o,Qm m];apply Qw g o00;simp only[go_sem,Qa,f,e,Qv e,j,Qm k,o,Qm m];refine KK g MB ?_ (MT (zY it (Tr.node a b c d).least) (Tr.node B H F E).least) ?_
  .simp only[go_sem,Qa,f,e,Qv e,j,Qm k,o,Qm m]
  apply Q7 g;simp only[go_sem,Qa,f,e,Qv e,j,Qm k,o,Qm m];apply Qg g;simp only[go_sem,Qa,f,e,Qv e,j,Qm k,o,Qm m];rfl
def mu{h:List Ob}{lx ly}{z K}{a b c:Tr}{e O}{p N q M}(v:h[lx]? = some (Ec z (.ptr ly 0 0 0) c.ptr e p N))(u:h[ly]? = some (Ec K a.ptr b.ptr O q M))
  (L:KO h a) (C:KO h b) (B:KO h c) (V:(lx::ly::(a.QK++b.QK++c.QK)).Nodup) (W:a.size+b.size+c.size<900000) :
  QI prog 257 h [.ptr lx 0 0 0,Qb 0] (λd y=>d=.ptr ly 0 0 0/\KO y (.node ly K a (.node lx z b c))/\y.length=h.length/\∀l,l≠lx->l≠ly->y[l]? = h[l]?):=by
 have P:=V;simp only[ZN,QE,QW,YX]at P;obtain⟨⟨I,⟨s,i⟩,g⟩,⟨⟨t,m⟩,k⟩,_⟩:=P;have E:ly≠lx:=Q1 I;rcases b with _|⟨T,S,R,Q⟩
 .simp only[Tr.F4,Tr.Cg]at v u;refine QZ func257 ntmps257 results257 λJ w U j=>?_;have f:=Qc v;have o:=Qc u;simp only[go_sem,Qa,v,f,u,o];apply Qw j i4;simp only[go_sem,Qa,v,f,u,o,Qm I,Qv f];refine Vo j Ca rfl ?_ (Ch (loc:=lx) (l:=Tr.nil) (r:=c) (it:=z) (hi:=p) (n:=N) (le:=e) ⟨?_,?_,?_⟩ ?_ ?_ i g) rfl λd y x=>?_
  .simp only[go_sem]
  .rw[Qm E,Qv f];rfl
  .exact(C.set _ i).set _ m
  .exact(B.set _ g).set _ k
  .omega
  .omega
  subst x;apply QC j;refine Vo j Ca rfl ?_ (Ch (loc:=ly) (l:=a) (r:=(.node lx z Tr.nil c)) (it:=K) (hi:=q) (n:=M) (le:=O) ⟨?_,?_,?_⟩ ?_ ?_ ?_ ?_) rfl λd y x=>?_
  .simp only[go_sem]
  .rw[Qm I,Qv (by simpa using o)];rfl
  .exact((L.set _ s).set _ t).set _ s
  .exact⟨Qv (by simpa using f),((C.set _ i).set _ m).set _ i,((B.set _ g).set _ k).set _ g⟩
  .simp only[Tr.size]at *;omega
  .simp only[Tr.size]at *;omega
  .exact t
  .intro hm;rcases QE.1 hm with hm|hm;exact E hm;rcases QW.1 hm with hm|hm;exact m hm;exact k hm
  subst x;apply QC j;exact⟨⟨Qv (by simpa using o),(((L.set _ s).set _ t).set _ s).set _ t,⟨by rw[Qm E,Qv (by simpa using f)];rfl,(((C.set _ i).set _ m).set _ i).set _ m,(((B.set _ g).set _ k).set _ g).set _ k⟩⟩,λl H F=>by rw[Qm (Q1 F),Qm (Q1 H),Qm (Q1 F),Qm (Q1 H)]⟩
 .simp only[Tr.F4,Tr.Cg]at v u;refine QZ func257 ntmps257 results257 λJ w U j=>?_;have f:=Qc v;have o:=Qc u;simp only[go_sem,Qa,v,f,u,o];apply Qw j i4;simp only[go_sem,Qa,v,f,u,o,Qm I,Qv f];refine Vo j Ca rfl ?_ (Ch (loc:=lx) (l:=(Tr.node T S R Q)) (r:=c) (it:=z) (hi:=p) (n:=N) (le:=e) ⟨?_,?_,?_⟩ ?_ ?_ i g) rfl λd y x=>?_
  .simp only[go_sem]
  .rw[Qm E,Qv f];rfl
  .exact(C.set _ i).set _ m
  .exact(B.set _ g).set _ k
  .omega
  .omega
  subst x;apply QC j;refine Vo j Ca rfl ?_ (Ch (loc:=ly) (l:=a) (r:=(.node lx z (Tr.node T S R Q) c)) (it:=K) (hi:=q) (n:=M) (le:=O) ⟨?_,?_,?_⟩ ?_ ?_ ?_ ?_) rfl λd y x=>?_
  .simp only[go_sem]
  .rw[Qm I,Qv (by simpa using o)];rfl
  .exact((L.set _ s).set _ t).set _ s
  .exact⟨Qv (by simpa using f),((C.set _ i).set _ m).set _ i,((B.set _ g).set _ k).set _ g⟩
  .simp only[Tr.size]at *;omega
  .simp only[Tr.size]at *;omega
  .exact t
  .intro hm;rcases QE.1 hm with hm|hm;exact E hm;rcases QW.1 hm with hm|hm;exact m hm;exact k hm
  subst x;apply QC j;exact⟨⟨Qv (by simpa using o),(((L.set _ s).set _ t).set _ s).set _ t,⟨by rw[Qm E,Qv (by simpa using f)];rfl,(((C.set _ i).set _ m).set _ i).set _ m,(((B.set _ g).set _ k).set _ g).set _ k⟩⟩,λl H F=>by rw[Qm (Q1 F),Qm (Q1 H),Qm (Q1 F),Qm (Q1 H)]⟩
def mv{h:List Ob}{lx ly}{z K}{a b c:Tr}{e O}{p N q M}(v:h[lx]? = some (Ec z a.ptr (.ptr ly 0 0 0) e p N))(u:h[ly]? = some (Ec K b.ptr c.ptr O q M))
  (C:KO h a) (B:KO h b) (L:KO h c) (V:(lx::ly::(a.QK++b.QK++c.QK)).Nodup) (W:a.size+b.size+c.size<900000) :
  QI prog 257 h [.ptr lx 0 0 0,Qb 1] (λd y=>d=.ptr ly 0 0 0/\KO y (.node ly K (.node lx z a b) c)/\y.length=h.length/\∀l,l≠lx->l≠ly->y[l]? = h[l]?):=by
 have P:=V;simp only[ZN,QE,QW,YX]at P;obtain⟨⟨I,⟨i,g⟩,s⟩,⟨⟨m,k⟩,t⟩,_⟩:=P;have E:ly≠lx:=Q1 I;rcases b with _|⟨T,S,R,Q⟩
 .simp only[Tr.F4,Tr.Cg]at v u;refine QZ func257 ntmps257 results257 λJ w U j=>?_;have f:=Qc v;have o:=Qc u;simp only[go_sem,Qa,v,f,u,o];apply Qw j i4;simp only[go_sem,Qa,v,f,u,o,Qm I,Qv f];refine Vo j Ca rfl ?_ (Ch (loc:=lx) (l:=a) (r:=Tr.nil) (it:=z) (hi:=p) (n:=N) (le:=e) ⟨?_,?_,?_⟩ ?_ ?_ i g) rfl λd y x=>?_
  .simp only[go_sem]
  .rw[Qm E,Qv f];rfl
  .exact(C.set _ i).set _ m
  .exact(B.set _ g).set _ k
  .omega
  .omega
  subst x;apply QC j;refine Vo j Ca rfl ?_ (Ch (loc:=ly) (l:=(.node lx z a Tr.nil)) (r:=c) (it:=K) (hi:=q) (n:=M) (le:=O) ⟨?_,?_,?_⟩ ?_ ?_ ?_ ?_) rfl λd y x=>?_
  .simp only[go_sem]
  .rw[Qm I,Qv (by simpa using o)];rfl
  .exact⟨Qv (by simpa using f),((C.set _ i).set _ m).set _ i,((B.set _ g).set _ k).set _ g⟩
  .exact((L.set _ s).set _ t).set _ s
  .simp only[Tr.size]at *;omega
  .simp only[Tr.size]at *;omega
  .intro hm;rcases QE.1 hm with hm|hm;exact E hm;rcases QW.1 hm with hm|hm;exact m hm;exact k hm
  .exact t
  subst x;apply QC j;exact⟨⟨Qv (by simpa using o),⟨by rw[Qm E,Qv (by simpa using f)];rfl,(((C.set _ i).set _ m).set _ i).set _ m,(((B.set _ g).set _ k).set _ g).set _ k⟩,(((L.set _ s).set _ t).set _ s).set _ t⟩,λl H F=>by rw[Qm (Q1 F),Qm (Q1 H),Qm (Q1 F),Qm (Q1 H)]⟩
 .simp only[Tr.F4,Tr.Cg]at v u;refine QZ func257 ntmps257 results257 λJ w U j=>?_;have f:=Qc v;have o:=Qc u;simp only[go_sem,Qa,v,f,u,o];apply Qw j i4;simp only[go_sem,Qa,v,f,u,o,Qm I,Qv f];refine Vo j Ca rfl ?_ (Ch (loc:=lx) (l:=a) (r:=(Tr.node T S R Q)) (it:=z) (hi:=p) (n:=N) (le:=e) ⟨?_,?_,?_⟩ ?_ ?_ i g) rfl λd y x=>?_
  .simp only[go_sem]
  .rw[Qm E,Qv f];rfl
  .exact(C.set _ i).set _ m
  .exact(B.set _ g).set _ k
  .omega
  .omega
  subst x;apply QC j;refine Vo j Ca rfl ?_ (Ch (loc:=ly) (l:=(.node lx z a (Tr.node T S R Q))) (r:=c) (it:=K) (hi:=q) (n:=M) (le:=O) ⟨?_,?_,?_⟩ ?_ ?_ ?_ ?_) rfl λd y x=>?_
  .simp only[go_sem]
  .rw[Qm I,Qv (by simpa using o)];rfl
  .exact⟨Qv (by simpa using f),((C.set _ i).set _ m).set _ i,((B.set _ g).set _ k).set _ g⟩
  .exact((L.set _ s).set _ t).set _ s
  .simp only[Tr.size]at *;omega
  .simp only[Tr.size]at *;omega
  .intro hm;rcases QE.1 hm with hm|hm;exact E hm;rcases QW.1 hm with hm|hm;exact m hm;exact k hm
  .exact t
  subst x;apply QC j;exact⟨⟨Qv (by simpa using o),⟨by rw[Qm E,Qv (by simpa using f)];rfl,(((C.set _ i).set _ m).set _ i).set _ m,(((B.set _ g).set _ k).set _ g).set _ k⟩,(((L.set _ s).set _ t).set _ s).set _ t⟩,λl H F=>by rw[Qm (Q1 F),Qm (Q1 H),Qm (Q1 F),Qm (Q1 H)]⟩
def mw{h}{loc}{it}{l r:Tr}{le}{hi n}(i:Raw h loc it l r le hi n)(g:(loc::(l.QK++r.QK)).Nodup)(hs:l.size+r.size<800000):
  QI prog 243 h [.ptr loc 0 0 0] (λd h'=>∃t',d=t'.ptr/\zZ h (.node loc it l r) (l.list++it::r.list) h' t'):=by
 have Z:=g;simp only[ZN,QW,YX]at Z;obtain⟨⟨Q,P⟩,a2⟩:=Z;have hl:=l.MP;have hr:=r.MP;have el:IntKind.i64.wrap ((l.high:Int)+1)=((l.high+1:Nat):Int):=Zu;have er:IntKind.i64.wrap ((r.high:Int)+1)=((r.high+1:Nat):Int):=Zu;have h1:=i.o;refine QZ func243 ntmps243 results243 λa1 w pl f=>?_;have QH:=Qc h1;simp only[go_sem,Qa,h1,QH];refine Jb f Ca (Ch (loc:=loc) i ω ω Q P) λd N p=>?_;have a0:N.length=h.length:=by rw[p];simp
 have t2:KO N (.node loc it l r):=by
  rw[p];exact⟨Qv QH,i.il.set _ Q,i.ir.set _ P⟩
 have k2:∀k,k≠loc->N[k]? = h[k]? := λk o=>by rw[p,Qm (Q1 o)]
 clear p;have H:zZ h (.node loc it l r) (Tr.node loc it l r).list N (.node loc it l r):=⟨t2,rfl,g,λ_ h=>.inl h,λk _ hn=>k2 k λe=>hn (by rw[e];simp[Tr.QK]),ω⟩;have j:=t2.1;have m:=Qc j;apply Qg f;simp only[go_sem,Qa,j,m];refine kV 2 ?_;apply Qg f;simp only[go_sem,Qa,j,m];apply Qw f [0,2,3,4,5,6,7,8,1001,1009,10,11];simp only[go_sem,Qa,j,m];apply V0 f jN (jR t2.2.1.toR);apply Q7 f;simp only[go_sem,Qa,j,m];refine Yb f jN ?_ (jR t2.2.2.toR) ?_
 .simp only[go_sem,Qa,j,m,er]
 apply Q7 f;simp only[go_sem,Qa,j,m,er];by_cases V:l.high<=r.high+1
 .have d0:=Q3 V;simp only[go_sem,Qa,d0];apply Qg f;simp only[go_sem,Qa,j,m];apply Qw f [0,2,3,4,5,6,7,8,1001,1009,10,11];simp only[go_sem,Qa,j,m];apply V0 f jN (jR t2.2.2.toR);apply Q7 f;simp only[go_sem,Qa,j,m];refine Yb f jN ?_ (jR t2.2.1.toR) ?_
  .simp only[go_sem,Qa,j,m,el]
  apply Q7 f;simp only[go_sem,Qa,j,m,el];by_cases U:r.high<=l.high+1
  .have d1:=Q3 U;simp only[go_sem,Qa,d1];apply Qg f;simp only[go_sem,Qa,j,m];apply Zd f;exact⟨.node loc it l r,rfl,H⟩
  .have d1:=QS U;simp only[go_sem,Qa,d1];cases r with
   | nil=>exact absurd (KF _) U
   | node q y b a=>
    have M:=hs;simp only[Tr.size]at M;have s:=t2.2.2.1;have E:=Qc s;have W:loc≠q:=by rintro rfl;simp[Tr.QK,ZN,JP,QE,QW]at g
    apply Qw f [0,1,2,3,4,5,6,8,9,10,11,12,13,1007,1014,15];simp only[go_sem,Qa,j,m,s,E];apply V0 f jN (jR t2.2.2.2.1.toR);apply Q7 f;simp only[go_sem,Qa,j,m,s,E];apply V0 f jN (jR t2.2.2.2.2.toR);apply Q7 f;simp only[go_sem,Qa,j,m,s,E];by_cases z:a.high<b.high
    .have d2:=Q3 z;simp only[go_sem,Qa,d2];cases b with
     | nil=>exact absurd z (XL _)
     | node t S C B=>
      simp only[Tr.Cg]at s;simp only[Tr.size]at M;have K:=t2.2.2.2.1.1;have Y:=Qc K;have L:loc≠t:=by rintro rfl;simp[Tr.QK,ZN,JP,QE,QW]at g
      have yQ:q≠t:=by rintro rfl;simp[Tr.QK,ZN,JP,QE,QW]at g
      apply KX [5] f [0,1,2,3,4,6,7,1005,8,1009] [];simp only[go_sem,Qa,j,m];refine kW f MC (mu (lx:=q) (ly:=t) (a:=C) (b:=B) (c:=a) s K t2.2.2.2.1.2.1 t2.2.2.2.1.2.2 t2.2.2.2.2 (by simp only[Tr.QK,ZN,JP,QE,QW]at g ⊢;grind) ω) λd J p=>?_;obtain⟨rfl,t4,R,x⟩:=p;have I:J[loc]? = _:=(x loc W L).trans j;have F:=Qc I;apply Q7 f;simp only[go_sem,Qa,I,F];have O:KO J l:=t2.2.1.frame λk o=>x k (by rintro rfl;simp only[Tr.QK,ZN,JP,QE,QW]at g;grind) (by rintro rfl;simp only[Tr.QK,ZN,JP,QE,QW]at g;grind);apply Zd f;refine Jb f MC (mv (lx:=loc) (ly:=t) (a:=l) (b:=C) (c:=.node q y B a) (Qv F) ((Qm L).trans t4.1) (O.set _ Q) (t4.2.1.set _ (by simp only[Tr.QK,ZN,JP,QE,QW]at g ⊢;grind)) (t4.2.2.set _ (by simp only[Tr.QK,ZN,JP,QE,QW]at g ⊢;grind)) (by simp only[Tr.QK,ZN,JP,QE,QW]at g ⊢;grind) (by simp only[Tr.size];omega)) λd T p=>?_;obtain⟨rfl,t8,u,v⟩:=p;apply Zd f;refine⟨(.node t S (.node loc it l C) (.node q y B a)),rfl,H.trans ⟨t8,by simp[Tr.list],by simp only[Tr.QK,ZN,JP,QE,QW]at g ⊢;grind,λk o=>.inl (by simp only[Tr.QK,QE,QW]at o ⊢;grind),λk _ o=>?_,by rw[u,Xd,R];exact QB _⟩⟩;simp only[Tr.QK,QE,QW,YX]at o;rw[v k (by grind) (by grind),Qm (by grind),x k (by grind) (by grind)]
    .have d2:=QS z;simp only[go_sem,Qa,d2];apply Zd f;refine Jb f MC (mv (lx:=loc) (ly:=q) (a:=l) (b:=b) (c:=a) j s t2.2.1 t2.2.2.2.1 t2.2.2.2.2 (by simp only[Tr.QK,ZN,JP,QE,QW]at g ⊢;grind) ω) λd T p=>?_;obtain⟨rfl,t8,u,v⟩:=p;apply Zd f;refine⟨(.node q y (.node loc it l b) a),rfl,H.trans ⟨t8,by simp[Tr.list],by simp only[Tr.QK,ZN,JP,QE,QW]at g ⊢;grind,λk o=>.inl (by simp only[Tr.QK,QE,QW]at o ⊢;grind),λk _ o=>?_,by rw[u];exact QB _⟩⟩;simp only[Tr.QK,QE,QW,YX]at o;exact v k (by grind) (by grind)
 .have d0:=QS V;simp only[go_sem,Qa,d0];cases l with
  | nil=>exact absurd (KF _) V
  | node q y a b=>
   have M:=hs;simp only[Tr.size]at M;have s:=t2.2.1.1;have E:=Qc s;have W:loc≠q:=by rintro rfl;simp[Tr.QK,ZN,JP,QE,QW]at g
   apply Qw f [0,1,2,3,4,5,6,8,9,10,11,12,13,1007,1014,15];simp only[go_sem,Qa,j,m,s,E];apply V0 f jN (jR t2.2.1.2.2.toR);apply Q7 f;simp only[go_sem,Qa,j,m,s,E];apply V0 f jN (jR t2.2.1.2.1.toR);apply Q7 f;simp only[go_sem,Qa,j,m,s,E];by_cases z:a.high<b.high
   .have d2:=Q3 z;simp only[go_sem,Qa,d2];cases b with
    | nil=>exact absurd z (XL _)
    | node t S C B=>
     simp only[Tr.Cg]at s;simp only[Tr.size]at M;have K:=t2.2.1.2.2.1;have Y:=Qc K;have L:loc≠t:=by rintro rfl;simp[Tr.QK,ZN,JP,QE,QW]at g
     have yQ:q≠t:=by rintro rfl;simp[Tr.QK,ZN,JP,QE,QW]at g
     apply KX [5] f [0,1,2,3,4,6,7,1005,8,1009] [];simp only[go_sem,Qa,j,m];refine kW f MC (mv (lx:=q) (ly:=t) (a:=a) (b:=C) (c:=B) s K t2.2.1.2.1 t2.2.1.2.2.2.1 t2.2.1.2.2.2.2 (by simp only[Tr.QK,ZN,JP,QE,QW]at g ⊢;grind) ω) λd J p=>?_;obtain⟨rfl,t4,R,x⟩:=p;have I:J[loc]? = _:=(x loc W L).trans j;have F:=Qc I;apply Q7 f;simp only[go_sem,Qa,I,F];have O:KO J r:=t2.2.2.frame λk o=>x k (by rintro rfl;simp only[Tr.QK,ZN,JP,QE,QW]at g;grind) (by rintro rfl;simp only[Tr.QK,ZN,JP,QE,QW]at g;grind);apply Zd f;refine Jb f MC (mu (lx:=loc) (ly:=t) (a:=.node q y a C) (b:=B) (c:=r) (Qv F) ((Qm L).trans t4.1) (t4.2.1.set _ (by simp only[Tr.QK,ZN,JP,QE,QW]at g ⊢;grind)) (t4.2.2.set _ (by simp only[Tr.QK,ZN,JP,QE,QW]at g ⊢;grind)) (O.set _ P) (by simp only[Tr.QK,ZN,JP,QE,QW]at g ⊢;grind) (by simp only[Tr.size];omega)) λd T p=>?_;obtain⟨rfl,t8,u,v⟩:=p;apply Zd f;refine⟨(.node t S (.node q y a C) (.node loc it B r)),rfl,H.trans ⟨t8,by simp[Tr.list],by simp only[Tr.QK,ZN,JP,QE,QW]at g ⊢;grind,λk o=>.inl (by simp only[Tr.QK,QE,QW]at o ⊢;grind),λk _ o=>?_,by rw[u,Xd,R];exact QB _⟩⟩;simp only[Tr.QK,QE,QW,YX]at o;rw[v k (by grind) (by grind),Qm (by grind),x k (by grind) (by grind)]
   .have d2:=QS z;simp only[go_sem,Qa,d2];apply Zd f;refine Jb f MC (mu (lx:=loc) (ly:=q) (a:=a) (b:=b) (c:=r) j s t2.2.1.2.1 t2.2.1.2.2 t2.2.2 (by simp only[Tr.QK,ZN,JP,QE,QW]at g ⊢;grind) ω) λd T p=>?_;obtain⟨rfl,t8,u,v⟩:=p;apply Zd f;refine⟨(.node q y a (.node loc it b r)),rfl,H.trans ⟨t8,by simp[Tr.list],by simp only[Tr.QK,ZN,JP,QE,QW]at g ⊢;grind,λk o=>.inl (by simp only[Tr.QK,QE,QW]at o ⊢;grind),λk _ o=>?_,by rw[u];exact QB _⟩⟩;simp only[Tr.QK,QE,QW,YX]at o;exact v k (by grind) (by grind)
end Go.Fg.X
