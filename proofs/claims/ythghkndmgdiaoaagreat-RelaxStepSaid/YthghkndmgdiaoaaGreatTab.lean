/- The table of the functions. -/
import Derived.KernelRfl
import Derived.Test.YthghkndmgdiaoaaGreatEngAll2
import Derived.Test.YthghkndmgdiaoaaGreatIr0
import Derived.Test.YthghkndmgdiaoaaGreatIr1
import Derived.Test.YthghkndmgdiaoaaGreatIr2
namespace Go.EnvOf
open Go Go.Eng
set_option maxRecDepth 100000
def tb0:List (Nat×IFn):=[(5,ir5),(9,ir9),(11,ir11),(13,ir13),(15,ir15),(20,ir20),(21,ir21),(24,ir24),(25,ir25),(26,ir26),(27,ir27),(28,ir28)]
def tb1:List (Nat×IFn):=[(29,ir29),(30,ir30),(44,ir44),(45,ir45),(46,ir46),(47,ir47),(48,ir48),(49,ir49),(50,ir50),(51,ir51),(52,ir52),(53,ir53)]
def tb2:List (Nat×IFn):=[(56,ir56),(66,ir66),(67,ir67),(68,ir68),(69,ir69),(70,ir70),(71,ir71),(75,ir75),(76,ir76),(77,ir77),(78,ir78),(80,ir80)]
def tb3:List (Nat×IFn):=[(81,ir81),(82,ir82),(83,ir83),(84,ir84),(85,ir85),(86,ir86),(87,ir87),(88,ir88),(89,ir89),(90,ir90),(91,ir91),(92,ir92)]
def tb4:List (Nat×IFn):=[(93,ir93),(94,ir94),(95,ir95),(96,ir96),(97,ir97),(98,ir98),(99,ir99),(100,ir100),(101,ir101),(102,ir102),(103,ir103),(104,ir104)]
def tb5:List (Nat×IFn):=[(117,ir117),(121,ir121),(123,ir123),(124,ir124),(125,ir125),(126,ir126),(127,ir127),(128,ir128),(129,ir129),(130,ir130),(131,ir131),(132,ir132)]
def tb6:List (Nat×IFn):=[(133,ir133),(134,ir134),(135,ir135),(136,ir136),(137,ir137),(146,ir146),(165,ir165),(166,ir166),(167,ir167),(168,ir168),(169,ir169),(170,ir170)]
def tb7:List (Nat×IFn):=[(171,ir171),(172,ir172),(173,ir173),(174,ir174),(177,ir177),(178,ir178),(179,ir179),(180,ir180),(181,ir181),(183,ir183),(184,ir184),(185,ir185)]
def tb8:List (Nat×IFn):=[(186,ir186),(187,ir187),(188,ir188),(189,ir189),(190,ir190),(191,ir191),(192,ir192),(193,ir193),(194,ir194),(195,ir195),(196,ir196),(197,ir197)]
def tb9:List (Nat×IFn):=[(198,ir198),(199,ir199),(200,ir200),(201,ir201),(202,ir202),(203,ir203),(204,ir204),(205,ir205),(206,ir206),(207,ir207),(208,ir208),(209,ir209)]
def tb10:List (Nat×IFn):=[(231,ir231),(232,ir232),(233,ir233),(234,ir234),(235,ir235),(236,ir236),(237,ir237),(238,ir238),(239,ir239),(240,ir240),(263,ir263),(264,ir264)]
def tb11:List (Nat×IFn):=[(265,ir265),(266,ir266),(267,ir267),(268,ir268),(269,ir269),(270,ir270),(271,ir271),(272,ir272),(273,ir273),(274,ir274),(290,ir290),(291,ir291)]
def tb12:List (Nat×IFn):=[(292,ir292),(293,ir293),(295,ir295),(296,ir296),(297,ir297),(298,ir298),(299,ir299),(300,ir300),(301,ir301),(302,ir302),(303,ir303),(304,ir304)]
def tb13:List (Nat×IFn):=[(305,ir305),(306,ir306),(307,ir307),(308,ir308),(309,ir309),(310,ir310),(311,ir311),(312,ir312),(313,ir313),(314,ir314),(315,ir315),(316,ir316)]
def tb14:List (Nat×IFn):=[(330,ir330),(331,ir331),(332,ir332),(333,ir333),(334,ir334),(335,ir335),(336,ir336),(337,ir337),(338,ir338),(339,ir339),(340,ir340),(341,ir341)]
def tb15:List (Nat×IFn):=[(342,ir342),(343,ir343),(344,ir344),(345,ir345),(346,ir346),(347,ir347),(348,ir348),(349,ir349),(350,ir350),(358,ir358),(359,ir359),(360,ir360)]
def tb16:List (Nat×IFn):=[(361,ir361),(362,ir362),(363,ir363),(365,ir365),(366,ir366),(367,ir367),(368,ir368),(369,ir369),(371,ir371),(372,ir372),(373,ir373),(374,ir374)]
def tb17:List (Nat×IFn):=[(375,ir375),(376,ir376),(377,ir377),(378,ir378),(379,ir379),(387,ir387),(388,ir388),(389,ir389),(390,ir390),(391,ir391),(392,ir392),(393,ir393)]
def tb18:List (Nat×IFn):=[(394,ir394),(395,ir395),(396,ir396),(397,ir397),(398,ir398),(399,ir399),(400,ir400),(401,ir401),(402,ir402),(403,ir403),(404,ir404),(405,ir405)]
def tb19:List (Nat×IFn):=[(408,ir408),(409,ir409),(410,ir410),(411,ir411),(412,ir412),(413,ir413),(414,ir414),(415,ir415),(416,ir416),(417,ir417),(419,ir419),(420,ir420)]
def tb20:List (Nat×IFn):=[(421,ir421),(422,ir422),(423,ir423),(424,ir424),(425,ir425),(426,ir426),(427,ir427),(428,ir428),(429,ir429),(430,ir430),(431,ir431),(432,ir432)]
def tb21:List (Nat×IFn):=[(433,ir433),(434,ir434),(435,ir435),(436,ir436),(437,ir437),(438,ir438),(439,ir439),(440,ir440),(452,ir452),(453,ir453)]
def tab:List (Nat×IFn):=tb0++(tb1++(tb2++(tb3++(tb4++(tb5++(tb6++(tb7++(tb8++(tb9++(tb10++(tb11++(tb12++(tb13++(tb14++(tb15++(tb16++(tb17++(tb18++(tb19++(tb20++(tb21)))))))))))))))))))))
def fnsT (f:FuncId):Option IFn:=(tab.find? fun p=>p.1==f).map (·.2)
def EE0:Env:=⟨fnsT,fun f=>if f=364 then some sortP else none⟩
def sayK:List Nat:=[24]
def primT (f:FuncId):Option (List V→Heap→Option CR):=if f∈sayK then some sayP else if f=364 then some sortP else none
def EE:Env:=⟨fnsT,primT⟩
theorem noP (f:FuncId) (h:f≠364∧f∉sayK:=by decide):EE.prims f=none:=by
 show primT f=none
 unfold primT
 rw [if_neg h.2,if_neg h.1]
theorem q0lh:EE.prims 364=some sortP:=rfl
theorem say24:EE.prims 24=some sayP:=rfl
theorem q1av (H:Heap):clD EE (.p (.fn 24)) [] H=some (.p (.bool true),none):=by
 rw [q085];simp only [clStep.go,say24];rfl
theorem fn5:EE.fns 5=some ir5:=by kernel_rfl
theorem fn9:EE.fns 9=some ir9:=by kernel_rfl
theorem fn11:EE.fns 11=some ir11:=by kernel_rfl
theorem fn13:EE.fns 13=some ir13:=by kernel_rfl
theorem fn15:EE.fns 15=some ir15:=by kernel_rfl
theorem fn20:EE.fns 20=some ir20:=by kernel_rfl
theorem fn21:EE.fns 21=some ir21:=by kernel_rfl
theorem fn24:EE.fns 24=some ir24:=by kernel_rfl
theorem fn25:EE.fns 25=some ir25:=by kernel_rfl
theorem fn26:EE.fns 26=some ir26:=by kernel_rfl
theorem fn27:EE.fns 27=some ir27:=by kernel_rfl
theorem fn28:EE.fns 28=some ir28:=by kernel_rfl
theorem fn29:EE.fns 29=some ir29:=by kernel_rfl
theorem fn30:EE.fns 30=some ir30:=by kernel_rfl
theorem fn44:EE.fns 44=some ir44:=by kernel_rfl
theorem fn45:EE.fns 45=some ir45:=by kernel_rfl
theorem fn46:EE.fns 46=some ir46:=by kernel_rfl
theorem fn47:EE.fns 47=some ir47:=by kernel_rfl
theorem fn48:EE.fns 48=some ir48:=by kernel_rfl
theorem fn49:EE.fns 49=some ir49:=by kernel_rfl
theorem fn50:EE.fns 50=some ir50:=by kernel_rfl
theorem fn51:EE.fns 51=some ir51:=by kernel_rfl
theorem fn52:EE.fns 52=some ir52:=by kernel_rfl
theorem fn53:EE.fns 53=some ir53:=by kernel_rfl
theorem fn56:EE.fns 56=some ir56:=by kernel_rfl
theorem fn66:EE.fns 66=some ir66:=by kernel_rfl
theorem fn67:EE.fns 67=some ir67:=by kernel_rfl
theorem fn68:EE.fns 68=some ir68:=by kernel_rfl
theorem fn69:EE.fns 69=some ir69:=by kernel_rfl
theorem fn70:EE.fns 70=some ir70:=by kernel_rfl
theorem fn71:EE.fns 71=some ir71:=by kernel_rfl
theorem fn75:EE.fns 75=some ir75:=by kernel_rfl
theorem fn76:EE.fns 76=some ir76:=by kernel_rfl
theorem fn77:EE.fns 77=some ir77:=by kernel_rfl
theorem fn78:EE.fns 78=some ir78:=by kernel_rfl
theorem fn80:EE.fns 80=some ir80:=by kernel_rfl
theorem fn81:EE.fns 81=some ir81:=by kernel_rfl
theorem fn82:EE.fns 82=some ir82:=by kernel_rfl
theorem fn83:EE.fns 83=some ir83:=by kernel_rfl
theorem fn84:EE.fns 84=some ir84:=by kernel_rfl
theorem fn85:EE.fns 85=some ir85:=by kernel_rfl
theorem fn86:EE.fns 86=some ir86:=by kernel_rfl
theorem fn87:EE.fns 87=some ir87:=by kernel_rfl
theorem fn88:EE.fns 88=some ir88:=by kernel_rfl
theorem fn89:EE.fns 89=some ir89:=by kernel_rfl
theorem fn90:EE.fns 90=some ir90:=by kernel_rfl
theorem fn91:EE.fns 91=some ir91:=by kernel_rfl
theorem fn92:EE.fns 92=some ir92:=by kernel_rfl
theorem fn93:EE.fns 93=some ir93:=by kernel_rfl
theorem fn94:EE.fns 94=some ir94:=by kernel_rfl
theorem fn95:EE.fns 95=some ir95:=by kernel_rfl
theorem fn96:EE.fns 96=some ir96:=by kernel_rfl
theorem fn97:EE.fns 97=some ir97:=by kernel_rfl
theorem fn98:EE.fns 98=some ir98:=by kernel_rfl
theorem fn99:EE.fns 99=some ir99:=by kernel_rfl
theorem fn100:EE.fns 100=some ir100:=by kernel_rfl
theorem fn101:EE.fns 101=some ir101:=by kernel_rfl
theorem fn102:EE.fns 102=some ir102:=by kernel_rfl
theorem fn103:EE.fns 103=some ir103:=by kernel_rfl
theorem fn104:EE.fns 104=some ir104:=by kernel_rfl
theorem fn117:EE.fns 117=some ir117:=by kernel_rfl
theorem fn121:EE.fns 121=some ir121:=by kernel_rfl
theorem fn123:EE.fns 123=some ir123:=by kernel_rfl
theorem fn124:EE.fns 124=some ir124:=by kernel_rfl
theorem fn125:EE.fns 125=some ir125:=by kernel_rfl
theorem fn126:EE.fns 126=some ir126:=by kernel_rfl
theorem fn127:EE.fns 127=some ir127:=by kernel_rfl
theorem fn128:EE.fns 128=some ir128:=by kernel_rfl
theorem fn129:EE.fns 129=some ir129:=by kernel_rfl
theorem fn130:EE.fns 130=some ir130:=by kernel_rfl
theorem fn131:EE.fns 131=some ir131:=by kernel_rfl
theorem fn132:EE.fns 132=some ir132:=by kernel_rfl
theorem fn133:EE.fns 133=some ir133:=by kernel_rfl
theorem fn134:EE.fns 134=some ir134:=by kernel_rfl
theorem fn135:EE.fns 135=some ir135:=by kernel_rfl
theorem fn136:EE.fns 136=some ir136:=by kernel_rfl
theorem fn137:EE.fns 137=some ir137:=by kernel_rfl
theorem fn146:EE.fns 146=some ir146:=by kernel_rfl
theorem fn165:EE.fns 165=some ir165:=by kernel_rfl
theorem fn166:EE.fns 166=some ir166:=by kernel_rfl
theorem fn167:EE.fns 167=some ir167:=by kernel_rfl
theorem fn168:EE.fns 168=some ir168:=by kernel_rfl
theorem fn169:EE.fns 169=some ir169:=by kernel_rfl
theorem fn170:EE.fns 170=some ir170:=by kernel_rfl
theorem fn171:EE.fns 171=some ir171:=by kernel_rfl
theorem fn172:EE.fns 172=some ir172:=by kernel_rfl
theorem fn173:EE.fns 173=some ir173:=by kernel_rfl
theorem fn174:EE.fns 174=some ir174:=by kernel_rfl
theorem fn177:EE.fns 177=some ir177:=by kernel_rfl
theorem fn178:EE.fns 178=some ir178:=by kernel_rfl
theorem fn179:EE.fns 179=some ir179:=by kernel_rfl
theorem fn180:EE.fns 180=some ir180:=by kernel_rfl
theorem fn181:EE.fns 181=some ir181:=by kernel_rfl
theorem fn183:EE.fns 183=some ir183:=by kernel_rfl
theorem fn184:EE.fns 184=some ir184:=by kernel_rfl
theorem fn185:EE.fns 185=some ir185:=by kernel_rfl
theorem fn186:EE.fns 186=some ir186:=by kernel_rfl
theorem fn187:EE.fns 187=some ir187:=by kernel_rfl
theorem fn188:EE.fns 188=some ir188:=by kernel_rfl
theorem fn189:EE.fns 189=some ir189:=by kernel_rfl
theorem fn190:EE.fns 190=some ir190:=by kernel_rfl
theorem fn191:EE.fns 191=some ir191:=by kernel_rfl
theorem fn192:EE.fns 192=some ir192:=by kernel_rfl
theorem fn193:EE.fns 193=some ir193:=by kernel_rfl
theorem fn194:EE.fns 194=some ir194:=by kernel_rfl
theorem fn195:EE.fns 195=some ir195:=by kernel_rfl
theorem fn196:EE.fns 196=some ir196:=by kernel_rfl
theorem fn197:EE.fns 197=some ir197:=by kernel_rfl
theorem fn198:EE.fns 198=some ir198:=by kernel_rfl
theorem fn199:EE.fns 199=some ir199:=by kernel_rfl
theorem fn200:EE.fns 200=some ir200:=by kernel_rfl
theorem fn201:EE.fns 201=some ir201:=by kernel_rfl
theorem fn202:EE.fns 202=some ir202:=by kernel_rfl
theorem fn203:EE.fns 203=some ir203:=by kernel_rfl
theorem fn204:EE.fns 204=some ir204:=by kernel_rfl
theorem fn205:EE.fns 205=some ir205:=by kernel_rfl
theorem fn206:EE.fns 206=some ir206:=by kernel_rfl
theorem fn207:EE.fns 207=some ir207:=by kernel_rfl
theorem fn208:EE.fns 208=some ir208:=by kernel_rfl
theorem fn209:EE.fns 209=some ir209:=by kernel_rfl
theorem fn231:EE.fns 231=some ir231:=by kernel_rfl
theorem fn232:EE.fns 232=some ir232:=by kernel_rfl
theorem fn233:EE.fns 233=some ir233:=by kernel_rfl
theorem fn234:EE.fns 234=some ir234:=by kernel_rfl
theorem fn235:EE.fns 235=some ir235:=by kernel_rfl
theorem fn236:EE.fns 236=some ir236:=by kernel_rfl
theorem fn237:EE.fns 237=some ir237:=by kernel_rfl
theorem fn238:EE.fns 238=some ir238:=by kernel_rfl
theorem fn239:EE.fns 239=some ir239:=by kernel_rfl
theorem fn240:EE.fns 240=some ir240:=by kernel_rfl
theorem fn263:EE.fns 263=some ir263:=by kernel_rfl
theorem fn264:EE.fns 264=some ir264:=by kernel_rfl
theorem fn265:EE.fns 265=some ir265:=by kernel_rfl
theorem fn266:EE.fns 266=some ir266:=by kernel_rfl
theorem fn267:EE.fns 267=some ir267:=by kernel_rfl
theorem fn268:EE.fns 268=some ir268:=by kernel_rfl
theorem fn269:EE.fns 269=some ir269:=by kernel_rfl
theorem fn270:EE.fns 270=some ir270:=by kernel_rfl
theorem fn271:EE.fns 271=some ir271:=by kernel_rfl
theorem fn272:EE.fns 272=some ir272:=by kernel_rfl
theorem fn273:EE.fns 273=some ir273:=by kernel_rfl
theorem fn274:EE.fns 274=some ir274:=by kernel_rfl
theorem fn290:EE.fns 290=some ir290:=by kernel_rfl
theorem fn291:EE.fns 291=some ir291:=by kernel_rfl
theorem fn292:EE.fns 292=some ir292:=by kernel_rfl
theorem fn293:EE.fns 293=some ir293:=by kernel_rfl
theorem fn295:EE.fns 295=some ir295:=by kernel_rfl
theorem fn296:EE.fns 296=some ir296:=by kernel_rfl
theorem fn297:EE.fns 297=some ir297:=by kernel_rfl
theorem fn298:EE.fns 298=some ir298:=by kernel_rfl
theorem fn299:EE.fns 299=some ir299:=by kernel_rfl
theorem fn300:EE.fns 300=some ir300:=by kernel_rfl
theorem fn301:EE.fns 301=some ir301:=by kernel_rfl
theorem fn302:EE.fns 302=some ir302:=by kernel_rfl
theorem fn303:EE.fns 303=some ir303:=by kernel_rfl
theorem fn304:EE.fns 304=some ir304:=by kernel_rfl
theorem fn305:EE.fns 305=some ir305:=by kernel_rfl
theorem fn306:EE.fns 306=some ir306:=by kernel_rfl
theorem fn307:EE.fns 307=some ir307:=by kernel_rfl
theorem fn308:EE.fns 308=some ir308:=by kernel_rfl
theorem fn309:EE.fns 309=some ir309:=by kernel_rfl
theorem fn310:EE.fns 310=some ir310:=by kernel_rfl
theorem fn311:EE.fns 311=some ir311:=by kernel_rfl
theorem fn312:EE.fns 312=some ir312:=by kernel_rfl
theorem fn313:EE.fns 313=some ir313:=by kernel_rfl
theorem fn314:EE.fns 314=some ir314:=by kernel_rfl
theorem fn315:EE.fns 315=some ir315:=by kernel_rfl
theorem fn316:EE.fns 316=some ir316:=by kernel_rfl
theorem fn330:EE.fns 330=some ir330:=by kernel_rfl
theorem fn331:EE.fns 331=some ir331:=by kernel_rfl
theorem fn332:EE.fns 332=some ir332:=by kernel_rfl
theorem fn333:EE.fns 333=some ir333:=by kernel_rfl
theorem fn334:EE.fns 334=some ir334:=by kernel_rfl
theorem fn335:EE.fns 335=some ir335:=by kernel_rfl
theorem fn336:EE.fns 336=some ir336:=by kernel_rfl
theorem fn337:EE.fns 337=some ir337:=by kernel_rfl
theorem fn338:EE.fns 338=some ir338:=by kernel_rfl
theorem fn339:EE.fns 339=some ir339:=by kernel_rfl
theorem fn340:EE.fns 340=some ir340:=by kernel_rfl
theorem fn341:EE.fns 341=some ir341:=by kernel_rfl
theorem fn342:EE.fns 342=some ir342:=by kernel_rfl
theorem fn343:EE.fns 343=some ir343:=by kernel_rfl
theorem fn344:EE.fns 344=some ir344:=by kernel_rfl
theorem fn345:EE.fns 345=some ir345:=by kernel_rfl
theorem fn346:EE.fns 346=some ir346:=by kernel_rfl
theorem fn347:EE.fns 347=some ir347:=by kernel_rfl
theorem fn348:EE.fns 348=some ir348:=by kernel_rfl
theorem fn349:EE.fns 349=some ir349:=by kernel_rfl
theorem fn350:EE.fns 350=some ir350:=by kernel_rfl
theorem fn358:EE.fns 358=some ir358:=by kernel_rfl
theorem fn359:EE.fns 359=some ir359:=by kernel_rfl
theorem fn360:EE.fns 360=some ir360:=by kernel_rfl
theorem fn361:EE.fns 361=some ir361:=by kernel_rfl
theorem fn362:EE.fns 362=some ir362:=by kernel_rfl
theorem fn363:EE.fns 363=some ir363:=by kernel_rfl
theorem fn365:EE.fns 365=some ir365:=by kernel_rfl
theorem fn366:EE.fns 366=some ir366:=by kernel_rfl
theorem fn367:EE.fns 367=some ir367:=by kernel_rfl
theorem fn368:EE.fns 368=some ir368:=by kernel_rfl
theorem fn369:EE.fns 369=some ir369:=by kernel_rfl
theorem fn371:EE.fns 371=some ir371:=by kernel_rfl
theorem fn372:EE.fns 372=some ir372:=by kernel_rfl
theorem fn373:EE.fns 373=some ir373:=by kernel_rfl
theorem fn374:EE.fns 374=some ir374:=by kernel_rfl
theorem fn375:EE.fns 375=some ir375:=by kernel_rfl
theorem fn376:EE.fns 376=some ir376:=by kernel_rfl
theorem fn377:EE.fns 377=some ir377:=by kernel_rfl
theorem fn378:EE.fns 378=some ir378:=by kernel_rfl
theorem fn379:EE.fns 379=some ir379:=by kernel_rfl
theorem fn387:EE.fns 387=some ir387:=by kernel_rfl
theorem fn388:EE.fns 388=some ir388:=by kernel_rfl
theorem fn389:EE.fns 389=some ir389:=by kernel_rfl
theorem fn390:EE.fns 390=some ir390:=by kernel_rfl
theorem fn391:EE.fns 391=some ir391:=by kernel_rfl
theorem fn392:EE.fns 392=some ir392:=by kernel_rfl
theorem fn393:EE.fns 393=some ir393:=by kernel_rfl
theorem fn394:EE.fns 394=some ir394:=by kernel_rfl
theorem fn395:EE.fns 395=some ir395:=by kernel_rfl
theorem fn396:EE.fns 396=some ir396:=by kernel_rfl
theorem fn397:EE.fns 397=some ir397:=by kernel_rfl
theorem fn398:EE.fns 398=some ir398:=by kernel_rfl
theorem fn399:EE.fns 399=some ir399:=by kernel_rfl
theorem fn400:EE.fns 400=some ir400:=by kernel_rfl
theorem fn401:EE.fns 401=some ir401:=by kernel_rfl
theorem fn402:EE.fns 402=some ir402:=by kernel_rfl
theorem fn403:EE.fns 403=some ir403:=by kernel_rfl
theorem fn404:EE.fns 404=some ir404:=by kernel_rfl
theorem fn405:EE.fns 405=some ir405:=by kernel_rfl
theorem fn408:EE.fns 408=some ir408:=by kernel_rfl
theorem fn409:EE.fns 409=some ir409:=by kernel_rfl
theorem fn410:EE.fns 410=some ir410:=by kernel_rfl
theorem fn411:EE.fns 411=some ir411:=by kernel_rfl
theorem fn412:EE.fns 412=some ir412:=by kernel_rfl
theorem fn413:EE.fns 413=some ir413:=by kernel_rfl
theorem fn414:EE.fns 414=some ir414:=by kernel_rfl
theorem fn415:EE.fns 415=some ir415:=by kernel_rfl
theorem fn416:EE.fns 416=some ir416:=by kernel_rfl
theorem fn417:EE.fns 417=some ir417:=by kernel_rfl
theorem fn419:EE.fns 419=some ir419:=by kernel_rfl
theorem fn420:EE.fns 420=some ir420:=by kernel_rfl
theorem fn421:EE.fns 421=some ir421:=by kernel_rfl
theorem fn422:EE.fns 422=some ir422:=by kernel_rfl
theorem fn423:EE.fns 423=some ir423:=by kernel_rfl
theorem fn424:EE.fns 424=some ir424:=by kernel_rfl
theorem fn425:EE.fns 425=some ir425:=by kernel_rfl
theorem fn426:EE.fns 426=some ir426:=by kernel_rfl
theorem fn427:EE.fns 427=some ir427:=by kernel_rfl
theorem fn428:EE.fns 428=some ir428:=by kernel_rfl
theorem fn429:EE.fns 429=some ir429:=by kernel_rfl
theorem fn430:EE.fns 430=some ir430:=by kernel_rfl
theorem fn431:EE.fns 431=some ir431:=by kernel_rfl
theorem fn432:EE.fns 432=some ir432:=by kernel_rfl
theorem fn433:EE.fns 433=some ir433:=by kernel_rfl
theorem fn434:EE.fns 434=some ir434:=by kernel_rfl
theorem fn435:EE.fns 435=some ir435:=by kernel_rfl
theorem fn436:EE.fns 436=some ir436:=by kernel_rfl
theorem fn437:EE.fns 437=some ir437:=by kernel_rfl
theorem fn438:EE.fns 438=some ir438:=by kernel_rfl
theorem fn439:EE.fns 439=some ir439:=by kernel_rfl
theorem fn440:EE.fns 440=some ir440:=by kernel_rfl
theorem fn452:EE.fns 452=some ir452:=by kernel_rfl
theorem fn453:EE.fns 453=some ir453:=by kernel_rfl
end Go.EnvOf
