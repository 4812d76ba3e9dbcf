/- The table of the functions. -/
import Derived.KernelRfl
import Derived.Test.YtpibjnnbploadaaGreatEngAll2
import Derived.Test.YtpibjnnbploadaaGreatIr0
import Derived.Test.YtpibjnnbploadaaGreatIr1
namespace Go.EnvOf
open Go Go.Eng
set_option maxRecDepth 100000
def tab:List (Nat×IFn):=[(5,ir5),(15,ir15),(17,ir17),(29,ir29),(30,ir30),(31,ir31),(32,ir32),(33,ir33),(38,ir38),(40,ir40),(71,ir71),(72,ir72),(73,ir73),(74,ir74),(75,ir75),(76,ir76),(77,ir77),(78,ir78),(81,ir81),(82,ir82),(86,ir86),(87,ir87),(100,ir100),(116,ir116),(117,ir117),(118,ir118),(119,ir119),(120,ir120),(121,ir121),(122,ir122),(123,ir123),(132,ir132),(133,ir133),(140,ir140),(141,ir141),(175,ir175),(188,ir188),(189,ir189),(190,ir190),(191,ir191),(192,ir192),(193,ir193),(194,ir194),(195,ir195),(196,ir196),(197,ir197),(198,ir198),(199,ir199),(200,ir200),(201,ir201),(202,ir202),(211,ir211),(212,ir212),(214,ir214),(215,ir215),(216,ir216),(217,ir217),(218,ir218),(248,ir248),(249,ir249),(250,ir250),(251,ir251),(252,ir252),(253,ir253),(254,ir254),(255,ir255),(256,ir256),(284,ir284),(286,ir286),(291,ir291),(316,ir316),(329,ir329),(330,ir330),(331,ir331),(332,ir332),(333,ir333),(334,ir334),(335,ir335),(336,ir336),(337,ir337),(338,ir338),(345,ir345),(346,ir346),(347,ir347),(365,ir365),(366,ir366),(367,ir367),(375,ir375),(376,ir376),(385,ir385),(389,ir389),(393,ir393),(394,ir394),(395,ir395),(396,ir396),(397,ir397),(398,ir398),(399,ir399),(400,ir400),(401,ir401),(402,ir402),(403,ir403),(404,ir404),(405,ir405),(406,ir406),(407,ir407),(408,ir408),(409,ir409),(410,ir410),(411,ir411),(412,ir412),(423,ir423),(424,ir424),(425,ir425),(426,ir426),(427,ir427),(436,ir436),(437,ir437),(438,ir438),(439,ir439),(440,ir440),(441,ir441),(442,ir442),(443,ir443),(444,ir444),(445,ir445),(446,ir446),(447,ir447),(448,ir448),(449,ir449),(450,ir450),(451,ir451),(452,ir452),(459,ir459),(473,ir473),(474,ir474),(475,ir475),(476,ir476),(477,ir477),(478,ir478),(479,ir479),(480,ir480),(481,ir481),(482,ir482),(483,ir483),(484,ir484),(485,ir485),(486,ir486),(487,ir487),(488,ir488),(489,ir489),(490,ir490),(491,ir491),(509,ir509),(510,ir510)]
def fnsT (f:FuncId):Option IFn:=(tab.find? fun p=>p.1==f).map (·.2)
def EE0:Env:=⟨fnsT,fun f=>if f=428 then some sortP else none⟩
def sayK:List Nat:=[29]
def primT (f:FuncId):Option (List V→Heap→Option CR):=if f∈sayK then some sayP else if f=428 then some sortP else none
def EE:Env:=⟨fnsT,primT⟩
theorem noP (f:FuncId) (h:f≠428∧f∉sayK:=by decide):EE.prims f=none:=by
 show primT f=none
 unfold primT
 rw [if_neg h.2,if_neg h.1]
theorem q0hk:EE.prims 428=some sortP:=rfl
theorem say29:EE.prims 29=some sayP:=rfl
theorem q0r7 (H:Heap):clD EE (.p (.fn 29)) [] H=some (.p (.bool true),none):=by
 rw [q07b];simp only [clStep.go,say29];rfl
theorem fn5:EE.fns 5=some ir5:=by kernel_rfl
theorem fn15:EE.fns 15=some ir15:=by kernel_rfl
theorem fn17:EE.fns 17=some ir17:=by kernel_rfl
theorem fn29:EE.fns 29=some ir29:=by kernel_rfl
theorem fn30:EE.fns 30=some ir30:=by kernel_rfl
theorem fn31:EE.fns 31=some ir31:=by kernel_rfl
theorem fn32:EE.fns 32=some ir32:=by kernel_rfl
theorem fn33:EE.fns 33=some ir33:=by kernel_rfl
theorem fn38:EE.fns 38=some ir38:=by kernel_rfl
theorem fn40:EE.fns 40=some ir40:=by kernel_rfl
theorem fn71:EE.fns 71=some ir71:=by kernel_rfl
theorem fn72:EE.fns 72=some ir72:=by kernel_rfl
theorem fn73:EE.fns 73=some ir73:=by kernel_rfl
theorem fn74:EE.fns 74=some ir74:=by kernel_rfl
theorem fn75:EE.fns 75=some ir75:=by kernel_rfl
theorem fn76:EE.fns 76=some ir76:=by kernel_rfl
theorem fn77:EE.fns 77=some ir77:=by kernel_rfl
theorem fn78:EE.fns 78=some ir78:=by kernel_rfl
theorem fn81:EE.fns 81=some ir81:=by kernel_rfl
theorem fn82:EE.fns 82=some ir82:=by kernel_rfl
theorem fn86:EE.fns 86=some ir86:=by kernel_rfl
theorem fn87:EE.fns 87=some ir87:=by kernel_rfl
theorem fn100:EE.fns 100=some ir100:=by kernel_rfl
theorem fn116:EE.fns 116=some ir116:=by kernel_rfl
theorem fn117:EE.fns 117=some ir117:=by kernel_rfl
theorem fn118:EE.fns 118=some ir118:=by kernel_rfl
theorem fn119:EE.fns 119=some ir119:=by kernel_rfl
theorem fn120:EE.fns 120=some ir120:=by kernel_rfl
theorem fn121:EE.fns 121=some ir121:=by kernel_rfl
theorem fn122:EE.fns 122=some ir122:=by kernel_rfl
theorem fn123:EE.fns 123=some ir123:=by kernel_rfl
theorem fn132:EE.fns 132=some ir132:=by kernel_rfl
theorem fn133:EE.fns 133=some ir133:=by kernel_rfl
theorem fn140:EE.fns 140=some ir140:=by kernel_rfl
theorem fn141:EE.fns 141=some ir141:=by kernel_rfl
theorem fn175:EE.fns 175=some ir175:=by kernel_rfl
theorem fn188:EE.fns 188=some ir188:=by kernel_rfl
theorem fn189:EE.fns 189=some ir189:=by kernel_rfl
theorem fn190:EE.fns 190=some ir190:=by kernel_rfl
theorem fn191:EE.fns 191=some ir191:=by kernel_rfl
theorem fn192:EE.fns 192=some ir192:=by kernel_rfl
theorem fn193:EE.fns 193=some ir193:=by kernel_rfl
theorem fn194:EE.fns 194=some ir194:=by kernel_rfl
theorem fn195:EE.fns 195=some ir195:=by kernel_rfl
theorem fn196:EE.fns 196=some ir196:=by kernel_rfl
theorem fn197:EE.fns 197=some ir197:=by kernel_rfl
theorem fn198:EE.fns 198=some ir198:=by kernel_rfl
theorem fn199:EE.fns 199=some ir199:=by kernel_rfl
theorem fn200:EE.fns 200=some ir200:=by kernel_rfl
theorem fn201:EE.fns 201=some ir201:=by kernel_rfl
theorem fn202:EE.fns 202=some ir202:=by kernel_rfl
theorem fn211:EE.fns 211=some ir211:=by kernel_rfl
theorem fn212:EE.fns 212=some ir212:=by kernel_rfl
theorem fn214:EE.fns 214=some ir214:=by kernel_rfl
theorem fn215:EE.fns 215=some ir215:=by kernel_rfl
theorem fn216:EE.fns 216=some ir216:=by kernel_rfl
theorem fn217:EE.fns 217=some ir217:=by kernel_rfl
theorem fn218:EE.fns 218=some ir218:=by kernel_rfl
theorem fn248:EE.fns 248=some ir248:=by kernel_rfl
theorem fn249:EE.fns 249=some ir249:=by kernel_rfl
theorem fn250:EE.fns 250=some ir250:=by kernel_rfl
theorem fn251:EE.fns 251=some ir251:=by kernel_rfl
theorem fn252:EE.fns 252=some ir252:=by kernel_rfl
theorem fn253:EE.fns 253=some ir253:=by kernel_rfl
theorem fn254:EE.fns 254=some ir254:=by kernel_rfl
theorem fn255:EE.fns 255=some ir255:=by kernel_rfl
theorem fn256:EE.fns 256=some ir256:=by kernel_rfl
theorem fn284:EE.fns 284=some ir284:=by kernel_rfl
theorem fn286:EE.fns 286=some ir286:=by kernel_rfl
theorem fn291:EE.fns 291=some ir291:=by kernel_rfl
theorem fn316:EE.fns 316=some ir316:=by kernel_rfl
theorem fn329:EE.fns 329=some ir329:=by kernel_rfl
theorem fn330:EE.fns 330=some ir330:=by kernel_rfl
theorem fn331:EE.fns 331=some ir331:=by kernel_rfl
theorem fn332:EE.fns 332=some ir332:=by kernel_rfl
theorem fn333:EE.fns 333=some ir333:=by kernel_rfl
theorem fn334:EE.fns 334=some ir334:=by kernel_rfl
theorem fn335:EE.fns 335=some ir335:=by kernel_rfl
theorem fn336:EE.fns 336=some ir336:=by kernel_rfl
theorem fn337:EE.fns 337=some ir337:=by kernel_rfl
theorem fn338:EE.fns 338=some ir338:=by kernel_rfl
theorem fn345:EE.fns 345=some ir345:=by kernel_rfl
theorem fn346:EE.fns 346=some ir346:=by kernel_rfl
theorem fn347:EE.fns 347=some ir347:=by kernel_rfl
theorem fn365:EE.fns 365=some ir365:=by kernel_rfl
theorem fn366:EE.fns 366=some ir366:=by kernel_rfl
theorem fn367:EE.fns 367=some ir367:=by kernel_rfl
theorem fn375:EE.fns 375=some ir375:=by kernel_rfl
theorem fn376:EE.fns 376=some ir376:=by kernel_rfl
theorem fn385:EE.fns 385=some ir385:=by kernel_rfl
theorem fn389:EE.fns 389=some ir389:=by kernel_rfl
theorem fn393:EE.fns 393=some ir393:=by kernel_rfl
theorem fn394:EE.fns 394=some ir394:=by kernel_rfl
theorem fn395:EE.fns 395=some ir395:=by kernel_rfl
theorem fn396:EE.fns 396=some ir396:=by kernel_rfl
theorem fn397:EE.fns 397=some ir397:=by kernel_rfl
theorem fn398:EE.fns 398=some ir398:=by kernel_rfl
theorem fn399:EE.fns 399=some ir399:=by kernel_rfl
theorem fn400:EE.fns 400=some ir400:=by kernel_rfl
theorem fn401:EE.fns 401=some ir401:=by kernel_rfl
theorem fn402:EE.fns 402=some ir402:=by kernel_rfl
theorem fn403:EE.fns 403=some ir403:=by kernel_rfl
theorem fn404:EE.fns 404=some ir404:=by kernel_rfl
theorem fn405:EE.fns 405=some ir405:=by kernel_rfl
theorem fn406:EE.fns 406=some ir406:=by kernel_rfl
theorem fn407:EE.fns 407=some ir407:=by kernel_rfl
theorem fn408:EE.fns 408=some ir408:=by kernel_rfl
theorem fn409:EE.fns 409=some ir409:=by kernel_rfl
theorem fn410:EE.fns 410=some ir410:=by kernel_rfl
theorem fn411:EE.fns 411=some ir411:=by kernel_rfl
theorem fn412:EE.fns 412=some ir412:=by kernel_rfl
theorem fn423:EE.fns 423=some ir423:=by kernel_rfl
theorem fn424:EE.fns 424=some ir424:=by kernel_rfl
theorem fn425:EE.fns 425=some ir425:=by kernel_rfl
theorem fn426:EE.fns 426=some ir426:=by kernel_rfl
theorem fn427:EE.fns 427=some ir427:=by kernel_rfl
theorem fn436:EE.fns 436=some ir436:=by kernel_rfl
theorem fn437:EE.fns 437=some ir437:=by kernel_rfl
theorem fn438:EE.fns 438=some ir438:=by kernel_rfl
theorem fn439:EE.fns 439=some ir439:=by kernel_rfl
theorem fn440:EE.fns 440=some ir440:=by kernel_rfl
theorem fn441:EE.fns 441=some ir441:=by kernel_rfl
theorem fn442:EE.fns 442=some ir442:=by kernel_rfl
theorem fn443:EE.fns 443=some ir443:=by kernel_rfl
theorem fn444:EE.fns 444=some ir444:=by kernel_rfl
theorem fn445:EE.fns 445=some ir445:=by kernel_rfl
theorem fn446:EE.fns 446=some ir446:=by kernel_rfl
theorem fn447:EE.fns 447=some ir447:=by kernel_rfl
theorem fn448:EE.fns 448=some ir448:=by kernel_rfl
theorem fn449:EE.fns 449=some ir449:=by kernel_rfl
theorem fn450:EE.fns 450=some ir450:=by kernel_rfl
theorem fn451:EE.fns 451=some ir451:=by kernel_rfl
theorem fn452:EE.fns 452=some ir452:=by kernel_rfl
theorem fn459:EE.fns 459=some ir459:=by kernel_rfl
theorem fn473:EE.fns 473=some ir473:=by kernel_rfl
theorem fn474:EE.fns 474=some ir474:=by kernel_rfl
theorem fn475:EE.fns 475=some ir475:=by kernel_rfl
theorem fn476:EE.fns 476=some ir476:=by kernel_rfl
theorem fn477:EE.fns 477=some ir477:=by kernel_rfl
theorem fn478:EE.fns 478=some ir478:=by kernel_rfl
theorem fn479:EE.fns 479=some ir479:=by kernel_rfl
theorem fn480:EE.fns 480=some ir480:=by kernel_rfl
theorem fn481:EE.fns 481=some ir481:=by kernel_rfl
theorem fn482:EE.fns 482=some ir482:=by kernel_rfl
theorem fn483:EE.fns 483=some ir483:=by kernel_rfl
theorem fn484:EE.fns 484=some ir484:=by kernel_rfl
theorem fn485:EE.fns 485=some ir485:=by kernel_rfl
theorem fn486:EE.fns 486=some ir486:=by kernel_rfl
theorem fn487:EE.fns 487=some ir487:=by kernel_rfl
theorem fn488:EE.fns 488=some ir488:=by kernel_rfl
theorem fn489:EE.fns 489=some ir489:=by kernel_rfl
theorem fn490:EE.fns 490=some ir490:=by kernel_rfl
theorem fn491:EE.fns 491=some ir491:=by kernel_rfl
theorem fn509:EE.fns 509=some ir509:=by kernel_rfl
theorem fn510:EE.fns 510=some ir510:=by kernel_rfl
end Go.EnvOf
