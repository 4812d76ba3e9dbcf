/- The table of the functions. -/
import Derived.KernelRfl
import Derived.Test.YtjjdmlpdgcdehaaGreatEngAll2
import Derived.Test.YtjjdmlpdgcdehaaGreatIr0
import Derived.Test.YtjjdmlpdgcdehaaGreatIr1
import Derived.Test.YtjjdmlpdgcdehaaGreatIr2
import Derived.Test.YtjjdmlpdgcdehaaGreatIr3
namespace Go.EnvOf
open Go Go.Eng
set_option maxRecDepth 100000
def tb0:List (Nat×IFn):=[(3,ir3),(11,ir11),(12,ir12),(13,ir13),(14,ir14),(15,ir15),(16,ir16),(17,ir17),(18,ir18),(19,ir19),(20,ir20),(21,ir21)]
def tb1:List (Nat×IFn):=[(22,ir22),(31,ir31),(33,ir33),(46,ir46),(51,ir51),(52,ir52),(53,ir53),(54,ir54),(55,ir55),(56,ir56),(57,ir57),(58,ir58)]
def tb2:List (Nat×IFn):=[(59,ir59),(60,ir60),(61,ir61),(62,ir62),(63,ir63),(64,ir64),(65,ir65),(66,ir66),(67,ir67),(68,ir68),(69,ir69),(70,ir70)]
def tb3:List (Nat×IFn):=[(71,ir71),(72,ir72),(73,ir73),(74,ir74),(75,ir75),(76,ir76),(77,ir77),(78,ir78),(79,ir79),(80,ir80),(81,ir81),(82,ir82)]
def tb4:List (Nat×IFn):=[(83,ir83),(84,ir84),(88,ir88),(89,ir89),(90,ir90),(91,ir91),(100,ir100),(101,ir101),(104,ir104),(105,ir105),(106,ir106),(107,ir107)]
def tb5:List (Nat×IFn):=[(108,ir108),(109,ir109),(110,ir110),(112,ir112),(113,ir113),(114,ir114),(115,ir115),(116,ir116),(117,ir117),(118,ir118),(119,ir119),(120,ir120)]
def tb6:List (Nat×IFn):=[(123,ir123),(124,ir124),(125,ir125),(126,ir126),(127,ir127),(128,ir128),(129,ir129),(130,ir130),(131,ir131),(132,ir132),(133,ir133),(134,ir134)]
def tb7:List (Nat×IFn):=[(135,ir135),(136,ir136),(137,ir137),(138,ir138),(139,ir139),(140,ir140),(141,ir141),(142,ir142),(143,ir143),(144,ir144),(145,ir145),(146,ir146)]
def tb8:List (Nat×IFn):=[(147,ir147),(148,ir148),(149,ir149),(150,ir150),(151,ir151),(152,ir152),(153,ir153),(154,ir154),(155,ir155),(156,ir156),(157,ir157),(158,ir158)]
def tb9:List (Nat×IFn):=[(159,ir159),(160,ir160),(161,ir161),(162,ir162),(163,ir163),(164,ir164),(165,ir165),(166,ir166),(167,ir167),(168,ir168),(169,ir169),(178,ir178)]
def tb10:List (Nat×IFn):=[(179,ir179),(180,ir180),(181,ir181),(182,ir182),(183,ir183),(184,ir184),(185,ir185),(186,ir186),(187,ir187),(188,ir188),(189,ir189),(190,ir190)]
def tb11:List (Nat×IFn):=[(191,ir191),(192,ir192),(193,ir193),(194,ir194),(195,ir195),(196,ir196),(197,ir197),(198,ir198),(199,ir199),(209,ir209),(210,ir210),(211,ir211)]
def tb12:List (Nat×IFn):=[(212,ir212),(213,ir213),(214,ir214),(215,ir215),(216,ir216),(217,ir217),(218,ir218),(219,ir219),(220,ir220),(221,ir221),(222,ir222),(223,ir223)]
def tb13:List (Nat×IFn):=[(224,ir224),(225,ir225),(226,ir226),(227,ir227),(228,ir228),(229,ir229),(230,ir230),(232,ir232),(233,ir233),(234,ir234),(235,ir235),(236,ir236)]
def tb14:List (Nat×IFn):=[(237,ir237),(238,ir238),(239,ir239),(240,ir240),(241,ir241),(242,ir242),(243,ir243),(244,ir244),(245,ir245),(246,ir246),(247,ir247),(248,ir248)]
def tb15:List (Nat×IFn):=[(249,ir249),(250,ir250),(251,ir251),(252,ir252),(253,ir253),(254,ir254),(255,ir255),(256,ir256),(257,ir257),(258,ir258),(259,ir259),(260,ir260)]
def tb16:List (Nat×IFn):=[(261,ir261),(262,ir262),(263,ir263),(264,ir264),(265,ir265),(266,ir266),(270,ir270),(271,ir271),(272,ir272),(273,ir273),(274,ir274),(275,ir275)]
def tb17:List (Nat×IFn):=[(276,ir276),(277,ir277),(278,ir278),(283,ir283),(284,ir284),(285,ir285),(286,ir286),(287,ir287),(288,ir288),(289,ir289),(290,ir290),(291,ir291)]
def tb18:List (Nat×IFn):=[(292,ir292),(293,ir293),(294,ir294),(295,ir295),(296,ir296),(297,ir297),(298,ir298),(299,ir299),(300,ir300),(302,ir302),(303,ir303),(304,ir304)]
def tb19:List (Nat×IFn):=[(305,ir305),(306,ir306),(307,ir307),(308,ir308),(309,ir309),(310,ir310),(311,ir311),(312,ir312),(313,ir313),(314,ir314),(315,ir315),(316,ir316)]
def tb20:List (Nat×IFn):=[(317,ir317),(318,ir318),(319,ir319),(320,ir320),(321,ir321),(322,ir322),(323,ir323),(324,ir324),(325,ir325),(326,ir326),(327,ir327),(328,ir328)]
def tb21:List (Nat×IFn):=[(329,ir329),(330,ir330),(331,ir331),(332,ir332),(336,ir336),(337,ir337),(338,ir338),(339,ir339),(340,ir340),(341,ir341),(342,ir342),(343,ir343)]
def tb22:List (Nat×IFn):=[(346,ir346),(347,ir347),(348,ir348),(349,ir349),(350,ir350),(351,ir351),(352,ir352),(353,ir353),(357,ir357),(358,ir358),(359,ir359),(360,ir360)]
def tb23:List (Nat×IFn):=[(361,ir361),(362,ir362),(363,ir363),(364,ir364),(365,ir365),(366,ir366),(367,ir367),(368,ir368),(369,ir369),(370,ir370),(371,ir371),(372,ir372)]
def tb24:List (Nat×IFn):=[(373,ir373),(374,ir374),(375,ir375),(377,ir377),(378,ir378),(379,ir379),(380,ir380),(381,ir381),(382,ir382),(383,ir383),(384,ir384),(385,ir385)]
def tb25:List (Nat×IFn):=[(386,ir386),(387,ir387),(388,ir388),(389,ir389),(392,ir392),(393,ir393),(394,ir394),(395,ir395),(396,ir396),(397,ir397),(398,ir398),(399,ir399)]
def tb26:List (Nat×IFn):=[(400,ir400),(401,ir401),(402,ir402),(403,ir403),(404,ir404),(405,ir405),(406,ir406),(407,ir407),(408,ir408),(409,ir409),(410,ir410),(413,ir413)]
def tb27:List (Nat×IFn):=[(414,ir414)]
def tab:List (Nat×IFn):=tb0++(tb1++(tb2++(tb3++(tb4++(tb5++(tb6++(tb7++(tb8++(tb9++(tb10++(tb11++(tb12++(tb13++(tb14++(tb15++(tb16++(tb17++(tb18++(tb19++(tb20++(tb21++(tb22++(tb23++(tb24++(tb25++(tb26++(tb27)))))))))))))))))))))))))))
def fnsT (f:FuncId):Option IFn:=(tab.find? fun p=>p.1==f).map (·.2)
def primT (f:FuncId):Option (List V→Heap→Option CR):=if f=376 then some sortP else none
def EE:Env:=⟨fnsT,primT⟩
theorem noP (f:FuncId) (h:f≠376:=by decide):EE.prims f=none:=by
 show primT f=none
 unfold primT
 exact if_neg h
theorem q0lh:EE.prims 376=some sortP:=rfl
theorem fn3:EE.fns 3=some ir3:=by kernel_rfl
theorem fn11:EE.fns 11=some ir11:=by kernel_rfl
theorem fn12:EE.fns 12=some ir12:=by kernel_rfl
theorem fn13:EE.fns 13=some ir13:=by kernel_rfl
theorem fn14:EE.fns 14=some ir14:=by kernel_rfl
theorem fn15:EE.fns 15=some ir15:=by kernel_rfl
theorem fn16:EE.fns 16=some ir16:=by kernel_rfl
theorem fn17:EE.fns 17=some ir17:=by kernel_rfl
theorem fn18:EE.fns 18=some ir18:=by kernel_rfl
theorem fn19:EE.fns 19=some ir19:=by kernel_rfl
theorem fn20:EE.fns 20=some ir20:=by kernel_rfl
theorem fn21:EE.fns 21=some ir21:=by kernel_rfl
theorem fn22:EE.fns 22=some ir22:=by kernel_rfl
theorem fn31:EE.fns 31=some ir31:=by kernel_rfl
theorem fn33:EE.fns 33=some ir33:=by kernel_rfl
theorem fn46:EE.fns 46=some ir46:=by kernel_rfl
theorem fn51:EE.fns 51=some ir51:=by kernel_rfl
theorem fn52:EE.fns 52=some ir52:=by kernel_rfl
theorem fn53:EE.fns 53=some ir53:=by kernel_rfl
theorem fn54:EE.fns 54=some ir54:=by kernel_rfl
theorem fn55:EE.fns 55=some ir55:=by kernel_rfl
theorem fn56:EE.fns 56=some ir56:=by kernel_rfl
theorem fn57:EE.fns 57=some ir57:=by kernel_rfl
theorem fn58:EE.fns 58=some ir58:=by kernel_rfl
theorem fn59:EE.fns 59=some ir59:=by kernel_rfl
theorem fn60:EE.fns 60=some ir60:=by kernel_rfl
theorem fn61:EE.fns 61=some ir61:=by kernel_rfl
theorem fn62:EE.fns 62=some ir62:=by kernel_rfl
theorem fn63:EE.fns 63=some ir63:=by kernel_rfl
theorem fn64:EE.fns 64=some ir64:=by kernel_rfl
theorem fn65:EE.fns 65=some ir65:=by kernel_rfl
theorem fn66:EE.fns 66=some ir66:=by kernel_rfl
theorem fn67:EE.fns 67=some ir67:=by kernel_rfl
theorem fn68:EE.fns 68=some ir68:=by kernel_rfl
theorem fn69:EE.fns 69=some ir69:=by kernel_rfl
theorem fn70:EE.fns 70=some ir70:=by kernel_rfl
theorem fn71:EE.fns 71=some ir71:=by kernel_rfl
theorem fn72:EE.fns 72=some ir72:=by kernel_rfl
theorem fn73:EE.fns 73=some ir73:=by kernel_rfl
theorem fn74:EE.fns 74=some ir74:=by kernel_rfl
theorem fn75:EE.fns 75=some ir75:=by kernel_rfl
theorem fn76:EE.fns 76=some ir76:=by kernel_rfl
theorem fn77:EE.fns 77=some ir77:=by kernel_rfl
theorem fn78:EE.fns 78=some ir78:=by kernel_rfl
theorem fn79:EE.fns 79=some ir79:=by kernel_rfl
theorem fn80:EE.fns 80=some ir80:=by kernel_rfl
theorem fn81:EE.fns 81=some ir81:=by kernel_rfl
theorem fn82:EE.fns 82=some ir82:=by kernel_rfl
theorem fn83:EE.fns 83=some ir83:=by kernel_rfl
theorem fn84:EE.fns 84=some ir84:=by kernel_rfl
theorem fn88:EE.fns 88=some ir88:=by kernel_rfl
theorem fn89:EE.fns 89=some ir89:=by kernel_rfl
theorem fn90:EE.fns 90=some ir90:=by kernel_rfl
theorem fn91:EE.fns 91=some ir91:=by kernel_rfl
theorem fn100:EE.fns 100=some ir100:=by kernel_rfl
theorem fn101:EE.fns 101=some ir101:=by kernel_rfl
theorem fn104:EE.fns 104=some ir104:=by kernel_rfl
theorem fn105:EE.fns 105=some ir105:=by kernel_rfl
theorem fn106:EE.fns 106=some ir106:=by kernel_rfl
theorem fn107:EE.fns 107=some ir107:=by kernel_rfl
theorem fn108:EE.fns 108=some ir108:=by kernel_rfl
theorem fn109:EE.fns 109=some ir109:=by kernel_rfl
theorem fn110:EE.fns 110=some ir110:=by kernel_rfl
theorem fn112:EE.fns 112=some ir112:=by kernel_rfl
theorem fn113:EE.fns 113=some ir113:=by kernel_rfl
theorem fn114:EE.fns 114=some ir114:=by kernel_rfl
theorem fn115:EE.fns 115=some ir115:=by kernel_rfl
theorem fn116:EE.fns 116=some ir116:=by kernel_rfl
theorem fn117:EE.fns 117=some ir117:=by kernel_rfl
theorem fn118:EE.fns 118=some ir118:=by kernel_rfl
theorem fn119:EE.fns 119=some ir119:=by kernel_rfl
theorem fn120:EE.fns 120=some ir120:=by kernel_rfl
theorem fn123:EE.fns 123=some ir123:=by kernel_rfl
theorem fn124:EE.fns 124=some ir124:=by kernel_rfl
theorem fn125:EE.fns 125=some ir125:=by kernel_rfl
theorem fn126:EE.fns 126=some ir126:=by kernel_rfl
theorem fn127:EE.fns 127=some ir127:=by kernel_rfl
theorem fn128:EE.fns 128=some ir128:=by kernel_rfl
theorem fn129:EE.fns 129=some ir129:=by kernel_rfl
theorem fn130:EE.fns 130=some ir130:=by kernel_rfl
theorem fn131:EE.fns 131=some ir131:=by kernel_rfl
theorem fn132:EE.fns 132=some ir132:=by kernel_rfl
theorem fn133:EE.fns 133=some ir133:=by kernel_rfl
theorem fn134:EE.fns 134=some ir134:=by kernel_rfl
theorem fn135:EE.fns 135=some ir135:=by kernel_rfl
theorem fn136:EE.fns 136=some ir136:=by kernel_rfl
theorem fn137:EE.fns 137=some ir137:=by kernel_rfl
theorem fn138:EE.fns 138=some ir138:=by kernel_rfl
theorem fn139:EE.fns 139=some ir139:=by kernel_rfl
theorem fn140:EE.fns 140=some ir140:=by kernel_rfl
theorem fn141:EE.fns 141=some ir141:=by kernel_rfl
theorem fn142:EE.fns 142=some ir142:=by kernel_rfl
theorem fn143:EE.fns 143=some ir143:=by kernel_rfl
theorem fn144:EE.fns 144=some ir144:=by kernel_rfl
theorem fn145:EE.fns 145=some ir145:=by kernel_rfl
theorem fn146:EE.fns 146=some ir146:=by kernel_rfl
theorem fn147:EE.fns 147=some ir147:=by kernel_rfl
theorem fn148:EE.fns 148=some ir148:=by kernel_rfl
theorem fn149:EE.fns 149=some ir149:=by kernel_rfl
theorem fn150:EE.fns 150=some ir150:=by kernel_rfl
theorem fn151:EE.fns 151=some ir151:=by kernel_rfl
theorem fn152:EE.fns 152=some ir152:=by kernel_rfl
theorem fn153:EE.fns 153=some ir153:=by kernel_rfl
theorem fn154:EE.fns 154=some ir154:=by kernel_rfl
theorem fn155:EE.fns 155=some ir155:=by kernel_rfl
theorem fn156:EE.fns 156=some ir156:=by kernel_rfl
theorem fn157:EE.fns 157=some ir157:=by kernel_rfl
theorem fn158:EE.fns 158=some ir158:=by kernel_rfl
theorem fn159:EE.fns 159=some ir159:=by kernel_rfl
theorem fn160:EE.fns 160=some ir160:=by kernel_rfl
theorem fn161:EE.fns 161=some ir161:=by kernel_rfl
theorem fn162:EE.fns 162=some ir162:=by kernel_rfl
theorem fn163:EE.fns 163=some ir163:=by kernel_rfl
theorem fn164:EE.fns 164=some ir164:=by kernel_rfl
theorem fn165:EE.fns 165=some ir165:=by kernel_rfl
theorem fn166:EE.fns 166=some ir166:=by kernel_rfl
theorem fn167:EE.fns 167=some ir167:=by kernel_rfl
theorem fn168:EE.fns 168=some ir168:=by kernel_rfl
theorem fn169:EE.fns 169=some ir169:=by kernel_rfl
theorem fn178:EE.fns 178=some ir178:=by kernel_rfl
theorem fn179:EE.fns 179=some ir179:=by kernel_rfl
theorem fn180:EE.fns 180=some ir180:=by kernel_rfl
theorem fn181:EE.fns 181=some ir181:=by kernel_rfl
theorem fn182:EE.fns 182=some ir182:=by kernel_rfl
theorem fn183:EE.fns 183=some ir183:=by kernel_rfl
theorem fn184:EE.fns 184=some ir184:=by kernel_rfl
theorem fn185:EE.fns 185=some ir185:=by kernel_rfl
theorem fn186:EE.fns 186=some ir186:=by kernel_rfl
theorem fn187:EE.fns 187=some ir187:=by kernel_rfl
theorem fn188:EE.fns 188=some ir188:=by kernel_rfl
theorem fn189:EE.fns 189=some ir189:=by kernel_rfl
theorem fn190:EE.fns 190=some ir190:=by kernel_rfl
theorem fn191:EE.fns 191=some ir191:=by kernel_rfl
theorem fn192:EE.fns 192=some ir192:=by kernel_rfl
theorem fn193:EE.fns 193=some ir193:=by kernel_rfl
theorem fn194:EE.fns 194=some ir194:=by kernel_rfl
theorem fn195:EE.fns 195=some ir195:=by kernel_rfl
theorem fn196:EE.fns 196=some ir196:=by kernel_rfl
theorem fn197:EE.fns 197=some ir197:=by kernel_rfl
theorem fn198:EE.fns 198=some ir198:=by kernel_rfl
theorem fn199:EE.fns 199=some ir199:=by kernel_rfl
theorem fn209:EE.fns 209=some ir209:=by kernel_rfl
theorem fn210:EE.fns 210=some ir210:=by kernel_rfl
theorem fn211:EE.fns 211=some ir211:=by kernel_rfl
theorem fn212:EE.fns 212=some ir212:=by kernel_rfl
theorem fn213:EE.fns 213=some ir213:=by kernel_rfl
theorem fn214:EE.fns 214=some ir214:=by kernel_rfl
theorem fn215:EE.fns 215=some ir215:=by kernel_rfl
theorem fn216:EE.fns 216=some ir216:=by kernel_rfl
theorem fn217:EE.fns 217=some ir217:=by kernel_rfl
theorem fn218:EE.fns 218=some ir218:=by kernel_rfl
theorem fn219:EE.fns 219=some ir219:=by kernel_rfl
theorem fn220:EE.fns 220=some ir220:=by kernel_rfl
theorem fn221:EE.fns 221=some ir221:=by kernel_rfl
theorem fn222:EE.fns 222=some ir222:=by kernel_rfl
theorem fn223:EE.fns 223=some ir223:=by kernel_rfl
theorem fn224:EE.fns 224=some ir224:=by kernel_rfl
theorem fn225:EE.fns 225=some ir225:=by kernel_rfl
theorem fn226:EE.fns 226=some ir226:=by kernel_rfl
theorem fn227:EE.fns 227=some ir227:=by kernel_rfl
theorem fn228:EE.fns 228=some ir228:=by kernel_rfl
theorem fn229:EE.fns 229=some ir229:=by kernel_rfl
theorem fn230:EE.fns 230=some ir230:=by kernel_rfl
theorem fn232:EE.fns 232=some ir232:=by kernel_rfl
theorem fn233:EE.fns 233=some ir233:=by kernel_rfl
theorem fn234:EE.fns 234=some ir234:=by kernel_rfl
theorem fn235:EE.fns 235=some ir235:=by kernel_rfl
theorem fn236:EE.fns 236=some ir236:=by kernel_rfl
theorem fn237:EE.fns 237=some ir237:=by kernel_rfl
theorem fn238:EE.fns 238=some ir238:=by kernel_rfl
theorem fn239:EE.fns 239=some ir239:=by kernel_rfl
theorem fn240:EE.fns 240=some ir240:=by kernel_rfl
theorem fn241:EE.fns 241=some ir241:=by kernel_rfl
theorem fn242:EE.fns 242=some ir242:=by kernel_rfl
theorem fn243:EE.fns 243=some ir243:=by kernel_rfl
theorem fn244:EE.fns 244=some ir244:=by kernel_rfl
theorem fn245:EE.fns 245=some ir245:=by kernel_rfl
theorem fn246:EE.fns 246=some ir246:=by kernel_rfl
theorem fn247:EE.fns 247=some ir247:=by kernel_rfl
theorem fn248:EE.fns 248=some ir248:=by kernel_rfl
theorem fn249:EE.fns 249=some ir249:=by kernel_rfl
theorem fn250:EE.fns 250=some ir250:=by kernel_rfl
theorem fn251:EE.fns 251=some ir251:=by kernel_rfl
theorem fn252:EE.fns 252=some ir252:=by kernel_rfl
theorem fn253:EE.fns 253=some ir253:=by kernel_rfl
theorem fn254:EE.fns 254=some ir254:=by kernel_rfl
theorem fn255:EE.fns 255=some ir255:=by kernel_rfl
theorem fn256:EE.fns 256=some ir256:=by kernel_rfl
theorem fn257:EE.fns 257=some ir257:=by kernel_rfl
theorem fn258:EE.fns 258=some ir258:=by kernel_rfl
theorem fn259:EE.fns 259=some ir259:=by kernel_rfl
theorem fn260:EE.fns 260=some ir260:=by kernel_rfl
theorem fn261:EE.fns 261=some ir261:=by kernel_rfl
theorem fn262:EE.fns 262=some ir262:=by kernel_rfl
theorem fn263:EE.fns 263=some ir263:=by kernel_rfl
theorem fn264:EE.fns 264=some ir264:=by kernel_rfl
theorem fn265:EE.fns 265=some ir265:=by kernel_rfl
theorem fn266:EE.fns 266=some ir266:=by kernel_rfl
theorem fn270:EE.fns 270=some ir270:=by kernel_rfl
theorem fn271:EE.fns 271=some ir271:=by kernel_rfl
theorem fn272:EE.fns 272=some ir272:=by kernel_rfl
theorem fn273:EE.fns 273=some ir273:=by kernel_rfl
theorem fn274:EE.fns 274=some ir274:=by kernel_rfl
theorem fn275:EE.fns 275=some ir275:=by kernel_rfl
theorem fn276:EE.fns 276=some ir276:=by kernel_rfl
theorem fn277:EE.fns 277=some ir277:=by kernel_rfl
theorem fn278:EE.fns 278=some ir278:=by kernel_rfl
theorem fn283:EE.fns 283=some ir283:=by kernel_rfl
theorem fn284:EE.fns 284=some ir284:=by kernel_rfl
theorem fn285:EE.fns 285=some ir285:=by kernel_rfl
theorem fn286:EE.fns 286=some ir286:=by kernel_rfl
theorem fn287:EE.fns 287=some ir287:=by kernel_rfl
theorem fn288:EE.fns 288=some ir288:=by kernel_rfl
theorem fn289:EE.fns 289=some ir289:=by kernel_rfl
theorem fn290:EE.fns 290=some ir290:=by kernel_rfl
theorem fn291:EE.fns 291=some ir291:=by kernel_rfl
theorem fn292:EE.fns 292=some ir292:=by kernel_rfl
theorem fn293:EE.fns 293=some ir293:=by kernel_rfl
theorem fn294:EE.fns 294=some ir294:=by kernel_rfl
theorem fn295:EE.fns 295=some ir295:=by kernel_rfl
theorem fn296:EE.fns 296=some ir296:=by kernel_rfl
theorem fn297:EE.fns 297=some ir297:=by kernel_rfl
theorem fn298:EE.fns 298=some ir298:=by kernel_rfl
theorem fn299:EE.fns 299=some ir299:=by kernel_rfl
theorem fn300:EE.fns 300=some ir300:=by kernel_rfl
theorem fn302:EE.fns 302=some ir302:=by kernel_rfl
theorem fn303:EE.fns 303=some ir303:=by kernel_rfl
theorem fn304:EE.fns 304=some ir304:=by kernel_rfl
theorem fn305:EE.fns 305=some ir305:=by kernel_rfl
theorem fn306:EE.fns 306=some ir306:=by kernel_rfl
theorem fn307:EE.fns 307=some ir307:=by kernel_rfl
theorem fn308:EE.fns 308=some ir308:=by kernel_rfl
theorem fn309:EE.fns 309=some ir309:=by kernel_rfl
theorem fn310:EE.fns 310=some ir310:=by kernel_rfl
theorem fn311:EE.fns 311=some ir311:=by kernel_rfl
theorem fn312:EE.fns 312=some ir312:=by kernel_rfl
theorem fn313:EE.fns 313=some ir313:=by kernel_rfl
theorem fn314:EE.fns 314=some ir314:=by kernel_rfl
theorem fn315:EE.fns 315=some ir315:=by kernel_rfl
theorem fn316:EE.fns 316=some ir316:=by kernel_rfl
theorem fn317:EE.fns 317=some ir317:=by kernel_rfl
theorem fn318:EE.fns 318=some ir318:=by kernel_rfl
theorem fn319:EE.fns 319=some ir319:=by kernel_rfl
theorem fn320:EE.fns 320=some ir320:=by kernel_rfl
theorem fn321:EE.fns 321=some ir321:=by kernel_rfl
theorem fn322:EE.fns 322=some ir322:=by kernel_rfl
theorem fn323:EE.fns 323=some ir323:=by kernel_rfl
theorem fn324:EE.fns 324=some ir324:=by kernel_rfl
theorem fn325:EE.fns 325=some ir325:=by kernel_rfl
theorem fn326:EE.fns 326=some ir326:=by kernel_rfl
theorem fn327:EE.fns 327=some ir327:=by kernel_rfl
theorem fn328:EE.fns 328=some ir328:=by kernel_rfl
theorem fn329:EE.fns 329=some ir329:=by kernel_rfl
theorem fn330:EE.fns 330=some ir330:=by kernel_rfl
theorem fn331:EE.fns 331=some ir331:=by kernel_rfl
theorem fn332:EE.fns 332=some ir332:=by kernel_rfl
theorem fn336:EE.fns 336=some ir336:=by kernel_rfl
theorem fn337:EE.fns 337=some ir337:=by kernel_rfl
theorem fn338:EE.fns 338=some ir338:=by kernel_rfl
theorem fn339:EE.fns 339=some ir339:=by kernel_rfl
theorem fn340:EE.fns 340=some ir340:=by kernel_rfl
theorem fn341:EE.fns 341=some ir341:=by kernel_rfl
theorem fn342:EE.fns 342=some ir342:=by kernel_rfl
theorem fn343:EE.fns 343=some ir343:=by kernel_rfl
theorem fn346:EE.fns 346=some ir346:=by kernel_rfl
theorem fn347:EE.fns 347=some ir347:=by kernel_rfl
theorem fn348:EE.fns 348=some ir348:=by kernel_rfl
theorem fn349:EE.fns 349=some ir349:=by kernel_rfl
theorem fn350:EE.fns 350=some ir350:=by kernel_rfl
theorem fn351:EE.fns 351=some ir351:=by kernel_rfl
theorem fn352:EE.fns 352=some ir352:=by kernel_rfl
theorem fn353:EE.fns 353=some ir353:=by kernel_rfl
theorem fn357:EE.fns 357=some ir357:=by kernel_rfl
theorem fn358:EE.fns 358=some ir358:=by kernel_rfl
theorem fn359:EE.fns 359=some ir359:=by kernel_rfl
theorem fn360:EE.fns 360=some ir360:=by kernel_rfl
theorem fn361:EE.fns 361=some ir361:=by kernel_rfl
theorem fn362:EE.fns 362=some ir362:=by kernel_rfl
theorem fn363:EE.fns 363=some ir363:=by kernel_rfl
theorem fn364:EE.fns 364=some ir364:=by kernel_rfl
theorem fn365:EE.fns 365=some ir365:=by kernel_rfl
theorem fn366:EE.fns 366=some ir366:=by kernel_rfl
theorem fn367:EE.fns 367=some ir367:=by kernel_rfl
theorem fn368:EE.fns 368=some ir368:=by kernel_rfl
theorem fn369:EE.fns 369=some ir369:=by kernel_rfl
theorem fn370:EE.fns 370=some ir370:=by kernel_rfl
theorem fn371:EE.fns 371=some ir371:=by kernel_rfl
theorem fn372:EE.fns 372=some ir372:=by kernel_rfl
theorem fn373:EE.fns 373=some ir373:=by kernel_rfl
theorem fn374:EE.fns 374=some ir374:=by kernel_rfl
theorem fn375:EE.fns 375=some ir375:=by kernel_rfl
theorem fn377:EE.fns 377=some ir377:=by kernel_rfl
theorem fn378:EE.fns 378=some ir378:=by kernel_rfl
theorem fn379:EE.fns 379=some ir379:=by kernel_rfl
theorem fn380:EE.fns 380=some ir380:=by kernel_rfl
theorem fn381:EE.fns 381=some ir381:=by kernel_rfl
theorem fn382:EE.fns 382=some ir382:=by kernel_rfl
theorem fn383:EE.fns 383=some ir383:=by kernel_rfl
theorem fn384:EE.fns 384=some ir384:=by kernel_rfl
theorem fn385:EE.fns 385=some ir385:=by kernel_rfl
theorem fn386:EE.fns 386=some ir386:=by kernel_rfl
theorem fn387:EE.fns 387=some ir387:=by kernel_rfl
theorem fn388:EE.fns 388=some ir388:=by kernel_rfl
theorem fn389:EE.fns 389=some ir389:=by kernel_rfl
theorem fn392:EE.fns 392=some ir392:=by kernel_rfl
theorem fn393:EE.fns 393=some ir393:=by kernel_rfl
theorem fn394:EE.fns 394=some ir394:=by kernel_rfl
theorem fn395:EE.fns 395=some ir395:=by kernel_rfl
theorem fn396:EE.fns 396=some ir396:=by kernel_rfl
theorem fn397:EE.fns 397=some ir397:=by kernel_rfl
theorem fn398:EE.fns 398=some ir398:=by kernel_rfl
theorem fn399:EE.fns 399=some ir399:=by kernel_rfl
theorem fn400:EE.fns 400=some ir400:=by kernel_rfl
theorem fn401:EE.fns 401=some ir401:=by kernel_rfl
theorem fn402:EE.fns 402=some ir402:=by kernel_rfl
theorem fn403:EE.fns 403=some ir403:=by kernel_rfl
theorem fn404:EE.fns 404=some ir404:=by kernel_rfl
theorem fn405:EE.fns 405=some ir405:=by kernel_rfl
theorem fn406:EE.fns 406=some ir406:=by kernel_rfl
theorem fn407:EE.fns 407=some ir407:=by kernel_rfl
theorem fn408:EE.fns 408=some ir408:=by kernel_rfl
theorem fn409:EE.fns 409=some ir409:=by kernel_rfl
theorem fn410:EE.fns 410=some ir410:=by kernel_rfl
theorem fn413:EE.fns 413=some ir413:=by kernel_rfl
theorem fn414:EE.fns 414=some ir414:=by kernel_rfl
end Go.EnvOf
