/- The functions of the table are the program's. -/
import Derived.Test.YtpibjnnbploadaaGreatProg
import Derived.Test.YtpibjnnbploadaaGreatEngAll7
import Derived.Test.YtpibjnnbploadaaGreatEngAll8
import Derived.Test.YtpibjnnbploadaaGreatAwk
namespace Go.EnvOf
open Go Go.Eng Go.Proofs.Tryz
set_option maxRecDepth 100000
theorem ok3:FnOK prog 3 ir3:=⟨_,_,func3,by kernel_rfl,rfl,by kernel_rfl,by kernel_rfl⟩
theorem ok15:FnOK prog 15 ir15:=⟨_,_,func15,by kernel_rfl,rfl,by kernel_rfl,by kernel_rfl⟩
theorem ok16:FnOK prog 16 ir16:=⟨_,_,func16,by kernel_rfl,rfl,by kernel_rfl,by kernel_rfl⟩
theorem ok17:FnOK prog 17 ir17:=⟨_,_,func17,by kernel_rfl,rfl,by kernel_rfl,by kernel_rfl⟩
theorem ok18:FnOK prog 18 ir18:=⟨_,_,func18,by kernel_rfl,rfl,by kernel_rfl,by kernel_rfl⟩
theorem ok19:FnOK prog 19 ir19:=⟨_,_,func19,by kernel_rfl,rfl,by kernel_rfl,by kernel_rfl⟩
theorem ok20:FnOK prog 20 ir20:=⟨_,_,func20,by kernel_rfl,rfl,by kernel_rfl,by kernel_rfl⟩
theorem ok21:FnOK prog 21 ir21:=⟨_,_,func21,by kernel_rfl,rfl,by kernel_rfl,by kernel_rfl⟩
theorem ok22:FnOK prog 22 ir22:=⟨_,_,func22,by kernel_rfl,rfl,by kernel_rfl,by kernel_rfl⟩
theorem ok23:FnOK prog 23 ir23:=⟨_,_,func23,by kernel_rfl,rfl,by kernel_rfl,by kernel_rfl⟩
theorem ok30:FnOK prog 30 ir30:=⟨_,_,func30,by kernel_rfl,rfl,by kernel_rfl,by kernel_rfl⟩
theorem ok38:FnOK prog 38 ir38:=⟨_,_,func38,by kernel_rfl,rfl,by kernel_rfl,by kernel_rfl⟩
theorem ok69:FnOK prog 69 ir69:=⟨_,_,func69,by kernel_rfl,rfl,by kernel_rfl,by kernel_rfl⟩
theorem ok70:FnOK prog 70 ir70:=⟨_,_,func70,by kernel_rfl,rfl,by kernel_rfl,by kernel_rfl⟩
theorem ok71:FnOK prog 71 ir71:=⟨_,_,func71,by kernel_rfl,rfl,by kernel_rfl,by kernel_rfl⟩
theorem ok72:FnOK prog 72 ir72:=⟨_,_,func72,by kernel_rfl,rfl,by kernel_rfl,by kernel_rfl⟩
theorem ok73:FnOK prog 73 ir73:=⟨_,_,func73,by kernel_rfl,rfl,by kernel_rfl,by kernel_rfl⟩
theorem ok74:FnOK prog 74 ir74:=⟨_,_,func74,by kernel_rfl,rfl,by kernel_rfl,by kernel_rfl⟩
theorem ok75:FnOK prog 75 ir75:=⟨_,_,func75,by kernel_rfl,rfl,by kernel_rfl,by kernel_rfl⟩
theorem ok76:FnOK prog 76 ir76:=⟨_,_,func76,by kernel_rfl,rfl,by kernel_rfl,by kernel_rfl⟩
theorem ok77:FnOK prog 77 ir77:=⟨_,_,func77,by kernel_rfl,rfl,by kernel_rfl,by kernel_rfl⟩
theorem ok78:FnOK prog 78 ir78:=⟨_,_,func78,by kernel_rfl,rfl,by kernel_rfl,by kernel_rfl⟩
theorem ok79:FnOK prog 79 ir79:=⟨_,_,func79,by kernel_rfl,rfl,by kernel_rfl,by kernel_rfl⟩
theorem ok80:FnOK prog 80 ir80:=⟨_,_,func80,by kernel_rfl,rfl,by kernel_rfl,by kernel_rfl⟩
theorem ok81:FnOK prog 81 ir81:=⟨_,_,func81,by kernel_rfl,rfl,by kernel_rfl,by kernel_rfl⟩
theorem ok82:FnOK prog 82 ir82:=⟨_,_,func82,by kernel_rfl,rfl,by kernel_rfl,by kernel_rfl⟩
theorem ok83:FnOK prog 83 ir83:=⟨_,_,func83,by kernel_rfl,rfl,by kernel_rfl,by kernel_rfl⟩
theorem ok84:FnOK prog 84 ir84:=⟨_,_,func84,by kernel_rfl,rfl,by kernel_rfl,by kernel_rfl⟩
theorem ok85:FnOK prog 85 ir85:=⟨_,_,func85,by kernel_rfl,rfl,by kernel_rfl,by kernel_rfl⟩
theorem ok86:FnOK prog 86 ir86:=⟨_,_,func86,by kernel_rfl,rfl,by kernel_rfl,by kernel_rfl⟩
theorem ok87:FnOK prog 87 ir87:=⟨_,_,func87,by kernel_rfl,rfl,by kernel_rfl,by kernel_rfl⟩
theorem ok88:FnOK prog 88 ir88:=⟨_,_,func88,by kernel_rfl,rfl,by kernel_rfl,by kernel_rfl⟩
theorem ok89:FnOK prog 89 ir89:=⟨_,_,func89,by kernel_rfl,rfl,by kernel_rfl,by kernel_rfl⟩
theorem ok90:FnOK prog 90 ir90:=⟨_,_,func90,by kernel_rfl,rfl,by kernel_rfl,by kernel_rfl⟩
theorem ok91:FnOK prog 91 ir91:=⟨_,_,func91,by kernel_rfl,rfl,by kernel_rfl,by kernel_rfl⟩
theorem ok92:FnOK prog 92 ir92:=⟨_,_,func92,by kernel_rfl,rfl,by kernel_rfl,by kernel_rfl⟩
theorem ok93:FnOK prog 93 ir93:=⟨_,_,func93,by kernel_rfl,rfl,by kernel_rfl,by kernel_rfl⟩
theorem ok94:FnOK prog 94 ir94:=⟨_,_,func94,by kernel_rfl,rfl,by kernel_rfl,by kernel_rfl⟩
theorem ok95:FnOK prog 95 ir95:=⟨_,_,func95,by kernel_rfl,rfl,by kernel_rfl,by kernel_rfl⟩
theorem ok96:FnOK prog 96 ir96:=⟨_,_,func96,by kernel_rfl,rfl,by kernel_rfl,by kernel_rfl⟩
theorem ok97:FnOK prog 97 ir97:=⟨_,_,func97,by kernel_rfl,rfl,by kernel_rfl,by kernel_rfl⟩
theorem ok100:FnOK prog 100 ir100:=⟨_,_,func100,by kernel_rfl,rfl,by kernel_rfl,by kernel_rfl⟩
theorem ok105:FnOK prog 105 ir105:=⟨_,_,func105,by kernel_rfl,rfl,by kernel_rfl,by kernel_rfl⟩
theorem ok132:FnOK prog 132 ir132:=⟨_,_,func132,by kernel_rfl,rfl,by kernel_rfl,by kernel_rfl⟩
theorem ok133:FnOK prog 133 ir133:=⟨_,_,func133,by kernel_rfl,rfl,by kernel_rfl,by kernel_rfl⟩
theorem ok138:FnOK prog 138 ir138:=⟨_,_,func138,by kernel_rfl,rfl,by kernel_rfl,by kernel_rfl⟩
theorem ok139:FnOK prog 139 ir139:=⟨_,_,func139,by kernel_rfl,rfl,by kernel_rfl,by kernel_rfl⟩
theorem ok170:FnOK prog 170 ir170:=⟨_,_,func170,by kernel_rfl,rfl,by kernel_rfl,by kernel_rfl⟩
theorem ok171:FnOK prog 171 ir171:=⟨_,_,func171,by kernel_rfl,rfl,by kernel_rfl,by kernel_rfl⟩
theorem ok172:FnOK prog 172 ir172:=⟨_,_,func172,by kernel_rfl,rfl,by kernel_rfl,by kernel_rfl⟩
theorem ok173:FnOK prog 173 ir173:=⟨_,_,func173,by kernel_rfl,rfl,by kernel_rfl,by kernel_rfl⟩
theorem ok175:FnOK prog 175 ir175:=⟨_,_,func175,by kernel_rfl,rfl,by kernel_rfl,by kernel_rfl⟩
theorem ok177:FnOK prog 177 ir177:=⟨_,_,func177,by kernel_rfl,rfl,by kernel_rfl,by kernel_rfl⟩
theorem ok180:FnOK prog 180 ir180:=⟨_,_,func180,by kernel_rfl,rfl,by kernel_rfl,by kernel_rfl⟩
theorem ok185:FnOK prog 185 ir185:=⟨_,_,func185,by kernel_rfl,rfl,by kernel_rfl,by kernel_rfl⟩
theorem ok188:FnOK prog 188 ir188:=⟨_,_,func188,by kernel_rfl,rfl,by kernel_rfl,by kernel_rfl⟩
theorem ok189:FnOK prog 189 ir189:=⟨_,_,func189,by kernel_rfl,rfl,by kernel_rfl,by kernel_rfl⟩
theorem ok190:FnOK prog 190 ir190:=⟨_,_,func190,by kernel_rfl,rfl,by kernel_rfl,by kernel_rfl⟩
theorem ok191:FnOK prog 191 ir191:=⟨_,_,func191,by kernel_rfl,rfl,by kernel_rfl,by kernel_rfl⟩
theorem ok192:FnOK prog 192 ir192:=⟨_,_,func192,by kernel_rfl,rfl,by kernel_rfl,by kernel_rfl⟩
theorem ok193:FnOK prog 193 ir193:=⟨_,_,func193,by kernel_rfl,rfl,by kernel_rfl,by kernel_rfl⟩
theorem ok194:FnOK prog 194 ir194:=⟨_,_,func194,by kernel_rfl,rfl,by kernel_rfl,by kernel_rfl⟩
theorem ok195:FnOK prog 195 ir195:=⟨_,_,func195,by kernel_rfl,rfl,by kernel_rfl,by kernel_rfl⟩
theorem ok196:FnOK prog 196 ir196:=⟨_,_,func196,by kernel_rfl,rfl,by kernel_rfl,by kernel_rfl⟩
theorem ok197:FnOK prog 197 ir197:=⟨_,_,func197,by kernel_rfl,rfl,by kernel_rfl,by kernel_rfl⟩
theorem ok198:FnOK prog 198 ir198:=⟨_,_,func198,by kernel_rfl,rfl,by kernel_rfl,by kernel_rfl⟩
theorem ok199:FnOK prog 199 ir199:=⟨_,_,func199,by kernel_rfl,rfl,by kernel_rfl,by kernel_rfl⟩
theorem ok200:FnOK prog 200 ir200:=⟨_,_,func200,by kernel_rfl,rfl,by kernel_rfl,by kernel_rfl⟩
theorem ok201:FnOK prog 201 ir201:=⟨_,_,func201,by kernel_rfl,rfl,by kernel_rfl,by kernel_rfl⟩
theorem ok202:FnOK prog 202 ir202:=⟨_,_,func202,by kernel_rfl,rfl,by kernel_rfl,by kernel_rfl⟩
theorem ok203:FnOK prog 203 ir203:=⟨_,_,func203,by kernel_rfl,rfl,by kernel_rfl,by kernel_rfl⟩
theorem ok204:FnOK prog 204 ir204:=⟨_,_,func204,by kernel_rfl,rfl,by kernel_rfl,by kernel_rfl⟩
theorem ok205:FnOK prog 205 ir205:=⟨_,_,func205,by kernel_rfl,rfl,by kernel_rfl,by kernel_rfl⟩
theorem ok206:FnOK prog 206 ir206:=⟨_,_,func206,by kernel_rfl,rfl,by kernel_rfl,by kernel_rfl⟩
theorem ok207:FnOK prog 207 ir207:=⟨_,_,func207,by kernel_rfl,rfl,by kernel_rfl,by kernel_rfl⟩
theorem ok208:FnOK prog 208 ir208:=⟨_,_,func208,by kernel_rfl,rfl,by kernel_rfl,by kernel_rfl⟩
theorem ok209:FnOK prog 209 ir209:=⟨_,_,func209,by kernel_rfl,rfl,by kernel_rfl,by kernel_rfl⟩
theorem ok210:FnOK prog 210 ir210:=⟨_,_,func210,by kernel_rfl,rfl,by kernel_rfl,by kernel_rfl⟩
theorem ok211:FnOK prog 211 ir211:=⟨_,_,func211,by kernel_rfl,rfl,by kernel_rfl,by kernel_rfl⟩
theorem ok212:FnOK prog 212 ir212:=⟨_,_,func212,by kernel_rfl,rfl,by kernel_rfl,by kernel_rfl⟩
theorem ok213:FnOK prog 213 ir213:=⟨_,_,func213,by kernel_rfl,rfl,by kernel_rfl,by kernel_rfl⟩
theorem ok214:FnOK prog 214 ir214:=⟨_,_,func214,by kernel_rfl,rfl,by kernel_rfl,by kernel_rfl⟩
theorem ok215:FnOK prog 215 ir215:=⟨_,_,func215,by kernel_rfl,rfl,by kernel_rfl,by kernel_rfl⟩
theorem ok216:FnOK prog 216 ir216:=⟨_,_,func216,by kernel_rfl,rfl,by kernel_rfl,by kernel_rfl⟩
theorem ok217:FnOK prog 217 ir217:=⟨_,_,func217,by kernel_rfl,rfl,by kernel_rfl,by kernel_rfl⟩
theorem ok218:FnOK prog 218 ir218:=⟨_,_,func218,by kernel_rfl,rfl,by kernel_rfl,by kernel_rfl⟩
theorem ok219:FnOK prog 219 ir219:=⟨_,_,func219,by kernel_rfl,rfl,by kernel_rfl,by kernel_rfl⟩
theorem ok220:FnOK prog 220 ir220:=⟨_,_,func220,by kernel_rfl,rfl,by kernel_rfl,by kernel_rfl⟩
theorem ok221:FnOK prog 221 ir221:=⟨_,_,func221,by kernel_rfl,rfl,by kernel_rfl,by kernel_rfl⟩
theorem ok222:FnOK prog 222 ir222:=⟨_,_,func222,by kernel_rfl,rfl,by kernel_rfl,by kernel_rfl⟩
theorem ok223:FnOK prog 223 ir223:=⟨_,_,func223,by kernel_rfl,rfl,by kernel_rfl,by kernel_rfl⟩
theorem ok224:FnOK prog 224 ir224:=⟨_,_,func224,by kernel_rfl,rfl,by kernel_rfl,by kernel_rfl⟩
theorem ok225:FnOK prog 225 ir225:=⟨_,_,func225,by kernel_rfl,rfl,by kernel_rfl,by kernel_rfl⟩
theorem ok226:FnOK prog 226 ir226:=⟨_,_,func226,by kernel_rfl,rfl,by kernel_rfl,by kernel_rfl⟩
theorem ok227:FnOK prog 227 ir227:=⟨_,_,func227,by kernel_rfl,rfl,by kernel_rfl,by kernel_rfl⟩
theorem ok228:FnOK prog 228 ir228:=⟨_,_,func228,by kernel_rfl,rfl,by kernel_rfl,by kernel_rfl⟩
theorem ok231:FnOK prog 231 ir231:=⟨_,_,func231,by kernel_rfl,rfl,by kernel_rfl,by kernel_rfl⟩
theorem ok232:FnOK prog 232 ir232:=⟨_,_,func232,by kernel_rfl,rfl,by kernel_rfl,by kernel_rfl⟩
theorem ok235:FnOK prog 235 ir235:=⟨_,_,func235,by kernel_rfl,rfl,by kernel_rfl,by kernel_rfl⟩
theorem ok236:FnOK prog 236 ir236:=⟨_,_,func236,by kernel_rfl,rfl,by kernel_rfl,by kernel_rfl⟩
theorem ok245:FnOK prog 245 ir245:=⟨_,_,func245,by kernel_rfl,rfl,by kernel_rfl,by kernel_rfl⟩
theorem ok254:FnOK prog 254 ir254:=⟨_,_,func254,by kernel_rfl,rfl,by kernel_rfl,by kernel_rfl⟩
theorem ok284:FnOK prog 284 ir284:=⟨_,_,func284,by kernel_rfl,rfl,by kernel_rfl,by kernel_rfl⟩
theorem ok286:FnOK prog 286 ir286:=⟨_,_,func286,by kernel_rfl,rfl,by kernel_rfl,by kernel_rfl⟩
theorem ok287:FnOK prog 287 ir287:=⟨_,_,func287,by kernel_rfl,rfl,by kernel_rfl,by kernel_rfl⟩
theorem ok288:FnOK prog 288 ir288:=⟨_,_,func288,by kernel_rfl,rfl,by kernel_rfl,by kernel_rfl⟩
theorem ok289:FnOK prog 289 ir289:=⟨_,_,func289,by kernel_rfl,rfl,by kernel_rfl,by kernel_rfl⟩
theorem ok290:FnOK prog 290 ir290:=⟨_,_,func290,by kernel_rfl,rfl,by kernel_rfl,by kernel_rfl⟩
theorem ok316:FnOK prog 316 ir316:=⟨_,_,func316,by kernel_rfl,rfl,by kernel_rfl,by kernel_rfl⟩
theorem ok317:FnOK prog 317 ir317:=⟨_,_,func317,by kernel_rfl,rfl,by kernel_rfl,by kernel_rfl⟩
theorem ok318:FnOK prog 318 ir318:=⟨_,_,func318,by kernel_rfl,rfl,by kernel_rfl,by kernel_rfl⟩
theorem ok325:FnOK prog 325 ir325:=⟨_,_,func325,by kernel_rfl,rfl,by kernel_rfl,by kernel_rfl⟩
theorem ok326:FnOK prog 326 ir326:=⟨_,_,func326,by kernel_rfl,rfl,by kernel_rfl,by kernel_rfl⟩
theorem ok329:FnOK prog 329 ir329:=⟨_,_,func329,by kernel_rfl,rfl,by kernel_rfl,by kernel_rfl⟩
theorem ok330:FnOK prog 330 ir330:=⟨_,_,func330,by kernel_rfl,rfl,by kernel_rfl,by kernel_rfl⟩
theorem ok331:FnOK prog 331 ir331:=⟨_,_,func331,by kernel_rfl,rfl,by kernel_rfl,by kernel_rfl⟩
theorem ok332:FnOK prog 332 ir332:=⟨_,_,func332,by kernel_rfl,rfl,by kernel_rfl,by kernel_rfl⟩
theorem ok333:FnOK prog 333 ir333:=⟨_,_,func333,by kernel_rfl,rfl,by kernel_rfl,by kernel_rfl⟩
theorem ok334:FnOK prog 334 ir334:=⟨_,_,func334,by kernel_rfl,rfl,by kernel_rfl,by kernel_rfl⟩
theorem ok335:FnOK prog 335 ir335:=⟨_,_,func335,by kernel_rfl,rfl,by kernel_rfl,by kernel_rfl⟩
theorem ok336:FnOK prog 336 ir336:=⟨_,_,func336,by kernel_rfl,rfl,by kernel_rfl,by kernel_rfl⟩
theorem ok337:FnOK prog 337 ir337:=⟨_,_,func337,by kernel_rfl,rfl,by kernel_rfl,by kernel_rfl⟩
theorem ok338:FnOK prog 338 ir338:=⟨_,_,func338,by kernel_rfl,rfl,by kernel_rfl,by kernel_rfl⟩
theorem ok339:FnOK prog 339 ir339:=⟨_,_,func339,by kernel_rfl,rfl,by kernel_rfl,by kernel_rfl⟩
theorem ok340:FnOK prog 340 ir340:=⟨_,_,func340,by kernel_rfl,rfl,by kernel_rfl,by kernel_rfl⟩
theorem ok341:FnOK prog 341 ir341:=⟨_,_,func341,by kernel_rfl,rfl,by kernel_rfl,by kernel_rfl⟩
theorem ok342:FnOK prog 342 ir342:=⟨_,_,func342,by kernel_rfl,rfl,by kernel_rfl,by kernel_rfl⟩
theorem ok343:FnOK prog 343 ir343:=⟨_,_,func343,by kernel_rfl,rfl,by kernel_rfl,by kernel_rfl⟩
theorem ok344:FnOK prog 344 ir344:=⟨_,_,func344,by kernel_rfl,rfl,by kernel_rfl,by kernel_rfl⟩
theorem ok345:FnOK prog 345 ir345:=⟨_,_,func345,by kernel_rfl,rfl,by kernel_rfl,by kernel_rfl⟩
theorem ok346:FnOK prog 346 ir346:=⟨_,_,func346,by kernel_rfl,rfl,by kernel_rfl,by kernel_rfl⟩
theorem ok347:FnOK prog 347 ir347:=⟨_,_,func347,by kernel_rfl,rfl,by kernel_rfl,by kernel_rfl⟩
theorem ok348:FnOK prog 348 ir348:=⟨_,_,func348,by kernel_rfl,rfl,by kernel_rfl,by kernel_rfl⟩
theorem ok349:FnOK prog 349 ir349:=⟨_,_,func349,by kernel_rfl,rfl,by kernel_rfl,by kernel_rfl⟩
theorem ok350:FnOK prog 350 ir350:=⟨_,_,func350,by kernel_rfl,rfl,by kernel_rfl,by kernel_rfl⟩
theorem ok351:FnOK prog 351 ir351:=⟨_,_,func351,by kernel_rfl,rfl,by kernel_rfl,by kernel_rfl⟩
theorem ok352:FnOK prog 352 ir352:=⟨_,_,func352,by kernel_rfl,rfl,by kernel_rfl,by kernel_rfl⟩
theorem ok353:FnOK prog 353 ir353:=⟨_,_,func353,by kernel_rfl,rfl,by kernel_rfl,by kernel_rfl⟩
theorem ok354:FnOK prog 354 ir354:=⟨_,_,func354,by kernel_rfl,rfl,by kernel_rfl,by kernel_rfl⟩
theorem ok355:FnOK prog 355 ir355:=⟨_,_,func355,by kernel_rfl,rfl,by kernel_rfl,by kernel_rfl⟩
theorem ok359:FnOK prog 359 ir359:=⟨_,_,func359,by kernel_rfl,rfl,by kernel_rfl,by kernel_rfl⟩
theorem ok362:FnOK prog 362 ir362:=⟨_,_,func362,by kernel_rfl,rfl,by kernel_rfl,by kernel_rfl⟩
theorem ok375:FnOK prog 375 ir375:=⟨_,_,func375,by kernel_rfl,rfl,by kernel_rfl,by kernel_rfl⟩
theorem ok376:FnOK prog 376 ir376:=⟨_,_,func376,by kernel_rfl,rfl,by kernel_rfl,by kernel_rfl⟩
theorem ok385:FnOK prog 385 ir385:=⟨_,_,func385,by kernel_rfl,rfl,by kernel_rfl,by kernel_rfl⟩
theorem ok386:FnOK prog 386 ir386:=⟨_,_,func386,by kernel_rfl,rfl,by kernel_rfl,by kernel_rfl⟩
theorem ok387:FnOK prog 387 ir387:=⟨_,_,func387,by kernel_rfl,rfl,by kernel_rfl,by kernel_rfl⟩
theorem ok388:FnOK prog 388 ir388:=⟨_,_,func388,by kernel_rfl,rfl,by kernel_rfl,by kernel_rfl⟩
theorem ok389:FnOK prog 389 ir389:=⟨_,_,func389,by kernel_rfl,rfl,by kernel_rfl,by kernel_rfl⟩
theorem ok393:FnOK prog 393 ir393:=⟨_,_,func393,by kernel_rfl,rfl,by kernel_rfl,by kernel_rfl⟩
theorem ok394:FnOK prog 394 ir394:=⟨_,_,func394,by kernel_rfl,rfl,by kernel_rfl,by kernel_rfl⟩
theorem ok395:FnOK prog 395 ir395:=⟨_,_,func395,by kernel_rfl,rfl,by kernel_rfl,by kernel_rfl⟩
theorem ok396:FnOK prog 396 ir396:=⟨_,_,func396,by kernel_rfl,rfl,by kernel_rfl,by kernel_rfl⟩
theorem ok397:FnOK prog 397 ir397:=⟨_,_,func397,by kernel_rfl,rfl,by kernel_rfl,by kernel_rfl⟩
theorem ok398:FnOK prog 398 ir398:=⟨_,_,func398,by kernel_rfl,rfl,by kernel_rfl,by kernel_rfl⟩
theorem ok399:FnOK prog 399 ir399:=⟨_,_,func399,by kernel_rfl,rfl,by kernel_rfl,by kernel_rfl⟩
theorem ok400:FnOK prog 400 ir400:=⟨_,_,func400,by kernel_rfl,rfl,by kernel_rfl,by kernel_rfl⟩
theorem ok401:FnOK prog 401 ir401:=⟨_,_,func401,by kernel_rfl,rfl,by kernel_rfl,by kernel_rfl⟩
theorem ok402:FnOK prog 402 ir402:=⟨_,_,func402,by kernel_rfl,rfl,by kernel_rfl,by kernel_rfl⟩
theorem ok403:FnOK prog 403 ir403:=⟨_,_,func403,by kernel_rfl,rfl,by kernel_rfl,by kernel_rfl⟩
theorem ok404:FnOK prog 404 ir404:=⟨_,_,func404,by kernel_rfl,rfl,by kernel_rfl,by kernel_rfl⟩
theorem ok405:FnOK prog 405 ir405:=⟨_,_,func405,by kernel_rfl,rfl,by kernel_rfl,by kernel_rfl⟩
theorem ok406:FnOK prog 406 ir406:=⟨_,_,func406,by kernel_rfl,rfl,by kernel_rfl,by kernel_rfl⟩
theorem ok407:FnOK prog 407 ir407:=⟨_,_,func407,by kernel_rfl,rfl,by kernel_rfl,by kernel_rfl⟩
theorem ok408:FnOK prog 408 ir408:=⟨_,_,func408,by kernel_rfl,rfl,by kernel_rfl,by kernel_rfl⟩
theorem ok409:FnOK prog 409 ir409:=⟨_,_,func409,by kernel_rfl,rfl,by kernel_rfl,by kernel_rfl⟩
theorem ok410:FnOK prog 410 ir410:=⟨_,_,func410,by kernel_rfl,rfl,by kernel_rfl,by kernel_rfl⟩
theorem ok411:FnOK prog 411 ir411:=⟨_,_,func411,by kernel_rfl,rfl,by kernel_rfl,by kernel_rfl⟩
theorem ok412:FnOK prog 412 ir412:=⟨_,_,func412,by kernel_rfl,rfl,by kernel_rfl,by kernel_rfl⟩
theorem ok413:FnOK prog 413 ir413:=⟨_,_,func413,by kernel_rfl,rfl,by kernel_rfl,by kernel_rfl⟩
theorem ok414:FnOK prog 414 ir414:=⟨_,_,func414,by kernel_rfl,rfl,by kernel_rfl,by kernel_rfl⟩
theorem ok415:FnOK prog 415 ir415:=⟨_,_,func415,by kernel_rfl,rfl,by kernel_rfl,by kernel_rfl⟩
theorem ok434:FnOK prog 434 ir434:=⟨_,_,func434,by kernel_rfl,rfl,by kernel_rfl,by kernel_rfl⟩
theorem ok435:FnOK prog 435 ir435:=⟨_,_,func435,by kernel_rfl,rfl,by kernel_rfl,by kernel_rfl⟩
theorem ok436:FnOK prog 436 ir436:=⟨_,_,func436,by kernel_rfl,rfl,by kernel_rfl,by kernel_rfl⟩
theorem ok437:FnOK prog 437 ir437:=⟨_,_,func437,by kernel_rfl,rfl,by kernel_rfl,by kernel_rfl⟩
theorem ok438:FnOK prog 438 ir438:=⟨_,_,func438,by kernel_rfl,rfl,by kernel_rfl,by kernel_rfl⟩
theorem ok439:FnOK prog 439 ir439:=⟨_,_,func439,by kernel_rfl,rfl,by kernel_rfl,by kernel_rfl⟩
theorem ok440:FnOK prog 440 ir440:=⟨_,_,func440,by kernel_rfl,rfl,by kernel_rfl,by kernel_rfl⟩
theorem ok441:FnOK prog 441 ir441:=⟨_,_,func441,by kernel_rfl,rfl,by kernel_rfl,by kernel_rfl⟩
theorem ok442:FnOK prog 442 ir442:=⟨_,_,func442,by kernel_rfl,rfl,by kernel_rfl,by kernel_rfl⟩
theorem ok443:FnOK prog 443 ir443:=⟨_,_,func443,by kernel_rfl,rfl,by kernel_rfl,by kernel_rfl⟩
theorem ok444:FnOK prog 444 ir444:=⟨_,_,func444,by kernel_rfl,rfl,by kernel_rfl,by kernel_rfl⟩
theorem ok445:FnOK prog 445 ir445:=⟨_,_,func445,by kernel_rfl,rfl,by kernel_rfl,by kernel_rfl⟩
theorem ok446:FnOK prog 446 ir446:=⟨_,_,func446,by kernel_rfl,rfl,by kernel_rfl,by kernel_rfl⟩
theorem ok447:FnOK prog 447 ir447:=⟨_,_,func447,by kernel_rfl,rfl,by kernel_rfl,by kernel_rfl⟩
theorem ok448:FnOK prog 448 ir448:=⟨_,_,func448,by kernel_rfl,rfl,by kernel_rfl,by kernel_rfl⟩
theorem ok449:FnOK prog 449 ir449:=⟨_,_,func449,by kernel_rfl,rfl,by kernel_rfl,by kernel_rfl⟩
theorem ok450:FnOK prog 450 ir450:=⟨_,_,func450,by kernel_rfl,rfl,by kernel_rfl,by kernel_rfl⟩
theorem ok451:FnOK prog 451 ir451:=⟨_,_,func451,by kernel_rfl,rfl,by kernel_rfl,by kernel_rfl⟩
theorem ok452:FnOK prog 452 ir452:=⟨_,_,func452,by kernel_rfl,rfl,by kernel_rfl,by kernel_rfl⟩
theorem ok473:FnOK prog 473 ir473:=⟨_,_,func473,by kernel_rfl,rfl,by kernel_rfl,by kernel_rfl⟩
theorem ok474:FnOK prog 474 ir474:=⟨_,_,func474,by kernel_rfl,rfl,by kernel_rfl,by kernel_rfl⟩
theorem ok475:FnOK prog 475 ir475:=⟨_,_,func475,by kernel_rfl,rfl,by kernel_rfl,by kernel_rfl⟩
theorem ok476:FnOK prog 476 ir476:=⟨_,_,func476,by kernel_rfl,rfl,by kernel_rfl,by kernel_rfl⟩
theorem ok477:FnOK prog 477 ir477:=⟨_,_,func477,by kernel_rfl,rfl,by kernel_rfl,by kernel_rfl⟩
theorem ok478:FnOK prog 478 ir478:=⟨_,_,func478,by kernel_rfl,rfl,by kernel_rfl,by kernel_rfl⟩
theorem ok479:FnOK prog 479 ir479:=⟨_,_,func479,by kernel_rfl,rfl,by kernel_rfl,by kernel_rfl⟩
theorem ok480:FnOK prog 480 ir480:=⟨_,_,func480,by kernel_rfl,rfl,by kernel_rfl,by kernel_rfl⟩
theorem ok481:FnOK prog 481 ir481:=⟨_,_,func481,by kernel_rfl,rfl,by kernel_rfl,by kernel_rfl⟩
theorem ok482:FnOK prog 482 ir482:=⟨_,_,func482,by kernel_rfl,rfl,by kernel_rfl,by kernel_rfl⟩
theorem ok483:FnOK prog 483 ir483:=⟨_,_,func483,by kernel_rfl,rfl,by kernel_rfl,by kernel_rfl⟩
theorem ok484:FnOK prog 484 ir484:=⟨_,_,func484,by kernel_rfl,rfl,by kernel_rfl,by kernel_rfl⟩
theorem ok485:FnOK prog 485 ir485:=⟨_,_,func485,by kernel_rfl,rfl,by kernel_rfl,by kernel_rfl⟩
theorem ok486:FnOK prog 486 ir486:=⟨_,_,func486,by kernel_rfl,rfl,by kernel_rfl,by kernel_rfl⟩
theorem ok487:FnOK prog 487 ir487:=⟨_,_,func487,by kernel_rfl,rfl,by kernel_rfl,by kernel_rfl⟩
theorem ok488:FnOK prog 488 ir488:=⟨_,_,func488,by kernel_rfl,rfl,by kernel_rfl,by kernel_rfl⟩
theorem ok489:FnOK prog 489 ir489:=⟨_,_,func489,by kernel_rfl,rfl,by kernel_rfl,by kernel_rfl⟩
theorem ok490:FnOK prog 490 ir490:=⟨_,_,func490,by kernel_rfl,rfl,by kernel_rfl,by kernel_rfl⟩
theorem ok491:FnOK prog 491 ir491:=⟨_,_,func491,by kernel_rfl,rfl,by kernel_rfl,by kernel_rfl⟩
theorem ok509:FnOK prog 509 ir509:=⟨_,_,func509,by kernel_rfl,rfl,by kernel_rfl,by kernel_rfl⟩
theorem ok510:FnOK prog 510 ir510:=⟨_,_,func510,by kernel_rfl,rfl,by kernel_rfl,by kernel_rfl⟩
theorem ok: ∀p∈tab,FnOK prog p.1 p.2:=by
 unfold tab
 exact all_cons ok3 (all_cons ok15 (all_cons ok16 (all_cons ok17 (all_cons ok18 (all_cons ok19 (all_cons ok20 (all_cons ok21 (all_cons ok22 (all_cons ok23 (all_cons ok30 (all_cons ok38 (all_cons ok69 (all_cons ok70 (all_cons ok71 (all_cons ok72 (all_cons ok73 (all_cons ok74 (all_cons ok75 (all_cons ok76 (all_cons ok77 (all_cons ok78 (all_cons ok79 (all_cons ok80 (all_cons ok81 (all_cons ok82 (all_cons ok83 (all_cons ok84 (all_cons ok85 (all_cons ok86 (all_cons ok87 (all_cons ok88 (all_cons ok89 (all_cons ok90 (all_cons ok91 (all_cons ok92 (all_cons ok93 (all_cons ok94 (all_cons ok95 (all_cons ok96 (all_cons ok97 (all_cons ok100 (all_cons ok105 (all_cons ok132 (all_cons ok133 (all_cons ok138 (all_cons ok139 (all_cons ok170 (all_cons ok171 (all_cons ok172 (all_cons ok173 (all_cons ok175 (all_cons ok177 (all_cons ok180 (all_cons ok185 (all_cons ok188 (all_cons ok189 (all_cons ok190 (all_cons ok191 (all_cons ok192 (all_cons ok193 (all_cons ok194 (all_cons ok195 (all_cons ok196 (all_cons ok197 (all_cons ok198 (all_cons ok199 (all_cons ok200 (all_cons ok201 (all_cons ok202 (all_cons ok203 (all_cons ok204 (all_cons ok205 (all_cons ok206 (all_cons ok207 (all_cons ok208 (all_cons ok209 (all_cons ok210 (all_cons ok211 (all_cons ok212 (all_cons ok213 (all_cons ok214 (all_cons ok215 (all_cons ok216 (all_cons ok217 (all_cons ok218 (all_cons ok219 (all_cons ok220 (all_cons ok221 (all_cons ok222 (all_cons ok223 (all_cons ok224 (all_cons ok225 (all_cons ok226 (all_cons ok227 (all_cons ok228 (all_cons ok231 (all_cons ok232 (all_cons ok235 (all_cons ok236 (all_cons ok245 (all_cons ok254 (all_cons ok284 (all_cons ok286 (all_cons ok287 (all_cons ok288 (all_cons ok289 (all_cons ok290 (all_cons ok316 (all_cons ok317 (all_cons ok318 (all_cons ok325 (all_cons ok326 (all_cons ok329 (all_cons ok330 (all_cons ok331 (all_cons ok332 (all_cons ok333 (all_cons ok334 (all_cons ok335 (all_cons ok336 (all_cons ok337 (all_cons ok338 (all_cons ok339 (all_cons ok340 (all_cons ok341 (all_cons ok342 (all_cons ok343 (all_cons ok344 (all_cons ok345 (all_cons ok346 (all_cons ok347 (all_cons ok348 (all_cons ok349 (all_cons ok350 (all_cons ok351 (all_cons ok352 (all_cons ok353 (all_cons ok354 (all_cons ok355 (all_cons ok359 (all_cons ok362 (all_cons ok375 (all_cons ok376 (all_cons ok385 (all_cons ok386 (all_cons ok387 (all_cons ok388 (all_cons ok389 (all_cons ok393 (all_cons ok394 (all_cons ok395 (all_cons ok396 (all_cons ok397 (all_cons ok398 (all_cons ok399 (all_cons ok400 (all_cons ok401 (all_cons ok402 (all_cons ok403 (all_cons ok404 (all_cons ok405 (all_cons ok406 (all_cons ok407 (all_cons ok408 (all_cons ok409 (all_cons ok410 (all_cons ok411 (all_cons ok412 (all_cons ok413 (all_cons ok414 (all_cons ok415 (all_cons ok434 (all_cons ok435 (all_cons ok436 (all_cons ok437 (all_cons ok438 (all_cons ok439 (all_cons ok440 (all_cons ok441 (all_cons ok442 (all_cons ok443 (all_cons ok444 (all_cons ok445 (all_cons ok446 (all_cons ok447 (all_cons ok448 (all_cons ok449 (all_cons ok450 (all_cons ok451 (all_cons ok452 (all_cons ok473 (all_cons ok474 (all_cons ok475 (all_cons ok476 (all_cons ok477 (all_cons ok478 (all_cons ok479 (all_cons ok480 (all_cons ok481 (all_cons ok482 (all_cons ok483 (all_cons ok484 (all_cons ok485 (all_cons ok486 (all_cons ok487 (all_cons ok488 (all_cons ok489 (all_cons ok490 (all_cons ok491 (all_cons ok509 (all_cons ok510 (q0ue))))))))))))))))))))))))))))))))))))))))))))))))))))))))))))))))))))))))))))))))))))))))))))))))))))))))))))))))))))))))))))))))))))))))))))))))))))))))))))))))))))))))))))))))))))))))))))))))))))))))))))))))))))
theorem envOK0:EnvOK prog EE0 where
 mix:=by kernel_rfl
 still:=fun _ _ _ _=>trivial
 fns f fn h:=q0dz ok h
 prims f g h:=by cases h
theorem awk: ∀f∈sayK,clD EE0 (.p (.fn f)) [] []=some (.p (.bool true),none):=by
 intro f hf
 simp only [sayK,List.mem_cons,List.not_mem_nil,or_false] at hf
 subst hf
 ·exact awk16
theorem envOK:EnvOK prog EE where
 mix:=by kernel_rfl
 still:=fun _ _ _ _=>trivial
 fns f fn h:=q0dz ok h
 prims f g h:=by
  have h0:(if f∈sayK then some sayP else EE0.prims f)=some g:=h
  split at h0
  ·rename_i e;cases h0
   exact fun vs H r hr G own w args _ ha _ hw _=>q0qi envOK0 (awk f e) hr ha hw
  ·exact envOK0.prims f g h0
end Go.EnvOf
