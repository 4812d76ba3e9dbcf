/- The functions of the table are the program's. -/
import Derived.Test.YtpibjnnbploadaaGreatProg
import Derived.Test.YtpibjnnbploadaaGreatEngAll7
import Derived.Test.YtpibjnnbploadaaGreatEngAll8
import Derived.Test.YtpibjnnbploadaaGreatAwk
import Derived.Test.YtpibjnnbploadaaGreatEngAll9
import Derived.Test.YtpibjnnbploadaaGreatSortLay
namespace Go.EnvOf
open Go Go.Eng Go.Proofs.Tryz
set_option maxRecDepth 100000
theorem ok5:FnOK prog 5 ir5:=⟨_,_,func5,by kernel_rfl,rfl,by kernel_rfl,by kernel_rfl⟩
theorem ok15:FnOK prog 15 ir15:=⟨_,_,func15,by kernel_rfl,rfl,by kernel_rfl,by kernel_rfl⟩
theorem ok17:FnOK prog 17 ir17:=⟨_,_,func17,by kernel_rfl,rfl,by kernel_rfl,by kernel_rfl⟩
theorem ok29:FnOK prog 29 ir29:=⟨_,_,func29,by kernel_rfl,rfl,by kernel_rfl,by kernel_rfl⟩
theorem ok30:FnOK prog 30 ir30:=⟨_,_,func30,by kernel_rfl,rfl,by kernel_rfl,by kernel_rfl⟩
theorem ok31:FnOK prog 31 ir31:=⟨_,_,func31,by kernel_rfl,rfl,by kernel_rfl,by kernel_rfl⟩
theorem ok32:FnOK prog 32 ir32:=⟨_,_,func32,by kernel_rfl,rfl,by kernel_rfl,by kernel_rfl⟩
theorem ok33:FnOK prog 33 ir33:=⟨_,_,func33,by kernel_rfl,rfl,by kernel_rfl,by kernel_rfl⟩
theorem ok38:FnOK prog 38 ir38:=⟨_,_,func38,by kernel_rfl,rfl,by kernel_rfl,by kernel_rfl⟩
theorem ok40:FnOK prog 40 ir40:=⟨_,_,func40,by kernel_rfl,rfl,by kernel_rfl,by kernel_rfl⟩
theorem ok71:FnOK prog 71 ir71:=⟨_,_,func71,by kernel_rfl,rfl,by kernel_rfl,by kernel_rfl⟩
theorem ok72:FnOK prog 72 ir72:=⟨_,_,func72,by kernel_rfl,rfl,by kernel_rfl,by kernel_rfl⟩
theorem ok73:FnOK prog 73 ir73:=⟨_,_,func73,by kernel_rfl,rfl,by kernel_rfl,by kernel_rfl⟩
theorem ok74:FnOK prog 74 ir74:=⟨_,_,func74,by kernel_rfl,rfl,by kernel_rfl,by kernel_rfl⟩
theorem ok75:FnOK prog 75 ir75:=⟨_,_,func75,by kernel_rfl,rfl,by kernel_rfl,by kernel_rfl⟩
theorem ok76:FnOK prog 76 ir76:=⟨_,_,func76,by kernel_rfl,rfl,by kernel_rfl,by kernel_rfl⟩
theorem ok77:FnOK prog 77 ir77:=⟨_,_,func77,by kernel_rfl,rfl,by kernel_rfl,by kernel_rfl⟩
theorem ok78:FnOK prog 78 ir78:=⟨_,_,func78,by kernel_rfl,rfl,by kernel_rfl,by kernel_rfl⟩
theorem ok81:FnOK prog 81 ir81:=⟨_,_,func81,by kernel_rfl,rfl,by kernel_rfl,by kernel_rfl⟩
theorem ok82:FnOK prog 82 ir82:=⟨_,_,func82,by kernel_rfl,rfl,by kernel_rfl,by kernel_rfl⟩
theorem ok86:FnOK prog 86 ir86:=⟨_,_,func86,by kernel_rfl,rfl,by kernel_rfl,by kernel_rfl⟩
theorem ok87:FnOK prog 87 ir87:=⟨_,_,func87,by kernel_rfl,rfl,by kernel_rfl,by kernel_rfl⟩
theorem ok100:FnOK prog 100 ir100:=⟨_,_,func100,by kernel_rfl,rfl,by kernel_rfl,by kernel_rfl⟩
theorem ok116:FnOK prog 116 ir116:=⟨_,_,func116,by kernel_rfl,rfl,by kernel_rfl,by kernel_rfl⟩
theorem ok117:FnOK prog 117 ir117:=⟨_,_,func117,by kernel_rfl,rfl,by kernel_rfl,by kernel_rfl⟩
theorem ok118:FnOK prog 118 ir118:=⟨_,_,func118,by kernel_rfl,rfl,by kernel_rfl,by kernel_rfl⟩
theorem ok119:FnOK prog 119 ir119:=⟨_,_,func119,by kernel_rfl,rfl,by kernel_rfl,by kernel_rfl⟩
theorem ok120:FnOK prog 120 ir120:=⟨_,_,func120,by kernel_rfl,rfl,by kernel_rfl,by kernel_rfl⟩
theorem ok121:FnOK prog 121 ir121:=⟨_,_,func121,by kernel_rfl,rfl,by kernel_rfl,by kernel_rfl⟩
theorem ok122:FnOK prog 122 ir122:=⟨_,_,func122,by kernel_rfl,rfl,by kernel_rfl,by kernel_rfl⟩
theorem ok123:FnOK prog 123 ir123:=⟨_,_,func123,by kernel_rfl,rfl,by kernel_rfl,by kernel_rfl⟩
theorem ok132:FnOK prog 132 ir132:=⟨_,_,func132,by kernel_rfl,rfl,by kernel_rfl,by kernel_rfl⟩
theorem ok133:FnOK prog 133 ir133:=⟨_,_,func133,by kernel_rfl,rfl,by kernel_rfl,by kernel_rfl⟩
theorem ok140:FnOK prog 140 ir140:=⟨_,_,func140,by kernel_rfl,rfl,by kernel_rfl,by kernel_rfl⟩
theorem ok141:FnOK prog 141 ir141:=⟨_,_,func141,by kernel_rfl,rfl,by kernel_rfl,by kernel_rfl⟩
theorem ok175:FnOK prog 175 ir175:=⟨_,_,func175,by kernel_rfl,rfl,by kernel_rfl,by kernel_rfl⟩
theorem ok188:FnOK prog 188 ir188:=⟨_,_,func188,by kernel_rfl,rfl,by kernel_rfl,by kernel_rfl⟩
theorem ok189:FnOK prog 189 ir189:=⟨_,_,func189,by kernel_rfl,rfl,by kernel_rfl,by kernel_rfl⟩
theorem ok190:FnOK prog 190 ir190:=⟨_,_,func190,by kernel_rfl,rfl,by kernel_rfl,by kernel_rfl⟩
theorem ok191:FnOK prog 191 ir191:=⟨_,_,func191,by kernel_rfl,rfl,by kernel_rfl,by kernel_rfl⟩
theorem ok192:FnOK prog 192 ir192:=⟨_,_,func192,by kernel_rfl,rfl,by kernel_rfl,by kernel_rfl⟩
theorem ok193:FnOK prog 193 ir193:=⟨_,_,func193,by kernel_rfl,rfl,by kernel_rfl,by kernel_rfl⟩
theorem ok194:FnOK prog 194 ir194:=⟨_,_,func194,by kernel_rfl,rfl,by kernel_rfl,by kernel_rfl⟩
theorem ok195:FnOK prog 195 ir195:=⟨_,_,func195,by kernel_rfl,rfl,by kernel_rfl,by kernel_rfl⟩
theorem ok196:FnOK prog 196 ir196:=⟨_,_,func196,by kernel_rfl,rfl,by kernel_rfl,by kernel_rfl⟩
theorem ok197:FnOK prog 197 ir197:=⟨_,_,func197,by kernel_rfl,rfl,by kernel_rfl,by kernel_rfl⟩
theorem ok198:FnOK prog 198 ir198:=⟨_,_,func198,by kernel_rfl,rfl,by kernel_rfl,by kernel_rfl⟩
theorem ok199:FnOK prog 199 ir199:=⟨_,_,func199,by kernel_rfl,rfl,by kernel_rfl,by kernel_rfl⟩
theorem ok200:FnOK prog 200 ir200:=⟨_,_,func200,by kernel_rfl,rfl,by kernel_rfl,by kernel_rfl⟩
theorem ok201:FnOK prog 201 ir201:=⟨_,_,func201,by kernel_rfl,rfl,by kernel_rfl,by kernel_rfl⟩
theorem ok202:FnOK prog 202 ir202:=⟨_,_,func202,by kernel_rfl,rfl,by kernel_rfl,by kernel_rfl⟩
theorem ok211:FnOK prog 211 ir211:=⟨_,_,func211,by kernel_rfl,rfl,by kernel_rfl,by kernel_rfl⟩
theorem ok212:FnOK prog 212 ir212:=⟨_,_,func212,by kernel_rfl,rfl,by kernel_rfl,by kernel_rfl⟩
theorem ok214:FnOK prog 214 ir214:=⟨_,_,func214,by kernel_rfl,rfl,by kernel_rfl,by kernel_rfl⟩
theorem ok215:FnOK prog 215 ir215:=⟨_,_,func215,by kernel_rfl,rfl,by kernel_rfl,by kernel_rfl⟩
theorem ok216:FnOK prog 216 ir216:=⟨_,_,func216,by kernel_rfl,rfl,by kernel_rfl,by kernel_rfl⟩
theorem ok217:FnOK prog 217 ir217:=⟨_,_,func217,by kernel_rfl,rfl,by kernel_rfl,by kernel_rfl⟩
theorem ok218:FnOK prog 218 ir218:=⟨_,_,func218,by kernel_rfl,rfl,by kernel_rfl,by kernel_rfl⟩
theorem ok248:FnOK prog 248 ir248:=⟨_,_,func248,by kernel_rfl,rfl,by kernel_rfl,by kernel_rfl⟩
theorem ok249:FnOK prog 249 ir249:=⟨_,_,func249,by kernel_rfl,rfl,by kernel_rfl,by kernel_rfl⟩
theorem ok250:FnOK prog 250 ir250:=⟨_,_,func250,by kernel_rfl,rfl,by kernel_rfl,by kernel_rfl⟩
theorem ok251:FnOK prog 251 ir251:=⟨_,_,func251,by kernel_rfl,rfl,by kernel_rfl,by kernel_rfl⟩
theorem ok252:FnOK prog 252 ir252:=⟨_,_,func252,by kernel_rfl,rfl,by kernel_rfl,by kernel_rfl⟩
theorem ok253:FnOK prog 253 ir253:=⟨_,_,func253,by kernel_rfl,rfl,by kernel_rfl,by kernel_rfl⟩
theorem ok254:FnOK prog 254 ir254:=⟨_,_,func254,by kernel_rfl,rfl,by kernel_rfl,by kernel_rfl⟩
theorem ok255:FnOK prog 255 ir255:=⟨_,_,func255,by kernel_rfl,rfl,by kernel_rfl,by kernel_rfl⟩
theorem ok256:FnOK prog 256 ir256:=⟨_,_,func256,by kernel_rfl,rfl,by kernel_rfl,by kernel_rfl⟩
theorem ok284:FnOK prog 284 ir284:=⟨_,_,func284,by kernel_rfl,rfl,by kernel_rfl,by kernel_rfl⟩
theorem ok286:FnOK prog 286 ir286:=⟨_,_,func286,by kernel_rfl,rfl,by kernel_rfl,by kernel_rfl⟩
theorem ok291:FnOK prog 291 ir291:=⟨_,_,func291,by kernel_rfl,rfl,by kernel_rfl,by kernel_rfl⟩
theorem ok316:FnOK prog 316 ir316:=⟨_,_,func316,by kernel_rfl,rfl,by kernel_rfl,by kernel_rfl⟩
theorem ok329:FnOK prog 329 ir329:=⟨_,_,func329,by kernel_rfl,rfl,by kernel_rfl,by kernel_rfl⟩
theorem ok330:FnOK prog 330 ir330:=⟨_,_,func330,by kernel_rfl,rfl,by kernel_rfl,by kernel_rfl⟩
theorem ok331:FnOK prog 331 ir331:=⟨_,_,func331,by kernel_rfl,rfl,by kernel_rfl,by kernel_rfl⟩
theorem ok332:FnOK prog 332 ir332:=⟨_,_,func332,by kernel_rfl,rfl,by kernel_rfl,by kernel_rfl⟩
theorem ok333:FnOK prog 333 ir333:=⟨_,_,func333,by kernel_rfl,rfl,by kernel_rfl,by kernel_rfl⟩
theorem ok334:FnOK prog 334 ir334:=⟨_,_,func334,by kernel_rfl,rfl,by kernel_rfl,by kernel_rfl⟩
theorem ok335:FnOK prog 335 ir335:=⟨_,_,func335,by kernel_rfl,rfl,by kernel_rfl,by kernel_rfl⟩
theorem ok336:FnOK prog 336 ir336:=⟨_,_,func336,by kernel_rfl,rfl,by kernel_rfl,by kernel_rfl⟩
theorem ok337:FnOK prog 337 ir337:=⟨_,_,func337,by kernel_rfl,rfl,by kernel_rfl,by kernel_rfl⟩
theorem ok338:FnOK prog 338 ir338:=⟨_,_,func338,by kernel_rfl,rfl,by kernel_rfl,by kernel_rfl⟩
theorem ok345:FnOK prog 345 ir345:=⟨_,_,func345,by kernel_rfl,rfl,by kernel_rfl,by kernel_rfl⟩
theorem ok346:FnOK prog 346 ir346:=⟨_,_,func346,by kernel_rfl,rfl,by kernel_rfl,by kernel_rfl⟩
theorem ok347:FnOK prog 347 ir347:=⟨_,_,func347,by kernel_rfl,rfl,by kernel_rfl,by kernel_rfl⟩
theorem ok365:FnOK prog 365 ir365:=⟨_,_,func365,by kernel_rfl,rfl,by kernel_rfl,by kernel_rfl⟩
theorem ok366:FnOK prog 366 ir366:=⟨_,_,func366,by kernel_rfl,rfl,by kernel_rfl,by kernel_rfl⟩
theorem ok367:FnOK prog 367 ir367:=⟨_,_,func367,by kernel_rfl,rfl,by kernel_rfl,by kernel_rfl⟩
theorem ok375:FnOK prog 375 ir375:=⟨_,_,func375,by kernel_rfl,rfl,by kernel_rfl,by kernel_rfl⟩
theorem ok376:FnOK prog 376 ir376:=⟨_,_,func376,by kernel_rfl,rfl,by kernel_rfl,by kernel_rfl⟩
theorem ok385:FnOK prog 385 ir385:=⟨_,_,func385,by kernel_rfl,rfl,by kernel_rfl,by kernel_rfl⟩
theorem ok389:FnOK prog 389 ir389:=⟨_,_,func389,by kernel_rfl,rfl,by kernel_rfl,by kernel_rfl⟩
theorem ok393:FnOK prog 393 ir393:=⟨_,_,func393,by kernel_rfl,rfl,by kernel_rfl,by kernel_rfl⟩
theorem ok394:FnOK prog 394 ir394:=⟨_,_,func394,by kernel_rfl,rfl,by kernel_rfl,by kernel_rfl⟩
theorem ok395:FnOK prog 395 ir395:=⟨_,_,func395,by kernel_rfl,rfl,by kernel_rfl,by kernel_rfl⟩
theorem ok396:FnOK prog 396 ir396:=⟨_,_,func396,by kernel_rfl,rfl,by kernel_rfl,by kernel_rfl⟩
theorem ok397:FnOK prog 397 ir397:=⟨_,_,func397,by kernel_rfl,rfl,by kernel_rfl,by kernel_rfl⟩
theorem ok398:FnOK prog 398 ir398:=⟨_,_,func398,by kernel_rfl,rfl,by kernel_rfl,by kernel_rfl⟩
theorem ok399:FnOK prog 399 ir399:=⟨_,_,func399,by kernel_rfl,rfl,by kernel_rfl,by kernel_rfl⟩
theorem ok400:FnOK prog 400 ir400:=⟨_,_,func400,by kernel_rfl,rfl,by kernel_rfl,by kernel_rfl⟩
theorem ok401:FnOK prog 401 ir401:=⟨_,_,func401,by kernel_rfl,rfl,by kernel_rfl,by kernel_rfl⟩
theorem ok402:FnOK prog 402 ir402:=⟨_,_,func402,by kernel_rfl,rfl,by kernel_rfl,by kernel_rfl⟩
theorem ok403:FnOK prog 403 ir403:=⟨_,_,func403,by kernel_rfl,rfl,by kernel_rfl,by kernel_rfl⟩
theorem ok404:FnOK prog 404 ir404:=⟨_,_,func404,by kernel_rfl,rfl,by kernel_rfl,by kernel_rfl⟩
theorem ok405:FnOK prog 405 ir405:=⟨_,_,func405,by kernel_rfl,rfl,by kernel_rfl,by kernel_rfl⟩
theorem ok406:FnOK prog 406 ir406:=⟨_,_,func406,by kernel_rfl,rfl,by kernel_rfl,by kernel_rfl⟩
theorem ok407:FnOK prog 407 ir407:=⟨_,_,func407,by kernel_rfl,rfl,by kernel_rfl,by kernel_rfl⟩
theorem ok408:FnOK prog 408 ir408:=⟨_,_,func408,by kernel_rfl,rfl,by kernel_rfl,by kernel_rfl⟩
theorem ok409:FnOK prog 409 ir409:=⟨_,_,func409,by kernel_rfl,rfl,by kernel_rfl,by kernel_rfl⟩
theorem ok410:FnOK prog 410 ir410:=⟨_,_,func410,by kernel_rfl,rfl,by kernel_rfl,by kernel_rfl⟩
theorem ok411:FnOK prog 411 ir411:=⟨_,_,func411,by kernel_rfl,rfl,by kernel_rfl,by kernel_rfl⟩
theorem ok412:FnOK prog 412 ir412:=⟨_,_,func412,by kernel_rfl,rfl,by kernel_rfl,by kernel_rfl⟩
theorem ok423:FnOK prog 423 ir423:=⟨_,_,func423,by kernel_rfl,rfl,by kernel_rfl,by kernel_rfl⟩
theorem ok424:FnOK prog 424 ir424:=⟨_,_,func424,by kernel_rfl,rfl,by kernel_rfl,by kernel_rfl⟩
theorem ok425:FnOK prog 425 ir425:=⟨_,_,func425,by kernel_rfl,rfl,by kernel_rfl,by kernel_rfl⟩
theorem ok426:FnOK prog 426 ir426:=⟨_,_,func426,by kernel_rfl,rfl,by kernel_rfl,by kernel_rfl⟩
theorem ok427:FnOK prog 427 ir427:=⟨_,_,func427,by kernel_rfl,rfl,by kernel_rfl,by kernel_rfl⟩
theorem ok436:FnOK prog 436 ir436:=⟨_,_,func436,by kernel_rfl,rfl,by kernel_rfl,by kernel_rfl⟩
theorem ok437:FnOK prog 437 ir437:=⟨_,_,func437,by kernel_rfl,rfl,by kernel_rfl,by kernel_rfl⟩
theorem ok438:FnOK prog 438 ir438:=⟨_,_,func438,by kernel_rfl,rfl,by kernel_rfl,by kernel_rfl⟩
theorem ok439:FnOK prog 439 ir439:=⟨_,_,func439,by kernel_rfl,rfl,by kernel_rfl,by kernel_rfl⟩
theorem ok440:FnOK prog 440 ir440:=⟨_,_,func440,by kernel_rfl,rfl,by kernel_rfl,by kernel_rfl⟩
theorem ok441:FnOK prog 441 ir441:=⟨_,_,func441,by kernel_rfl,rfl,by kernel_rfl,by kernel_rfl⟩
theorem ok442:FnOK prog 442 ir442:=⟨_,_,func442,by kernel_rfl,rfl,by kernel_rfl,by kernel_rfl⟩
theorem ok443:FnOK prog 443 ir443:=⟨_,_,func443,by kernel_rfl,rfl,by kernel_rfl,by kernel_rfl⟩
theorem ok444:FnOK prog 444 ir444:=⟨_,_,func444,by kernel_rfl,rfl,by kernel_rfl,by kernel_rfl⟩
theorem ok445:FnOK prog 445 ir445:=⟨_,_,func445,by kernel_rfl,rfl,by kernel_rfl,by kernel_rfl⟩
theorem ok446:FnOK prog 446 ir446:=⟨_,_,func446,by kernel_rfl,rfl,by kernel_rfl,by kernel_rfl⟩
theorem ok447:FnOK prog 447 ir447:=⟨_,_,func447,by kernel_rfl,rfl,by kernel_rfl,by kernel_rfl⟩
theorem ok448:FnOK prog 448 ir448:=⟨_,_,func448,by kernel_rfl,rfl,by kernel_rfl,by kernel_rfl⟩
theorem ok449:FnOK prog 449 ir449:=⟨_,_,func449,by kernel_rfl,rfl,by kernel_rfl,by kernel_rfl⟩
theorem ok450:FnOK prog 450 ir450:=⟨_,_,func450,by kernel_rfl,rfl,by kernel_rfl,by kernel_rfl⟩
theorem ok451:FnOK prog 451 ir451:=⟨_,_,func451,by kernel_rfl,rfl,by kernel_rfl,by kernel_rfl⟩
theorem ok452:FnOK prog 452 ir452:=⟨_,_,func452,by kernel_rfl,rfl,by kernel_rfl,by kernel_rfl⟩
theorem ok459:FnOK prog 459 ir459:=⟨_,_,func459,by kernel_rfl,rfl,by kernel_rfl,by kernel_rfl⟩
theorem ok473:FnOK prog 473 ir473:=⟨_,_,func473,by kernel_rfl,rfl,by kernel_rfl,by kernel_rfl⟩
theorem ok474:FnOK prog 474 ir474:=⟨_,_,func474,by kernel_rfl,rfl,by kernel_rfl,by kernel_rfl⟩
theorem ok475:FnOK prog 475 ir475:=⟨_,_,func475,by kernel_rfl,rfl,by kernel_rfl,by kernel_rfl⟩
theorem ok476:FnOK prog 476 ir476:=⟨_,_,func476,by kernel_rfl,rfl,by kernel_rfl,by kernel_rfl⟩
theorem ok477:FnOK prog 477 ir477:=⟨_,_,func477,by kernel_rfl,rfl,by kernel_rfl,by kernel_rfl⟩
theorem ok478:FnOK prog 478 ir478:=⟨_,_,func478,by kernel_rfl,rfl,by kernel_rfl,by kernel_rfl⟩
theorem ok479:FnOK prog 479 ir479:=⟨_,_,func479,by kernel_rfl,rfl,by kernel_rfl,by kernel_rfl⟩
theorem ok480:FnOK prog 480 ir480:=⟨_,_,func480,by kernel_rfl,rfl,by kernel_rfl,by kernel_rfl⟩
theorem ok481:FnOK prog 481 ir481:=⟨_,_,func481,by kernel_rfl,rfl,by kernel_rfl,by kernel_rfl⟩
theorem ok482:FnOK prog 482 ir482:=⟨_,_,func482,by kernel_rfl,rfl,by kernel_rfl,by kernel_rfl⟩
theorem ok483:FnOK prog 483 ir483:=⟨_,_,func483,by kernel_rfl,rfl,by kernel_rfl,by kernel_rfl⟩
theorem ok484:FnOK prog 484 ir484:=⟨_,_,func484,by kernel_rfl,rfl,by kernel_rfl,by kernel_rfl⟩
theorem ok485:FnOK prog 485 ir485:=⟨_,_,func485,by kernel_rfl,rfl,by kernel_rfl,by kernel_rfl⟩
theorem ok486:FnOK prog 486 ir486:=⟨_,_,func486,by kernel_rfl,rfl,by kernel_rfl,by kernel_rfl⟩
theorem ok487:FnOK prog 487 ir487:=⟨_,_,func487,by kernel_rfl,rfl,by kernel_rfl,by kernel_rfl⟩
theorem ok488:FnOK prog 488 ir488:=⟨_,_,func488,by kernel_rfl,rfl,by kernel_rfl,by kernel_rfl⟩
theorem ok489:FnOK prog 489 ir489:=⟨_,_,func489,by kernel_rfl,rfl,by kernel_rfl,by kernel_rfl⟩
theorem ok490:FnOK prog 490 ir490:=⟨_,_,func490,by kernel_rfl,rfl,by kernel_rfl,by kernel_rfl⟩
theorem ok491:FnOK prog 491 ir491:=⟨_,_,func491,by kernel_rfl,rfl,by kernel_rfl,by kernel_rfl⟩
theorem ok509:FnOK prog 509 ir509:=⟨_,_,func509,by kernel_rfl,rfl,by kernel_rfl,by kernel_rfl⟩
theorem ok510:FnOK prog 510 ir510:=⟨_,_,func510,by kernel_rfl,rfl,by kernel_rfl,by kernel_rfl⟩
theorem ok: ∀p∈tab,FnOK prog p.1 p.2:=by
 unfold tab
 exact all_cons ok5 (all_cons ok15 (all_cons ok17 (all_cons ok29 (all_cons ok30 (all_cons ok31 (all_cons ok32 (all_cons ok33 (all_cons ok38 (all_cons ok40 (all_cons ok71 (all_cons ok72 (all_cons ok73 (all_cons ok74 (all_cons ok75 (all_cons ok76 (all_cons ok77 (all_cons ok78 (all_cons ok81 (all_cons ok82 (all_cons ok86 (all_cons ok87 (all_cons ok100 (all_cons ok116 (all_cons ok117 (all_cons ok118 (all_cons ok119 (all_cons ok120 (all_cons ok121 (all_cons ok122 (all_cons ok123 (all_cons ok132 (all_cons ok133 (all_cons ok140 (all_cons ok141 (all_cons ok175 (all_cons ok188 (all_cons ok189 (all_cons ok190 (all_cons ok191 (all_cons ok192 (all_cons ok193 (all_cons ok194 (all_cons ok195 (all_cons ok196 (all_cons ok197 (all_cons ok198 (all_cons ok199 (all_cons ok200 (all_cons ok201 (all_cons ok202 (all_cons ok211 (all_cons ok212 (all_cons ok214 (all_cons ok215 (all_cons ok216 (all_cons ok217 (all_cons ok218 (all_cons ok248 (all_cons ok249 (all_cons ok250 (all_cons ok251 (all_cons ok252 (all_cons ok253 (all_cons ok254 (all_cons ok255 (all_cons ok256 (all_cons ok284 (all_cons ok286 (all_cons ok291 (all_cons ok316 (all_cons ok329 (all_cons ok330 (all_cons ok331 (all_cons ok332 (all_cons ok333 (all_cons ok334 (all_cons ok335 (all_cons ok336 (all_cons ok337 (all_cons ok338 (all_cons ok345 (all_cons ok346 (all_cons ok347 (all_cons ok365 (all_cons ok366 (all_cons ok367 (all_cons ok375 (all_cons ok376 (all_cons ok385 (all_cons ok389 (all_cons ok393 (all_cons ok394 (all_cons ok395 (all_cons ok396 (all_cons ok397 (all_cons ok398 (all_cons ok399 (all_cons ok400 (all_cons ok401 (all_cons ok402 (all_cons ok403 (all_cons ok404 (all_cons ok405 (all_cons ok406 (all_cons ok407 (all_cons ok408 (all_cons ok409 (all_cons ok410 (all_cons ok411 (all_cons ok412 (all_cons ok423 (all_cons ok424 (all_cons ok425 (all_cons ok426 (all_cons ok427 (all_cons ok436 (all_cons ok437 (all_cons ok438 (all_cons ok439 (all_cons ok440 (all_cons ok441 (all_cons ok442 (all_cons ok443 (all_cons ok444 (all_cons ok445 (all_cons ok446 (all_cons ok447 (all_cons ok448 (all_cons ok449 (all_cons ok450 (all_cons ok451 (all_cons ok452 (all_cons ok459 (all_cons ok473 (all_cons ok474 (all_cons ok475 (all_cons ok476 (all_cons ok477 (all_cons ok478 (all_cons ok479 (all_cons ok480 (all_cons ok481 (all_cons ok482 (all_cons ok483 (all_cons ok484 (all_cons ok485 (all_cons ok486 (all_cons ok487 (all_cons ok488 (all_cons ok489 (all_cons ok490 (all_cons ok491 (all_cons ok509 (all_cons ok510 (q0us)))))))))))))))))))))))))))))))))))))))))))))))))))))))))))))))))))))))))))))))))))))))))))))))))))))))))))))))))))))))))))))))))))))))))))))))))))))))))))
theorem envOK0:EnvOK prog EE0 where
 mix:=by kernel_rfl
 still:=fun _ _ _ _=>trivial
 fns f fn h:=q0ep ok h
 prims f g h:=by
  have h':(if f=428 then some sortP else none)=some g:=h
  split at h'
  ·rename_i e;subst e;cases h'
   exact fun vs H r hr G own w args hK ha h0 hw _=>q0ok Go.Proofs.Tryz.lays189 (fun xs w1=>q06u func428 rfl rfl xs w1) hr ha h0 hw
  ·cases h'
theorem awk: ∀f∈sayK,clD EE0 (.p (.fn f)) [] []=some (.p (.bool true),none):=by
 intro f hf
 simp only [sayK,List.mem_cons,List.not_mem_nil,or_false] at hf
 subst hf
 ·exact awk29
theorem envOK:EnvOK prog EE where
 mix:=by kernel_rfl
 still:=fun _ _ _ _=>trivial
 fns f fn h:=q0ep ok h
 prims f g h:=by
  have h0:(if f∈sayK then some sayP else EE0.prims f)=some g:=h
  split at h0
  ·rename_i e;cases h0
   exact fun vs H r hr G own w args _ ha _ hw _=>q0r5 envOK0 (awk f e) hr ha hw
  ·exact envOK0.prims f g h0
end Go.EnvOf
