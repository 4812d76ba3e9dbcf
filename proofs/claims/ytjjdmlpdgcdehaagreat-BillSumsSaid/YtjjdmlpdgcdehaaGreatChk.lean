/- The functions of the table are the program's. -/
import Derived.Test.YtjjdmlpdgcdehaaGreatProg
import Derived.Test.YtjjdmlpdgcdehaaGreatEngAll7
import Derived.Test.YtjjdmlpdgcdehaaGreatEngAll8
import Derived.Test.YtjjdmlpdgcdehaaGreatAwk
import Derived.Test.YtjjdmlpdgcdehaaGreatEngAll9
import Derived.Test.YtjjdmlpdgcdehaaGreatSortLay
namespace Go.EnvOf
open Go Go.Eng Go.Proofs.Tryz
set_option maxRecDepth 100000
theorem ok10:FnOK prog 10 ir10:=⟨_,_,func10,by kernel_rfl,rfl,by kernel_rfl,by kernel_rfl⟩
theorem ok14:FnOK prog 14 ir14:=⟨_,_,func14,by kernel_rfl,rfl,by kernel_rfl,by kernel_rfl⟩
theorem ok20:FnOK prog 20 ir20:=⟨_,_,func20,by kernel_rfl,rfl,by kernel_rfl,by kernel_rfl⟩
theorem ok33:FnOK prog 33 ir33:=⟨_,_,func33,by kernel_rfl,rfl,by kernel_rfl,by kernel_rfl⟩
theorem ok40:FnOK prog 40 ir40:=⟨_,_,func40,by kernel_rfl,rfl,by kernel_rfl,by kernel_rfl⟩
theorem ok41:FnOK prog 41 ir41:=⟨_,_,func41,by kernel_rfl,rfl,by kernel_rfl,by kernel_rfl⟩
theorem ok42:FnOK prog 42 ir42:=⟨_,_,func42,by kernel_rfl,rfl,by kernel_rfl,by kernel_rfl⟩
theorem ok43:FnOK prog 43 ir43:=⟨_,_,func43,by kernel_rfl,rfl,by kernel_rfl,by kernel_rfl⟩
theorem ok45:FnOK prog 45 ir45:=⟨_,_,func45,by kernel_rfl,rfl,by kernel_rfl,by kernel_rfl⟩
theorem ok46:FnOK prog 46 ir46:=⟨_,_,func46,by kernel_rfl,rfl,by kernel_rfl,by kernel_rfl⟩
theorem ok47:FnOK prog 47 ir47:=⟨_,_,func47,by kernel_rfl,rfl,by kernel_rfl,by kernel_rfl⟩
theorem ok48:FnOK prog 48 ir48:=⟨_,_,func48,by kernel_rfl,rfl,by kernel_rfl,by kernel_rfl⟩
theorem ok49:FnOK prog 49 ir49:=⟨_,_,func49,by kernel_rfl,rfl,by kernel_rfl,by kernel_rfl⟩
theorem ok50:FnOK prog 50 ir50:=⟨_,_,func50,by kernel_rfl,rfl,by kernel_rfl,by kernel_rfl⟩
theorem ok51:FnOK prog 51 ir51:=⟨_,_,func51,by kernel_rfl,rfl,by kernel_rfl,by kernel_rfl⟩
theorem ok52:FnOK prog 52 ir52:=⟨_,_,func52,by kernel_rfl,rfl,by kernel_rfl,by kernel_rfl⟩
theorem ok53:FnOK prog 53 ir53:=⟨_,_,func53,by kernel_rfl,rfl,by kernel_rfl,by kernel_rfl⟩
theorem ok54:FnOK prog 54 ir54:=⟨_,_,func54,by kernel_rfl,rfl,by kernel_rfl,by kernel_rfl⟩
theorem ok55:FnOK prog 55 ir55:=⟨_,_,func55,by kernel_rfl,rfl,by kernel_rfl,by kernel_rfl⟩
theorem ok56:FnOK prog 56 ir56:=⟨_,_,func56,by kernel_rfl,rfl,by kernel_rfl,by kernel_rfl⟩
theorem ok57:FnOK prog 57 ir57:=⟨_,_,func57,by kernel_rfl,rfl,by kernel_rfl,by kernel_rfl⟩
theorem ok58:FnOK prog 58 ir58:=⟨_,_,func58,by kernel_rfl,rfl,by kernel_rfl,by kernel_rfl⟩
theorem ok59:FnOK prog 59 ir59:=⟨_,_,func59,by kernel_rfl,rfl,by kernel_rfl,by kernel_rfl⟩
theorem ok60:FnOK prog 60 ir60:=⟨_,_,func60,by kernel_rfl,rfl,by kernel_rfl,by kernel_rfl⟩
theorem ok61:FnOK prog 61 ir61:=⟨_,_,func61,by kernel_rfl,rfl,by kernel_rfl,by kernel_rfl⟩
theorem ok62:FnOK prog 62 ir62:=⟨_,_,func62,by kernel_rfl,rfl,by kernel_rfl,by kernel_rfl⟩
theorem ok63:FnOK prog 63 ir63:=⟨_,_,func63,by kernel_rfl,rfl,by kernel_rfl,by kernel_rfl⟩
theorem ok64:FnOK prog 64 ir64:=⟨_,_,func64,by kernel_rfl,rfl,by kernel_rfl,by kernel_rfl⟩
theorem ok67:FnOK prog 67 ir67:=⟨_,_,func67,by kernel_rfl,rfl,by kernel_rfl,by kernel_rfl⟩
theorem ok75:FnOK prog 75 ir75:=⟨_,_,func75,by kernel_rfl,rfl,by kernel_rfl,by kernel_rfl⟩
theorem ok81:FnOK prog 81 ir81:=⟨_,_,func81,by kernel_rfl,rfl,by kernel_rfl,by kernel_rfl⟩
theorem ok82:FnOK prog 82 ir82:=⟨_,_,func82,by kernel_rfl,rfl,by kernel_rfl,by kernel_rfl⟩
theorem ok83:FnOK prog 83 ir83:=⟨_,_,func83,by kernel_rfl,rfl,by kernel_rfl,by kernel_rfl⟩
theorem ok84:FnOK prog 84 ir84:=⟨_,_,func84,by kernel_rfl,rfl,by kernel_rfl,by kernel_rfl⟩
theorem ok88:FnOK prog 88 ir88:=⟨_,_,func88,by kernel_rfl,rfl,by kernel_rfl,by kernel_rfl⟩
theorem ok89:FnOK prog 89 ir89:=⟨_,_,func89,by kernel_rfl,rfl,by kernel_rfl,by kernel_rfl⟩
theorem ok90:FnOK prog 90 ir90:=⟨_,_,func90,by kernel_rfl,rfl,by kernel_rfl,by kernel_rfl⟩
theorem ok91:FnOK prog 91 ir91:=⟨_,_,func91,by kernel_rfl,rfl,by kernel_rfl,by kernel_rfl⟩
theorem ok100:FnOK prog 100 ir100:=⟨_,_,func100,by kernel_rfl,rfl,by kernel_rfl,by kernel_rfl⟩
theorem ok101:FnOK prog 101 ir101:=⟨_,_,func101,by kernel_rfl,rfl,by kernel_rfl,by kernel_rfl⟩
theorem ok102:FnOK prog 102 ir102:=⟨_,_,func102,by kernel_rfl,rfl,by kernel_rfl,by kernel_rfl⟩
theorem ok103:FnOK prog 103 ir103:=⟨_,_,func103,by kernel_rfl,rfl,by kernel_rfl,by kernel_rfl⟩
theorem ok104:FnOK prog 104 ir104:=⟨_,_,func104,by kernel_rfl,rfl,by kernel_rfl,by kernel_rfl⟩
theorem ok105:FnOK prog 105 ir105:=⟨_,_,func105,by kernel_rfl,rfl,by kernel_rfl,by kernel_rfl⟩
theorem ok110:FnOK prog 110 ir110:=⟨_,_,func110,by kernel_rfl,rfl,by kernel_rfl,by kernel_rfl⟩
theorem ok111:FnOK prog 111 ir111:=⟨_,_,func111,by kernel_rfl,rfl,by kernel_rfl,by kernel_rfl⟩
theorem ok112:FnOK prog 112 ir112:=⟨_,_,func112,by kernel_rfl,rfl,by kernel_rfl,by kernel_rfl⟩
theorem ok113:FnOK prog 113 ir113:=⟨_,_,func113,by kernel_rfl,rfl,by kernel_rfl,by kernel_rfl⟩
theorem ok114:FnOK prog 114 ir114:=⟨_,_,func114,by kernel_rfl,rfl,by kernel_rfl,by kernel_rfl⟩
theorem ok115:FnOK prog 115 ir115:=⟨_,_,func115,by kernel_rfl,rfl,by kernel_rfl,by kernel_rfl⟩
theorem ok116:FnOK prog 116 ir116:=⟨_,_,func116,by kernel_rfl,rfl,by kernel_rfl,by kernel_rfl⟩
theorem ok117:FnOK prog 117 ir117:=⟨_,_,func117,by kernel_rfl,rfl,by kernel_rfl,by kernel_rfl⟩
theorem ok118:FnOK prog 118 ir118:=⟨_,_,func118,by kernel_rfl,rfl,by kernel_rfl,by kernel_rfl⟩
theorem ok119:FnOK prog 119 ir119:=⟨_,_,func119,by kernel_rfl,rfl,by kernel_rfl,by kernel_rfl⟩
theorem ok120:FnOK prog 120 ir120:=⟨_,_,func120,by kernel_rfl,rfl,by kernel_rfl,by kernel_rfl⟩
theorem ok121:FnOK prog 121 ir121:=⟨_,_,func121,by kernel_rfl,rfl,by kernel_rfl,by kernel_rfl⟩
theorem ok122:FnOK prog 122 ir122:=⟨_,_,func122,by kernel_rfl,rfl,by kernel_rfl,by kernel_rfl⟩
theorem ok123:FnOK prog 123 ir123:=⟨_,_,func123,by kernel_rfl,rfl,by kernel_rfl,by kernel_rfl⟩
theorem ok124:FnOK prog 124 ir124:=⟨_,_,func124,by kernel_rfl,rfl,by kernel_rfl,by kernel_rfl⟩
theorem ok125:FnOK prog 125 ir125:=⟨_,_,func125,by kernel_rfl,rfl,by kernel_rfl,by kernel_rfl⟩
theorem ok126:FnOK prog 126 ir126:=⟨_,_,func126,by kernel_rfl,rfl,by kernel_rfl,by kernel_rfl⟩
theorem ok127:FnOK prog 127 ir127:=⟨_,_,func127,by kernel_rfl,rfl,by kernel_rfl,by kernel_rfl⟩
theorem ok128:FnOK prog 128 ir128:=⟨_,_,func128,by kernel_rfl,rfl,by kernel_rfl,by kernel_rfl⟩
theorem ok129:FnOK prog 129 ir129:=⟨_,_,func129,by kernel_rfl,rfl,by kernel_rfl,by kernel_rfl⟩
theorem ok130:FnOK prog 130 ir130:=⟨_,_,func130,by kernel_rfl,rfl,by kernel_rfl,by kernel_rfl⟩
theorem ok131:FnOK prog 131 ir131:=⟨_,_,func131,by kernel_rfl,rfl,by kernel_rfl,by kernel_rfl⟩
theorem ok132:FnOK prog 132 ir132:=⟨_,_,func132,by kernel_rfl,rfl,by kernel_rfl,by kernel_rfl⟩
theorem ok133:FnOK prog 133 ir133:=⟨_,_,func133,by kernel_rfl,rfl,by kernel_rfl,by kernel_rfl⟩
theorem ok134:FnOK prog 134 ir134:=⟨_,_,func134,by kernel_rfl,rfl,by kernel_rfl,by kernel_rfl⟩
theorem ok135:FnOK prog 135 ir135:=⟨_,_,func135,by kernel_rfl,rfl,by kernel_rfl,by kernel_rfl⟩
theorem ok136:FnOK prog 136 ir136:=⟨_,_,func136,by kernel_rfl,rfl,by kernel_rfl,by kernel_rfl⟩
theorem ok137:FnOK prog 137 ir137:=⟨_,_,func137,by kernel_rfl,rfl,by kernel_rfl,by kernel_rfl⟩
theorem ok138:FnOK prog 138 ir138:=⟨_,_,func138,by kernel_rfl,rfl,by kernel_rfl,by kernel_rfl⟩
theorem ok161:FnOK prog 161 ir161:=⟨_,_,func161,by kernel_rfl,rfl,by kernel_rfl,by kernel_rfl⟩
theorem ok162:FnOK prog 162 ir162:=⟨_,_,func162,by kernel_rfl,rfl,by kernel_rfl,by kernel_rfl⟩
theorem ok163:FnOK prog 163 ir163:=⟨_,_,func163,by kernel_rfl,rfl,by kernel_rfl,by kernel_rfl⟩
theorem ok164:FnOK prog 164 ir164:=⟨_,_,func164,by kernel_rfl,rfl,by kernel_rfl,by kernel_rfl⟩
theorem ok165:FnOK prog 165 ir165:=⟨_,_,func165,by kernel_rfl,rfl,by kernel_rfl,by kernel_rfl⟩
theorem ok166:FnOK prog 166 ir166:=⟨_,_,func166,by kernel_rfl,rfl,by kernel_rfl,by kernel_rfl⟩
theorem ok167:FnOK prog 167 ir167:=⟨_,_,func167,by kernel_rfl,rfl,by kernel_rfl,by kernel_rfl⟩
theorem ok168:FnOK prog 168 ir168:=⟨_,_,func168,by kernel_rfl,rfl,by kernel_rfl,by kernel_rfl⟩
theorem ok169:FnOK prog 169 ir169:=⟨_,_,func169,by kernel_rfl,rfl,by kernel_rfl,by kernel_rfl⟩
theorem ok178:FnOK prog 178 ir178:=⟨_,_,func178,by kernel_rfl,rfl,by kernel_rfl,by kernel_rfl⟩
theorem ok179:FnOK prog 179 ir179:=⟨_,_,func179,by kernel_rfl,rfl,by kernel_rfl,by kernel_rfl⟩
theorem ok180:FnOK prog 180 ir180:=⟨_,_,func180,by kernel_rfl,rfl,by kernel_rfl,by kernel_rfl⟩
theorem ok181:FnOK prog 181 ir181:=⟨_,_,func181,by kernel_rfl,rfl,by kernel_rfl,by kernel_rfl⟩
theorem ok182:FnOK prog 182 ir182:=⟨_,_,func182,by kernel_rfl,rfl,by kernel_rfl,by kernel_rfl⟩
theorem ok183:FnOK prog 183 ir183:=⟨_,_,func183,by kernel_rfl,rfl,by kernel_rfl,by kernel_rfl⟩
theorem ok184:FnOK prog 184 ir184:=⟨_,_,func184,by kernel_rfl,rfl,by kernel_rfl,by kernel_rfl⟩
theorem ok185:FnOK prog 185 ir185:=⟨_,_,func185,by kernel_rfl,rfl,by kernel_rfl,by kernel_rfl⟩
theorem ok186:FnOK prog 186 ir186:=⟨_,_,func186,by kernel_rfl,rfl,by kernel_rfl,by kernel_rfl⟩
theorem ok187:FnOK prog 187 ir187:=⟨_,_,func187,by kernel_rfl,rfl,by kernel_rfl,by kernel_rfl⟩
theorem ok188:FnOK prog 188 ir188:=⟨_,_,func188,by kernel_rfl,rfl,by kernel_rfl,by kernel_rfl⟩
theorem ok189:FnOK prog 189 ir189:=⟨_,_,func189,by kernel_rfl,rfl,by kernel_rfl,by kernel_rfl⟩
theorem ok190:FnOK prog 190 ir190:=⟨_,_,func190,by kernel_rfl,rfl,by kernel_rfl,by kernel_rfl⟩
theorem ok191:FnOK prog 191 ir191:=⟨_,_,func191,by kernel_rfl,rfl,by kernel_rfl,by kernel_rfl⟩
theorem ok192:FnOK prog 192 ir192:=⟨_,_,func192,by kernel_rfl,rfl,by kernel_rfl,by kernel_rfl⟩
theorem ok193:FnOK prog 193 ir193:=⟨_,_,func193,by kernel_rfl,rfl,by kernel_rfl,by kernel_rfl⟩
theorem ok194:FnOK prog 194 ir194:=⟨_,_,func194,by kernel_rfl,rfl,by kernel_rfl,by kernel_rfl⟩
theorem ok195:FnOK prog 195 ir195:=⟨_,_,func195,by kernel_rfl,rfl,by kernel_rfl,by kernel_rfl⟩
theorem ok196:FnOK prog 196 ir196:=⟨_,_,func196,by kernel_rfl,rfl,by kernel_rfl,by kernel_rfl⟩
theorem ok197:FnOK prog 197 ir197:=⟨_,_,func197,by kernel_rfl,rfl,by kernel_rfl,by kernel_rfl⟩
theorem ok198:FnOK prog 198 ir198:=⟨_,_,func198,by kernel_rfl,rfl,by kernel_rfl,by kernel_rfl⟩
theorem ok199:FnOK prog 199 ir199:=⟨_,_,func199,by kernel_rfl,rfl,by kernel_rfl,by kernel_rfl⟩
theorem ok209:FnOK prog 209 ir209:=⟨_,_,func209,by kernel_rfl,rfl,by kernel_rfl,by kernel_rfl⟩
theorem ok210:FnOK prog 210 ir210:=⟨_,_,func210,by kernel_rfl,rfl,by kernel_rfl,by kernel_rfl⟩
theorem ok211:FnOK prog 211 ir211:=⟨_,_,func211,by kernel_rfl,rfl,by kernel_rfl,by kernel_rfl⟩
theorem ok212:FnOK prog 212 ir212:=⟨_,_,func212,by kernel_rfl,rfl,by kernel_rfl,by kernel_rfl⟩
theorem ok213:FnOK prog 213 ir213:=⟨_,_,func213,by kernel_rfl,rfl,by kernel_rfl,by kernel_rfl⟩
theorem ok214:FnOK prog 214 ir214:=⟨_,_,func214,by kernel_rfl,rfl,by kernel_rfl,by kernel_rfl⟩
theorem ok215:FnOK prog 215 ir215:=⟨_,_,func215,by kernel_rfl,rfl,by kernel_rfl,by kernel_rfl⟩
theorem ok216:FnOK prog 216 ir216:=⟨_,_,func216,by kernel_rfl,rfl,by kernel_rfl,by kernel_rfl⟩
theorem ok217:FnOK prog 217 ir217:=⟨_,_,func217,by kernel_rfl,rfl,by kernel_rfl,by kernel_rfl⟩
theorem ok218:FnOK prog 218 ir218:=⟨_,_,func218,by kernel_rfl,rfl,by kernel_rfl,by kernel_rfl⟩
theorem ok219:FnOK prog 219 ir219:=⟨_,_,func219,by kernel_rfl,rfl,by kernel_rfl,by kernel_rfl⟩
theorem ok220:FnOK prog 220 ir220:=⟨_,_,func220,by kernel_rfl,rfl,by kernel_rfl,by kernel_rfl⟩
theorem ok221:FnOK prog 221 ir221:=⟨_,_,func221,by kernel_rfl,rfl,by kernel_rfl,by kernel_rfl⟩
theorem ok222:FnOK prog 222 ir222:=⟨_,_,func222,by kernel_rfl,rfl,by kernel_rfl,by kernel_rfl⟩
theorem ok223:FnOK prog 223 ir223:=⟨_,_,func223,by kernel_rfl,rfl,by kernel_rfl,by kernel_rfl⟩
theorem ok224:FnOK prog 224 ir224:=⟨_,_,func224,by kernel_rfl,rfl,by kernel_rfl,by kernel_rfl⟩
theorem ok225:FnOK prog 225 ir225:=⟨_,_,func225,by kernel_rfl,rfl,by kernel_rfl,by kernel_rfl⟩
theorem ok228:FnOK prog 228 ir228:=⟨_,_,func228,by kernel_rfl,rfl,by kernel_rfl,by kernel_rfl⟩
theorem ok229:FnOK prog 229 ir229:=⟨_,_,func229,by kernel_rfl,rfl,by kernel_rfl,by kernel_rfl⟩
theorem ok230:FnOK prog 230 ir230:=⟨_,_,func230,by kernel_rfl,rfl,by kernel_rfl,by kernel_rfl⟩
theorem ok231:FnOK prog 231 ir231:=⟨_,_,func231,by kernel_rfl,rfl,by kernel_rfl,by kernel_rfl⟩
theorem ok232:FnOK prog 232 ir232:=⟨_,_,func232,by kernel_rfl,rfl,by kernel_rfl,by kernel_rfl⟩
theorem ok233:FnOK prog 233 ir233:=⟨_,_,func233,by kernel_rfl,rfl,by kernel_rfl,by kernel_rfl⟩
theorem ok234:FnOK prog 234 ir234:=⟨_,_,func234,by kernel_rfl,rfl,by kernel_rfl,by kernel_rfl⟩
theorem ok235:FnOK prog 235 ir235:=⟨_,_,func235,by kernel_rfl,rfl,by kernel_rfl,by kernel_rfl⟩
theorem ok236:FnOK prog 236 ir236:=⟨_,_,func236,by kernel_rfl,rfl,by kernel_rfl,by kernel_rfl⟩
theorem ok237:FnOK prog 237 ir237:=⟨_,_,func237,by kernel_rfl,rfl,by kernel_rfl,by kernel_rfl⟩
theorem ok238:FnOK prog 238 ir238:=⟨_,_,func238,by kernel_rfl,rfl,by kernel_rfl,by kernel_rfl⟩
theorem ok239:FnOK prog 239 ir239:=⟨_,_,func239,by kernel_rfl,rfl,by kernel_rfl,by kernel_rfl⟩
theorem ok240:FnOK prog 240 ir240:=⟨_,_,func240,by kernel_rfl,rfl,by kernel_rfl,by kernel_rfl⟩
theorem ok241:FnOK prog 241 ir241:=⟨_,_,func241,by kernel_rfl,rfl,by kernel_rfl,by kernel_rfl⟩
theorem ok256:FnOK prog 256 ir256:=⟨_,_,func256,by kernel_rfl,rfl,by kernel_rfl,by kernel_rfl⟩
theorem ok257:FnOK prog 257 ir257:=⟨_,_,func257,by kernel_rfl,rfl,by kernel_rfl,by kernel_rfl⟩
theorem ok258:FnOK prog 258 ir258:=⟨_,_,func258,by kernel_rfl,rfl,by kernel_rfl,by kernel_rfl⟩
theorem ok259:FnOK prog 259 ir259:=⟨_,_,func259,by kernel_rfl,rfl,by kernel_rfl,by kernel_rfl⟩
theorem ok260:FnOK prog 260 ir260:=⟨_,_,func260,by kernel_rfl,rfl,by kernel_rfl,by kernel_rfl⟩
theorem ok261:FnOK prog 261 ir261:=⟨_,_,func261,by kernel_rfl,rfl,by kernel_rfl,by kernel_rfl⟩
theorem ok262:FnOK prog 262 ir262:=⟨_,_,func262,by kernel_rfl,rfl,by kernel_rfl,by kernel_rfl⟩
theorem ok263:FnOK prog 263 ir263:=⟨_,_,func263,by kernel_rfl,rfl,by kernel_rfl,by kernel_rfl⟩
theorem ok264:FnOK prog 264 ir264:=⟨_,_,func264,by kernel_rfl,rfl,by kernel_rfl,by kernel_rfl⟩
theorem ok265:FnOK prog 265 ir265:=⟨_,_,func265,by kernel_rfl,rfl,by kernel_rfl,by kernel_rfl⟩
theorem ok266:FnOK prog 266 ir266:=⟨_,_,func266,by kernel_rfl,rfl,by kernel_rfl,by kernel_rfl⟩
theorem ok270:FnOK prog 270 ir270:=⟨_,_,func270,by kernel_rfl,rfl,by kernel_rfl,by kernel_rfl⟩
theorem ok271:FnOK prog 271 ir271:=⟨_,_,func271,by kernel_rfl,rfl,by kernel_rfl,by kernel_rfl⟩
theorem ok272:FnOK prog 272 ir272:=⟨_,_,func272,by kernel_rfl,rfl,by kernel_rfl,by kernel_rfl⟩
theorem ok273:FnOK prog 273 ir273:=⟨_,_,func273,by kernel_rfl,rfl,by kernel_rfl,by kernel_rfl⟩
theorem ok274:FnOK prog 274 ir274:=⟨_,_,func274,by kernel_rfl,rfl,by kernel_rfl,by kernel_rfl⟩
theorem ok275:FnOK prog 275 ir275:=⟨_,_,func275,by kernel_rfl,rfl,by kernel_rfl,by kernel_rfl⟩
theorem ok276:FnOK prog 276 ir276:=⟨_,_,func276,by kernel_rfl,rfl,by kernel_rfl,by kernel_rfl⟩
theorem ok277:FnOK prog 277 ir277:=⟨_,_,func277,by kernel_rfl,rfl,by kernel_rfl,by kernel_rfl⟩
theorem ok278:FnOK prog 278 ir278:=⟨_,_,func278,by kernel_rfl,rfl,by kernel_rfl,by kernel_rfl⟩
theorem ok283:FnOK prog 283 ir283:=⟨_,_,func283,by kernel_rfl,rfl,by kernel_rfl,by kernel_rfl⟩
theorem ok284:FnOK prog 284 ir284:=⟨_,_,func284,by kernel_rfl,rfl,by kernel_rfl,by kernel_rfl⟩
theorem ok285:FnOK prog 285 ir285:=⟨_,_,func285,by kernel_rfl,rfl,by kernel_rfl,by kernel_rfl⟩
theorem ok286:FnOK prog 286 ir286:=⟨_,_,func286,by kernel_rfl,rfl,by kernel_rfl,by kernel_rfl⟩
theorem ok287:FnOK prog 287 ir287:=⟨_,_,func287,by kernel_rfl,rfl,by kernel_rfl,by kernel_rfl⟩
theorem ok288:FnOK prog 288 ir288:=⟨_,_,func288,by kernel_rfl,rfl,by kernel_rfl,by kernel_rfl⟩
theorem ok289:FnOK prog 289 ir289:=⟨_,_,func289,by kernel_rfl,rfl,by kernel_rfl,by kernel_rfl⟩
theorem ok290:FnOK prog 290 ir290:=⟨_,_,func290,by kernel_rfl,rfl,by kernel_rfl,by kernel_rfl⟩
theorem ok291:FnOK prog 291 ir291:=⟨_,_,func291,by kernel_rfl,rfl,by kernel_rfl,by kernel_rfl⟩
theorem ok292:FnOK prog 292 ir292:=⟨_,_,func292,by kernel_rfl,rfl,by kernel_rfl,by kernel_rfl⟩
theorem ok293:FnOK prog 293 ir293:=⟨_,_,func293,by kernel_rfl,rfl,by kernel_rfl,by kernel_rfl⟩
theorem ok294:FnOK prog 294 ir294:=⟨_,_,func294,by kernel_rfl,rfl,by kernel_rfl,by kernel_rfl⟩
theorem ok295:FnOK prog 295 ir295:=⟨_,_,func295,by kernel_rfl,rfl,by kernel_rfl,by kernel_rfl⟩
theorem ok296:FnOK prog 296 ir296:=⟨_,_,func296,by kernel_rfl,rfl,by kernel_rfl,by kernel_rfl⟩
theorem ok297:FnOK prog 297 ir297:=⟨_,_,func297,by kernel_rfl,rfl,by kernel_rfl,by kernel_rfl⟩
theorem ok298:FnOK prog 298 ir298:=⟨_,_,func298,by kernel_rfl,rfl,by kernel_rfl,by kernel_rfl⟩
theorem ok299:FnOK prog 299 ir299:=⟨_,_,func299,by kernel_rfl,rfl,by kernel_rfl,by kernel_rfl⟩
theorem ok300:FnOK prog 300 ir300:=⟨_,_,func300,by kernel_rfl,rfl,by kernel_rfl,by kernel_rfl⟩
theorem ok301:FnOK prog 301 ir301:=⟨_,_,func301,by kernel_rfl,rfl,by kernel_rfl,by kernel_rfl⟩
theorem ok302:FnOK prog 302 ir302:=⟨_,_,func302,by kernel_rfl,rfl,by kernel_rfl,by kernel_rfl⟩
theorem ok303:FnOK prog 303 ir303:=⟨_,_,func303,by kernel_rfl,rfl,by kernel_rfl,by kernel_rfl⟩
theorem ok304:FnOK prog 304 ir304:=⟨_,_,func304,by kernel_rfl,rfl,by kernel_rfl,by kernel_rfl⟩
theorem ok305:FnOK prog 305 ir305:=⟨_,_,func305,by kernel_rfl,rfl,by kernel_rfl,by kernel_rfl⟩
theorem ok306:FnOK prog 306 ir306:=⟨_,_,func306,by kernel_rfl,rfl,by kernel_rfl,by kernel_rfl⟩
theorem ok307:FnOK prog 307 ir307:=⟨_,_,func307,by kernel_rfl,rfl,by kernel_rfl,by kernel_rfl⟩
theorem ok308:FnOK prog 308 ir308:=⟨_,_,func308,by kernel_rfl,rfl,by kernel_rfl,by kernel_rfl⟩
theorem ok309:FnOK prog 309 ir309:=⟨_,_,func309,by kernel_rfl,rfl,by kernel_rfl,by kernel_rfl⟩
theorem ok310:FnOK prog 310 ir310:=⟨_,_,func310,by kernel_rfl,rfl,by kernel_rfl,by kernel_rfl⟩
theorem ok311:FnOK prog 311 ir311:=⟨_,_,func311,by kernel_rfl,rfl,by kernel_rfl,by kernel_rfl⟩
theorem ok312:FnOK prog 312 ir312:=⟨_,_,func312,by kernel_rfl,rfl,by kernel_rfl,by kernel_rfl⟩
theorem ok313:FnOK prog 313 ir313:=⟨_,_,func313,by kernel_rfl,rfl,by kernel_rfl,by kernel_rfl⟩
theorem ok314:FnOK prog 314 ir314:=⟨_,_,func314,by kernel_rfl,rfl,by kernel_rfl,by kernel_rfl⟩
theorem ok315:FnOK prog 315 ir315:=⟨_,_,func315,by kernel_rfl,rfl,by kernel_rfl,by kernel_rfl⟩
theorem ok316:FnOK prog 316 ir316:=⟨_,_,func316,by kernel_rfl,rfl,by kernel_rfl,by kernel_rfl⟩
theorem ok317:FnOK prog 317 ir317:=⟨_,_,func317,by kernel_rfl,rfl,by kernel_rfl,by kernel_rfl⟩
theorem ok318:FnOK prog 318 ir318:=⟨_,_,func318,by kernel_rfl,rfl,by kernel_rfl,by kernel_rfl⟩
theorem ok319:FnOK prog 319 ir319:=⟨_,_,func319,by kernel_rfl,rfl,by kernel_rfl,by kernel_rfl⟩
theorem ok320:FnOK prog 320 ir320:=⟨_,_,func320,by kernel_rfl,rfl,by kernel_rfl,by kernel_rfl⟩
theorem ok321:FnOK prog 321 ir321:=⟨_,_,func321,by kernel_rfl,rfl,by kernel_rfl,by kernel_rfl⟩
theorem ok322:FnOK prog 322 ir322:=⟨_,_,func322,by kernel_rfl,rfl,by kernel_rfl,by kernel_rfl⟩
theorem ok331:FnOK prog 331 ir331:=⟨_,_,func331,by kernel_rfl,rfl,by kernel_rfl,by kernel_rfl⟩
theorem ok332:FnOK prog 332 ir332:=⟨_,_,func332,by kernel_rfl,rfl,by kernel_rfl,by kernel_rfl⟩
theorem ok336:FnOK prog 336 ir336:=⟨_,_,func336,by kernel_rfl,rfl,by kernel_rfl,by kernel_rfl⟩
theorem ok337:FnOK prog 337 ir337:=⟨_,_,func337,by kernel_rfl,rfl,by kernel_rfl,by kernel_rfl⟩
theorem ok338:FnOK prog 338 ir338:=⟨_,_,func338,by kernel_rfl,rfl,by kernel_rfl,by kernel_rfl⟩
theorem ok339:FnOK prog 339 ir339:=⟨_,_,func339,by kernel_rfl,rfl,by kernel_rfl,by kernel_rfl⟩
theorem ok340:FnOK prog 340 ir340:=⟨_,_,func340,by kernel_rfl,rfl,by kernel_rfl,by kernel_rfl⟩
theorem ok341:FnOK prog 341 ir341:=⟨_,_,func341,by kernel_rfl,rfl,by kernel_rfl,by kernel_rfl⟩
theorem ok342:FnOK prog 342 ir342:=⟨_,_,func342,by kernel_rfl,rfl,by kernel_rfl,by kernel_rfl⟩
theorem ok343:FnOK prog 343 ir343:=⟨_,_,func343,by kernel_rfl,rfl,by kernel_rfl,by kernel_rfl⟩
theorem ok346:FnOK prog 346 ir346:=⟨_,_,func346,by kernel_rfl,rfl,by kernel_rfl,by kernel_rfl⟩
theorem ok347:FnOK prog 347 ir347:=⟨_,_,func347,by kernel_rfl,rfl,by kernel_rfl,by kernel_rfl⟩
theorem ok348:FnOK prog 348 ir348:=⟨_,_,func348,by kernel_rfl,rfl,by kernel_rfl,by kernel_rfl⟩
theorem ok349:FnOK prog 349 ir349:=⟨_,_,func349,by kernel_rfl,rfl,by kernel_rfl,by kernel_rfl⟩
theorem ok350:FnOK prog 350 ir350:=⟨_,_,func350,by kernel_rfl,rfl,by kernel_rfl,by kernel_rfl⟩
theorem ok351:FnOK prog 351 ir351:=⟨_,_,func351,by kernel_rfl,rfl,by kernel_rfl,by kernel_rfl⟩
theorem ok352:FnOK prog 352 ir352:=⟨_,_,func352,by kernel_rfl,rfl,by kernel_rfl,by kernel_rfl⟩
theorem ok353:FnOK prog 353 ir353:=⟨_,_,func353,by kernel_rfl,rfl,by kernel_rfl,by kernel_rfl⟩
theorem ok354:FnOK prog 354 ir354:=⟨_,_,func354,by kernel_rfl,rfl,by kernel_rfl,by kernel_rfl⟩
theorem ok355:FnOK prog 355 ir355:=⟨_,_,func355,by kernel_rfl,rfl,by kernel_rfl,by kernel_rfl⟩
theorem ok356:FnOK prog 356 ir356:=⟨_,_,func356,by kernel_rfl,rfl,by kernel_rfl,by kernel_rfl⟩
theorem ok357:FnOK prog 357 ir357:=⟨_,_,func357,by kernel_rfl,rfl,by kernel_rfl,by kernel_rfl⟩
theorem ok358:FnOK prog 358 ir358:=⟨_,_,func358,by kernel_rfl,rfl,by kernel_rfl,by kernel_rfl⟩
theorem ok359:FnOK prog 359 ir359:=⟨_,_,func359,by kernel_rfl,rfl,by kernel_rfl,by kernel_rfl⟩
theorem ok360:FnOK prog 360 ir360:=⟨_,_,func360,by kernel_rfl,rfl,by kernel_rfl,by kernel_rfl⟩
theorem ok361:FnOK prog 361 ir361:=⟨_,_,func361,by kernel_rfl,rfl,by kernel_rfl,by kernel_rfl⟩
theorem ok362:FnOK prog 362 ir362:=⟨_,_,func362,by kernel_rfl,rfl,by kernel_rfl,by kernel_rfl⟩
theorem ok363:FnOK prog 363 ir363:=⟨_,_,func363,by kernel_rfl,rfl,by kernel_rfl,by kernel_rfl⟩
theorem ok364:FnOK prog 364 ir364:=⟨_,_,func364,by kernel_rfl,rfl,by kernel_rfl,by kernel_rfl⟩
theorem ok365:FnOK prog 365 ir365:=⟨_,_,func365,by kernel_rfl,rfl,by kernel_rfl,by kernel_rfl⟩
theorem ok366:FnOK prog 366 ir366:=⟨_,_,func366,by kernel_rfl,rfl,by kernel_rfl,by kernel_rfl⟩
theorem ok367:FnOK prog 367 ir367:=⟨_,_,func367,by kernel_rfl,rfl,by kernel_rfl,by kernel_rfl⟩
theorem ok368:FnOK prog 368 ir368:=⟨_,_,func368,by kernel_rfl,rfl,by kernel_rfl,by kernel_rfl⟩
theorem ok369:FnOK prog 369 ir369:=⟨_,_,func369,by kernel_rfl,rfl,by kernel_rfl,by kernel_rfl⟩
theorem ok370:FnOK prog 370 ir370:=⟨_,_,func370,by kernel_rfl,rfl,by kernel_rfl,by kernel_rfl⟩
theorem ok371:FnOK prog 371 ir371:=⟨_,_,func371,by kernel_rfl,rfl,by kernel_rfl,by kernel_rfl⟩
theorem ok372:FnOK prog 372 ir372:=⟨_,_,func372,by kernel_rfl,rfl,by kernel_rfl,by kernel_rfl⟩
theorem ok373:FnOK prog 373 ir373:=⟨_,_,func373,by kernel_rfl,rfl,by kernel_rfl,by kernel_rfl⟩
theorem ok375:FnOK prog 375 ir375:=⟨_,_,func375,by kernel_rfl,rfl,by kernel_rfl,by kernel_rfl⟩
theorem ok377:FnOK prog 377 ir377:=⟨_,_,func377,by kernel_rfl,rfl,by kernel_rfl,by kernel_rfl⟩
theorem ok378:FnOK prog 378 ir378:=⟨_,_,func378,by kernel_rfl,rfl,by kernel_rfl,by kernel_rfl⟩
theorem ok379:FnOK prog 379 ir379:=⟨_,_,func379,by kernel_rfl,rfl,by kernel_rfl,by kernel_rfl⟩
theorem ok380:FnOK prog 380 ir380:=⟨_,_,func380,by kernel_rfl,rfl,by kernel_rfl,by kernel_rfl⟩
theorem ok381:FnOK prog 381 ir381:=⟨_,_,func381,by kernel_rfl,rfl,by kernel_rfl,by kernel_rfl⟩
theorem ok382:FnOK prog 382 ir382:=⟨_,_,func382,by kernel_rfl,rfl,by kernel_rfl,by kernel_rfl⟩
theorem ok383:FnOK prog 383 ir383:=⟨_,_,func383,by kernel_rfl,rfl,by kernel_rfl,by kernel_rfl⟩
theorem ok384:FnOK prog 384 ir384:=⟨_,_,func384,by kernel_rfl,rfl,by kernel_rfl,by kernel_rfl⟩
theorem ok385:FnOK prog 385 ir385:=⟨_,_,func385,by kernel_rfl,rfl,by kernel_rfl,by kernel_rfl⟩
theorem ok386:FnOK prog 386 ir386:=⟨_,_,func386,by kernel_rfl,rfl,by kernel_rfl,by kernel_rfl⟩
theorem ok387:FnOK prog 387 ir387:=⟨_,_,func387,by kernel_rfl,rfl,by kernel_rfl,by kernel_rfl⟩
theorem ok388:FnOK prog 388 ir388:=⟨_,_,func388,by kernel_rfl,rfl,by kernel_rfl,by kernel_rfl⟩
theorem ok389:FnOK prog 389 ir389:=⟨_,_,func389,by kernel_rfl,rfl,by kernel_rfl,by kernel_rfl⟩
theorem ok390:FnOK prog 390 ir390:=⟨_,_,func390,by kernel_rfl,rfl,by kernel_rfl,by kernel_rfl⟩
theorem ok391:FnOK prog 391 ir391:=⟨_,_,func391,by kernel_rfl,rfl,by kernel_rfl,by kernel_rfl⟩
theorem ok392:FnOK prog 392 ir392:=⟨_,_,func392,by kernel_rfl,rfl,by kernel_rfl,by kernel_rfl⟩
theorem ok393:FnOK prog 393 ir393:=⟨_,_,func393,by kernel_rfl,rfl,by kernel_rfl,by kernel_rfl⟩
theorem ok394:FnOK prog 394 ir394:=⟨_,_,func394,by kernel_rfl,rfl,by kernel_rfl,by kernel_rfl⟩
theorem ok395:FnOK prog 395 ir395:=⟨_,_,func395,by kernel_rfl,rfl,by kernel_rfl,by kernel_rfl⟩
theorem ok396:FnOK prog 396 ir396:=⟨_,_,func396,by kernel_rfl,rfl,by kernel_rfl,by kernel_rfl⟩
theorem ok397:FnOK prog 397 ir397:=⟨_,_,func397,by kernel_rfl,rfl,by kernel_rfl,by kernel_rfl⟩
theorem ok398:FnOK prog 398 ir398:=⟨_,_,func398,by kernel_rfl,rfl,by kernel_rfl,by kernel_rfl⟩
theorem ok399:FnOK prog 399 ir399:=⟨_,_,func399,by kernel_rfl,rfl,by kernel_rfl,by kernel_rfl⟩
theorem ok400:FnOK prog 400 ir400:=⟨_,_,func400,by kernel_rfl,rfl,by kernel_rfl,by kernel_rfl⟩
theorem ok401:FnOK prog 401 ir401:=⟨_,_,func401,by kernel_rfl,rfl,by kernel_rfl,by kernel_rfl⟩
theorem ok402:FnOK prog 402 ir402:=⟨_,_,func402,by kernel_rfl,rfl,by kernel_rfl,by kernel_rfl⟩
theorem ok403:FnOK prog 403 ir403:=⟨_,_,func403,by kernel_rfl,rfl,by kernel_rfl,by kernel_rfl⟩
theorem ok404:FnOK prog 404 ir404:=⟨_,_,func404,by kernel_rfl,rfl,by kernel_rfl,by kernel_rfl⟩
theorem ok405:FnOK prog 405 ir405:=⟨_,_,func405,by kernel_rfl,rfl,by kernel_rfl,by kernel_rfl⟩
theorem ok406:FnOK prog 406 ir406:=⟨_,_,func406,by kernel_rfl,rfl,by kernel_rfl,by kernel_rfl⟩
theorem ok407:FnOK prog 407 ir407:=⟨_,_,func407,by kernel_rfl,rfl,by kernel_rfl,by kernel_rfl⟩
theorem ok408:FnOK prog 408 ir408:=⟨_,_,func408,by kernel_rfl,rfl,by kernel_rfl,by kernel_rfl⟩
theorem ok409:FnOK prog 409 ir409:=⟨_,_,func409,by kernel_rfl,rfl,by kernel_rfl,by kernel_rfl⟩
theorem ok410:FnOK prog 410 ir410:=⟨_,_,func410,by kernel_rfl,rfl,by kernel_rfl,by kernel_rfl⟩
theorem ok413:FnOK prog 413 ir413:=⟨_,_,func413,by kernel_rfl,rfl,by kernel_rfl,by kernel_rfl⟩
theorem ok414:FnOK prog 414 ir414:=⟨_,_,func414,by kernel_rfl,rfl,by kernel_rfl,by kernel_rfl⟩
theorem ok: ∀p∈tab,FnOK prog p.1 p.2:=by
 unfold tab
 exact all_cons ok10 (all_cons ok14 (all_cons ok20 (all_cons ok33 (all_cons ok40 (all_cons ok41 (all_cons ok42 (all_cons ok43 (all_cons ok45 (all_cons ok46 (all_cons ok47 (all_cons ok48 (all_cons ok49 (all_cons ok50 (all_cons ok51 (all_cons ok52 (all_cons ok53 (all_cons ok54 (all_cons ok55 (all_cons ok56 (all_cons ok57 (all_cons ok58 (all_cons ok59 (all_cons ok60 (all_cons ok61 (all_cons ok62 (all_cons ok63 (all_cons ok64 (all_cons ok67 (all_cons ok75 (all_cons ok81 (all_cons ok82 (all_cons ok83 (all_cons ok84 (all_cons ok88 (all_cons ok89 (all_cons ok90 (all_cons ok91 (all_cons ok100 (all_cons ok101 (all_cons ok102 (all_cons ok103 (all_cons ok104 (all_cons ok105 (all_cons ok110 (all_cons ok111 (all_cons ok112 (all_cons ok113 (all_cons ok114 (all_cons ok115 (all_cons ok116 (all_cons ok117 (all_cons ok118 (all_cons ok119 (all_cons ok120 (all_cons ok121 (all_cons ok122 (all_cons ok123 (all_cons ok124 (all_cons ok125 (all_cons ok126 (all_cons ok127 (all_cons ok128 (all_cons ok129 (all_cons ok130 (all_cons ok131 (all_cons ok132 (all_cons ok133 (all_cons ok134 (all_cons ok135 (all_cons ok136 (all_cons ok137 (all_cons ok138 (all_cons ok161 (all_cons ok162 (all_cons ok163 (all_cons ok164 (all_cons ok165 (all_cons ok166 (all_cons ok167 (all_cons ok168 (all_cons ok169 (all_cons ok178 (all_cons ok179 (all_cons ok180 (all_cons ok181 (all_cons ok182 (all_cons ok183 (all_cons ok184 (all_cons ok185 (all_cons ok186 (all_cons ok187 (all_cons ok188 (all_cons ok189 (all_cons ok190 (all_cons ok191 (all_cons ok192 (all_cons ok193 (all_cons ok194 (all_cons ok195 (all_cons ok196 (all_cons ok197 (all_cons ok198 (all_cons ok199 (all_cons ok209 (all_cons ok210 (all_cons ok211 (all_cons ok212 (all_cons ok213 (all_cons ok214 (all_cons ok215 (all_cons ok216 (all_cons ok217 (all_cons ok218 (all_cons ok219 (all_cons ok220 (all_cons ok221 (all_cons ok222 (all_cons ok223 (all_cons ok224 (all_cons ok225 (all_cons ok228 (all_cons ok229 (all_cons ok230 (all_cons ok231 (all_cons ok232 (all_cons ok233 (all_cons ok234 (all_cons ok235 (all_cons ok236 (all_cons ok237 (all_cons ok238 (all_cons ok239 (all_cons ok240 (all_cons ok241 (all_cons ok256 (all_cons ok257 (all_cons ok258 (all_cons ok259 (all_cons ok260 (all_cons ok261 (all_cons ok262 (all_cons ok263 (all_cons ok264 (all_cons ok265 (all_cons ok266 (all_cons ok270 (all_cons ok271 (all_cons ok272 (all_cons ok273 (all_cons ok274 (all_cons ok275 (all_cons ok276 (all_cons ok277 (all_cons ok278 (all_cons ok283 (all_cons ok284 (all_cons ok285 (all_cons ok286 (all_cons ok287 (all_cons ok288 (all_cons ok289 (all_cons ok290 (all_cons ok291 (all_cons ok292 (all_cons ok293 (all_cons ok294 (all_cons ok295 (all_cons ok296 (all_cons ok297 (all_cons ok298 (all_cons ok299 (all_cons ok300 (all_cons ok301 (all_cons ok302 (all_cons ok303 (all_cons ok304 (all_cons ok305 (all_cons ok306 (all_cons ok307 (all_cons ok308 (all_cons ok309 (all_cons ok310 (all_cons ok311 (all_cons ok312 (all_cons ok313 (all_cons ok314 (all_cons ok315 (all_cons ok316 (all_cons ok317 (all_cons ok318 (all_cons ok319 (all_cons ok320 (all_cons ok321 (all_cons ok322 (all_cons ok331 (all_cons ok332 (all_cons ok336 (all_cons ok337 (all_cons ok338 (all_cons ok339 (all_cons ok340 (all_cons ok341 (all_cons ok342 (all_cons ok343 (all_cons ok346 (all_cons ok347 (all_cons ok348 (all_cons ok349 (all_cons ok350 (all_cons ok351 (all_cons ok352 (all_cons ok353 (all_cons ok354 (all_cons ok355 (all_cons ok356 (all_cons ok357 (all_cons ok358 (all_cons ok359 (all_cons ok360 (all_cons ok361 (all_cons ok362 (all_cons ok363 (all_cons ok364 (all_cons ok365 (all_cons ok366 (all_cons ok367 (all_cons ok368 (all_cons ok369 (all_cons ok370 (all_cons ok371 (all_cons ok372 (all_cons ok373 (all_cons ok375 (all_cons ok377 (all_cons ok378 (all_cons ok379 (all_cons ok380 (all_cons ok381 (all_cons ok382 (all_cons ok383 (all_cons ok384 (all_cons ok385 (all_cons ok386 (all_cons ok387 (all_cons ok388 (all_cons ok389 (all_cons ok390 (all_cons ok391 (all_cons ok392 (all_cons ok393 (all_cons ok394 (all_cons ok395 (all_cons ok396 (all_cons ok397 (all_cons ok398 (all_cons ok399 (all_cons ok400 (all_cons ok401 (all_cons ok402 (all_cons ok403 (all_cons ok404 (all_cons ok405 (all_cons ok406 (all_cons ok407 (all_cons ok408 (all_cons ok409 (all_cons ok410 (all_cons ok413 (all_cons ok414 (q0B2))))))))))))))))))))))))))))))))))))))))))))))))))))))))))))))))))))))))))))))))))))))))))))))))))))))))))))))))))))))))))))))))))))))))))))))))))))))))))))))))))))))))))))))))))))))))))))))))))))))))))))))))))))))))))))))))))))))))))))))))))))))))))))))))))))))))))))))
theorem envOK0:EnvOK prog EE0 where
 mix:=by kernel_rfl
 still:=fun _ _ _ _=>trivial
 fns f fn h:=q0hu ok h
 prims f g h:=by
  have h':(if f=376 then some sortP else none)=some g:=h
  split at h'
  ·rename_i e;subst e;cases h'
   exact fun vs H r hr G own w args hK ha h0 hw _=>q0t7 Go.Proofs.Tryz.lays189 (fun xs w1=>q07n func376 rfl rfl xs w1) hr ha h0 hw
  ·cases h'
theorem awk: ∀f∈sayK,clD EE0 (.p (.fn f)) [] []=some (.p (.bool true),none):=by
 intro f hf
 simp only [sayK,List.mem_cons,List.not_mem_nil,or_false] at hf
 subst hf
 ·exact awk40
theorem envOK:EnvOK prog EE where
 mix:=by kernel_rfl
 still:=fun _ _ _ _=>trivial
 fns f fn h:=q0hu ok h
 prims f g h:=by
  have h0:(if f∈sayK then some sayP else EE0.prims f)=some g:=h
  split at h0
  ·rename_i e;cases h0
   exact fun vs H r hr G own w args _ ha _ hw _=>q0wp envOK0 (awk f e) hr ha hw
  ·exact envOK0.prims f g h0
end Go.EnvOf
