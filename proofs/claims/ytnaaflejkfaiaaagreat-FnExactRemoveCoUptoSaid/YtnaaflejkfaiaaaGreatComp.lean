/-
  The instructions are the program's.
-/
import Derived.Test.YtnaaflejkfaiaaaGreatCode
import Derived.Test.YtnaaflejkfaiaaaGreatVxD
import Derived.Test.YtnaaflejkfaiaaaGreatLayI
import Derived.Test.YtnaaflejkfaiaaaGreatProg
import Derived.KernelRfl
set_option linter.unusedVariables false
set_option linter.unusedSimpArgs false
namespace Go.Vx.RmZ
set_option maxRecDepth 100000
structure KF (n:Nat) (g:F):Prop where
 a:zqq Go.Proofs.Tryz.prog (mo.of mol) n=some g.plain:=by kernel_rfl
 b:g.body.clrOK g.mus=true:=by kernel_rfl
theorem k6:KF 6 v6:={}
theorem k17:KF 17 v17:={}
theorem k19:KF 19 v19:={}
theorem k21:KF 21 v21:={}
theorem k22:KF 22 v22:={}
theorem k23:znr Go.Proofs.Tryz.prog (mo.of mol) 23=some [(0,.one,65),(1,(.many 2),44),(3,.one,66)]:=by kernel_rfl
theorem k26:KF 26 v26:={}
theorem k28:KF 28 v28:={}
theorem k30:KF 30 v30:={}
theorem k32:KF 32 v32:={}
theorem k33:KF 33 v33:={}
theorem k34:KF 34 v34:={}
theorem k40:KF 40 v40:={}
theorem k43:KF 43 v43:={}
theorem k44:znr Go.Proofs.Tryz.prog (mo.of mol) 44=some [(1,.one,106)]:=by kernel_rfl
theorem k47:KF 47 v47:={}
theorem k50:KF 50 v50:={}
theorem k51:KF 51 v51:={}
theorem k52:KF 52 v52:={}
theorem k53:KF 53 v53:={}
theorem k54:KF 54 v54:={}
theorem k55:KF 55 v55:={}
theorem k56:KF 56 v56:={}
theorem k57:KF 57 v57:={}
theorem k58:KF 58 v58:={}
theorem k59:KF 59 v59:={}
theorem k60:KF 60 v60:={}
theorem k61:KF 61 v61:={}
theorem k62:KF 62 v62:={}
theorem k63:KF 63 v63:={}
theorem k64:KF 64 v64:={}
theorem k65:KF 65 v65:={}
theorem k66:KF 66 v66:={}
theorem k69:KF 69 v69:={}
theorem k71:KF 71 v71:={}
theorem k72:KF 72 v72:={}
theorem k75:KF 75 v75:={}
theorem k76:KF 76 v76:={}
theorem k79:KF 79 v79:={}
theorem k80:KF 80 v80:={}
theorem k81:KF 81 v81:={}
theorem k82:KF 82 v82:={}
theorem k83:KF 83 v83:={}
theorem k84:KF 84 v84:={}
theorem k85:KF 85 v85:={}
theorem k86:KF 86 v86:={}
theorem k93:KF 93 v93:={}
theorem k96:KF 96 v96:={}
theorem k98:KF 98 v98:={}
theorem k99:KF 99 v99:={}
theorem k102:KF 102 v102:={}
theorem k106:KF 106 v106:={}
theorem k110:KF 110 v110:={}
theorem k115:KF 115 v115:={}
theorem k116:KF 116 v116:={}
theorem k117:KF 117 v117:={}
theorem k118:KF 118 v118:={}
theorem k119:KF 119 v119:={}
theorem k120:KF 120 v120:={}
theorem k121:KF 121 v121:={}
theorem k122:KF 122 v122:={}
theorem k123:KF 123 v123:={}
theorem k124:KF 124 v124:={}
theorem k125:KF 125 v125:={}
theorem k126:KF 126 v126:={}
theorem k127:KF 127 v127:={}
theorem k128:KF 128 v128:={}
theorem k129:KF 129 v129:={}
theorem k130:KF 130 v130:={}
theorem k131:KF 131 v131:={}
theorem k132:KF 132 v132:={}
theorem k133:KF 133 v133:={}
theorem k134:KF 134 v134:={}
theorem k135:KF 135 v135:={}
theorem k136:KF 136 v136:={}
theorem k137:KF 137 v137:={}
theorem k138:KF 138 v138:={}
theorem k139:KF 139 v139:={}
theorem k140:KF 140 v140:={}
theorem k141:KF 141 v141:={}
theorem k142:KF 142 v142:={}
theorem k143:KF 143 v143:={}
theorem k144:KF 144 v144:={}
theorem k145:KF 145 v145:={}
theorem k146:KF 146 v146:={}
theorem k147:KF 147 v147:={}
theorem k148:KF 148 v148:={}
theorem k149:KF 149 v149:={}
theorem k150:KF 150 v150:={}
theorem k151:KF 151 v151:={}
theorem k152:KF 152 v152:={}
theorem k153:KF 153 v153:={}
theorem k154:KF 154 v154:={}
theorem k155:KF 155 v155:={}
theorem k156:KF 156 v156:={}
theorem k161:KF 161 v161:={}
theorem k162:KF 162 v162:={}
theorem k163:KF 163 v163:={}
theorem k164:KF 164 v164:={}
theorem k165:KF 165 v165:={}
theorem k166:KF 166 v166:={}
theorem k171:KF 171 v171:={}
theorem k172:KF 172 v172:={}
theorem k184:KF 184 v184:={}
theorem k185:KF 185 v185:={}
theorem k186:KF 186 v186:={}
theorem k187:KF 187 v187:={}
theorem k188:KF 188 v188:={}
theorem k190:KF 190 v190:={}
theorem k194:KF 194 v194:={}
theorem k195:KF 195 v195:={}
theorem k196:KF 196 v196:={}
theorem k197:KF 197 v197:={}
theorem k198:KF 198 v198:={}
theorem k199:KF 199 v199:={}
theorem k200:KF 200 v200:={}
theorem k201:KF 201 v201:={}
theorem k202:KF 202 v202:={}
theorem k203:KF 203 v203:={}
theorem k204:KF 204 v204:={}
theorem k205:KF 205 v205:={}
theorem k206:KF 206 v206:={}
theorem k207:KF 207 v207:={}
theorem k208:KF 208 v208:={}
theorem k209:KF 209 v209:={}
theorem k210:KF 210 v210:={}
theorem k211:KF 211 v211:={}
theorem k212:KF 212 v212:={}
theorem k213:KF 213 v213:={}
theorem k214:KF 214 v214:={}
theorem k215:KF 215 v215:={}
theorem k219:KF 219 v219:={}
theorem k220:KF 220 v220:={}
theorem k221:KF 221 v221:={}
theorem k222:KF 222 v222:={}
theorem k223:KF 223 v223:={}
theorem k224:KF 224 v224:={}
theorem k229:KF 229 v229:={}
theorem k230:KF 230 v230:={}
theorem k231:KF 231 v231:={}
theorem k232:KF 232 v232:={}
theorem k233:KF 233 v233:={}
theorem k234:KF 234 v234:={}
theorem k235:KF 235 v235:={}
theorem k236:KF 236 v236:={}
theorem k237:KF 237 v237:={}
theorem k238:KF 238 v238:={}
theorem k239:KF 239 v239:={}
theorem k240:KF 240 v240:={}
theorem k241:KF 241 v241:={}
theorem k242:KF 242 v242:={}
theorem k243:KF 243 v243:={}
theorem k244:KF 244 v244:={}
theorem k245:KF 245 v245:={}
theorem k246:KF 246 v246:={}
theorem k247:KF 247 v247:={}
theorem k248:KF 248 v248:={}
theorem k250:KF 250 v250:={}
theorem k251:KF 251 v251:={}
theorem k252:KF 252 v252:={}
theorem k253:KF 253 v253:={}
theorem k254:KF 254 v254:={}
theorem k255:KF 255 v255:={}
theorem k256:KF 256 v256:={}
theorem k260:KF 260 v260:={}
theorem k261:KF 261 v261:={}
theorem k262:KF 262 v262:={}
theorem k263:KF 263 v263:={}
theorem k264:KF 264 v264:={}
theorem k265:KF 265 v265:={}
theorem k266:KF 266 v266:={}
theorem k267:KF 267 v267:={}
theorem k268:KF 268 v268:={}
theorem allF:AllP KF fns:=⟨k6,k17,k19,k21,k22,k26,k28,k30,k32,k33,k34,k40,k43,k47,k50,k51,k52,k53,k54,k55,k56,k57,k58,k59,k60,k61,k62,k63,k64,k65,k66,k69,k71,k72,k75,k76,k79,k80,k81,k82,k83,k84,k85,k86,k93,k96,k98,k99,k102,k106,k110,k115,k116,k117,k118,k119,k120,k121,k122,k123,k124,k125,k126,k127,k128,k129,k130,k131,k132,k133,k134,k135,k136,k137,k138,k139,k140,k141,k142,k143,k144,k145,k146,k147,k148,k149,k150,k151,k152,k153,k154,k155,k156,k161,k162,k163,k164,k165,k166,k171,k172,k184,k185,k186,k187,k188,k190,k194,k195,k196,k197,k198,k199,k200,k201,k202,k203,k204,k205,k206,k207,k208,k209,k210,k211,k212,k213,k214,k215,k219,k220,k221,k222,k223,k224,k229,k230,k231,k232,k233,k234,k235,k236,k237,k238,k239,k240,k241,k242,k243,k244,k245,k246,k247,k248,k250,k251,k252,k253,k254,k255,k256,k260,k261,k262,k263,k264,k265,k266,k267,k268,trivial⟩
theorem allM:AllP (fun f ms=>znr Go.Proofs.Tryz.prog (mo.of mol) f=some ms) mrks:=⟨k23,k44,trivial⟩
theorem allP:AllP (fun f g=>zfi Go.Proofs.Tryz.prog f=true∧∀ args d,g args=some d->∀ sto,zfy Go.Proofs.Tryz.prog (mo.of mol f) f args sto (d.1,d.2,sto)) prs:=⟨⟨by kernel_rfl,fun _ _ h sto=>zrk zBO rfl (by decide) (by decide) h sto⟩,trivial⟩
theorem hok (hm:Go.Proofs.Tryz.prog.follows .mixedOrders=true):HOK Go.Proofs.Tryz.prog (mo.of mol) (zaa T):=zuk (zzS hm) (fun f ms h=>allM.look h) (fun f fv h=>⟨(allF.look h).a,(allF.look h).b⟩) (fun f g h=>allP.look h)
end Go.Vx.RmZ

