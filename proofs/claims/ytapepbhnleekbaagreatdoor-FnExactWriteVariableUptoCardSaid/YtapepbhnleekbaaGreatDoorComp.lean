/-
  The instructions are the program's.
-/
import Derived.Test.YtapepbhnleekbaaGreatDoorCode
import Derived.Test.YtapepbhnleekbaaGreatDoorVxC
import Derived.Test.YtapepbhnleekbaaGreatDoorLay
import Derived.Test.YtapepbhnleekbaaGreatDoorLayI
import Derived.Test.YtapepbhnleekbaaGreatDoorProg
import Derived.KernelRfl
set_option linter.unusedVariables false
set_option linter.unusedSimpArgs false
namespace Go.Vx.WvZ
set_option maxRecDepth 100000
structure KF (n:Nat) (g:F):Prop where
 a:zqC Go.Proofs.Tryz.prog (mo.of mol) n=some g.plain:=by kernel_rfl
 b:g.body.clrOK g.mus=true:=by kernel_rfl
theorem k3:KF 3 v3:={}
theorem k5:KF 5 v5:={}
theorem k6:KF 6 v6:={}
theorem k7:KF 7 v7:={}
theorem k8:KF 8 v8:={}
theorem k9:KF 9 v9:={}
theorem k10:KF 10 v10:={}
theorem k11:KF 11 v11:={}
theorem k12:zlb Go.Proofs.Tryz.prog (mo.of mol) 12=some [(0,(.many 2),37),(2,(.many 3),38),(5,(.many 5),39)]:=by kernel_rfl
theorem k13:KF 13 v13:={}
theorem k18:KF 18 v18:={}
theorem k19:KF 19 v19:={}
theorem k20:KF 20 v20:={}
theorem k21:KF 21 v21:={}
theorem k22:KF 22 v22:={}
theorem k23:KF 23 v23:={}
theorem k24:KF 24 v24:={}
theorem k25:KF 25 v25:={}
theorem k26:KF 26 v26:={}
theorem k27:KF 27 v27:={}
theorem k28:KF 28 v28:={}
theorem k29:KF 29 v29:={}
theorem k30:KF 30 v30:={}
theorem k31:KF 31 v31:={}
theorem k32:KF 32 v32:={}
theorem k33:KF 33 v33:={}
theorem k34:KF 34 v34:={}
theorem k35:KF 35 v35:={}
theorem k36:KF 36 v36:={}
theorem k37:zlb Go.Proofs.Tryz.prog (mo.of mol) 37=some [(1,.one,95)]:=by kernel_rfl
theorem k38:zlb Go.Proofs.Tryz.prog (mo.of mol) 38=some [(0,.one,96),(1,.one,97),(2,.one,98)]:=by kernel_rfl
theorem k39:zlb Go.Proofs.Tryz.prog (mo.of mol) 39=some [(0,.one,99),(2,.one,99),(3,.one,100),(4,.one,99)]:=by kernel_rfl
theorem k40:KF 40 v40:={}
theorem k41:KF 41 v41:={}
theorem k42:KF 42 v42:={}
theorem k47:KF 47 v47:={}
theorem k48:KF 48 v48:={}
theorem k49:KF 49 v49:={}
theorem k50:KF 50 v50:={}
theorem k51:KF 51 v51:={}
theorem k52:KF 52 v52:={}
theorem k53:KF 53 v53:={}
theorem k54:KF 54 v54:={}
theorem k55:KF 55 v55:={}
theorem k56:KF 56 v56:={}
theorem k57:KF 57 v57:={}
theorem k58:KF 58 v58:={}
theorem k59:KF 59 v59:={}
theorem k60:KF 60 v60:={}
theorem k61:KF 61 v61:={}
theorem k62:KF 62 v62:={}
theorem k63:KF 63 v63:={}
theorem k64:KF 64 v64:={}
theorem k65:KF 65 v65:={}
theorem k66:KF 66 v66:={}
theorem k67:KF 67 v67:={}
theorem k68:KF 68 v68:={}
theorem k69:KF 69 v69:={}
theorem k70:KF 70 v70:={}
theorem k71:KF 71 v71:={}
theorem k72:KF 72 v72:={}
theorem k73:KF 73 v73:={}
theorem k74:KF 74 v74:={}
theorem k75:KF 75 v75:={}
theorem k76:KF 76 v76:={}
theorem k77:KF 77 v77:={}
theorem k78:KF 78 v78:={}
theorem k79:KF 79 v79:={}
theorem k80:KF 80 v80:={}
theorem k81:KF 81 v81:={}
theorem k82:KF 82 v82:={}
theorem k83:KF 83 v83:={}
theorem k84:KF 84 v84:={}
theorem k85:KF 85 v85:={}
theorem k86:KF 86 v86:={}
theorem k87:KF 87 v87:={}
theorem k88:KF 88 v88:={}
theorem k89:KF 89 v89:={}
theorem k90:KF 90 v90:={}
theorem k91:KF 91 v91:={}
theorem k92:KF 92 v92:={}
theorem k93:KF 93 v93:={}
theorem k94:KF 94 v94:={}
theorem k95:KF 95 v95:={}
theorem k96:KF 96 v96:={}
theorem k97:KF 97 v97:={}
theorem k98:KF 98 v98:={}
theorem k99:KF 99 v99:={}
theorem k100:KF 100 v100:={}
theorem k101:KF 101 v101:={}
theorem k102:KF 102 v102:={}
theorem k103:KF 103 v103:={}
theorem k104:KF 104 v104:={}
theorem k105:KF 105 v105:={}
theorem k106:KF 106 v106:={}
theorem k112:KF 112 v112:={}
theorem k113:KF 113 v113:={}
theorem k114:KF 114 v114:={}
theorem k115:KF 115 v115:={}
theorem k116:KF 116 v116:={}
theorem k117:KF 117 v117:={}
theorem k118:KF 118 v118:={}
theorem k119:KF 119 v119:={}
theorem k120:KF 120 v120:={}
theorem k121:KF 121 v121:={}
theorem k122:KF 122 v122:={}
theorem k123:KF 123 v123:={}
theorem k124:KF 124 v124:={}
theorem k125:KF 125 v125:={}
theorem k126:KF 126 v126:={}
theorem k127:KF 127 v127:={}
theorem k128:KF 128 v128:={}
theorem k129:KF 129 v129:={}
theorem k130:KF 130 v130:={}
theorem k131:KF 131 v131:={}
theorem k132:KF 132 v132:={}
theorem k133:KF 133 v133:={}
theorem k134:KF 134 v134:={}
theorem k135:KF 135 v135:={}
theorem k136:KF 136 v136:={}
theorem k137:KF 137 v137:={}
theorem k138:KF 138 v138:={}
theorem k139:KF 139 v139:={}
theorem k140:KF 140 v140:={}
theorem k141:KF 141 v141:={}
theorem k142:KF 142 v142:={}
theorem k143:KF 143 v143:={}
theorem k144:KF 144 v144:={}
theorem k145:KF 145 v145:={}
theorem k146:KF 146 v146:={}
theorem k147:KF 147 v147:={}
theorem k148:KF 148 v148:={}
theorem k149:KF 149 v149:={}
theorem k150:KF 150 v150:={}
theorem k151:KF 151 v151:={}
theorem k152:KF 152 v152:={}
theorem k153:KF 153 v153:={}
theorem k154:KF 154 v154:={}
theorem k155:KF 155 v155:={}
theorem k156:KF 156 v156:={}
theorem k157:KF 157 v157:={}
theorem k158:KF 158 v158:={}
theorem k159:KF 159 v159:={}
theorem k160:KF 160 v160:={}
theorem k161:KF 161 v161:={}
theorem k162:KF 162 v162:={}
theorem k163:KF 163 v163:={}
theorem k164:KF 164 v164:={}
theorem k165:KF 165 v165:={}
theorem k166:KF 166 v166:={}
theorem k167:KF 167 v167:={}
theorem k168:KF 168 v168:={}
theorem k169:KF 169 v169:={}
theorem k170:KF 170 v170:={}
theorem k171:KF 171 v171:={}
theorem k172:KF 172 v172:={}
theorem k173:KF 173 v173:={}
theorem k175:KF 175 v175:={}
theorem k176:KF 176 v176:={}
theorem k177:KF 177 v177:={}
theorem k178:KF 178 v178:={}
theorem k179:KF 179 v179:={}
theorem k180:KF 180 v180:={}
theorem k181:KF 181 v181:={}
theorem k182:KF 182 v182:={}
theorem k183:KF 183 v183:={}
theorem k184:KF 184 v184:={}
theorem k195:KF 195 v195:={}
theorem k199:KF 199 v199:={}
theorem k200:KF 200 v200:={}
theorem k201:KF 201 v201:={}
theorem k202:KF 202 v202:={}
theorem k203:KF 203 v203:={}
theorem k204:KF 204 v204:={}
theorem k205:KF 205 v205:={}
theorem k206:KF 206 v206:={}
theorem k207:KF 207 v207:={}
theorem k208:KF 208 v208:={}
theorem k209:KF 209 v209:={}
theorem k210:KF 210 v210:={}
theorem k211:KF 211 v211:={}
theorem k212:KF 212 v212:={}
theorem k213:KF 213 v213:={}
theorem k214:KF 214 v214:={}
theorem k215:KF 215 v215:={}
theorem k216:KF 216 v216:={}
theorem k217:KF 217 v217:={}
theorem k218:KF 218 v218:={}
theorem k220:KF 220 v220:={}
theorem k221:KF 221 v221:={}
theorem k222:KF 222 v222:={}
theorem k223:KF 223 v223:={}
theorem k225:KF 225 v225:={}
theorem k226:KF 226 v226:={}
theorem k230:KF 230 v230:={}
theorem k231:KF 231 v231:={}
theorem k233:KF 233 v233:={}
theorem k234:KF 234 v234:={}
theorem k235:KF 235 v235:={}
theorem k236:KF 236 v236:={}
theorem k237:KF 237 v237:={}
theorem k238:KF 238 v238:={}
theorem k242:KF 242 v242:={}
theorem allF:AllP KF fns:=⟨k3,k5,k6,k7,k8,k9,k10,k11,k13,k18,k19,k20,k21,k22,k23,k24,k25,k26,k27,k28,k29,k30,k31,k32,k33,k34,k35,k36,k40,k41,k42,k47,k48,k49,k50,k51,k52,k53,k54,k55,k56,k57,k58,k59,k60,k61,k62,k63,k64,k65,k66,k67,k68,k69,k70,k71,k72,k73,k74,k75,k76,k77,k78,k79,k80,k81,k82,k83,k84,k85,k86,k87,k88,k89,k90,k91,k92,k93,k94,k95,k96,k97,k98,k99,k100,k101,k102,k103,k104,k105,k106,k112,k113,k114,k115,k116,k117,k118,k119,k120,k121,k122,k123,k124,k125,k126,k127,k128,k129,k130,k131,k132,k133,k134,k135,k136,k137,k138,k139,k140,k141,k142,k143,k144,k145,k146,k147,k148,k149,k150,k151,k152,k153,k154,k155,k156,k157,k158,k159,k160,k161,k162,k163,k164,k165,k166,k167,k168,k169,k170,k171,k172,k173,k175,k176,k177,k178,k179,k180,k181,k182,k183,k184,k195,k199,k200,k201,k202,k203,k204,k205,k206,k207,k208,k209,k210,k211,k212,k213,k214,k215,k216,k217,k218,k220,k221,k222,k223,k225,k226,k230,k231,k233,k234,k235,k236,k237,k238,k242,trivial⟩
theorem allM:AllP (fun f ms=>zlb Go.Proofs.Tryz.prog (mo.of mol) f=some ms) mrks:=⟨k12,k37,k38,k39,trivial⟩
theorem allP:AllP (fun f g=>zev Go.Proofs.Tryz.prog f=true∧∀ args d,g args=some d->∀ sto,zeq Go.Proofs.Tryz.prog (mo.of mol f) f args sto (d.1,d.2,sto)) prs:=⟨⟨by kernel_rfl,fun _ _ h sto=>zry zCg rfl (by decide) (by decide) h sto⟩,⟨by kernel_rfl,fun _ _ h sto=>zzs zuB zuC h sto⟩,⟨by kernel_rfl,fun _ _ h sto=>zrx zCh rfl (by decide) h sto⟩,⟨by kernel_rfl,fun _ _ h sto=>zzq zzx h sto⟩,⟨by kernel_rfl,fun _ _ h sto=>zpQ zzy h sto⟩,trivial⟩
theorem hok (hm:Go.Proofs.Tryz.prog.follows .mixedOrders=true):HOK Go.Proofs.Tryz.prog (mo.of mol) (zab T):=zub (zAq hm) (fun f ms h=>allM.look h) (fun f fv h=>⟨(allF.look h).a,(allF.look h).b⟩) (fun f g h=>allP.look h)
end Go.Vx.WvZ

