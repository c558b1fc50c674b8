/- Rows.ExecNamesCardSaid: the law stagepost/stagepostlaw18.ExecNames answers true, its tables laid by the program's text. -/
import Derived.Test.YtncdiipfnmdgpaaGreatDoorExK1
import Derived.Test.YtncdiipfnmdgpaaGreatDoorExK4
import Derived.Test.YtncdiipfnmdgpaaGreatDoorExK5
import Derived.Test.YtncdiipfnmdgpaaGreatDoorExK6
import Derived.Test.YtncdiipfnmdgpaaGreatDoorExK7
import Derived.Test.YtncdiipfnmdgpaaGreatDoorExK8
import Derived.Test.YtncdiipfnmdgpaaGreatDoorExK9
import Derived.Test.YtncdiipfnmdgpaaGreatDoorExK10
import Derived.Test.YtncdiipfnmdgpaaGreatDoorExK11
import Derived.Test.YtncdiipfnmdgpaaGreatDoorExK12
import Derived.Test.YtncdiipfnmdgpaaGreatDoorExK13
import Derived.Test.YtncdiipfnmdgpaaGreatDoorExK14
import Derived.Test.YtncdiipfnmdgpaaGreatDoorCards
import Derived.Test.YtncdiipfnmdgpaaGreatDoorTie
import Derived.Test.YtncdiipfnmdgpaaGreatDoorAbJ
import Derived.Test.YtncdiipfnmdgpaaGreatDoorAbN
import Derived.Test.YtncdiipfnmdgpaaGreatDoorExF
import Derived.ProofKit
import Derived.OpenShut
import Derived.LaidMore
import Derived.Lay
import Derived.SevenTiedAt
import Derived.Stop.Joined
namespace Go.Proofs.YtncdiipfnmdgpaaGreatDoor
open Ab
set_option maxRecDepth 1000000
theorem r1 : KR k1 := kn .nil e1
theorem r2 : KR k2 := kn .nil e2
theorem r3 : KR k3 := kn .nil e3
theorem r4 : KR k4 := kn .nil e4
theorem r5 : KR k5 := kn (kc r4 .nil) e5
theorem r6 : KR k6 := kn (kc r5 .nil) e6
theorem r7 : KR k7 := kn .nil e7
theorem r8 : KR k8 := kn .nil e8
theorem r9 : KR k9 := kn (kc r5 .nil) e9
theorem r10 : KR k10 := kn .nil e10
theorem r11 : KR k11 := kn .nil e11
theorem r12 : KR k12 := kn (kc r5 .nil) e12
theorem r13 : KR k13 := kn .nil e13
theorem r14 : KR k14 := kn .nil e14
theorem r15 : KR k15 := kn (kc r5 .nil) e15
theorem r16 : KR k16 := kn .nil e16
theorem r17 : KR k17 := kn .nil e17
theorem r18 : KR k18 := kn (kc r5 .nil) e18
theorem r19 : KR k19 := kn .nil e19
theorem r20 : KR k20 := kn (kc r5 .nil) e20
theorem r21 : KR k21 := kn .nil e21
theorem r22 : KR k22 := kn (kc r5 .nil) e22
theorem r23 : KR k23 := kn (kc r5 .nil) e23
theorem r24 : KR k24 := kn (kc r5 .nil) e24
theorem r25 : KR k25 := kn .nil e25
theorem r26 : KR k26 := kn .nil e26
theorem r27 : KR k27 := kn .nil e27
theorem r28 : KR k28 := kn .nil e28
theorem r29 : KR k29 := kn .nil e29
theorem r30 : KR k30 := kn (kc r5 .nil) e30
theorem r31 : KR k31 := kn .nil e31
theorem r32 : KR k32 := kn (kc r5 .nil) e32
theorem r33 : KR k33 := kn (kc r5 .nil) e33
theorem r34 : KR k34 := kn (kc r33 (kc r32 (kc r31 (kc r30 (kc r29 (kc r28 (kc r27 (kc r26 (kc r25 (kc r24 (kc r23 (kc r22 (kc r21 (kc r20 (kc r19 (kc r18 (kc r17 (kc r16 (kc r15 (kc r14 (kc r13 (kc r12 (kc r11 (kc r10 (kc r9 (kc r8 (kc r7 (kc r6 (kc r3 (kc r2 (kc r1 .nil))))))))))))))))))))))))))))))) e34
theorem r35 : KR k35 := kn .nil e35
theorem r36 : KR k36 := kn (kc r35 .nil) e36
theorem r37 : KR k37 := kn (kc r36 .nil) e37
theorem r38 : KR k38 := kn (kc r36 .nil) e38
theorem r39 : KR k39 := kn (kc r36 .nil) e39
theorem r40 : KR k40 := kn (kc r36 .nil) e40
theorem r41 : KR k41 := kn (kc r36 .nil) e41
theorem r42 : KR k42 := kn (kc r41 (kc r40 (kc r39 (kc r38 (kc r37 (kc r34 .nil)))))) e42
theorem r43 : KR k43 := kn .nil e43
theorem r44 : KR k44 := kn .nil e44
theorem r45 : KR k45 := kn (kc r44 .nil) e45
theorem r46 : KR k46 := kn (kc r45 (kc r43 .nil)) e46
theorem r47 : KR k47 := kn .nil e47
theorem r48 : KR k48 := kn .nil e48
theorem r49 : KR k49 := kn (kc r48 .nil) e49
theorem r50 : KR k50 := kn (kc r49 (kc r47 .nil)) e50
theorem r51 : KR k51 := kn .nil e51
theorem r52 : KR k52 := kn .nil e52
theorem r53 : KR k53 := kn (kc r52 .nil) e53
theorem r54 : KR k54 := kn (kc r53 (kc r51 .nil)) e54
theorem r55 : KR k55 := kn .nil e55
theorem r56 : KR k56 := kn (kc r5 .nil) e56
theorem r57 : KR k57 := kn (kc r56 .nil) e57
theorem r58 : KR k58 := kn (kc r57 (kc r55 .nil)) e58
theorem r59 : KR k59 := kn .nil e59
theorem r60 : KR k60 := kn .nil e60
theorem r61 : KR k61 := kn (kc r60 .nil) e61
theorem r62 : KR k62 := kn (kc r61 (kc r59 .nil)) e62
theorem r63 : KR k63 := kn .nil e63
theorem r64 : KR k64 := kn .nil e64
theorem r65 : KR k65 := kn (kc r64 .nil) e65
theorem r66 : KR k66 := kn (kc r65 (kc r63 .nil)) e66
theorem r67 : KR k67 := kn .nil e67
theorem r68 : KR k68 := kn (kc r5 .nil) e68
theorem r69 : KR k69 := kn (kc r68 .nil) e69
theorem r70 : KR k70 := kn (kc r69 (kc r67 .nil)) e70
theorem r71 : KR k71 := kn .nil e71
theorem r72 : KR k72 := kn .nil e72
theorem r73 : KR k73 := kn (kc r72 .nil) e73
theorem r74 : KR k74 := kn (kc r73 (kc r71 .nil)) e74
theorem r75 : KR k75 := kn .nil e75
theorem r76 : KR k76 := kn .nil e76
theorem r77 : KR k77 := kn (kc r76 .nil) e77
theorem r78 : KR k78 := kn (kc r77 (kc r75 .nil)) e78
theorem r79 : KR k79 := kn .nil e79
theorem r80 : KR k80 := kn .nil e80
theorem r81 : KR k81 := kn (kc r80 .nil) e81
theorem r82 : KR k82 := kn (kc r81 (kc r79 .nil)) e82
theorem r83 : KR k83 := kn .nil e83
theorem r84 : KR k84 := kn .nil e84
theorem r85 : KR k85 := kn (kc r84 .nil) e85
theorem r86 : KR k86 := kn (kc r85 (kc r83 .nil)) e86
theorem r87 : KR k87 := kn .nil e87
theorem r88 : KR k88 := kn (kc r5 .nil) e88
theorem r89 : KR k89 := kn (kc r88 .nil) e89
theorem r90 : KR k90 := kn (kc r89 (kc r87 .nil)) e90
theorem r91 : KR k91 := kn (kc r90 (kc r87 (kc r86 (kc r83 (kc r82 (kc r79 (kc r78 (kc r75 (kc r74 (kc r71 (kc r70 (kc r67 (kc r66 (kc r63 (kc r62 (kc r59 (kc r58 (kc r55 (kc r54 (kc r51 (kc r50 (kc r47 (kc r46 (kc r43 .nil)))))))))))))))))))))))) e91
theorem r92 : KR k92 := kn .nil e92
theorem r93 : KR k93 := kn .nil e93
theorem r94 : KR k94 := kn .nil e94
theorem r95 : KR k95 := kn (kc r5 .nil) e95
theorem r96 : KR k96 := kn .nil e96
theorem r97 : KR k97 := kn .nil e97
theorem r98 : KR k98 := kn (kc r5 .nil) e98
theorem r99 : KR k99 := kn .nil e99
theorem r100 : KR k100 := kn .nil e100
theorem r101 : KR k101 := kn (kc r5 .nil) e101
theorem r102 : KR k102 := kn .nil e102
theorem r103 : KR k103 := kn .nil e103
theorem r104 : KR k104 := kn (kc r5 .nil) e104
theorem r105 : KR k105 := kn .nil e105
theorem r106 : KR k106 := kn .nil e106
theorem r107 : KR k107 := kn (kc r5 .nil) e107
theorem r108 : KR k108 := kn .nil e108
theorem r109 : KR k109 := kn (kc r5 .nil) e109
theorem r110 : KR k110 := kn .nil e110
theorem r111 : KR k111 := kn (kc r5 .nil) e111
theorem r112 : KR k112 := kn (kc r111 (kc r110 (kc r109 (kc r108 (kc r107 (kc r106 (kc r105 (kc r104 (kc r103 (kc r102 (kc r101 (kc r100 (kc r99 (kc r98 (kc r97 (kc r96 (kc r95 (kc r94 (kc r93 (kc r92 (kc r88 .nil))))))))))))))))))))) e112
theorem r113 : KR k113 := kn (kc r112 (kc r40 (kc r39 (kc r38 (kc r37 .nil))))) e113
theorem r114 : KR k114 := km (kc r113 (kc r91 .nil)) e114
theorem r115 : KR k115 := kn .nil e115
theorem r116 : KR k116 := kn .nil e116
theorem r117 : KR k117 := kn (kc r116 .nil) e117
theorem r118 : KR k118 := kn (kc r117 (kc r115 .nil)) e118
theorem r119 : KR k119 := kn .nil e119
theorem r120 : KR k120 := kn .nil e120
theorem r121 : KR k121 := kn (kc r120 .nil) e121
theorem r122 : KR k122 := kn (kc r121 (kc r119 .nil)) e122
theorem r123 : KR k123 := kn .nil e123
theorem r124 : KR k124 := kn .nil e124
theorem r125 : KR k125 := kn (kc r124 .nil) e125
theorem r126 : KR k126 := kn (kc r125 (kc r123 .nil)) e126
theorem r127 : KR k127 := kn (kc r126 (kc r123 (kc r122 (kc r119 (kc r118 (kc r115 (kc r90 (kc r87 (kc r78 (kc r75 (kc r58 (kc r55 (kc r54 (kc r51 (kc r46 (kc r43 .nil)))))))))))))))) e127
theorem r128 : KR k128 := kn .nil e128
theorem r129 : KR k129 := kn .nil e129
theorem r130 : KR k130 := kn .nil e130
theorem r131 : KR k131 := kn .nil e131
theorem r132 : KR k132 := kn .nil e132
theorem r133 : KR k133 := kn (kc r5 .nil) e133
theorem r134 : KR k134 := kn .nil e134
theorem r135 : KR k135 := kn (kc r134 (kc r133 (kc r132 (kc r131 (kc r130 (kc r129 (kc r128 (kc r88 .nil)))))))) e135
theorem r136 : KR k136 := kn (kc r135 (kc r41 (kc r40 (kc r37 .nil)))) e136
theorem r137 : KR k137 := kn (kc r136 (kc r127 .nil)) e137
theorem r138 : KR k138 := kn .nil e138
theorem r139 : KR k139 := kn .nil e139
theorem r140 : KR k140 := kn .nil e140
theorem r141 : KR k141 := kn (kc r5 .nil) e141
theorem r142 : KR k142 := kn .nil e142
theorem r143 : KR k143 := kn .nil e143
theorem r144 : KR k144 := kn (kc r5 .nil) e144
theorem r145 : KR k145 := kn .nil e145
theorem r146 : KR k146 := kn .nil e146
theorem r147 : KR k147 := kn (kc r5 .nil) e147
theorem r148 : KR k148 := kn .nil e148
theorem r149 : KR k149 := kn .nil e149
theorem r150 : KR k150 := kn (kc r5 .nil) e150
theorem r151 : KR k151 := kn .nil e151
theorem r152 : KR k152 := kn .nil e152
theorem r153 : KR k153 := kn (kc r5 .nil) e153
theorem r154 : KR k154 := kn .nil e154
theorem r155 : KR k155 := kn (kc r5 .nil) e155
theorem r156 : KR k156 := kn .nil e156
theorem r157 : KR k157 := kn (kc r5 .nil) e157
theorem r158 : KR k158 := kn (kc r5 .nil) e158
theorem r159 : KR k159 := kn (kc r5 .nil) e159
theorem r160 : KR k160 := kn .nil e160
theorem r161 : KR k161 := kn .nil e161
theorem r162 : KR k162 := kn .nil e162
theorem r163 : KR k163 := kn .nil e163
theorem r164 : KR k164 := kn .nil e164
theorem r165 : KR k165 := kn (kc r5 .nil) e165
theorem r166 : KR k166 := kn .nil e166
theorem r167 : KR k167 := kn (kc r5 .nil) e167
theorem r168 : KR k168 := kn (kc r5 .nil) e168
theorem r169 : KR k169 := kn (kc r168 (kc r167 (kc r166 (kc r165 (kc r164 (kc r163 (kc r162 (kc r161 (kc r160 (kc r159 (kc r158 (kc r157 (kc r156 (kc r155 (kc r154 (kc r153 (kc r152 (kc r151 (kc r150 (kc r149 (kc r148 (kc r147 (kc r146 (kc r145 (kc r144 (kc r143 (kc r142 (kc r141 (kc r140 (kc r139 (kc r138 .nil))))))))))))))))))))))))))))))) e169
theorem r170 : KR k170 := kn (kc r169 (kc r41 (kc r40 (kc r39 (kc r38 (kc r37 .nil)))))) e170
theorem r171 : KR k171 := kn (kc r170 (kc r137 (kc r114 .nil))) e171
theorem r172 : KR k172 := kn (kc r171 .nil) e172
theorem r173 : KR k173 := kn (kc r172 .nil) e173
theorem r174 : KR k174 := kn (kc r173 .nil) e174
theorem r175 : KR k175 := kn .nil e175
theorem r176 : KR k176 := kn .nil e176
theorem r177 : KR k177 := kn (kc r176 (kc r175 (kc r174 .nil))) e177
theorem r178 : KR k178 := kn .nil e178
theorem r179 : KR k179 := kn (kc r178 (kc r177 .nil)) e179
theorem r180 : KR k180 := kn (kc r173 .nil) e180
theorem r181 : KR k181 := kn .nil e181
theorem r182 : KR k182 := kn .nil e182
theorem r183 : KR k183 := kn (kc r182 (kc r181 (kc r180 .nil))) e183
theorem r184 : KR k184 := kn .nil e184
theorem r185 : KR k185 := kn (kc r184 (kc r183 .nil)) e185
theorem r186 : KR k186 := kn (kc r173 .nil) e186
theorem r187 : KR k187 := kn .nil e187
theorem r188 : KR k188 := kn .nil e188
theorem r189 : KR k189 := kn (kc r188 (kc r187 (kc r186 .nil))) e189
theorem r190 : KR k190 := kn .nil e190
theorem r191 : KR k191 := kn (kc r190 (kc r189 .nil)) e191
theorem r192 : KR k192 := kn (kc r191 (kc r189 (kc r185 (kc r183 (kc r179 (kc r177 (kc r42 .nil))))))) e192
theorem r193 : KR k193 := kn .nil e193
theorem r194 : KR k194 := kn .nil e194
theorem r195 : KR k195 := kn (kc r5 .nil) e195
theorem r196 : KR k196 := kn .nil e196
theorem r197 : KR k197 := kn (kc r5 .nil) e197
theorem r198 : KR k198 := kn (kc r5 .nil) e198
theorem r199 : KR k199 := kn (kc r5 .nil) e199
theorem r200 : KR k200 := kn (kc r5 .nil) e200
theorem r201 : KR k201 := kn .nil e201
theorem r202 : KR k202 := kn (kc r5 .nil) e202
theorem r203 : KR k203 := kn .nil e203
theorem r204 : KR k204 := kn (kc r5 .nil) e204
theorem r205 : KR k205 := kn .nil e205
theorem r206 : KR k206 := kn .nil e206
theorem r207 : KR k207 := kn .nil e207
theorem r208 : KR k208 := kn .nil e208
theorem r209 : KR k209 := kn (kc r208 (kc r207 (kc r206 (kc r205 (kc r204 (kc r203 (kc r202 (kc r201 (kc r200 (kc r199 (kc r198 (kc r197 (kc r196 (kc r195 (kc r194 (kc r193 (kc r60 .nil))))))))))))))))) e209
theorem r210 : KR k210 := kn (kc r209 (kc r40 (kc r38 (kc r37 .nil)))) e210
theorem r211 : KR k211 := kn .nil e211
theorem r212 : KR k212 := kn .nil e212
theorem r213 : KR k213 := kn (kc r212 .nil) e213
theorem r214 : KR k214 := kn (kc r213 (kc r211 .nil)) e214
theorem r215 : KR k215 := kn .nil e215
theorem r216 : KR k216 := kn .nil e216
theorem r217 : KR k217 := kn (kc r216 .nil) e217
theorem r218 : KR k218 := kn (kc r217 (kc r215 .nil)) e218
theorem r219 : KR k219 := kn .nil e219
theorem r220 : KR k220 := kn (kc r5 .nil) e220
theorem r221 : KR k221 := kn (kc r220 .nil) e221
theorem r222 : KR k222 := kn (kc r221 (kc r219 .nil)) e222
theorem r223 : KR k223 := kn .nil e223
theorem r224 : KR k224 := kn .nil e224
theorem r225 : KR k225 := kn (kc r224 .nil) e225
theorem r226 : KR k226 := kn (kc r225 (kc r223 .nil)) e226
theorem r227 : KR k227 := kn .nil e227
theorem r228 : KR k228 := kn .nil e228
theorem r229 : KR k229 := kn (kc r228 .nil) e229
theorem r230 : KR k230 := kn (kc r229 (kc r227 .nil)) e230
theorem r231 : KR k231 := kn .nil e231
theorem r232 : KR k232 := kn .nil e232
theorem r233 : KR k233 := kn (kc r232 .nil) e233
theorem r234 : KR k234 := kn (kc r233 (kc r231 .nil)) e234
theorem r235 : KR k235 := kn .nil e235
theorem r236 : KR k236 := kn .nil e236
theorem r237 : KR k237 := kn (kc r236 .nil) e237
theorem r238 : KR k238 := kn (kc r237 (kc r235 .nil)) e238
theorem r239 : KR k239 := kn (kc r238 (kc r235 (kc r234 (kc r231 (kc r230 (kc r227 (kc r226 (kc r223 (kc r222 (kc r219 (kc r218 (kc r215 (kc r214 (kc r211 (kc r90 (kc r87 (kc r78 (kc r75 (kc r70 (kc r67 (kc r62 (kc r59 (kc r58 (kc r55 (kc r54 (kc r51 .nil)))))))))))))))))))))))))) e239
theorem r240 : KR k240 := km (kc r239 (kc r210 .nil)) e240
theorem r241 : KR k241 := kn (kc r240 (kc r172 .nil)) e241
theorem r242 : KR k242 := kn .nil e242
theorem r243 : KR k243 := kn .nil e243
theorem r244 : KR k244 := kn .nil e244
theorem r245 : KR k245 := kn (kc r244 (kc r243 (kc r242 .nil))) e245
theorem r246 : KR k246 := kn .nil e246
theorem r247 : KR k247 := kn .nil e247
theorem r248 : KR k248 := kn (kc r247 (kc r177 (kc r173 .nil))) e248
theorem r249 : KR k249 := kn .nil e249
theorem r250 : KR k250 := kn (kc r249 (kc r183 (kc r173 .nil))) e250
theorem r251 : KR k251 := kn .nil e251
theorem r252 : KR k252 := kn (kc r251 (kc r189 (kc r173 .nil))) e252
theorem r253 : KR k253 := kn .nil e253
theorem r254 : KR k254 := kn .nil e254
theorem r255 : KR k255 := kn .nil e255
theorem r256 : KR k256 := kn .nil e256
theorem r257 : KR k257 := kn .nil e257
theorem r258 : KR k258 := kn .nil e258
theorem r259 : KR k259 := kn (kc r258 (kc r257 (kc r256 (kc r255 (kc r254 (kc r253 (kc r252 (kc r250 (kc r248 .nil))))))))) e259
theorem r260 : KR k260 := kn (kc r259 (kc r246 .nil)) e260
theorem r261 : KR k261 := kn (kc r260 (kc r245 (kc r241 (kc r210 (kc r192 .nil))))) e261
theorem r262 : KR k262 := kn (kc r261 .nil) e262
theorem r263 : KR k263 := kn .nil e263
theorem r264 : KR k264 := kn .nil e264
theorem r265 : KR k265 := kn (kc r5 .nil) e265
theorem r266 : KR k266 := kn .nil e266
theorem r267 : KR k267 := kn .nil e267
theorem r268 : KR k268 := kn (kc r267 (kc r266 (kc r265 (kc r264 (kc r263 (kc r52 .nil)))))) e268
theorem r269 : KR k269 := kn (kc r268 (kc r39 (kc r37 .nil))) e269
theorem r270 : KR k270 := kn .nil e270
theorem r271 : KR k271 := kn .nil e271
theorem r272 : KR k272 := kn .nil e272
theorem r273 : KR k273 := kn (kc r5 .nil) e273
theorem r274 : KR k274 := kn (kc r273 .nil) e274
theorem r275 : KR k275 := kn (kc r274 (kc r272 .nil)) e275
theorem r276 : KR k276 := kn (kc r275 (kc r272 (kc r271 (kc r270 (kc r230 (kc r227 (kc r214 (kc r211 (kc r74 (kc r71 (kc r54 (kc r51 .nil)))))))))))) e276
theorem r277 : KR k277 := kn (kc r276 (kc r269 .nil)) e277
theorem r278 : KR k278 := kn (kc r277 (kc r172 .nil)) e278
theorem r279 : KR k279 := kn .nil e279
theorem r280 : KR k280 := kn .nil e280
theorem r281 : KR k281 := kn .nil e281
theorem r282 : KR k282 := kn .nil e282
theorem r283 : KR k283 := kn .nil e283
theorem r284 : KR k284 := kn .nil e284
theorem r285 : KR k285 := kn (kc r284 (kc r283 (kc r282 (kc r281 (kc r280 (kc r252 (kc r250 (kc r248 .nil)))))))) e285
theorem r286 : KR k286 := kn (kc r285 (kc r279 .nil)) e286
theorem r287 : KR k287 := kn (kc r286 (kc r278 (kc r269 (kc r245 (kc r192 .nil))))) e287
theorem r288 : KR k288 := kn (kc r287 .nil) e288
theorem r289 : KR k289 := kn .nil e289
theorem r290 : KR k290 := kn .nil e290
theorem r291 : KR k291 := kn (kc r5 .nil) e291
theorem r292 : KR k292 := kn .nil e292
theorem r293 : KR k293 := kn .nil e293
theorem r294 : KR k294 := kn .nil e294
theorem r295 : KR k295 := kn .nil e295
theorem r296 : KR k296 := kn .nil e296
theorem r297 : KR k297 := kn .nil e297
theorem r298 : KR k298 := kn .nil e298
theorem r299 : KR k299 := kn .nil e299
theorem r300 : KR k300 := kn .nil e300
theorem r301 : KR k301 := kn .nil e301
theorem r302 : KR k302 := kn .nil e302
theorem r303 : KR k303 := kn (kc r5 .nil) e303
theorem r304 : KR k304 := kn .nil e304
theorem r305 : KR k305 := kn (kc r5 .nil) e305
theorem r306 : KR k306 := kn .nil e306
theorem r307 : KR k307 := kn (kc r5 .nil) e307
theorem r308 : KR k308 := kn (kc r307 (kc r306 (kc r305 (kc r304 (kc r303 (kc r302 (kc r301 (kc r300 (kc r299 (kc r298 (kc r297 (kc r296 (kc r295 (kc r294 (kc r293 (kc r292 (kc r291 (kc r290 (kc r289 (kc r72 .nil)))))))))))))))))))) e308
theorem r309 : KR k309 := kn (kc r36 .nil) e309
theorem r310 : KR k310 := kn (kc r36 .nil) e310
theorem r311 : KR k311 := kn (kc r310 (kc r309 (kc r308 (kc r39 (kc r38 (kc r37 .nil)))))) e311
theorem r312 : KR k312 := kn .nil e312
theorem r313 : KR k313 := kn .nil e313
theorem r314 : KR k314 := kn (kc r313 .nil) e314
theorem r315 : KR k315 := kn (kc r314 (kc r312 .nil)) e315
theorem r316 : KR k316 := kn .nil e316
theorem r317 : KR k317 := kn (kc r5 .nil) e317
theorem r318 : KR k318 := kn (kc r317 .nil) e318
theorem r319 : KR k319 := kn (kc r318 (kc r316 .nil)) e319
theorem r320 : KR k320 := kn .nil e320
theorem r321 : KR k321 := kn .nil e321
theorem r322 : KR k322 := kn (kc r321 .nil) e322
theorem r323 : KR k323 := kn (kc r322 (kc r320 .nil)) e323
theorem r324 : KR k324 := kn .nil e324
theorem r325 : KR k325 := kn .nil e325
theorem r326 : KR k326 := kn (kc r325 .nil) e326
theorem r327 : KR k327 := kn (kc r326 (kc r324 .nil)) e327
theorem r328 : KR k328 := kn .nil e328
theorem r329 : KR k329 := kn .nil e329
theorem r330 : KR k330 := kn (kc r329 .nil) e330
theorem r331 : KR k331 := kn (kc r330 (kc r328 .nil)) e331
theorem r332 : KR k332 := kn .nil e332
theorem r333 : KR k333 := kn (kc r5 .nil) e333
theorem r334 : KR k334 := kn (kc r333 .nil) e334
theorem r335 : KR k335 := kn (kc r334 (kc r332 .nil)) e335
theorem r336 : KR k336 := kn (kc r335 (kc r332 (kc r331 (kc r328 (kc r327 (kc r324 (kc r323 (kc r320 (kc r319 (kc r316 (kc r315 (kc r312 (kc r230 (kc r227 (kc r214 (kc r211 (kc r126 (kc r123 (kc r74 (kc r71 (kc r62 (kc r59 (kc r54 (kc r51 .nil)))))))))))))))))))))))) e336
theorem r337 : KR k337 := kn .nil e337
theorem r338 : KR k338 := kn .nil e338
theorem r339 : KR k339 := kn (kc r5 .nil) e339
theorem r340 : KR k340 := kn .nil e340
theorem r341 : KR k341 := kn .nil e341
theorem r342 : KR k342 := kn .nil e342
theorem r343 : KR k343 := kn .nil e343
theorem r344 : KR k344 := kn .nil e344
theorem r345 : KR k345 := kn .nil e345
theorem r346 : KR k346 := kn .nil e346
theorem r347 : KR k347 := kn .nil e347
theorem r348 : KR k348 := kn .nil e348
theorem r349 : KR k349 := kn .nil e349
theorem r350 : KR k350 := kn .nil e350
theorem r351 : KR k351 := kn (kc r5 .nil) e351
theorem r352 : KR k352 := kn .nil e352
theorem r353 : KR k353 := kn (kc r5 .nil) e353
theorem r354 : KR k354 := kn .nil e354
theorem r355 : KR k355 := kn (kc r5 .nil) e355
theorem r356 : KR k356 := kn (kc r355 (kc r354 (kc r353 (kc r352 (kc r351 (kc r350 (kc r349 (kc r348 (kc r347 (kc r346 (kc r345 (kc r344 (kc r343 (kc r342 (kc r341 (kc r340 (kc r339 (kc r338 (kc r337 (kc r72 .nil)))))))))))))))))))) e356
theorem r357 : KR k357 := kn (kc r356 (kc r310 (kc r309 (kc r39 (kc r38 (kc r37 .nil)))))) e357
theorem r358 : KR k358 := kn (kc r357 (kc r336 .nil)) e358
theorem r359 : KR k359 := kn (kc r358 (kc r172 .nil)) e359
theorem r360 : KR k360 := kn (kc r244 (kc r243 (kc r242 .nil))) e360
theorem r361 : KR k361 := kn (kc r244 (kc r243 (kc r242 .nil))) e361
theorem r362 : KR k362 := kn .nil e362
theorem r363 : KR k363 := kn .nil e363
theorem r364 : KR k364 := kn .nil e364
theorem r365 : KR k365 := kn .nil e365
theorem r366 : KR k366 := kn (kc r365 (kc r364 (kc r363 .nil))) e366
theorem r367 : KR k367 := kn .nil e367
theorem r368 : KR k368 := kn .nil e368
theorem r369 : KR k369 := kn .nil e369
theorem r370 : KR k370 := kn (kc r369 (kc r368 (kc r367 .nil))) e370
theorem r371 : KR k371 := kn .nil e371
theorem r372 : KR k372 := kn .nil e372
theorem r373 : KR k373 := kn (kc r372 (kc r371 (kc r365 .nil))) e373
theorem r374 : KR k374 := kn .nil e374
theorem r375 : KR k375 := kn .nil e375
theorem r376 : KR k376 := kn (kc r375 (kc r374 (kc r365 .nil))) e376
theorem r377 : KR k377 := kn .nil e377
theorem r378 : KR k378 := kn .nil e378
theorem r379 : KR k379 := kn (kc r378 (kc r377 (kc r369 .nil))) e379
theorem r380 : KR k380 := kn .nil e380
theorem r381 : KR k381 := kn .nil e381
theorem r382 : KR k382 := kn (kc r381 (kc r380 (kc r365 .nil))) e382
theorem r383 : KR k383 := kn .nil e383
theorem r384 : KR k384 := kn .nil e384
theorem r385 : KR k385 := kn .nil e385
theorem r386 : KR k386 := kn (kc r385 (kc r384 (kc r383 .nil))) e386
theorem r387 : KR k387 := kn .nil e387
theorem r388 : KR k388 := kn .nil e388
theorem r389 : KR k389 := kn .nil e389
theorem r390 : KR k390 := kn (kc r389 (kc r388 (kc r387 .nil))) e390
theorem r391 : KR k391 := kn .nil e391
theorem r392 : KR k392 := kn .nil e392
theorem r393 : KR k393 := kn (kc r392 (kc r391 (kc r385 .nil))) e393
theorem r394 : KR k394 := kn (kc r393 (kc r390 (kc r387 (kc r386 (kc r382 (kc r380 (kc r379 (kc r376 (kc r374 (kc r373 (kc r371 (kc r370 (kc r366 (kc r363 (kc r252 (kc r250 (kc r248 .nil))))))))))))))))) e394
theorem r395 : KR k395 := kn (kc r394 (kc r362 .nil)) e395
theorem r396 : KR k396 := kn (kc r395 (kc r361 (kc r360 (kc r359 (kc r311 (kc r192 .nil)))))) e396
theorem r397 : KR k397 := kn (kc r396 .nil) e397
theorem r398 : KR k398 := kn .nil e398
theorem r399 : KR k399 := kn .nil e399
theorem r400 : KR k400 := kn (kc r5 .nil) e400
theorem r401 : KR k401 := kn (kc r5 .nil) e401
theorem r402 : KR k402 := kn (kc r5 .nil) e402
theorem r403 : KR k403 := kn (kc r5 .nil) e403
theorem r404 : KR k404 := kn .nil e404
theorem r405 : KR k405 := kn (kc r5 .nil) e405
theorem r406 : KR k406 := kn .nil e406
theorem r407 : KR k407 := kn (kc r5 .nil) e407
theorem r408 : KR k408 := kn .nil e408
theorem r409 : KR k409 := kn .nil e409
theorem r410 : KR k410 := kn .nil e410
theorem r411 : KR k411 := kn .nil e411
theorem r412 : KR k412 := kn (kc r5 .nil) e412
theorem r413 : KR k413 := kn .nil e413
theorem r414 : KR k414 := kn (kc r413 (kc r412 (kc r411 (kc r410 (kc r409 (kc r408 (kc r407 (kc r406 (kc r405 (kc r404 (kc r403 (kc r402 (kc r401 (kc r400 (kc r399 (kc r398 .nil)))))))))))))))) e414
theorem r415 : KR k415 := kn (kc r414 (kc r40 (kc r38 (kc r37 .nil)))) e415
theorem r416 : KR k416 := kn .nil e416
theorem r417 : KR k417 := kn .nil e417
theorem r418 : KR k418 := kn (kc r417 .nil) e418
theorem r419 : KR k419 := kn (kc r418 (kc r416 .nil)) e419
theorem r420 : KR k420 := kn .nil e420
theorem r421 : KR k421 := kn .nil e421
theorem r422 : KR k422 := kn (kc r421 .nil) e422
theorem r423 : KR k423 := kn (kc r422 (kc r420 .nil)) e423
theorem r424 : KR k424 := kn .nil e424
theorem r425 : KR k425 := kn .nil e425
theorem r426 : KR k426 := kn (kc r425 (kc r424 (kc r423 (kc r420 (kc r419 (kc r416 (kc r335 (kc r332 (kc r230 (kc r227 (kc r222 (kc r219 (kc r218 (kc r215 (kc r214 (kc r211 (kc r90 (kc r87 (kc r78 (kc r75 (kc r70 (kc r67 (kc r62 (kc r59 (kc r58 (kc r55 (kc r54 (kc r51 .nil)))))))))))))))))))))))))))) e426
theorem r427 : KR k427 := km (kc r426 (kc r415 .nil)) e427
theorem r428 : KR k428 := kn (kc r427 (kc r172 .nil)) e428
theorem r429 : KR k429 := kn .nil e429
theorem r430 : KR k430 := kn .nil e430
theorem r431 : KR k431 := kn .nil e431
theorem r432 : KR k432 := kn .nil e432
theorem r433 : KR k433 := kn (kc r432 (kc r431 (kc r430 (kc r429 .nil)))) e433
theorem r434 : KR k434 := kn .nil e434
theorem r435 : KR k435 := kn (kc r429 .nil) e435
theorem r436 : KR k436 := kn (kc r435 (kc r434 .nil)) e436
theorem r437 : KR k437 := kn (kc r436 (kc r433 (kc r428 (kc r415 (kc r192 .nil))))) e437
theorem r438 : KR k438 := kn .nil e438
theorem r439 : KR k439 := kn .nil e439
theorem r440 : KR k440 := kn .nil e440
theorem r441 : KR k441 := kn .nil e441
theorem r442 : KR k442 := kn (kc r5 .nil) e442
theorem r443 : KR k443 := kn .nil e443
theorem r444 : KR k444 := kn (kc r5 .nil) e444
theorem r445 : KR k445 := kn .nil e445
theorem r446 : KR k446 := kn (kc r5 .nil) e446
theorem r447 : KR k447 := kn .nil e447
theorem r448 : KR k448 := kn (kc r447 (kc r446 (kc r445 (kc r444 (kc r443 (kc r442 (kc r441 (kc r440 (kc r439 (kc r438 (kc r88 .nil))))))))))) e448
theorem r449 : KR k449 := kn (kc r448 (kc r37 .nil)) e449
theorem r450 : KR k450 := kn .nil e450
theorem r451 : KR k451 := kn .nil e451
theorem r452 : KR k452 := kn (kc r451 .nil) e452
theorem r453 : KR k453 := kn (kc r452 (kc r450 .nil)) e453
theorem r454 : KR k454 := kn .nil e454
theorem r455 : KR k455 := kn .nil e455
theorem r456 : KR k456 := kn (kc r455 .nil) e456
theorem r457 : KR k457 := kn (kc r456 (kc r454 .nil)) e457
theorem r458 : KR k458 := kn .nil e458
theorem r459 : KR k459 := kn .nil e459
theorem r460 : KR k460 := kn (kc r459 .nil) e460
theorem r461 : KR k461 := kn (kc r460 (kc r458 .nil)) e461
theorem r462 : KR k462 := kn .nil e462
theorem r463 : KR k463 := kn .nil e463
theorem r464 : KR k464 := kn (kc r463 (kc r462 (kc r461 (kc r458 (kc r457 (kc r454 (kc r453 (kc r450 (kc r271 (kc r270 (kc r90 (kc r87 (kc r70 (kc r67 (kc r58 (kc r55 (kc r54 (kc r51 .nil)))))))))))))))))) e464
theorem r465 : KR k465 := kn (kc r464 (kc r449 .nil)) e465
theorem r466 : KR k466 := kn (kc r465 (kc r172 .nil)) e466
theorem r467 : KR k467 := kn .nil e467
theorem r468 : KR k468 := kn .nil e468
theorem r469 : KR k469 := kn (kc r173 .nil) e469
theorem r470 : KR k470 := kn .nil e470
theorem r471 : KR k471 := kn (kc r470 (kc r469 (kc r175 .nil))) e471
theorem r472 : KR k472 := kn .nil e472
theorem r473 : KR k473 := kn (kc r472 (kc r471 .nil)) e473
theorem r474 : KR k474 := kn (kc r473 (kc r471 (kc r469 (kc r468 (kc r467 .nil))))) e474
theorem r475 : KR k475 := kn (kc r473 (kc r471 (kc r469 (kc r468 (kc r467 .nil))))) e475
theorem r476 : KR k476 := kn (kc r475 (kc r474 .nil)) e476
theorem r477 : KR k477 := kn (kc r476 (kc r466 (kc r449 (kc r192 .nil)))) e477
theorem r478 : KR k478 := kn .nil e478
theorem r479 : KR k479 := kn .nil e479
theorem r480 : KR k480 := kn .nil e480
theorem r481 : KR k481 := kn .nil e481
theorem r482 : KR k482 := kn (kc r5 .nil) e482
theorem r483 : KR k483 := kn .nil e483
theorem r484 : KR k484 := kn (kc r5 .nil) e484
theorem r485 : KR k485 := kn .nil e485
theorem r486 : KR k486 := kn .nil e486
theorem r487 : KR k487 := kn .nil e487
theorem r488 : KR k488 := kn (kc r5 .nil) e488
theorem r489 : KR k489 := kn .nil e489
theorem r490 : KR k490 := kn (kc r489 (kc r488 (kc r487 (kc r486 (kc r485 (kc r484 (kc r483 (kc r482 (kc r481 (kc r480 (kc r479 (kc r478 .nil)))))))))))) e490
theorem r491 : KR k491 := kn (kc r490 (kc r39 (kc r38 (kc r37 .nil)))) e491
theorem r492 : KR k492 := kn .nil e492
theorem r493 : KR k493 := kn .nil e493
theorem r494 : KR k494 := kn (kc r493 .nil) e494
theorem r495 : KR k495 := kn (kc r494 (kc r492 .nil)) e495
theorem r496 : KR k496 := kn .nil e496
theorem r497 : KR k497 := kn .nil e497
theorem r498 : KR k498 := kn (kc r497 .nil) e498
theorem r499 : KR k499 := kn (kc r498 (kc r496 .nil)) e499
theorem r500 : KR k500 := kn .nil e500
theorem r501 : KR k501 := kn (kc r5 .nil) e501
theorem r502 : KR k502 := kn (kc r501 .nil) e502
theorem r503 : KR k503 := kn (kc r502 (kc r500 .nil)) e503
theorem r504 : KR k504 := kn (kc r503 (kc r500 (kc r499 (kc r496 (kc r495 (kc r492 (kc r423 (kc r420 (kc r335 (kc r332 (kc r271 (kc r270 (kc r74 (kc r71 (kc r62 (kc r59 (kc r54 (kc r51 .nil)))))))))))))))))) e504
theorem r505 : KR k505 := kn (kc r504 (kc r491 .nil)) e505
theorem r506 : KR k506 := kn (kc r505 (kc r172 .nil)) e506
theorem r507 : KR k507 := kn .nil e507
theorem r508 : KR k508 := kn .nil e508
theorem r509 : KR k509 := kn (kc r508 (kc r507 (kc r467 (kc r244 .nil)))) e509
theorem r510 : KR k510 := kn .nil e510
theorem r511 : KR k511 := kn .nil e511
theorem r512 : KR k512 := kn (kc r511 (kc r365 (kc r280 .nil))) e512
theorem r513 : KR k513 := kn .nil e513
theorem r514 : KR k514 := kn (kc r513 (kc r385 (kc r282 .nil))) e514
theorem r515 : KR k515 := kn .nil e515
theorem r516 : KR k516 := kn (kc r515 (kc r365 (kc r284 .nil))) e516
theorem r517 : KR k517 := kn .nil e517
theorem r518 : KR k518 := kn (kc r517 (kc r511 (kc r253 .nil))) e518
theorem r519 : KR k519 := kn .nil e519
theorem r520 : KR k520 := kn (kc r519 (kc r515 (kc r255 .nil))) e520
theorem r521 : KR k521 := kn (kc r173 .nil) e521
theorem r522 : KR k522 := kn .nil e522
theorem r523 : KR k523 := kn .nil e523
theorem r524 : KR k524 := kn (kc r523 (kc r522 (kc r521 .nil))) e524
theorem r525 : KR k525 := kn .nil e525
theorem r526 : KR k526 := kn (kc r525 (kc r524 .nil)) e526
theorem r527 : KR k527 := kn (kc r526 (kc r524 (kc r521 (kc r520 (kc r518 (kc r516 (kc r514 (kc r512 (kc r467 (kc r252 (kc r250 (kc r248 (kc r191 (kc r189 (kc r186 (kc r179 (kc r177 (kc r174 .nil)))))))))))))))))) e527
theorem r528 : KR k528 := kq .nil e528
theorem r529 : KR k529 := kn (kc r528 (kc r526 (kc r524 (kc r521 (kc r520 (kc r518 (kc r516 (kc r514 (kc r512 (kc r467 (kc r252 (kc r250 (kc r248 (kc r191 (kc r189 (kc r186 (kc r179 (kc r177 (kc r174 .nil))))))))))))))))))) e529
theorem r530 : KR k530 := kn (kc r529 (kc r527 (kc r510 .nil))) e530
theorem r531 : KR k531 := kn (kc r530 (kc r509 (kc r506 (kc r491 (kc r192 .nil))))) e531
theorem r532 : KR k532 := kn .nil e532
theorem r533 : KR k533 := kn .nil e533
theorem r534 : KR k534 := kn .nil e534
theorem r535 : KR k535 := kn .nil e535
theorem r536 : KR k536 := kn .nil e536
theorem r537 : KR k537 := kn .nil e537
theorem r538 : KR k538 := kn (kc r5 .nil) e538
theorem r539 : KR k539 := kn .nil e539
theorem r540 : KR k540 := kn .nil e540
theorem r541 : KR k541 := kn .nil e541
theorem r542 : KR k542 := kn .nil e542
theorem r543 : KR k543 := kn .nil e543
theorem r544 : KR k544 := kn (kc r543 (kc r542 (kc r541 (kc r540 (kc r539 (kc r538 (kc r537 (kc r536 (kc r535 (kc r534 (kc r533 (kc r532 .nil)))))))))))) e544
theorem r545 : KR k545 := kn (kc r544 (kc r39 (kc r38 (kc r37 .nil)))) e545
theorem r546 : KR k546 := kn .nil e546
theorem r547 : KR k547 := kn .nil e547
theorem r548 : KR k548 := kn (kc r547 .nil) e548
theorem r549 : KR k549 := kn (kc r548 (kc r546 .nil)) e549
theorem r550 : KR k550 := kn .nil e550
theorem r551 : KR k551 := kn (kc r543 .nil) e551
theorem r552 : KR k552 := kn (kc r551 (kc r550 .nil)) e552
theorem r553 : KR k553 := kn (kc r552 (kc r550 (kc r549 (kc r546 (kc r423 (kc r420 (kc r335 (kc r332 (kc r271 (kc r270 (kc r238 (kc r235 (kc r230 (kc r227 (kc r214 (kc r211 (kc r74 (kc r71 (kc r62 (kc r59 (kc r54 (kc r51 .nil)))))))))))))))))))))) e553
theorem r554 : KR k554 := kn (kc r553 (kc r545 .nil)) e554
theorem r555 : KR k555 := kn (kc r554 (kc r172 .nil)) e555
theorem r556 : KR k556 := kn .nil e556
theorem r557 : KR k557 := kn .nil e557
theorem r558 : KR k558 := kn .nil e558
theorem r559 : KR k559 := kn (kc r558 (kc r557 (kc r556 (kc r467 .nil)))) e559
theorem r560 : KR k560 := kn .nil e560
theorem r561 : KR k561 := kn (kc r511 (kc r365 (kc r253 .nil))) e561
theorem r562 : KR k562 := kn (kc r513 (kc r365 (kc r254 .nil))) e562
theorem r563 : KR k563 := kn (kc r562 (kc r561 (kc r467 (kc r282 (kc r280 (kc r250 (kc r248 .nil))))))) e563
theorem r564 : KR k564 := kn (kc r563 (kc r560 .nil)) e564
theorem r565 : KR k565 := kn (kc r564 (kc r559 (kc r555 (kc r545 (kc r192 .nil))))) e565
theorem r566 : KR k566 := kn (kc r565 .nil) e566
theorem r567 : KR k567 := kn .nil e567
theorem r568 : KR k568 := kn .nil e568
theorem r569 : KR k569 := kn (kc r5 .nil) e569
theorem r570 : KR k570 := kn .nil e570
theorem r571 : KR k571 := kn .nil e571
theorem r572 : KR k572 := kn .nil e572
theorem r573 : KR k573 := kn .nil e573
theorem r574 : KR k574 := kn .nil e574
theorem r575 : KR k575 := kn (kc r5 .nil) e575
theorem r576 : KR k576 := kn .nil e576
theorem r577 : KR k577 := kn (kc r576 (kc r575 (kc r574 (kc r573 (kc r572 (kc r571 (kc r570 (kc r569 (kc r568 (kc r567 .nil)))))))))) e577
theorem r578 : KR k578 := kn (kc r577 (kc r40 (kc r39 (kc r38 (kc r37 .nil))))) e578
theorem r579 : KR k579 := kn .nil e579
theorem r580 : KR k580 := kn .nil e580
theorem r581 : KR k581 := kn (kc r580 (kc r579 (kc r423 (kc r420 (kc r335 (kc r332 (kc r230 (kc r227 (kc r214 (kc r211 (kc r78 (kc r75 (kc r74 (kc r71 (kc r70 (kc r67 (kc r62 (kc r59 (kc r54 (kc r51 .nil)))))))))))))))))))) e581
theorem r582 : KR k582 := kn (kc r581 (kc r578 .nil)) e582
theorem r583 : KR k583 := kn (kc r582 (kc r172 .nil)) e583
theorem r584 : KR k584 := kn .nil e584
theorem r585 : KR k585 := kn .nil e585
theorem r586 : KR k586 := kn .nil e586
theorem r587 : KR k587 := kn (kc r586 (kc r585 (kc r584 (kc r176 .nil)))) e587
theorem r588 : KR k588 := kn .nil e588
theorem r589 : KR k589 := kn .nil e589
theorem r590 : KR k590 := kn (kc r589 (kc r178 (kc r175 (kc r173 .nil)))) e590
theorem r591 : KR k591 := kn .nil e591
theorem r592 : KR k592 := kn (kc r591 (kc r190 (kc r187 (kc r173 .nil)))) e592
theorem r593 : KR k593 := kn (kc r592 (kc r590 .nil)) e593
theorem r594 : KR k594 := kn .nil e594
theorem r595 : KR k595 := kn .nil e595
theorem r596 : KR k596 := kn (kc r595 (kc r594 (kc r256 .nil))) e596
theorem r597 : KR k597 := kn .nil e597
theorem r598 : KR k598 := kn (kc r597 (kc r595 (kc r258 .nil))) e598
theorem r599 : KR k599 := kn (kc r598 (kc r596 (kc r592 (kc r590 (kc r584 (kc r284 (kc r280 (kc r255 (kc r253 (kc r252 (kc r248 .nil))))))))))) e599
theorem r600 : KR k600 := kn (kc r599 (kc r593 (kc r588 .nil))) e600
theorem r601 : KR k601 := kn (kc r600 (kc r587 (kc r583 (kc r578 (kc r192 .nil))))) e601
theorem r602 : KR k602 := kn (kc r601 .nil) e602
end Go.Proofs.YtncdiipfnmdgpaaGreatDoor
namespace Go.Proofs.YtncdiipfnmdgpaaGreatDoor
open Ab
set_option maxRecDepth 1000000
attribute [local irreducible] lvm
def hints : List Hint := []
theorem run : (lvm Tryz.prog tabs tabsD [k602,k566,k531,k477,k437,k397,k288,k262] hints 600).1.call 4 [] ⟨0,[]⟩ (fun r _ => r = .ret (.bool true)) :=
  Eq.mpr (show _ = mapsP (AEnd.ret (SV.bool true) = AEnd.ret (SV.bool true)) [] by kernel_rfl) (mapsP_ok rfl _)
theorem any : PCall Tryz.prog 4 [] (.bool true) := pcall_lvm (P := Tryz.prog) (L := [k602,k566,k531,k477,k437,k397,k288,k262]) hints mixed tabsOk tabsDOk (.cons r602 (.cons r566 (.cons r531 (.cons r477 (.cons r437 (.cons r397 (.cons r288 (.cons r262 (.nil))))))))) 600 (f := 4) (args := []) (v := .bool true) (fun _ h => by simp at h) (.bool _) run
end Go.Proofs.YtncdiipfnmdgpaaGreatDoor
namespace Go.Proofs.YtncdiipfnmdgpaaGreatDoor.execNames
open Go.ChangeShapes Go.WideShapes Go.ChangeAt Go.RowKit
set_option linter.unusedVariables false

theorem own : ownKnob Tryz.prog.godebug = none := by kernel_rfl
theorem laidOut : laidOutB Tryz.prog = true := by kernel_rfl
theorem globs {W : World} (hL : laidMetH Tryz.prog Rows.execNamesRow.laid W) : Ab.GlobOk (fun b => b < W.heap.size) W := by
  refine Ab.globOk_of fun g hne => ?_
  unfold Ab.globTab at hne
  split at hne
  · obtain ⟨C, ty, fz, h1, h2, h3⟩ := Ab.table_laid hL (n := "unicode/utf8.first") (l := Ab.globTab 1) (List.mem_of_getElem? (i := 9) (by kernel_rfl)) (g := 1) (t := 257) (el := 5) (m := 256) (k := .u8) (by kernel_rfl) (by kernel_rfl) (by kernel_rfl) (by kernel_rfl) (by kernel_rfl) (by kernel_rfl)
    exact ⟨(Array.getElem?_eq_some_iff.1 h1).1, C, ty, fz, h1, h2, h3⟩
  · obtain ⟨C, ty, fz, h1, h2, h3⟩ := Ab.table_laid hL (n := "strings.asciiSpace") (l := Ab.globTab 3) (List.mem_of_getElem? (i := 7) (by kernel_rfl)) (g := 3) (t := 257) (el := 5) (m := 256) (k := .u8) (by kernel_rfl) (by kernel_rfl) (by kernel_rfl) (by kernel_rfl) (by kernel_rfl) (by kernel_rfl)
    exact ⟨(Array.getElem?_eq_some_iff.1 h1).1, C, ty, fz, h1, h2, h3⟩
  · exact absurd rfl hne

set_option maxRecDepth 100000 in
theorem lifted (os : Os) (started : os.Started) (H : Type) (enc : TypeId × Value → H) :
    ReturnsInHanded {} Tryz.checked os 4 .any (fun w args => (Rows.execNamesSpec.pre enc Tryz.prog Tryz.f4 Rows.execNamesRow.domain false w args ∧ laidMetH Tryz.prog Rows.execNamesRow.laid w) ∧ sizedMet enc Tryz.prog Tryz.f4 (OpenSpec.ofChange Rows.execNamesSpec) false w args)
      (Rows.execNamesSpec.post enc Tryz.prog Tryz.f4 false true false false) := by
  refine returnsInHanded_of_change_and (C := Tryz.checked) (X := fun w _ => laidMetH Tryz.prog Rows.execNamesRow.laid w) (fun _ _ _ hh h => h.of_heap hh) own started (by kernel_rfl) Tryz.func4
    (ChangeSpec.witness_shaped (enc := enc) (C := Tryz.checked) (os := os) (X := fun w _ => laidMetH Tryz.prog Rows.execNamesRow.laid w) false (World.laidAll Tryz.prog os Rows.execNamesRow.laid) #[] 8 (World.laidAll_os _ _ _)
      (World.shaped_of_ZipB (by kernel_rfl) (by kernel_rfl)) (by kernel_rfl) (by kernel_rfl) (by kernel_rfl)
      (by rw [MakeChecks.laidMetH_plain _ _ _ (by kernel_rfl)]; exact laidMet_laidAll _ (by kernel_rfl) (by kernel_rfl))) ?_
  intro W base args ds gs before hval0 hW hc _ hL _
  have hW' := hW
  obtain ⟨p, q, hA0, hV, rfl, _, _⟩ := hW
  have hA : DataW.TrodAll enc Tryz.prog W 0 (fun _ => true) true Tryz.f4.params.toList args.toList ds p := hA0
  rw [Tryz.params4] at hA
  obtain ⟨hargs, rfl, rfl⟩ := trodAll_nil hA
  obtain rfl : args = #[] := by cases args; simp_all
  obtain ⟨rfl, rfl⟩ := trodVars_none hV
  simp only [List.append_nil] at hW'
  refine (Ab.PCall.holds any (fun b => b < W.heap.size) (fun _ h => h) (globs hL) rfl fun i u x hu hx => ?_).mono fun e W' ⟨he, hg⟩ => ?_
  · simp at hu
  · subst he
    exact ⟨_, rfl, Ab.post_kept (pa := []) (pv := []) hW' (fun _ _ _ => (trodAll_cons_mk (shut_bool Tryz.underlying4 _) trodAll_mk0)) trodAll_mk0 rfl hg⟩

theorem over : Rows.execNamesRow.holds Tryz.pinned (OpenSpec.ofChange Rows.execNamesSpec) :=
  OpenClaim.holds_of_wide 4 Tryz.f4 rfl rfl rfl rfl rfl rfl rfl ⟨rfl, rfl, rfl, rfl, rfl⟩ rfl rfl rfl rfl rfl (by kernel_rfl) Tryz.func4 facts
    (of_decide_eq_true (by kernel_rfl)) (by unfold Func.isWrapper; first | (rw [if_pos (by decide +kernel)]; kernel_rfl) | (rw [if_neg (by decide +kernel)]; exact ⟨rfl, rfl⟩))
    (fun os started H enc _ => lifted os started H enc)

theorem pw : Rows.execNamesRow.wfByText (OpenSpec.ofChange Rows.execNamesSpec) = true := by kernel_rfl
theorem pm : Tryz.pinned.checked.prog.mainIs = some (true, "c8956919990786a2d365aa6b1818f9db79d5bf861ba1057c0b7d724b3472a802".toList) := by kernel_rfl
theorem pf : Tryz.prog.funcNamed "stagepost/stagepostlaw18.ExecNames" = some 4 := by kernel_rfl
theorem pl : true = Tryz.pinned.checked.prog.looks [] := by kernel_rfl
theorem pg : false = Rows.execNamesRow.goesBy Tryz.pinned.checked.prog := by kernel_rfl

/-- The statement. -/
theorem proved : Rows.ExecNamesCardSaid :=
  Claim7.holds_tied_plain_at .later [] [.data, .data, .data, .data, .sentinel, .sentinel, .listed, .data, .pinned, .pinned] true (true, "c8956919990786a2d365aa6b1818f9db79d5bf861ba1057c0b7d724b3472a802") true over (fun _ h => by cases h) pw (fun _ h => by cases h) execNames_row_tie rfl ⟨rfl, rfl⟩ pm rfl
    (fun f fn hf hfn => by
      obtain rfl : f = 4 := Option.some.inj (pf.symm.trans hf) |>.symm
      obtain rfl : fn = Tryz.f4 := (Option.some.inj (Tryz.func4.symm.trans hfn)).symm
      exact ⟨pl, fun j t ht => by
        rw [Tryz.params4] at ht
        simp at ht⟩)
    pg
#print axioms proved
end Go.Proofs.YtncdiipfnmdgpaaGreatDoor.execNames
