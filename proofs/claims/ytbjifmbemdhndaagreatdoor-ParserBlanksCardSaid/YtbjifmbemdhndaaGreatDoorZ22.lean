/- Parts of the proof of PParserBlanks, one behind the other, with short names. -/
import Derived.Test.YtbjifmbemdhndaaGreatDoorZ21
import Derived.Below
import Derived.Sort.Grow
import Derived.Test.YtbjifmbemdhndaaGreatDoorProg
import Derived.Shelf.Unicode.DecodeAny
import Derived.Shelf.Unicode.ValidAny
import Derived.Shelf.Strings.OnBuilder
import Derived.Shelf.Pu.ParseUintPublic10
import Derived.Shelf.Strconv.Itoa1
import Derived.Shelf.Strconv.Itoa2
set_option linter.unusedVariables false
set_option linter.unusedSimpArgs false
namespace Ab
open Go Go.RowKit
theorem kF{P:Program}{f:FuncId}{args:List SV}{v:SV}(hargs: ∀a∈args,bJ a)(hl:bJ v)
  (hc: ∀(Im:Nat->Prop) (w:World) (xs:Array Value),iz Im w->(∀ b,Im b->b<w.heap.size)->xs.size=args.length->(∀ (i:Nat) (u:SV) (x:Value),args[i]? =some u->xs[i]? =some x->VP Im w u x)->
   Calls P f xs w fun e w'=>(∃ x,e= .returned x/\VP Im w' v x)/\Below w.heap.size w w'):aj P f args v:=by
 refine bQ hargs ⟨fun c w xs hr hs hv=> ?_⟩;refine(hc c.Im w xs hr.dY hr.im hs fun i u x a b=>(hargs _ (List.mem_of_getElem? a)).vp (hv i u x a b)).mono fun e w' ⟨⟨x,he,hx⟩,hb⟩=> ?_
 have hh: ∀b,c.Im b->w'.heap[b]? =w.heap[b]? :=fun b h=>hb.block b (hr.im b h)
 refine⟨c,⟨0,[]⟩,.ret v,⟨v,rfl,.lit hl⟩,⟨(fun i o ho=>by cases ho),(fun i o ho=>by cases ho),(fun i j o p ho=>by cases ho),(fun i o ho=>by cases ho),fun b h=>Nat.lt_of_lt_of_le (hr.im b h) hb.size,hr.dY.mono (fun _ h=>h) hh⟩,
  ⟨hb.os,hb.tape,hb.output,hb.size,fun b h _=>hb.block b h,fun b h=> ?_,fun _ h=>h,fun _ h=> .inl h,Nat.le_refl _,(fun i o' _ ho=>by cases ho),fun i o' ho=>by cases ho⟩,x,he,.pure hx⟩
 unfold World.shape?;rw[hb.block b h]
theorem VP.pM{Im:Nat->Prop}{w:World}{s:List UInt8}{x:Value}(h:VP Im w (.str s) x):x= .string ⟨s.toArray⟩:=by cases h;rfl
theorem VP.pN{Im:Nat->Prop}{w:World}{k:IntKind}{n:Int}{x:Value}(h:VP Im w (.int k n) x):x= .int k n:=by cases h;rfl
theorem iz.Dw{Im:Nat->Prop}{w:World}(h:iz Im w){g:Nat}(hne:eI g≠[]): ∃C ty fz,w.heap[g]? =some (.cells C ty fz)/\C=((eI g).map fun p=>Value.int p.1 p.2).toArray:=by
 obtain⟨_,C,ty,fz,h1,h2,h3⟩:=h.1 g (.agg ((eI g).map fun p=> .int p.1 p.2)) (by unfold s5;split;exact absurd (by assumption) hne;rfl);refine⟨C,ty,fz,h1,?_⟩;simp only[SV.cells,List.length_map]at h2;apply Array.ext
 ·simpa using h2.symm
 ·intro i a b
  have hi:i<(eI g).length:=by omega
  have:=h3 i (.int ((eI g)[i]).1 ((eI g)[i]).2) C[i] (by simp[SV.cells,hi]) (by simp);rw[VP.pN this];simp
theorem iz.cell{Im:Nat->Prop}{w:World}(h:iz Im w){g j:Nat}{p:IntKind×Int}(hj:(eI g)[j]? =some p):w.cell? ⟨g,j,none⟩=some (.int p.1 p.2):=by
 obtain⟨C,ty,fz,h1,rfl⟩:=h.Dw (g:=g) (by rintro h0;rw[h0]at hj;simp at hj);unfold World.cell?;rw[h1];simp[hj]
theorem args1{Im:Nat->Prop}{w:World}{xs:Array Value}{a:SV}{x:Value}(hs:xs.size=1)(hv: ∀(i:Nat) (u:SV) (y:Value),[a][i]? =some u->xs[i]? =some y->VP Im w u y)(ha: ∀y,VP Im w a y->y=x):xs= #[x]:=by
 apply Array.ext
 ·simpa using hs
 ·intro i h1 h2
  obtain rfl:i=0:=by simp at h2;omega
  exact ha _ (hv 0 a _ rfl (by simp[h1]))
theorem args2{Im:Nat->Prop}{w:World}{xs:Array Value}{a b:SV}{x y:Value}(hs:xs.size=2)(hv: ∀(i:Nat) (u:SV) (y:Value),[a,b][i]? =some u->xs[i]? =some y->VP Im w u y)(ha: ∀z,VP Im w a z->z=x)(hb: ∀z,VP Im w b z->z=y):xs= #[x,y]:=by
 apply Array.ext
 ·simpa using hs
 ·intro i h1 h2
  rcases i with _|_|i
  ·exact ha _ (hv 0 a _ rfl (by simp[h1]))
  ·exact hb _ (hv 1 b _ rfl (by simp[h1]))
  ·exfalso;simp at h2;omega
theorem LU{Im:Nat->Prop}{w:World}{xs:Array Value}{a b c:SV}{x y z:Value}(hs:xs.size=3)(hv: ∀(i:Nat) (u:SV) (y:Value),[a,b,c][i]? =some u->xs[i]? =some y->VP Im w u y)(ha: ∀z,VP Im w a z->z=x)(hb: ∀z,VP Im w b z->z=y)(hc: ∀u,VP Im w c u->u=z):xs= #[x,y,z]:=by
 apply Array.ext
 ·simpa using hs
 ·intro i h1 h2
  rcases i with _|_|_|i
  ·exact ha _ (hv 0 a _ rfl (by simp[h1]))
  ·exact hb _ (hv 1 b _ rfl (by simp[h1]))
  ·exact hc _ (hv 2 c _ rfl (by simp[h1]))
  ·exfalso;simp at h2;omega
end Ab
namespace Go.Proofs
open Go.Shelf
def Tryz.Bz:Go.Shelf.Ren:=⟨fun|197=>91|260=>147|n=>n,fun|9=>9|21=>21|3=>3|4=>4|5=>5|105=>137|119=>181|0=>0|46=>185|139=>184|138=>183|n=>n,fun|3=>1|4=>2|n=>n⟩
theorem Tryz.Kq:Go.Proofs.Lays.n197 Tryz.prog Tryz.Bz:={
 mixed:=by kernel_rfl
 f197:=Tryz.func91.trans (congrArg some (by kernel_rfl))
 f260:=Tryz.func147.trans (congrArg some (by kernel_rfl))
 t0:=Tryz.underlying0
 a0:=Tryz.isAgg0
 z0:=Tryz.sizeOf0
 v0:=Tryz.zeroValue0
 t3:=Tryz.underlying3
 a3:=Tryz.isAgg3
 z3:=Tryz.sizeOf3
 v3:=Tryz.zeroValue3
 t4:=Tryz.underlying4
 a4:=Tryz.isAgg4
 z4:=Tryz.sizeOf4
 v4:=Tryz.zeroValue4
 t5:=Tryz.underlying5
 a5:=Tryz.isAgg5
 z5:=Tryz.sizeOf5
 v5:=Tryz.zeroValue5
 t9:=Tryz.underlying9
 a9:=Tryz.isAgg9
 z9:=Tryz.sizeOf9
 v9:=Tryz.zeroValue9
 t21:=Tryz.underlying21
 a21:=Tryz.isAgg21
 z21:=Tryz.sizeOf21
 v21:=Tryz.zeroValue21
 t46:=Tryz.underlying185
 a46:=Tryz.isAgg185
 z46:=Tryz.sizeOf185
 v46:=Tryz.zeroValue185
 t105:=Tryz.underlying137
 a105:=Tryz.isAgg137
 z105:=Tryz.sizeOf137
 v105:=Tryz.zeroValue137
 t119:=Tryz.underlying181
 a119:=Tryz.isAgg181
 z119:=Tryz.sizeOf181
 t138:=Tryz.underlying183
 a138:=Tryz.isAgg183
 z138:=Tryz.sizeOf183
 v138:=Tryz.zeroValue183
 t139:=Tryz.underlying184
 a139:=Tryz.isAgg184
 z139:=Tryz.sizeOf184
 v139:=Tryz.zeroValue184
 g3:=by kernel_rfl
 g4:=by kernel_rfl}
def Tryz.uB:Go.Shelf.Ren:=⟨fun|159=>126|165=>31|166=>32|167=>33|169=>34|230=>35|204=>172|240=>89|241=>90|197=>91|118=>92|168=>93|270=>94|262=>95|276=>145|277=>146|260=>147|242=>148|313=>149|278=>180|274=>181|275=>182|n=>n,fun|9=>9|4=>4|3=>3|5=>5|72=>84|0=>0|76=>88|75=>87|107=>93|70=>81|20=>20|37=>82|127=>136|21=>21|105=>137|164=>170|162=>176|203=>174|119=>181|46=>185|139=>184|138=>183|51=>191|160=>192|208=>224|206=>222|80=>91|n=>n,fun|13=>0|3=>1|4=>2|n=>n⟩
theorem Tryz.Kr:Go.Proofs.Lays.n159 Tryz.prog Tryz.uB:={
 mixed:=by kernel_rfl
 f118:=Tryz.func92.trans (congrArg some (by kernel_rfl))
 f159:=Tryz.func126.trans (congrArg some (by kernel_rfl))
 f165:=Tryz.func31.trans (congrArg some (by kernel_rfl))
 f166:=Tryz.func32.trans (congrArg some (by kernel_rfl))
 f167:=Tryz.func33.trans (congrArg some (by kernel_rfl))
 f168:=Tryz.func93.trans (congrArg some (by kernel_rfl))
 f169:=Tryz.func34.trans (congrArg some (by kernel_rfl))
 f197:=Tryz.func91.trans (congrArg some (by kernel_rfl))
 f204:=Tryz.func172.trans (congrArg some (by kernel_rfl))
 f230:=Tryz.func35.trans (congrArg some (by kernel_rfl))
 f240:=Tryz.func89.trans (congrArg some (by kernel_rfl))
 f241:=Tryz.func90.trans (congrArg some (by kernel_rfl))
 f242:=Tryz.func148.trans (congrArg some (by kernel_rfl))
 f260:=Tryz.func147.trans (congrArg some (by kernel_rfl))
 f262:=Tryz.func95.trans (congrArg some (by kernel_rfl))
 f270:=Tryz.func94.trans (congrArg some (by kernel_rfl))
 f274:=Tryz.func181.trans (congrArg some (by kernel_rfl))
 f275:=Tryz.func182.trans (congrArg some (by kernel_rfl))
 f276:=Tryz.func145.trans (congrArg some (by kernel_rfl))
 f277:=Tryz.func146.trans (congrArg some (by kernel_rfl))
 f278:=Tryz.func180.trans (congrArg some (by kernel_rfl))
 f313:=Tryz.func149.trans (congrArg some (by kernel_rfl))
 t0:=Tryz.underlying0
 a0:=Tryz.isAgg0
 z0:=Tryz.sizeOf0
 v0:=Tryz.zeroValue0
 t3:=Tryz.underlying3
 a3:=Tryz.isAgg3
 z3:=Tryz.sizeOf3
 v3:=Tryz.zeroValue3
 t4:=Tryz.underlying4
 a4:=Tryz.isAgg4
 z4:=Tryz.sizeOf4
 v4:=Tryz.zeroValue4
 t5:=Tryz.underlying5
 a5:=Tryz.isAgg5
 z5:=Tryz.sizeOf5
 v5:=Tryz.zeroValue5
 t9:=Tryz.underlying9
 a9:=Tryz.isAgg9
 z9:=Tryz.sizeOf9
 v9:=Tryz.zeroValue9
 t20:=Tryz.underlying20
 a20:=Tryz.isAgg20
 z20:=Tryz.sizeOf20
 v20:=Tryz.zeroValue20
 t21:=Tryz.underlying21
 a21:=Tryz.isAgg21
 z21:=Tryz.sizeOf21
 v21:=Tryz.zeroValue21
 t37:=Tryz.underlying82
 a37:=Tryz.isAgg82
 z37:=Tryz.sizeOf82
 v37:=Tryz.zeroValue82
 t46:=Tryz.underlying185
 a46:=Tryz.isAgg185
 z46:=Tryz.sizeOf185
 v46:=Tryz.zeroValue185
 t51:=Tryz.underlying191
 a51:=Tryz.isAgg191
 z51:=Tryz.sizeOf191
 v51:=Tryz.zeroValue191
 t70:=Tryz.underlying81
 a70:=Tryz.isAgg81
 z70:=Tryz.sizeOf81
 v70:=Tryz.zeroValue81
 t72:=Tryz.underlying84
 a72:=Tryz.isAgg84
 z72:=Tryz.sizeOf84
 v72:=Tryz.zeroValue84
 t75:=Tryz.underlying87
 a75:=Tryz.isAgg87
 z75:=Tryz.sizeOf87
 v75:=Tryz.zeroValue87
 t76:=Tryz.underlying88
 a76:=Tryz.isAgg88
 z76:=Tryz.sizeOf88
 v76:=Tryz.zeroValue88
 t105:=Tryz.underlying137
 a105:=Tryz.isAgg137
 z105:=Tryz.sizeOf137
 v105:=Tryz.zeroValue137
 t107:=Tryz.underlying93
 a107:=Tryz.isAgg93
 z107:=Tryz.sizeOf93
 v107:=Tryz.zeroValue93
 t119:=Tryz.underlying181
 a119:=Tryz.isAgg181
 z119:=Tryz.sizeOf181
 t127:=Tryz.underlying136
 a127:=Tryz.isAgg136
 z127:=Tryz.sizeOf136
 v127:=Tryz.zeroValue136
 t138:=Tryz.underlying183
 a138:=Tryz.isAgg183
 z138:=Tryz.sizeOf183
 v138:=Tryz.zeroValue183
 t139:=Tryz.underlying184
 a139:=Tryz.isAgg184
 z139:=Tryz.sizeOf184
 v139:=Tryz.zeroValue184
 t160:=Tryz.underlying192
 a160:=Tryz.isAgg192
 z160:=Tryz.sizeOf192
 v160:=Tryz.zeroValue192
 t162:=Tryz.underlying176
 a162:=Tryz.isAgg176
 z162:=Tryz.sizeOf176
 v162:=Tryz.zeroValue176
 t164:=Tryz.underlying170
 a164:=Tryz.isAgg170
 z164:=Tryz.sizeOf170
 v164:=Tryz.zeroValue170
 t203:=Tryz.underlying174
 a203:=Tryz.isAgg174
 z203:=Tryz.sizeOf174
 v203:=Tryz.zeroValue174
 t206:=Tryz.underlying222
 a206:=Tryz.isAgg222
 z206:=Tryz.sizeOf222
 v206:=Tryz.zeroValue222
 t208:=Tryz.underlying224
 a208:=Tryz.isAgg224
 z208:=Tryz.sizeOf224
 v208:=Tryz.zeroValue224
 g3:=by kernel_rfl
 g4:=by kernel_rfl
 g13:=by kernel_rfl}
def Tryz.uC:Go.Shelf.Ren:=⟨fun|158=>11|165=>31|166=>32|167=>33|169=>34|230=>35|203=>36|240=>89|241=>90|197=>91|118=>92|168=>93|270=>94|262=>95|276=>145|277=>146|260=>147|242=>148|313=>149|278=>180|274=>181|275=>182|n=>n,fun|9=>9|4=>4|3=>3|5=>5|72=>84|0=>0|76=>88|75=>87|107=>93|70=>81|20=>20|37=>82|127=>136|21=>21|105=>137|164=>170|162=>176|203=>174|119=>181|46=>185|139=>184|138=>183|51=>191|160=>192|208=>224|206=>222|80=>91|n=>n,fun|13=>0|3=>1|4=>2|n=>n⟩
theorem Tryz.Ks:Go.Proofs.Lays.n158 Tryz.prog Tryz.uC:={
 mixed:=by kernel_rfl
 f118:=Tryz.func92.trans (congrArg some (by kernel_rfl))
 f158:=Tryz.func11.trans (congrArg some (by kernel_rfl))
 f165:=Tryz.func31.trans (congrArg some (by kernel_rfl))
 f166:=Tryz.func32.trans (congrArg some (by kernel_rfl))
 f167:=Tryz.func33.trans (congrArg some (by kernel_rfl))
 f168:=Tryz.func93.trans (congrArg some (by kernel_rfl))
 f169:=Tryz.func34.trans (congrArg some (by kernel_rfl))
 f197:=Tryz.func91.trans (congrArg some (by kernel_rfl))
 f203:=Tryz.func36.trans (congrArg some (by kernel_rfl))
 f230:=Tryz.func35.trans (congrArg some (by kernel_rfl))
 f240:=Tryz.func89.trans (congrArg some (by kernel_rfl))
 f241:=Tryz.func90.trans (congrArg some (by kernel_rfl))
 f242:=Tryz.func148.trans (congrArg some (by kernel_rfl))
 f260:=Tryz.func147.trans (congrArg some (by kernel_rfl))
 f262:=Tryz.func95.trans (congrArg some (by kernel_rfl))
 f270:=Tryz.func94.trans (congrArg some (by kernel_rfl))
 f274:=Tryz.func181.trans (congrArg some (by kernel_rfl))
 f275:=Tryz.func182.trans (congrArg some (by kernel_rfl))
 f276:=Tryz.func145.trans (congrArg some (by kernel_rfl))
 f277:=Tryz.func146.trans (congrArg some (by kernel_rfl))
 f278:=Tryz.func180.trans (congrArg some (by kernel_rfl))
 f313:=Tryz.func149.trans (congrArg some (by kernel_rfl))
 t0:=Tryz.underlying0
 a0:=Tryz.isAgg0
 z0:=Tryz.sizeOf0
 v0:=Tryz.zeroValue0
 t3:=Tryz.underlying3
 a3:=Tryz.isAgg3
 z3:=Tryz.sizeOf3
 v3:=Tryz.zeroValue3
 t4:=Tryz.underlying4
 a4:=Tryz.isAgg4
 z4:=Tryz.sizeOf4
 v4:=Tryz.zeroValue4
 t5:=Tryz.underlying5
 a5:=Tryz.isAgg5
 z5:=Tryz.sizeOf5
 v5:=Tryz.zeroValue5
 t9:=Tryz.underlying9
 a9:=Tryz.isAgg9
 z9:=Tryz.sizeOf9
 v9:=Tryz.zeroValue9
 t20:=Tryz.underlying20
 a20:=Tryz.isAgg20
 z20:=Tryz.sizeOf20
 v20:=Tryz.zeroValue20
 t21:=Tryz.underlying21
 a21:=Tryz.isAgg21
 z21:=Tryz.sizeOf21
 v21:=Tryz.zeroValue21
 t37:=Tryz.underlying82
 a37:=Tryz.isAgg82
 z37:=Tryz.sizeOf82
 v37:=Tryz.zeroValue82
 t46:=Tryz.underlying185
 a46:=Tryz.isAgg185
 z46:=Tryz.sizeOf185
 v46:=Tryz.zeroValue185
 t51:=Tryz.underlying191
 a51:=Tryz.isAgg191
 z51:=Tryz.sizeOf191
 v51:=Tryz.zeroValue191
 t70:=Tryz.underlying81
 a70:=Tryz.isAgg81
 z70:=Tryz.sizeOf81
 v70:=Tryz.zeroValue81
 t72:=Tryz.underlying84
 a72:=Tryz.isAgg84
 z72:=Tryz.sizeOf84
 v72:=Tryz.zeroValue84
 t75:=Tryz.underlying87
 a75:=Tryz.isAgg87
 z75:=Tryz.sizeOf87
 v75:=Tryz.zeroValue87
 t76:=Tryz.underlying88
 a76:=Tryz.isAgg88
 z76:=Tryz.sizeOf88
 v76:=Tryz.zeroValue88
 t105:=Tryz.underlying137
 a105:=Tryz.isAgg137
 z105:=Tryz.sizeOf137
 v105:=Tryz.zeroValue137
 t107:=Tryz.underlying93
 a107:=Tryz.isAgg93
 z107:=Tryz.sizeOf93
 v107:=Tryz.zeroValue93
 t119:=Tryz.underlying181
 a119:=Tryz.isAgg181
 z119:=Tryz.sizeOf181
 t127:=Tryz.underlying136
 a127:=Tryz.isAgg136
 z127:=Tryz.sizeOf136
 v127:=Tryz.zeroValue136
 t138:=Tryz.underlying183
 a138:=Tryz.isAgg183
 z138:=Tryz.sizeOf183
 v138:=Tryz.zeroValue183
 t139:=Tryz.underlying184
 a139:=Tryz.isAgg184
 z139:=Tryz.sizeOf184
 v139:=Tryz.zeroValue184
 t160:=Tryz.underlying192
 a160:=Tryz.isAgg192
 z160:=Tryz.sizeOf192
 v160:=Tryz.zeroValue192
 t162:=Tryz.underlying176
 a162:=Tryz.isAgg176
 z162:=Tryz.sizeOf176
 v162:=Tryz.zeroValue176
 t164:=Tryz.underlying170
 a164:=Tryz.isAgg170
 z164:=Tryz.sizeOf170
 v164:=Tryz.zeroValue170
 t203:=Tryz.underlying174
 a203:=Tryz.isAgg174
 z203:=Tryz.sizeOf174
 v203:=Tryz.zeroValue174
 t206:=Tryz.underlying222
 a206:=Tryz.isAgg222
 z206:=Tryz.sizeOf222
 v206:=Tryz.zeroValue222
 t208:=Tryz.underlying224
 a208:=Tryz.isAgg224
 z208:=Tryz.sizeOf224
 v208:=Tryz.zeroValue224
 g3:=by kernel_rfl
 g4:=by kernel_rfl
 g13:=by kernel_rfl}
def Tryz.sq:Go.Shelf.Ren:=⟨fun|14=>127|16=>173|17=>174|19=>211|20=>212|21=>213|22=>214|23=>215|24=>216|25=>233|27=>235|26=>234|28=>246|29=>252|30=>205|31=>206|32=>207|33=>208|35=>226|34=>225|36=>227|37=>228|38=>229|39=>241|40=>242|n=>n,fun|9=>9|3=>3|22=>55|24=>87|25=>162|4=>4|34=>210|5=>5|36=>185|37=>82|0=>0|39=>212|21=>21|44=>234|47=>136|50=>251|48=>249|2=>2|52=>204|55=>207|59=>228|60=>191|20=>20|61=>229|65=>255|66=>256|67=>91|n=>n,fun|0=>7|1=>8|2=>6|3=>9|4=>10|n=>n⟩
theorem Tryz.BA:Go.Proofs.LaysPu.n14 Tryz.prog Tryz.sq:={
 mixed:=by kernel_rfl
 f14:=Tryz.func127.trans (congrArg some (by kernel_rfl))
 f16:=Tryz.func173.trans (congrArg some (by kernel_rfl))
 f17:=Tryz.func174.trans (congrArg some (by kernel_rfl))
 f19:=Tryz.func211.trans (congrArg some (by kernel_rfl))
 f20:=Tryz.func212.trans (congrArg some (by kernel_rfl))
 f21:=Tryz.func213.trans (congrArg some (by kernel_rfl))
 f22:=Tryz.func214.trans (congrArg some (by kernel_rfl))
 f23:=Tryz.func215.trans (congrArg some (by kernel_rfl))
 f24:=Tryz.func216.trans (congrArg some (by kernel_rfl))
 f25:=Tryz.func233.trans (congrArg some (by kernel_rfl))
 f26:=Tryz.func234.trans (congrArg some (by kernel_rfl))
 f27:=Tryz.func235.trans (congrArg some (by kernel_rfl))
 f28:=Tryz.func246.trans (congrArg some (by kernel_rfl))
 f29:=Tryz.func252.trans (congrArg some (by kernel_rfl))
 f30:=Tryz.func205.trans (congrArg some (by kernel_rfl))
 f31:=Tryz.func206.trans (congrArg some (by kernel_rfl))
 f32:=Tryz.func207.trans (congrArg some (by kernel_rfl))
 f33:=Tryz.func208.trans (congrArg some (by kernel_rfl))
 f34:=Tryz.func225.trans (congrArg some (by kernel_rfl))
 f35:=Tryz.func226.trans (congrArg some (by kernel_rfl))
 f36:=Tryz.func227.trans (congrArg some (by kernel_rfl))
 f37:=Tryz.func228.trans (congrArg some (by kernel_rfl))
 f38:=Tryz.func229.trans (congrArg some (by kernel_rfl))
 f39:=Tryz.func241.trans (congrArg some (by kernel_rfl))
 f40:=Tryz.func242.trans (congrArg some (by kernel_rfl))
 t0:=Tryz.underlying0
 a0:=Tryz.isAgg0
 z0:=Tryz.sizeOf0
 v0:=Tryz.zeroValue0
 i0:=by kernel_rfl
 t2:=Tryz.underlying2
 a2:=Tryz.isAgg2
 z2:=Tryz.sizeOf2
 v2:=Tryz.zeroValue2
 i2:=by kernel_rfl
 t3:=Tryz.underlying3
 a3:=Tryz.isAgg3
 z3:=Tryz.sizeOf3
 v3:=Tryz.zeroValue3
 i3:=by kernel_rfl
 t4:=Tryz.underlying4
 a4:=Tryz.isAgg4
 z4:=Tryz.sizeOf4
 v4:=Tryz.zeroValue4
 i4:=by kernel_rfl
 t5:=Tryz.underlying5
 a5:=Tryz.isAgg5
 z5:=Tryz.sizeOf5
 v5:=Tryz.zeroValue5
 i5:=by kernel_rfl
 t9:=Tryz.underlying9
 a9:=Tryz.isAgg9
 z9:=Tryz.sizeOf9
 v9:=Tryz.zeroValue9
 i9:=by kernel_rfl
 t20:=Tryz.underlying20
 a20:=Tryz.isAgg20
 z20:=Tryz.sizeOf20
 v20:=Tryz.zeroValue20
 i20:=by kernel_rfl
 t21:=Tryz.underlying21
 a21:=Tryz.isAgg21
 z21:=Tryz.sizeOf21
 v21:=Tryz.zeroValue21
 i21:=by kernel_rfl
 t22:=Tryz.underlying55
 a22:=Tryz.isAgg55
 z22:=Tryz.sizeOf55
 v22:=Tryz.zeroValue55
 i22:=by kernel_rfl
 t24:=Tryz.underlying87
 a24:=Tryz.isAgg87
 z24:=Tryz.sizeOf87
 v24:=Tryz.zeroValue87
 i24:=by kernel_rfl
 t25:=Tryz.underlying162
 a25:=Tryz.isAgg162
 z25:=Tryz.sizeOf162
 v25:=Tryz.zeroValue162
 i25:=by kernel_rfl
 t34:=Tryz.underlying210
 a34:=Tryz.isAgg210
 z34:=Tryz.sizeOf210
 v34:=Tryz.zeroValue210
 i34:=by kernel_rfl
 c34:=by kernel_rfl
 t36:=Tryz.underlying185
 a36:=Tryz.isAgg185
 z36:=Tryz.sizeOf185
 v36:=Tryz.zeroValue185
 i36:=by kernel_rfl
 t37:=Tryz.underlying82
 a37:=Tryz.isAgg82
 z37:=Tryz.sizeOf82
 v37:=Tryz.zeroValue82
 i37:=by kernel_rfl
 t39:=Tryz.underlying212
 a39:=Tryz.isAgg212
 z39:=Tryz.sizeOf212
 v39:=Tryz.zeroValue212
 i39:=by kernel_rfl
 t44:=Tryz.underlying234
 a44:=Tryz.isAgg234
 z44:=Tryz.sizeOf234
 v44:=Tryz.zeroValue234
 i44:=by kernel_rfl
 t47:=Tryz.underlying136
 a47:=Tryz.isAgg136
 z47:=Tryz.sizeOf136
 v47:=Tryz.zeroValue136
 i47:=by kernel_rfl
 t48:=Tryz.underlying249
 a48:=Tryz.isAgg249
 z48:=Tryz.sizeOf249
 v48:=Tryz.zeroValue249
 i48:=by kernel_rfl
 t50:=Tryz.underlying251
 a50:=Tryz.isAgg251
 z50:=Tryz.sizeOf251
 v50:=Tryz.zeroValue251
 i50:=by kernel_rfl
 t52:=Tryz.underlying204
 a52:=Tryz.isAgg204
 z52:=Tryz.sizeOf204
 v52:=Tryz.zeroValue204
 i52:=by kernel_rfl
 t55:=Tryz.underlying207
 a55:=Tryz.isAgg207
 z55:=Tryz.sizeOf207
 v55:=Tryz.zeroValue207
 i55:=by kernel_rfl
 t59:=Tryz.underlying228
 a59:=Tryz.isAgg228
 z59:=Tryz.sizeOf228
 v59:=Tryz.zeroValue228
 i59:=by kernel_rfl
 t60:=Tryz.underlying191
 a60:=Tryz.isAgg191
 z60:=Tryz.sizeOf191
 v60:=Tryz.zeroValue191
 i60:=by kernel_rfl
 t61:=Tryz.underlying229
 a61:=Tryz.isAgg229
 z61:=Tryz.sizeOf229
 t65:=Tryz.underlying255
 a65:=Tryz.isAgg255
 z65:=Tryz.sizeOf255
 v65:=Tryz.zeroValue255
 i65:=by kernel_rfl
 t66:=Tryz.underlying256
 a66:=Tryz.isAgg256
 z66:=Tryz.sizeOf256
 v66:=Tryz.zeroValue256
 i66:=by kernel_rfl
 t67:=Tryz.underlying91
 a67:=Tryz.isAgg91
 z67:=Tryz.sizeOf91
 v67:=Tryz.zeroValue91
 i67:=by kernel_rfl
 g0:=by kernel_rfl
 m0:=by kernel_rfl
 g1:=by kernel_rfl
 m1:=by kernel_rfl
 g2:=by kernel_rfl
 m2:=by kernel_rfl
 g3:=by kernel_rfl
 m3:=by kernel_rfl
 g4:=by kernel_rfl
 m4:=by kernel_rfl}
theorem Tryz.zE:Builder.Extra Tryz.prog Tryz.uB:={
 sizeBuilder:=by kernel_rfl
 liesBuilder:=by kernel_rfl
 infoByte:=by kernel_rfl
 cellsByte:=by kernel_rfl
 sizeByte:=by kernel_rfl
 t5:=Tryz.underlying5
 a5:=Tryz.isAgg5
 z5:=Tryz.sizeOf5
 v5:=Tryz.zeroValue5
 neB5:=by decide}
theorem Tryz.uU:Builder.Extra Tryz.prog Tryz.uC:={
 sizeBuilder:=by kernel_rfl
 liesBuilder:=by kernel_rfl
 infoByte:=by kernel_rfl
 cellsByte:=by kernel_rfl
 sizeByte:=by kernel_rfl
 t5:=Tryz.underlying5
 a5:=Tryz.isAgg5
 z5:=Tryz.sizeOf5
 v5:=Tryz.zeroValue5
 neB5:=by decide}
end Go.Proofs
