/- Parts of the proof of PParserDepth, one behind the other, with short names. -/
import Derived.Test.YtbjifmbemdhndaaGreatDoorY40
import Derived.Test.YtbjifmbemdhndaaGreatDoorY45
import Derived.Test.YtbjifmbemdhndaaGreatDoorY33
import Derived.Test.YtbjifmbemdhndaaGreatDoorY25
import Derived.Test.YtbjifmbemdhndaaGreatDoorY38
set_option linter.unusedVariables false
set_option linter.unusedSimpArgs false
namespace Go.Proofs.YtbjifmbemdhndaaGreatDoor
open Ab Go.RowKit
set_option maxRecDepth 100000
set_option maxHeartbeats 4000000
attribute [local irreducible] aO bx
def rX(toks:List Tk):List TI:=toks.map fun x=>(x,0)
theorem JW{A:Heap}{i g n:Nat}{cap:Option Nat}{toks:List Tk}(ho:A.obj i=some (nY g toks))(hn:n=toks.length):cA A (.sl i g 4 0 n cap) (Cp (rX toks)):=by
 have e:Cp (rX toks)=Ao (IU toks):=by
  rw[Jp];unfold IU rX;rw[List.map_map];rfl
 rw[e];refine Ef (sk:=⟨true,some 57⟩) ?_ (by rw[hn];unfold IU;rw[List.length_map]);rw[ho];unfold nY IU;rw[List.map_map];rfl
theorem FL{toks:List Tk}(h: ∀x∈toks,dh x=true):uO (rX toks)= .aN [.str (di toks),l7 0 0]:=by
 have hb:vF (rX toks) 0=none:=by
  refine uN _ _ fun j hj=> ?_
  have hj':j<toks.length:=by simpa[rX]using hj
  have e:(rX toks).getD j l9=(toks[j],0):=by simp[rX,List.getD,hj']
  rw[e];unfold iW;simp[h _ (List.getElem_mem hj')]
 unfold uO;rw[hb];show SV.aN [.str (di ((rX toks).map (·.1))),l7 0 0]=_;rw[show (rX toks).map (·.1)=toks by unfold rX;rw[List.map_map];exact List.map_id _]
theorem yH{x:Ex}{toks:List Tk}(hw:ga x=(toks,false))(hne:toks≠[])(hf: ∀y∈toks,dh y=true)(hl:toks.length<=5000)(ht:(di toks).length<=65536)
  (hr:w9 (di toks)= .aN [kq x,l7 0 0])(hs:n5 x=true)(WS:oZ x x=true):au Tryz.prog 8 [kq x] (.aN [.str (di toks),.int .i64 0]):=by
 have cw:=yE x false [] (by rw[hw];show 0+toks.length<=40000;omega);rw[hw]at cw
 have ct:=HL (l:=rX toks) (by simpa[rX]using hl) (fun y hy=>by
  obtain⟨z,hz,rfl⟩:=List.mem_map.1 hy;exact Jq (hf z hz))
 rw[FL hf]at ct;have ce:=xb ht;rw[hr]at ce;have cs:=FK _ x x (Nat.le_refl _) hs;rw[WS]at cs;refine bu (bK (aq _)) (SN.call mixed rfl ?_);obtain⟨op,v,tb,nm,slot,kd,args⟩:=x;rw[aB]at cw ce cs ⊢;iterate 100 all_goals ((try conv=>whnf);try first|(with_reducible first|refine zY ?_|refine zN ?_|refine zT ?_|refine br (fun _=> ?_) (fun _=> ?_)|refine⟨rfl,?_⟩)|(refine cw.N rfl hne fun g'=> ?_)|(refine aP.Hu (fun j=>Nat.beq j 2) (.yg (JW (toks:=toks) rfl rfl) .nil) ?_)|(with_reducible first|refine au.call (ct) ?_|refine au.call (ce) ?_|refine au.call (cs) ?_))
 exact leaf rfl (vA (.str _) (.int _ _))
end Go.Proofs.YtbjifmbemdhndaaGreatDoor
namespace Go.Proofs.YtbjifmbemdhndaaGreatDoor
open Ab
set_option maxRecDepth 1000000
def Q8:List (Nat×bR):=[(6,t6),(9,t9),(12,t12),(14,t14),(18,t18),(21,t21),(22,t22),(23,t23),(25,t25),(26,t26),(27,t27),(28,t28),(29,t29),(30,t30),(31,t31),(32,t32),(33,t33),(34,t34),(37,t37),(38,t38),(39,t39),(41,t41),(42,t42),(43,t43),(44,t44),(45,t45),(46,t46),(48,t48),(53,t53),(60,t60),(61,t61),(63,t63),(64,t64),(65,t65),(66,t66),(67,t67),(68,t68),(69,t69),(70,t70),(71,t71),(72,t72),(73,t73),(74,t74),(75,t75),(76,t76),(77,t77),(79,t79),(80,t80),(81,t81),(82,t82),(88,t88),(89,t89),(90,t90),(101,t101),(103,t103),(107,t107),(119,t119),(120,t120),(123,t123),(126,t126),(127,t127),(129,t129),(130,t130),(131,t131),(132,t132),(133,t133),(134,t134),(135,t135),(136,t136),(138,t138),(144,t144),(150,t150),(166,t166),(167,t167),(168,t168),(170,t170),(173,t173),(178,t178),(179,t179),(203,t203),(204,t204),(205,t205),(218,t218),(224,t224),(240,t240),(248,t248),(249,t249),(254,t254),(257,t257)]
theorem az:fm Tryz.prog Q8:= .cons SJ (.cons Mg (.cons PR (.cons PS (.cons Kw (.cons Kx (.cons G6 (.cons G7 (.cons Kz (.cons KA (.cons KB (.cons PV (.cons PW (.cons KC (.cons KD (.cons G8 (.cons G9 (.cons Ec (.cons P0 (.cons P5 (.cons P6 (.cons KE (.cons P7 (.cons P8 (.cons P9 (.cons Qa (.cons Qb (.cons Qc (.cons Qf (.cons qL (.cons He (.cons KF (.cons lZ (.cons Hf (.cons KG (.cons KH (.cons wN (.cons gD (.cons KI (.cons KJ (.cons Qm (.cons Hg (.cons KK (.cons KL (.cons KM (.cons KN (.cons KO (.cons KP (.cons KQ (.cons Qq (.cons Ed (.cons uD (.cons KR (.cons Mx (.cons My (.cons MA (.cons Hh (.cons rQ (.cons Hi (.cons MH (.cons MI (.cons Ce (.cons Hj (.cons Cf (.cons MJ (.cons MK (.cons ML (.cons MN (.cons MO (.cons uE (.cons Hl (.cons MQ (.cons dP (.cons dm (.cons Cg (.cons MX (.cons MZ (.cons Ho (.cons Hp (.cons Ch (.cons eX (.cons M0 (.cons Hq (.cons Ci (.cons pS (.cons cK (.cons Hr (.cons eB (.cons pT (.nil)))))))))))))))))))))))))))))))))))))))))))))))))))))))))))))))))))))))))))))))))))))))))
def K9:List (Nat×bR):=[(10,t10),(24,t24)]
theorem aj:fm Tryz.prog K9:= .cons PO (.cons Ky (.nil))
end Go.Proofs.YtbjifmbemdhndaaGreatDoor
