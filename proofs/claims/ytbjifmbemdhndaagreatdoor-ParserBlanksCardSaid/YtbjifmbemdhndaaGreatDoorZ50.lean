/- Parts of the proof of PParserBlanks, one behind the other, with short names. -/
import Derived.Test.YtbjifmbemdhndaaGreatDoorZ49
import Derived.Test.YtbjifmbemdhndaaGreatDoorZ29
import Derived.Test.YtbjifmbemdhndaaGreatDoorZ23
import Derived.Test.YtbjifmbemdhndaaGreatDoorZ36
set_option linter.unusedVariables false
set_option linter.unusedSimpArgs false
namespace Go.Proofs.YtbjifmbemdhndaaGreatDoor
open Ab Go.RowKit
set_option maxRecDepth 100000
section
variable {T:nE} {len:Nat} {cU:List UInt8->Bool} {expr:Nat->aF Ex}
theorem Cs: ∀(f:Nat) (acc:List fe) (i:Nat),acc.length+f<=1000->fB (Cr fun _=>True) (gY T len cU f acc i)
 |0,acc,i,h=> .ite (fun _=>⟨by omega,fun _ _=>trivial⟩) fun _=>trivial
 |f+1,acc,i,h=> .ite (fun _=>⟨by omega,fun _ _=>trivial⟩) fun _=>fB.skip fun c j=>fB.skip fun _ k=>Cs f (acc++[c]) k (by simp;omega)
theorem bu{α:Type}(p:α->Prop):Cr p []:=⟨Nat.zero_le _,fun _ h=>by cases h⟩
theorem jt{s:Sm}(h1:Cr (fun _=>True) s.gX)(h2:Cr (fun _=>True) s.key)(h3:Cr (fun _=>True) s.names)(h4:Cr (fun r=>pY r=true) s.rows)(h5:Cr (fun x:CC=>ct x.x=true) s.items)(h6:Cr (fun x:Src=>ct x.vl=true) s.nO)
  (h7:ct s.wh=true)(h8:Cr (fun x=>ct x=true) s.group)(h9:Cr (fun x:Ord=>ct x.x=true) s.order)(h10:Cr (fun x:K0=>ct x.x=true) s.sets):l7 s:=
 ⟨h1.1,h2.1,h3.1,h4.1,h4.2,h5.1,h5.2,h6.1,h6.2,h7,h8.1,h8.2,h9.1,h9.2,h10.1,h10.2⟩
section
variable (hx: ∀i,SX (expr i))
include hx
theorem Ct(i:Nat):fB l7 (nH T len cU expr i):=fB.skip fun _ i1=>(nM (JK hx) (by decide) i1).then fun items i2 hi=>fB.skip fun _ i3=>(w5 hx false i3).then fun s0 i4 hs=>
 (y7 hx 3 [s0] i4 (by show 1+3<=4;decide) (fun y hy=>by rw[List.mem_singleton.1 hy];exact hs)).then fun nO i5 hf=>(tY hx i5).then fun wh i6 hw=>(JL (fun i=>JI i) i6).then fun group i7 hg=>(JL (G8 hx) i7).then fun order i8 ho=>
 fB.skip fun limit i9=>jt (bu _) (bu _) (bu _) (bu _) hi hf hw hg ho (bu _)
theorem D0(i:Nat):fB l7 (qj T len cU expr i):=fB.skip fun _ i1=>fB.skip fun _ i2=>fB.skip fun n i3=>by
 have hn:fB (Cr fun _=>True) (if cj T [40] i3 then iB T len cU 12 i3 else .ok [] i3):= .ite (fun _=>tX (by decide) _) fun _=>bu _
 exact hn.then fun names i4 hns=>fB.skip fun _ i5=>(nM (Lm hx) (by decide) i5).then fun rows i6 hr=>jt (bu _) (bu _) hns hr (bu _) (bu _) rfl (bu _) (bu _) (bu _)
theorem D1(i:Nat):fB l7 (qk T len cU expr i):=fB.skip fun _ i1=>fB.skip fun n i2=>fB.skip fun _ i3=>(nM (Ll hx) (by decide) i3).then fun sets i4 hs=>(tY hx i4).then fun wh i5 hw=>
 jt (bu _) (bu _) (bu _) (bu _) (bu _) (bu _) hw (bu _) (bu _) hs
theorem D2(i:Nat):fB l7 (ql T cU expr i):=fB.skip fun _ i1=>fB.skip fun _ i2=>fB.skip fun n i3=>(tY hx i3).then fun wh i4 hw=>
 jt (bu _) (bu _) (bu _) (bu _) (bu _) (bu _) hw (bu _) (bu _) (bu _)
omit hx in
theorem G9 (i:Nat):fB l7 (tP T len cU i):=fB.skip fun _ i1=>fB.skip fun n i2=>fB.skip fun _ i3=>(Cs 12 [] i3 (by decide)).then fun gX i4 hc=>fB.skip fun _ i5=>(tX (by decide) i5).then fun key i6 hk=>fB.skip fun _ i7=>
 jt hc hk (bu _) (bu _) (bu _) (bu _) rfl (bu _) (bu _) (bu _)
omit hx in
theorem He (i:Nat):fB l7 (tQ T len cU i):=fB.skip fun _ i1=>fB.skip fun n i2=>fB.skip fun _ i3=>fB.skip fun t i4=>(tX (by decide) i4).then fun names i5 hn=>
 jt (bu _) (bu _) hn (bu _) (bu _) (bu _) rfl (bu _) (bu _) (bu _)
omit hx in
theorem iC (k:Int) (n:List UInt8):l7 {kind:=k,name:=n}:=jt (bu _) (bu _) (bu _) (bu _) (bu _) (bu _) rfl (bu _) (bu _) (bu _)
theorem JM(i:Nat):fB l7 (uJ T len cU expr i):= .ite (fun _=>Ct hx i) fun _=> .ite (fun _=>D0 hx i) fun _=> .ite (fun _=>D1 hx i) fun _=> .ite (fun _=>D2 hx i) fun _=>
 .ite (fun _=> .ite (fun _=>G9 _) fun _=>He _) fun _=> .ite (fun _=>iC _ _) fun _=> .ite (fun _=>iC _ _) fun _=> .ite (fun _=> .ite (fun _=>fB.skip fun n j=>iC _ _) fun _=>iC _ _) fun _=> .ite (fun _=>fB.skip fun n j=>iC _ _) fun _=>trivial
end
theorem Cu(l:List TP)(m:Nat):l7 (eL l m).1:=by
 unfold eL;have h:=JM (T:=aq l) (len:=l.length) (cU:=dP aH) (expr:=bD l) (fun i=>(MJ (T:=aq l) (cU:=dP aH) (n:=l.length) 40).expr i) 0;cases hr:uJ (aq l) l.length (dP aH) (bD l) 0 with
 |bad er j=>exact iC 0 []
 |ok x j=>
  rw[hr]at h;dsimp only;by_cases hj:qM (aq l) j<l.length
  ·rw[if_pos hj];exact iC 0 []
  ·rw[if_neg hj];exact h
theorem w6{l r:List TP}(h:l.map (·.1)=r.map (·.1))(m k:Nat):aj Tryz.prog 12 [JW (eL l m).1,JW (eL r k).1] (.bool true):=by
 have c:=G7 (eL l m).1 (eL r k).1 (Cu l m);rw[<- (rG h m k).1]at c ⊢;rw[DZ]at c;exact c
end
theorem SI:Lib.upperB=uz:=by
 funext c;have: ∀n:Fin 256,Lib.upperB (UInt8.ofNat n.val)=uz (UInt8.ofNat n.val):=by decide +kernel
 have h:=this ⟨c.toNat,UInt8.toNat_lt c⟩;simpa using h
theorem uL{s:List UInt8}(hs:s.length<=140737488355328)(ha: ∀c∈s,c.toNat<128):aj Tryz.prog 11 [.str s] (.str (s.map uz)):=by
 rw[<- SI];refine kF (cZ (.str _)) (.str _) fun Im w xs hg xB hz hv=> ?_
 obtain rfl:=args1 hz hv (fun _ h=>h.pM);refine(Any.strings_ToUpper_ascii Tryz.Ks Tryz.uU ⟨s.toArray⟩ w (by simpa[ByteArray.size]using hs) fun j b hb=>ha b (List.mem_of_getElem? (by simpa using hb))).mono fun e w' h=> ?_
 obtain⟨rfl,hb⟩:=h;exact⟨⟨_,rfl,.str _⟩,hb⟩
end Go.Proofs.YtbjifmbemdhndaaGreatDoor
namespace Go.Proofs.YtbjifmbemdhndaaGreatDoor
open Ab
set_option maxRecDepth 1000000
def SJ:List (Nat×cE):=[(6,t6),(9,t9),(12,t12),(14,t14),(18,t18),(21,t21),(22,t22),(23,t23),(25,t25),(26,t26),(27,t27),(28,t28),(29,t29),(30,t30),(31,t31),(32,t32),(33,t33),(34,t34),(37,t37),(38,t38),(39,t39),(41,t41),(42,t42),(43,t43),(44,t44),(45,t45),(46,t46),(48,t48),(53,t53),(60,t60),(61,t61),(63,t63),(64,t64),(65,t65),(66,t66),(67,t67),(68,t68),(69,t69),(70,t70),(71,t71),(72,t72),(73,t73),(74,t74),(75,t75),(76,t76),(77,t77),(79,t79),(80,t80),(81,t81),(82,t82),(88,t88),(89,t89),(90,t90),(101,t101),(103,t103),(107,t107),(119,t119),(120,t120),(123,t123),(126,t126),(127,t127),(129,t129),(130,t130),(131,t131),(132,t132),(133,t133),(134,t134),(135,t135),(136,t136),(138,t138),(144,t144),(150,t150),(166,t166),(167,t167),(168,t168),(170,t170),(173,t173),(178,t178),(179,t179),(203,t203),(204,t204),(205,t205),(218,t218),(224,t224),(240,t240),(248,t248),(249,t249),(254,t254),(257,t257)]
theorem aE:gv Tryz.prog SJ:= .cons Uh (.cons Rl (.cons LX (.cons Rn (.cons LY (.cons LZ (.cons IC (.cons ID (.cons Rq (.cons L0 (.cons L1 (.cons L2 (.cons ij (.cons L3 (.cons Rs (.cons IE (.cons IF (.cons IG (.cons L4 (.cons L5 (.cons L6 (.cons L7 (.cons L8 (.cons L9 (.cons Ma (.cons Mb (.cons Mc (.cons Md (.cons RB (.cons su (.cons II (.cons RG (.cons RI (.cons RJ (.cons RK (.cons RL (.cons RM (.cons iS (.cons RO (.cons RP (.cons RQ (.cons Me (.cons Mf (.cons Mg (.cons Mh (.cons Mi (.cons Mj (.cons Mk (.cons Ml (.cons yE (.cons Fs (.cons yG (.cons RW (.cons NU (.cons NV (.cons NY (.cons IJ (.cons tH (.cons N4 (.cons N5 (.cons N6 (.cons Dy (.cons IK (.cons tI (.cons IL (.cons lS (.cons jn (.cons zF (.cons zG (.cons wA (.cons IM (.cons Ob (.cons eC (.cons ec (.cons Dz (.cons Oi (.cons Oj (.cons IN (.cons IP (.cons DA (.cons fI (.cons Om (.cons IQ (.cons DB (.cons ri (.cons dA (.cons IS (.cons eZ (.cons rj (.nil)))))))))))))))))))))))))))))))))))))))))))))))))))))))))))))))))))))))))))))))))))))))))
def MK:List (Nat×cE):=[(10,t10),(24,t24)]
theorem aB:gv Tryz.prog MK:= .cons LV (.cons Rp (.nil))
end Go.Proofs.YtbjifmbemdhndaaGreatDoor
