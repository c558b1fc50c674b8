/- Parts of the proof of PCatalogBack, one behind the other, with short names. -/
import Derived.Test.YtegmnocpkgpgeaaGreatDoorZ37
set_option linter.unusedVariables false
set_option linter.unusedSimpArgs false
namespace Go.Proofs.YtegmnocpkgpgeaaGreatDoor
open Ab Go.RowKit
set_option maxRecDepth 100000
set_option maxHeartbeats 8000000
attribute [local irreducible] aS bH
section
section
variable {l:List TP} {m e:Nat} {G:List UInt8->Prop}
theorem IS{c0 c1 c2 c3 c4 c5 c6 c7 c8 c9 GQ GR GU GV GX GY c16 GZ G0 SM G1 M0:SV}(hl:ig l G)(h1: ∀a∈[c0,c1,c2,c3,c4,c5,c6,c7,c8,c9,GQ,GR,GU,GV,GX,GY,c16,GZ,G0,SM],aL a)(h2: ∀a∈[G1,M0],aL a):vl true 160 l m 0 (fun v=>BA [c0,c1,c2,c3,c4,c5,c6,c7,c8,c9,GQ,GR,GU,GV,GX,GY,c16,GZ,G0,SM,v,G1,M0]) 211 10 (qb (aO l) (iP l)) W1 (fun o=>fO G o.x):= .of (qA (pre:=[c0,c1,c2,c3,c4,c5,c6,c7,c8,c9,GQ,GR,GU,GV,GX,GY,c16,GZ,G0,SM]) (post:=[G1,M0]) h1 h2) rfl sZ (fun i hi=>by
 have qV:=hl.len;have hX:=iG (m:=m) hl;refine KG.call mixed rfl ?_;iterate 44 all_goals ((try conv=>whnf);try first|(with_reducible first|refine zY ?_|refine zN ?_|refine zT ?_|refine br (fun _=> ?_) (fun _=> ?_)|refine⟨rfl,?_⟩)|(refine eI (fun _ _=> ?_) (fun _=> ?_))|(refine hX.go (fun x j _ _ _ _=> ?_) (fun er j _ _=> ?_))|(refine eW rfl (by decide) ?_)|(exact gp (by simp only[*,qb,bB.then,↓reduceIte,Bool.false_eq_true])))
 all_goals first
  |exact rj (x:=⟨_,false⟩) (fun k=>Nat.blt 2 k&& !Nat.beq k 5) .refl (by simp only[*,qb,bB.then,↓reduceIte,Bool.false_eq_true]<;>rfl) (by assumption) (by omega) (by omega) (sZ _)
  |exact rj (x:=⟨_,true⟩) (fun k=>Nat.blt 2 k&& !Nat.beq k 5) .refl (by simp only[*,qb,bB.then,↓reduceIte,Bool.false_eq_true]<;>rfl) (by assumption) (by omega) (by omega) (sZ _))
 (fun i g xs hi hx=>by
 have qV:=hl.len;have hX:=iG (m:=m) hl;refine KG.call mixed rfl ?_;iterate 44 all_goals ((try conv=>whnf);try first|(with_reducible first|refine zY ?_|refine zN ?_|refine zT ?_|refine br (fun _=> ?_) (fun _=> ?_)|refine⟨rfl,?_⟩)|(refine eI (fun _ _=> ?_) (fun _=> ?_))|(refine hX.go (fun x j _ _ _ _=> ?_) (fun er j _ _=> ?_))|(refine eu rfl rfl (by decide) rfl (by omega) (by omega) ?_)|(exact gp (by simp only[*,qb,bB.then,↓reduceIte,Bool.false_eq_true])))
 all_goals first
  |exact rm (x:=⟨_,false⟩) (fun k=>Nat.blt 3 k) .refl (by simp only[*,qb,bB.then,↓reduceIte,Bool.false_eq_true]<;>rfl) (by assumption) (by omega) (by omega) (sZ _)
  |exact rm (x:=⟨_,true⟩) (fun k=>Nat.blt 3 k) .refl (by simp only[*,qb,bB.then,↓reduceIte,Bool.false_eq_true]<;>rfl) (by assumption) (by omega) (by omega) (sZ _))
theorem Dz(hl:ig l G):vl false 163 l m 0 (fun v=> .vec 0 1 [v] ⟨false,some 87⟩) 89 9 (iP l) xB (fO G):= .of (GM _) rfl aN (fun i hi=>by
 have hX:=iG (m:=m) hl;have qQ:=Nat.beq_refl 0;have IU:=Nat.beq_refl (0+1);refine KI.call mixed rfl ?_;iterate 30 all_goals ((try conv=>whnf);try first|(with_reducible first|refine zY ?_|refine zN ?_|refine zT ?_|refine br (fun _=> ?_) (fun _=> ?_)|refine⟨rfl,?_⟩)|(refine hX.go (fun x j hf hg h1 h2=> ?_) (fun er j hf he=> ?_))|(refine eW rfl (by decide) ?_)|(refine jN (by simp) ?_)|(exact gp hf))
 iterate 6
  try
   refine GK ?_ ?_ ?_
   ·repeat (first|exact trivial|refine⟨rfl,?_⟩)
   ·rfl
  iterate 3 all_goals ((try conv=>whnf);try first|(with_reducible first|refine zY ?_|refine zN ?_|refine zT ?_|refine br (fun _=> ?_) (fun _=> ?_)|refine⟨rfl,?_⟩)|(refine jN (by simp) ?_))
 exact rj (fun k=>Nat.blt 2 k&& !Nat.beq k 4) .refl hf hg h1 h2 (aN _)) (fun i g xs hi hx=>by
 have hX:=iG (m:=m) hl;have qQ:=Nat.beq_refl g;have IU:=Nat.beq_refl (g+1);refine KI.call mixed rfl ?_;iterate 30 all_goals ((try conv=>whnf);try first|(with_reducible first|refine zY ?_|refine zN ?_|refine zT ?_|refine br (fun _=> ?_) (fun _=> ?_)|refine⟨rfl,?_⟩)|(refine hX.go (fun x j hf hg h1 h2=> ?_) (fun er j hf he=> ?_))|(refine eu rfl rfl (by decide) rfl (by omega) (by omega) ?_)|(refine jN (by simp) ?_)|(exact gp hf))
 iterate 6
  try
   refine GK ?_ ?_ ?_
   ·repeat (first|exact trivial|refine⟨rfl,?_⟩)
   ·rfl
  iterate 3 all_goals ((try conv=>whnf);try first|(with_reducible first|refine zY ?_|refine zN ?_|refine zT ?_|refine br (fun _=> ?_) (fun _=> ?_)|refine⟨rfl,?_⟩)|(refine jN (by simp) ?_))
 exact rm (fun k=>Nat.blt 3 k) .refl hf hg h1 h2 (aN _))
theorem Oh{c0 c1 c2 c3 c4 c5 c6 c7 c8 c9 GQ GR GU GV GX GY c16 GZ G0 SM M1 G1:SV}(hl:ig l G)(h1: ∀a∈[c0,c1,c2,c3,c4,c5,c6,c7,c8,c9,GQ,GR,GU,GV,GX,GY,c16,GZ,G0,SM,M1,G1],aL a):vl true 164 l m 0 (fun v=>BA [c0,c1,c2,c3,c4,c5,c6,c7,c8,c9,GQ,GR,GU,GV,GX,GY,c16,GZ,G0,SM,M1,G1,v]) 190 11 (IN (aO l) (kX bC) (iP l)) W2 (fun a=>G a.nm/\fO G a.x/\a.slot=0):= .of (qA (pre:=[c0,c1,c2,c3,c4,c5,c6,c7,c8,c9,GQ,GR,GU,GV,GX,GY,c16,GZ,G0,SM,M1,G1]) (post:=[]) h1 (by simp)) rfl Bi (fun i hi=>by
 have qV:=hl.len;have hX:=iG (m:=m) hl;have cn:=gj (m:=m) (e:=0) hl;refine KJ.call mixed rfl ?_;iterate 44 all_goals ((try conv=>whnf);try first|(with_reducible first|refine zY ?_|refine zN ?_|refine zT ?_|refine br (fun _=> ?_) (fun _=> ?_)|refine⟨rfl,?_⟩)|(refine dU (fun _ _=> ?_) (fun _=> ?_))|(refine cn.go (fun x j _ _ _ _=> ?_) (fun er j _ _=> ?_))|(refine hX.go (fun x j _ _ _ _=> ?_) (fun er j _ _=> ?_))|(refine eW rfl (by decide) ?_)|(exact gp (by simp only[*,IN,aM,bB.then,↓reduceIte,Bool.false_eq_true])))
 exact rj (x:=⟨_,_,0⟩) (fun k=>Nat.blt 2 k&& !Nat.beq k 6) .refl (by simp only[*,IN,aM,bB.then,↓reduceIte,Bool.false_eq_true]<;>rfl) ⟨by assumption,by assumption,rfl⟩ (by omega) (by omega) (Bi _))
 (fun i g xs hi hx=>by
 have qV:=hl.len;have hX:=iG (m:=m) hl;have cn:=gj (m:=m) (e:=0) hl;refine KJ.call mixed rfl ?_;iterate 44 all_goals ((try conv=>whnf);try first|(with_reducible first|refine zY ?_|refine zN ?_|refine zT ?_|refine br (fun _=> ?_) (fun _=> ?_)|refine⟨rfl,?_⟩)|(refine dU (fun _ _=> ?_) (fun _=> ?_))|(refine cn.go (fun x j _ _ _ _=> ?_) (fun er j _ _=> ?_))|(refine hX.go (fun x j _ _ _ _=> ?_) (fun er j _ _=> ?_))|(refine eu rfl rfl (by decide) rfl (by omega) (by omega) ?_)|(exact gp (by simp only[*,IN,aM,bB.then,↓reduceIte,Bool.false_eq_true])))
 exact rm (x:=⟨_,_,0⟩) (fun k=>Nat.blt 3 k) .refl (by simp only[*,IN,aM,bB.then,↓reduceIte,Bool.false_eq_true]<;>rfl) ⟨by assumption,by assumption,rfl⟩ (by omega) (by omega) (Bi _))
end
end
section
section
variable {l:List TP} {m e:Nat} {G:List UInt8->Prop}
@[reducible] def W4 (r:List Ex):SV:=rowOf 9 (r.map xB)
theorem Bj(r:List Ex):aL (W4 r):=bP _ _
section
attribute [local irreducible] vZ
theorem IV{c0 c1 c2 c3 c4 c5 c6 c7 c8 c9 GQ GR GU GV GX GY c16 GZ G0 M1 G1 M0:SV}(hl:ig l G)(h1: ∀a∈[c0,c1,c2,c3,c4,c5,c6,c7,c8,c9,GQ,GR,GU,GV,GX,GY,c16,GZ,G0],aL a)(h2: ∀a∈[M1,G1,M0],aL a):vl false 158 l m 0 (fun v=>BA [c0,c1,c2,c3,c4,c5,c6,c7,c8,c9,GQ,GR,GU,GV,GX,GY,c16,GZ,G0,v,M1,G1,M0]) 89 9 (Iu (aO l) (kX bC)) xB (fO G):= .of (qA (pre:=[c0,c1,c2,c3,c4,c5,c6,c7,c8,c9,GQ,GR,GU,GV,GX,GY,c16,GZ,G0]) (post:=[M1,G1,M0]) h1 h2) rfl aN (fun i hi=>by
 have hX:=uh (m:=m) (e:=0) hl;have qQ:=Nat.beq_refl 0;have IU:=Nat.beq_refl (0+1);refine KF.call mixed rfl ?_;iterate 30 all_goals ((try conv=>whnf);try first|(with_reducible first|refine zY ?_|refine zN ?_|refine zT ?_|refine br (fun _=> ?_) (fun _=> ?_)|refine⟨rfl,?_⟩)|(refine hX.go (fun x j hf hg h1 h2=> ?_) (fun er j hf he=> ?_))|(refine eW rfl (by decide) ?_)|(refine jN (by simp) ?_)|(exact gp hf))
 refine PW rfl rfl rfl rfl rfl rfl rfl rfl rfl rfl rfl rfl rfl rfl rfl rfl rfl rfl rfl rfl rfl rfl (fun K=>rfl) (fun K=>rfl) (fun K=>rfl) (fun K=>rfl) (fun K=>rfl) (fun K=>rfl) (fun K=>rfl) (fun K=>rfl) (fun K=>rfl) (fun K=>rfl) (fun K=>rfl) (fun K=>rfl) (fun K=>rfl) (fun K=>rfl) (fun K=>rfl) (fun K=>rfl) ?_ ?_ ?_
 ·repeat (first|exact trivial|refine⟨rfl,?_⟩)
 ·repeat (first|exact trivial|refine⟨rfl,?_⟩)
 iterate 8 all_goals ((try conv=>whnf);try first|(with_reducible first|refine zY ?_|refine zN ?_|refine zT ?_|refine br (fun _=> ?_) (fun _=> ?_)|refine⟨rfl,?_⟩))
 exact rj (fun k=>Nat.blt 2 k&& !Nat.beq k 4) .refl hf hg h1 h2 (aN _)) (fun i g xs hi hx=>by
 have hX:=uh (m:=m) (e:=0) hl;have qQ:=Nat.beq_refl g;have IU:=Nat.beq_refl (g+1);refine KF.call mixed rfl ?_;iterate 30 all_goals ((try conv=>whnf);try first|(with_reducible first|refine zY ?_|refine zN ?_|refine zT ?_|refine br (fun _=> ?_) (fun _=> ?_)|refine⟨rfl,?_⟩)|(refine hX.go (fun x j hf hg h1 h2=> ?_) (fun er j hf he=> ?_))|(refine eu rfl rfl (by decide) rfl (by omega) (by omega) ?_)|(refine jN (by simp) ?_)|(exact gp hf))
 refine PW (h8:=⟨5,[(4,.vec 0 9 [.agg [.int .u8 0,.int .u8 0,.int .i64 0,.str [],.str [],.str [],.int .i64 0,.int .u8 0,.af]] ⟨false,some 89⟩),(3,.vec (g+1) 9 (xs++[xB x]) ⟨true,some 89⟩),(2,BA [c0,c1,c2,c3,c4,c5,c6,c7,c8,c9,GQ,GR,GU,GV,GX,GY,c16,GZ,G0,.sl 3 g 9 0 xs.length none,M1,G1,M0]),(1,Ea),(0,gv l j m 0)]⟩) (h10:=⟨5,[(4,.vec 0 9 [.agg [.int .u8 0,.int .u8 0,.int .i64 0,.str [],.str [],.str [],.int .i64 0,.int .u8 0,.af]] ⟨false,some 89⟩),(3,.vec (g+1) 9 (xs++[.agg [.int .u8 0,.int .u8 0,.int .i64 0,.str [],.str [],.str [],.int .i64 0,.int .u8 0,.af]]) ⟨true,some 89⟩),(2,BA [c0,c1,c2,c3,c4,c5,c6,c7,c8,c9,GQ,GR,GU,GV,GX,GY,c16,GZ,G0,.sl 3 (g+1) 9 0 (xs.length+1) none,M1,G1,M0]),(1,Ea),(0,gv l j m 0)]⟩) (hh:=⟨5,[(4,.vec 0 9 [.agg [.int .u8 0,.int .u8 0,.int .i64 0,.str [],.str [],.str [],.int .i64 0,.int .u8 0,.af]] ⟨false,some 89⟩),(3,.vec (g+1) 9 (xs++[xB x]) ⟨true,some 89⟩),(2,BA [c0,c1,c2,c3,c4,c5,c6,c7,c8,c9,GQ,GR,GU,GV,GX,GY,c16,GZ,G0,.sl 3 (g+1) 9 0 (xs.length+1) none,M1,G1,M0]),(1,Ea),(0,gv l j m 0)]⟩) rfl rfl rfl rfl rfl rfl rfl rfl rfl rfl rfl rfl rfl rfl rfl rfl rfl rfl rfl rfl rfl rfl (fun K=>SL IU (hbd xs.length)) (fun K=>rfl) (by intro K;exact iH IU (es:=xs) (idx:=0+Int.toNat ((xs.length:Nat):Int)) (by simp) rfl) (fun K=>rfl) (fun K=>rfl) (by intro K;exact iH IU (es:=xs) (idx:=0+Int.toNat ((xs.length:Nat):Int)) (by simp) rfl) (by intro K;exact iH IU (es:=xs) (idx:=0+Int.toNat ((xs.length:Nat):Int)) (by simp) rfl) (fun K=>rfl) (fun K=>rfl) (fun K=>SL IU (hbd xs.length)) (by intro K;exact iH IU (es:=xs) (idx:=0+Int.toNat ((xs.length:Nat):Int)) (by simp) rfl) (fun K=>rfl) (fun K=>rfl) (by intro K;exact iH IU (es:=xs) (idx:=0+Int.toNat ((xs.length:Nat):Int)) (by simp) rfl) (fun K=>rfl) (fun K=>SL IU (hbd xs.length)) ?_ ?_ ?_
 ·repeat (first|exact trivial|refine⟨rfl,?_⟩)
 ·repeat (first|exact trivial|refine⟨rfl,?_⟩)
 iterate 8 all_goals ((try conv=>whnf);try first|(with_reducible first|refine zY ?_|refine zN ?_|refine zT ?_|refine br (fun _=> ?_) (fun _=> ?_)|refine⟨rfl,?_⟩))
 exact rm (fun k=>Nat.blt 3 k) .refl hf hg h1 h2 (aN _))
end
theorem row_one(n:List UInt8){nm:SV}(hl:ig l G)(hnm:aL nm):vl true 162 l m 0 (fun v=>BA (uj 2 n [] .af .af false nm v .af .af .af .af 0 .af)) 87 1 (IM (aO l) l.length (iP l)) W4 (fun r=>(∀ x∈r,fO G x)/\0<r.length/\r.length<=12):=
 .of (qA (pre:=[.int .u8 2,.str n,.str [],.af,.af,.bool false,nm]) (post:=[.af,.af,.int .u8 0,.int .u8 0,.int .i64 0,.str [],.str [],.str [],.int .i64 0,.int .u8 0,.af,.af,.af,.int .i64 0,.af]) (VJ hnm) (dP rfl)) rfl Bj (fun i hi=>by
  have qV:=hl.len;refine KH.call mixed rfl ?_;iterate 44 all_goals ((try conv=>whnf);try first|(with_reducible first|refine zY ?_|refine zN ?_|refine zT ?_|refine br (fun _=> ?_) (fun _=> ?_)|refine⟨rfl,?_⟩)|(refine dU (fun _ _=> ?_) (fun _=> ?_))|(refine lg (Dz hl) (fun xs j _ _ _ _ _ _=> ?_) (fun er j _ _=> ?_))|(refine eW rfl (by decide) ?_)|(exact gp (by simp only[*,IM,aM,bB.then,↓reduceIte,Bool.false_eq_true])))
  exact rj (fun k=>Nat.blt 2 k&& !Nat.beq k 7) .refl (by simp only[*,IM,aM,bB.then,↓reduceIte,Bool.false_eq_true]<;>rfl) ⟨by assumption,by assumption,by assumption⟩ (by omega) (by omega) (Bj _))
  (fun i g xs hi hx=>by
  have qV:=hl.len;refine KH.call mixed rfl ?_;iterate 44 all_goals ((try conv=>whnf);try first|(with_reducible first|refine zY ?_|refine zN ?_|refine zT ?_|refine br (fun _=> ?_) (fun _=> ?_)|refine⟨rfl,?_⟩)|(refine dU (fun _ _=> ?_) (fun _=> ?_))|(refine lg (Dz hl) (fun xs j _ _ _ _ _ _=> ?_) (fun er j _ _=> ?_))|(refine eu rfl rfl (by decide) rfl (by omega) (by omega) ?_)|(exact gp (by simp only[*,IM,aM,bB.then,↓reduceIte,Bool.false_eq_true])))
  exact rm (fun k=>Nat.blt 3 k) .refl (by simp only[*,IM,aM,bB.then,↓reduceIte,Bool.false_eq_true]<;>rfl) ⟨by assumption,by assumption,by assumption⟩ (by omega) (by omega) (Bj _))
end
end
section
@[reducible] def qN (s:Sm):SV:= .agg (W3 s.kind s.name s.eH (rowOf 3 (s.aq.map gQ)) (rowOf 1 (s.key.map SV.str)) s.uniq (rowOf 1 (s.names.map SV.str)) (rowOf 1 (s.rows.map W4)) (rowOf 11 (s.items.map PX)) (rowOf 11 (s.xA.map JI)) s.wh (rowOf 9 (s.group.map xB)) (rowOf 10 (s.order.map W1)) s.limit (rowOf 11 (s.sets.map W2)))
theorem dL(s:Sm):aL (qN s):= .agg (dP rfl)
theorem fQ{A:Heap}(s:Sm){aq key names rows items xA wa group order sets:SV}(h1:bA A aq (rowOf 3 (s.aq.map gQ)))(h2:bA A key (rowOf 1 (s.key.map SV.str)))(h3:bA A names (rowOf 1 (s.names.map SV.str)))(h4:bA A rows (rowOf 1 (s.rows.map W4)))
  (h5:bA A items (rowOf 11 (s.items.map PX)))(h6:bA A xA (rowOf 11 (s.xA.map JI)))(h7:bA A wa (sM (sN s.wh.args)))(h8:bA A group (rowOf 9 (s.group.map xB)))(h9:bA A order (rowOf 10 (s.order.map W1)))(h10:bA A sets (rowOf 11 (s.sets.map W2))):
  bA A (.agg [.int .u8 s.kind,.str s.name,.str s.eH,aq,key,.bool s.uniq,names,rows,items,xA,.int .u8 s.wh.op,.int .u8 s.wh.va.k,.int .i64 s.wh.va.i,.str s.wh.va.s,.str s.wh.tb,.str s.wh.nm,.int .i64 s.wh.slot,.int .u8 s.wh.kd,wa,group,order,.int .i64 s.limit,sets]) (qN s):=
 fI.get (.cons (.lit (.int _ _)) (.cons (.lit (.str _)) (.cons (.lit (.str _)) (.cons h1 (.cons h2 (.cons (.lit (.bool _)) (.cons h3 (.cons h4 (.cons h5 (.cons h6 (.cons (.lit (.int _ _)) (.cons (.lit (.int _ _)) (.cons (.lit (.int _ _)) (.cons (.lit (.str _)) (.cons (.lit (.str _)) (.cons (.lit (.str _)) (.cons (.lit (.int _ _)) (.cons (.lit (.int _ _)) (.cons h7 (.cons h8 (.cons h9 (.cons (.lit (.int _ _)) (.cons h10 .nil)))))))))))))))))))))))
theorem IW{A:Heap}{t n:List UInt8}:bA A (.agg [.str t,.str n,.int .u8 0,.int .u8 0,.int .i64 0,.str [],.str [],.str [],.int .i64 0,.int .u8 0,.af]) (JI ⟨t,n,GD⟩):=
 fI.get (.cons (.lit (.str _)) (.cons (.lit (.str _)) (.cons (.lit (.int _ _)) (.cons (.lit (.int _ _)) (.cons (.lit (.int _ _)) (.cons (.lit (.str _)) (.cons (.lit (.str _)) (.cons (.lit (.str _)) (.cons (.lit (.int _ _)) (.cons (.lit (.int _ _)) (.cons .nil .nil)))))))))))
def W5(G:List UInt8->Prop)(b:Bool)(s:Src):Prop:=G s.tb/\(s.nm=[]\/G s.nm)/\(bif b then fO G s.IL else s.IL=GD)
def Yx(G:List UInt8->Prop)(r:List Ex):Prop:=(∀ x∈r,fO G x)/\0<r.length/\r.length<=12
def VK(G:List UInt8->Prop)(c:fH):Prop:=G c.nm/\(c.kd=1\/c.kd=2\/c.kd=3)
inductive Bk(G:List UInt8->Prop):Sm->Prop
 |select {items:List MY} {s0:Src} {xA:List Src} {wh:Ex} {group:List Ex} {order:List Ord} {limit:Int} (h1:(∀ x∈items,Zv G x)/\0<items.length/\items.length<=32) (h2:W5 G false s0) (h3: ∀x∈xA,W5 G true x) (h4:xA.length<=3) (h5:wh=GD\/fO G wh)
  (h6:(∀ x∈group,fO G x)/\group.length<=32) (h7:(∀ x∈order,fO G x.x)/\order.length<=32) (h8: -1<=limit/\limit<=1073741824):Bk G {kind:=1,items:=items,xA:=s0::xA,wh:=wh,group:=group,order:=order,limit:=limit}
 |insert {n:List UInt8} {names:List (List UInt8)} {rows:List (List Ex)} (h1:G n) (h2:names=[]\/Bg G 12 names) (h3:(∀ r∈rows,Yx G r)/\0<rows.length/\rows.length<=64):Bk G {kind:=2,name:=n,names:=names,rows:=rows}
 |update {n:List UInt8} {sets:List VC} {wh:Ex} (h1:G n) (h2:(∀ a∈sets,G a.nm/\fO G a.x/\a.slot=0)/\0<sets.length/\sets.length<=12) (h3:wh=GD\/fO G wh):Bk G {kind:=3,name:=n,sets:=sets,wh:=wh}
 |delete {n:List UInt8} {wh:Ex} (h1:G n) (h3:wh=GD\/fO G wh):Bk G {kind:=4,name:=n,wh:=wh}
 |table {n:List UInt8} {aq:List fH} {key:List (List UInt8)} (h1:G n) (h2:(∀ c∈aq,VK G c)/\0<aq.length/\aq.length<=12) (h3:Bg G 4 key):Bk G {kind:=5,name:=n,aq:=aq,key:=key}
 |index {n tb:List UInt8} {u:Bool} {names:List (List UInt8)} (h1:G n) (h2:G tb) (h3:Bg G 4 names):Bk G {kind:=6,name:=n,eH:=tb,uniq:=u,names:=names}
 |bare {k:Int} (h:7<=k/\k<=9):Bk G {kind:=k}
 |named {k:Int} {n:List UInt8} (h:k=10\/k=11) (h1:G n):Bk G {kind:=k,name:=n}
section
variable {l:List TP} {m e:Nat} {G:List UInt8->Prop}
abbrev SN(l:List TP)(m:Nat)(G:List UInt8->Prop)(fn:FuncId)(f:Nat->bB Sm):Prop:=Rd l m 0 fn [] qN (Bk G) f
theorem zI(hl:ig l G)(b:Bool):Rd l m 0 156 [.bool b] JI (W5 G b) (sU (aO l) (kX bC) (iP l) b):=jd (di (.bool _)) fun i hi=>RD.call mixed rfl (by
 have qV:=hl.len;have hX:=iG (m:=m) hl;have cn:=gj (m:=m) (e:=0) hl;iterate 60 all_goals ((try conv=>whnf);try first|(with_reducible first|refine zY ?_|refine zN ?_|refine zT ?_|refine br (fun _=> ?_) (fun _=> ?_)|refine⟨rfl,?_⟩)|(refine cn.go (fun x j _ _ _ _=> ?_) (fun er j _ _=> ?_))|(refine eI (fun _ _=> ?_) (fun _=> ?_))|(refine dU (fun _ _=> ?_) (fun _=> ?_))|(refine hX.go (fun x j _ _ _ _=> ?_) (fun er j _ _=> ?_))|(exact bW (by simp only[*,sU,JH,aM,bB.then,↓reduceIte,Bool.false_eq_true])))
 all_goals subst_vars
 all_goals exact bJ (by simp only[*,sU,JH,aM,bB.then,↓reduceIte,Bool.false_eq_true]<;>rfl) ⟨by assumption,(by first|exact .inl rfl|exact .inr (by assumption)),(by first|assumption|exact rfl)⟩ (by first|exact .lit (Bh ⟨_,_,_⟩)|exact IW) (Bh _))
theorem IX(hl:ig l G):SN l m G 102 (vD (aO l) (kX bC) (iP l)):=jd fJ fun i hi=>Q1.call mixed rfl (by
 have qV:=hl.len;have hW:=xE (m:=m) hl;have cn:=gj (m:=m) (e:=0) hl;iterate 60 all_goals ((try conv=>whnf);try first|(with_reducible first|refine zY ?_|refine zN ?_|refine zT ?_|refine br (fun _=> ?_) (fun _=> ?_)|refine⟨rfl,?_⟩)|(refine cn.go (fun x j _ _ _ _=> ?_) (fun er j _ _=> ?_))|(refine Dt (fun _ _ _=> ?_) (fun _=> ?_) (fun _ _=> ?_))|(refine hW.go (fun x j _ _ _ _=> ?_) (fun er j _ _=> ?_))|(exact bW (by simp only[*,vD,aM,bB.then,↓reduceIte,Bool.false_eq_true])))
 exact bJ (by simp only[*,vD,aM,bB.then,↓reduceIte,Bool.false_eq_true]<;>rfl) (.delete (by assumption) (by assumption)) (fQ {kind:=4,name:=_,wh:=_} .nil .nil .nil .nil .nil .nil (.lit (p5 _)) .nil .nil .nil) (dL _))
theorem Lx(hl:ig l G):SN l m G 104 (uf (aO l) l.length (kX bC)):=jd fJ fun i hi=>Q3.call mixed rfl (by
 have qV:=hl.len;have hN:=xD (m:=m) (e:=0) hl 4 (by decide);have cn:=gj (m:=m) (e:=0) hl;iterate 70 all_goals ((try conv=>whnf);try first|(with_reducible first|refine zY ?_|refine zN ?_|refine zT ?_|refine br (fun _=> ?_) (fun _=> ?_)|refine⟨rfl,?_⟩)|(refine cn.go (fun x j _ _ _ _=> ?_) (fun er j _ _=> ?_))|(refine eI (fun _ _=> ?_) (fun _=> ?_))|(refine dU (fun _ _=> ?_) (fun _=> ?_))|(refine hN.go (fun x j _ _ _ _=> ?_) (fun er j _ _=> ?_))|(exact bW (by simp only[*,uf,aM,bB.then,↓reduceIte,Bool.false_eq_true])))
 all_goals exact bJ (by simp only[*,uf,aM,bB.then,↓reduceIte,Bool.false_eq_true]<;>rfl) (.index (by assumption) (by assumption) (by assumption)) (fQ {kind:=6,name:=_,eH:=_,uniq:=_,names:=_} .nil .nil (.lit (bP _ _)) .nil .nil .nil .nil .nil .nil .nil) (dL _))
theorem IY(hl:ig l G):SN l m G 101 (vC (aO l) l.length (kX bC) (iP l)):=jd fJ fun i hi=>Q0.call mixed rfl (by
 have qV:=hl.len;have hW:=xE (m:=m) hl;have cn:=gj (m:=m) (e:=0) hl;iterate 70 all_goals ((try conv=>whnf);try first|(with_reducible first|refine zY ?_|refine zN ?_|refine zT ?_|refine br (fun _=> ?_) (fun _=> ?_)|refine⟨rfl,?_⟩)|(refine cn.go (fun x j _ _ _ _=> ?_) (fun er j _ _=> ?_))|(refine dU (fun _ _=> ?_) (fun _=> ?_))|(refine lg (Oh hl (dP rfl)) (fun xs j _ _ _ _ _ _=> ?_) (fun er j _ _=> ?_))|(refine hW.go (fun x j _ _ _ _=> ?_) (fun er j _ _=> ?_))|(exact bW (by simp only[*,vC,aM,bB.then,↓reduceIte,Bool.false_eq_true])))
 exact bJ (by simp only[*,vC,aM,bB.then,↓reduceIte,Bool.false_eq_true]<;>rfl) (.update (by assumption) ⟨by assumption,by assumption,by assumption⟩ (by assumption)) (fQ {kind:=3,name:=_,sets:=_,wh:=_} .nil .nil .nil .nil .nil .nil (.lit (p5 _)) .nil .nil (.lit (bP _ _))) (dL _))
theorem IZ(hl:ig l G):SN l m G 100 (sV (aO l) l.length (kX bC) (iP l)):=jd fJ fun i hi=>QZ.call mixed rfl (by
 have qV:=hl.len;have hN:=xD (m:=m) (e:=0) hl 12 (by decide);have cn:=gj (m:=m) (e:=0) hl;iterate 70 all_goals ((try conv=>whnf);try first|(with_reducible first|refine zY ?_|refine zN ?_|refine zT ?_|refine br (fun _=> ?_) (fun _=> ?_)|refine⟨rfl,?_⟩)|(refine cn.go (fun x j _ _ _ _=> ?_) (fun er j _ _=> ?_))|(refine sS (fun _ _=> ?_) (fun _=> ?_))|(refine Dt (fun _ _ _=> ?_) (fun _=> ?_) (fun _ _=> ?_))|(refine dU (fun _ _=> ?_) (fun _=> ?_))|(refine hN.go (fun x j _ _ _ _=> ?_) (fun er j _ _=> ?_))|(refine lg (row_one _ hl .af) (fun xs j _ _ _ _ _ _=> ?_) (fun er j _ _=> ?_))|(refine lg (row_one _ hl (bP _ _)) (fun xs j _ _ _ _ _ _=> ?_) (fun er j _ _=> ?_))|(exact bW (by simp only[*,sV,aM,bB.then,↓reduceIte,Bool.false_eq_true])))
 all_goals first
  |exact bJ (by simp only[*,sV,aM,bB.then,↓reduceIte,Bool.false_eq_true]<;>rfl) (Bk.insert (by assumption) (.inr (by assumption)) ⟨by assumption,by assumption,by assumption⟩) (fQ {kind:=2,name:=_,names:=_,rows:=_} .nil .nil (.lit (bP _ _)) (.lit (bP _ _)) .nil .nil .nil .nil .nil .nil) (dL _)
  |exact bJ (by simp only[*,sV,aM,bB.then,↓reduceIte,Bool.false_eq_true]<;>rfl) (Bk.insert (by assumption) (.inl rfl) ⟨by assumption,by assumption,by assumption⟩) (fQ {kind:=2,name:=_,names:=_,rows:=_} .nil .nil .nil (.lit (bP _ _)) .nil .nil .nil .nil .nil .nil) (dL _))
end
end
end Go.Proofs.YtegmnocpkgpgeaaGreatDoor
