/- Parts of the proof of PCatalogBack, one behind the other, with short names. -/
import Derived.Test.YtegmnocpkgpgeaaGreatDoorZ50
import Derived.Test.YtegmnocpkgpgeaaGreatDoorZ28
set_option linter.unusedVariables false
set_option linter.unusedSimpArgs false
namespace Go.Proofs.YtegmnocpkgpgeaaGreatDoor
open Ab Go.RowKit
set_option maxRecDepth 100000
set_option maxHeartbeats 4000000
attribute [local irreducible] aS bH
@[reducible] def stM (kind:Int) (name eH:List UInt8) (C K N:SV) (u:Bool):SV:= .agg [.int .u8 kind,.str name,.str eH,C,K,.bool u,N,.af,.af,.af,.int .u8 0,.int .u8 0,.int .i64 0,.str [],.str [],.str [],.int .i64 0,.int .u8 0,.af,.af,.af,.int .i64 0,.af]
theorem DY{A:Heap}{s:Sm}{C K N:SV}(hs:s={kind:=s.kind,name:=s.name,eH:=s.eH,aq:=s.aq,key:=s.key,uniq:=s.uniq,names:=s.names})(h1:bA A C (rowOf 3 (s.aq.map gQ)))(h2:bA A K (rowOf 1 (s.key.map SV.str)))(h3:bA A N (rowOf 1 (s.names.map SV.str))):bA A (stM s.kind s.name s.eH C K N s.uniq) (qN s):=by
 rw[hs];exact fQ {kind:=s.kind,name:=s.name,eH:=s.eH,aq:=s.aq,key:=s.key,uniq:=s.uniq,names:=s.names} h1 h2 h3 .nil .nil .nil .nil .nil .nil .nil
theorem Mt{b:Bool}{cs:List fH}{i:Nat}(h:i<cs.length):(kQ b cs i).map gQ=(cs.map gQ).set i (.agg ([.str cs[i].nm,.int .u8 cs[i].kd,.bool cs[i].nn].set 2 (.bool b))):=by
 unfold kQ;rw[List.getElem?_eq_getElem h];dsimp only;rw[List.map_set];rfl
@[reducible] def Wg (cs:List fH):ai:= .vec 0 3 (cs.map gQ) ⟨true,some 76⟩
@[reducible] def DZ (nm:List UInt8) (k nC nX nI:Nat) (gC gX gI:Nat->SV):SV:= .agg [.str nm,.int .i64 k,.aW 3 nC gC,.aW 1 nX gX,.aW 4 nI gI]
@[reducible] def Mu (v:SV):ai:= .vec 0 5 [v] ⟨false,some 39⟩
theorem yf{A:Heap}: ∀ {l:List SV},(∀ a∈l,aL a)->fI A l l
 | [],_=> .nil
 |a::r,h=> .cons (.lit (h a (by simp))) (yf fun b hb=>h b (by simp[hb]))
inductive Mv(n:Nat) where
 |E
 |L (g j:Nat) (hj:j<=n) (h0:0<j)
@[reducible] def Mv.j {n:Nat}:Mv n->Nat
  | .E=>0
  | .L _ j .. =>j
@[reducible] def Mv.out {n:Nat}:Mv n->SV
  | .E=> .sl 3 0 23 0 1 (some 1)
  | .L g j .. => .sl 6 g 23 0 (1+j) none
@[reducible] def D0 (t:Tb) (x:Ix):SV:=stM 6 x.nm t.nm .af .af (rowOf 1 ((x.aq.map (nameAt t.aq)).map SV.str)) x.To
@[reducible] def Mv.hp {n:Nat} (t:Tb) (S T:SV):Mv n->Heap
  | .E=>⟨4,[(3,.vec 0 23 [S] ⟨false,some 93⟩),(2,ya S),(0,Mu T)]⟩
  | .L g j .. =>⟨7,[(6,.vec g 23 (S::(t.idx.take j).map (D0 t)) ⟨true,some 93⟩),(2,ya S),(0,Mu T)]⟩
theorem Jn{t:Tb}{S:SV}(hS:SV.lt 8 7 S=true){l:List Ix}: ∀v∈S::l.map (D0 t),SV.lt 8 7 v=true:=by
 intro v hv;rcases List.mem_cons.1 hv with rfl|hv
 ·exact hS
 ·obtain⟨x,_,rfl⟩:=List.mem_map.1 hv;rfl
theorem Mw{S v:SV}(hS:SV.lt 8 7 S=true)(hv:SV.lt 8 7 v=true): ∀u∈([S].drop 0).take 1++[v],SV.lt 8 7 u=true:=by
 intro u hu;simp only[List.drop_zero,List.take_succ_cons,List.take_zero,List.cons_append,List.nil_append,List.mem_cons,List.not_mem_nil,or_false]at hu;rcases hu with rfl|rfl<;>assumption
theorem Mx{t:Tb}{S v:SV}{l:List Ix}(hS:SV.lt 8 7 S=true)(hv:SV.lt 8 7 v=true): ∀u∈(S::l.map (D0 t))++[v],SV.lt 8 7 u=true:=by
 intro u hu;rcases List.mem_append.1 hu with hu|hu
 ·exact Jn hS u hu
 ·rw[List.mem_singleton.1 hu];exact hv
theorem My{t:Tb}{k:Nat}{nC nX nI:Nat}{gC gX gI:Nat->SV}(g:LF (kX bC) t)(S4:nC=t.aq.length)(DS: ∀i (hi:i<t.aq.length),gC i=gQ t.aq[i])(YL:nX=t.key.length)(Mr: ∀i (hi:i<t.key.length),gX i=gA t.key[i])(hnI:nI=t.idx.length)(Wh: ∀i (hi:i<t.idx.length),gI i=Jg (1+i) t.idx[i]):
  aj Tryz.prog 31 [DZ t.nm k nC nX nI gC gX gI] (.bn [FM (cV t),.bool true]):=by
 subst S4;subst YL;subst hnI
 have eD:t.aq.length<=1000:=by have:=g.le;omega
 have hxl:t.key.length<=1000:=by have:=g.VU;omega
 have cn:=ye (l:=t.aq) (xs:=t.key) rfl DS rfl Mr eD hxl g.VV;refine aG (di (.agg (dP rfl))) (Uz.call mixed rfl ?_);unfold rowOf at cn;generalize YM:(fun i=>((t.key.map (nameAt t.aq)).map SV.str).getD i .undef)=gK at cn;iterate 60 all_goals ((try conv=>whnf);try first|(with_reducible first|refine zY ?_|refine zN ?_|refine zT ?_|refine br (fun _=> ?_) (fun _=> ?_)|refine⟨rfl,?_⟩)|(refine cn.call ?_)|(refine z8 eD g.pos DS ?_))
 have hKl:((t.key.map (nameAt t.aq)).map SV.str).length=t.key.length:=by simp
 generalize YN:((t.key.map (nameAt t.aq)).map SV.str).length=nK at*
 refine iq (σ:={j:Nat // j<=t.key.length}) true (fun y=>[(0,DZ t.nm k t.aq.length t.key.length t.idx.length gC gX gI),(1,.ref 0 0 0 0),(2,.af),(3,.bool false),(4,.aW 1 nK gK),(5,.bool true),(6,.ref (0+1+1) 0 0 0),(30,.aW 1 t.key.length gX),(31,.int .i64 t.key.length),(32,.int .i64 (y.1:Nat))])
  (fun y=>⟨3,[(2,ya (stM 5 t.nm [] (.sl 1 0 3 0 t.aq.length none) (.aW 1 nK gK) .af false)),(1,Wg ((t.key.take y.1).foldl (kQ false) t.aq)),(0,Mu (DZ t.nm k t.aq.length t.key.length t.idx.length gC gX gI))]⟩) (fun y=>t.key.length-y.1) ?_ ⟨0,Nat.zero_le _⟩
 rintro⟨j,hj⟩;dsimp only;have e7:IntKind.i64.wrap ((j:Int)+1)=((j+1:Nat):Int):=bf (by omega);have et:=Int.toNat_natCast j;by_cases hjl:j<t.key.length
 ·have hd:decide ((j:Int)<(t.key.length:Int))=true:=decide_eq_true (by omega)
  have D7:(decide (0<=(j:Int))&&decide ((j:Int)<(t.key.length:Int)))=true:=by simp only[Bool.and_eq_true,decide_eq_true_eq];omega
  have eg:gX (j:Int).toNat= .int .i64 (t.key[j]:Int):=by rw[et];exact Mr _ hjl
  have uH:(t.key.take (j+1)).foldl (kQ false) t.aq=kQ false ((t.key.take j).foldl (kQ false) t.aq) t.key[j]:=by
   rw[List.take_add_one,List.getElem?_eq_getElem hjl,List.foldl_append];rfl
  have Jo:=j0 false (t.key.take j) t.aq;have YI:=g.VV _ (List.getElem_mem hjl);generalize (t.key.take j).foldl (kQ false) t.aq=cs at uH Jo ⊢;have hx:t.key[j]<cs.length:=by rw[Jo];exact YI
  have hcell:(cs.map gQ)[t.key[j]]? =some (.agg [.str cs[t.key[j]].nm,.int .u8 cs[t.key[j]].kd,.bool cs[t.key[j]].nn]):=by rw[List.getElem?_map,List.getElem?_eq_getElem hx];rfl
  have Zk:(decide (0<=(t.key[j]:Int))&&decide ((t.key[j]:Int)<(t.aq.length:Int)))=true:=by simp only[Bool.and_eq_true,decide_eq_true_eq];omega
  have ex:=Int.toNat_natCast t.key[j];have JX:=Mt (b:=false) hx;generalize t.key[j]=x0 at*;have x8:(cs.map gQ)[0+(x0:Int).toNat]? =some (.agg [.str cs[x0].nm,.int .u8 cs[x0].kd,.bool cs[x0].nn]):=by rw[ex,Nat.zero_add];exact hcell
  have Mh:(kQ false cs x0).map gQ=(cs.map gQ).set (0+(x0:Int).toNat) (.agg ([.str cs[x0].nm,.int .u8 cs[x0].kd,.bool cs[x0].nn].set (0+2) (.bool false))):=by rw[ex,Nat.zero_add];exact JX
  rw[<- cM]at x8;have Mi:0+(x0:Int).toNat<(cs.map gQ).length:=by rw[ex,List.length_map];omega
  iterate 80 all_goals ((try conv=>whnf);try first|(with_reducible first|refine zY ?_|refine zN ?_|refine zT ?_|refine br (fun _=> ?_) (fun _=> ?_)|refine⟨rfl,?_⟩)|(rewrite [eg])|(rewrite [x8])|(refine fy.2 ⟨Mi,?_⟩))
  refine⟨fun _=>false,_,_,3,Nat.le_refl _,bh,(by rw[l8];exact .refl),mJ ?_⟩;iterate 14 all_goals ((try conv=>whnf);try first|(with_reducible first|refine zY ?_|refine zN ?_|refine zT ?_|refine br (fun _=> ?_) (fun _=> ?_)|refine⟨rfl,?_⟩))
  exact⟨⟨j+1,hjl⟩,by dsimp only;omega,by rw[e7],by dsimp only;rw[uH,Wg,Mh];rfl⟩
 ·have hd:decide ((j:Int)<(t.key.length:Int))=false:=decide_eq_false (by omega)
  obtain rfl:j=t.key.length:=by omega
  rw[List.take_length];have Jo:=j0 false t.key t.aq;have ZG:qO t={kind:=5,name:=t.nm,aq:=t.key.foldl (kQ false) t.aq,key:=t.key.map (nameAt t.aq)}:=rfl;generalize hcs:t.key.foldl (kQ false) t.aq=cs at Jo ZG ⊢;iterate 20 all_goals ((try conv=>whnf);try first|(with_reducible first|refine zY ?_|refine zN ?_|refine zT ?_|refine br (fun _=> ?_) (fun _=> ?_)|refine⟨rfl,?_⟩))
  have hrow: ∃gD:Nat->SV,rowOf 3 (cs.map gQ)= .aW 3 t.aq.length gD/\gD=fun i=>(cs.map gQ).getD i .undef:=⟨_,by rw[rowOf,List.length_map,Jo],rfl⟩
  obtain⟨gD,hrow,hgD⟩:=hrow
  refine⟨fun j=>Nat.beq j 1,_,[(2,ya (stM 5 t.nm [] (.aW 3 t.aq.length gD) (.aW 1 nK gK) .af false)),(0,Mu (DZ t.nm k t.aq.length t.key.length t.idx.length gC gX gI))],bh,(by
   show k9 _ [(2,_),(0,_)] _;refine .cons (oK (fI.get (.cons (.lit (.int _ _)) (.cons (.lit (.str _)) (.cons (.lit (.str _)) (.cons (hrow▸dH (vs:=cs.map gQ) (sk:=⟨true,some 76⟩) (vO.trans rfl) (by rw[List.length_map,Jo]) (jg qz)) (yf (dP rfl)))))))) .refl),?_⟩
  iterate 60 all_goals ((try conv=>whnf);try first|(with_reducible first|refine zY ?_|refine zN ?_|refine zT ?_|refine br (fun _=> ?_) (fun _=> ?_)|refine⟨rfl,?_⟩))
  have hV: ∀A,bA A (stM 5 t.nm [] (.aW 3 t.aq.length gD) (.aW 1 nK gK) .af false) (qN (qO t)):=fun A=>by
   rw[<- hrow,<-YM,<-YN];exact DY (s:=qO t) rfl (by rw[ZG];exact .lit (bP _ _)) (.lit (bP _ _)) .nil
  have hX: ∀A x,bA A (D0 t x) (qN (mI t x)):=fun A x=>DY (s:=mI t x) rfl .nil .nil (.lit (bP _ _))
  have hSl:SV.lt 8 7 (stM 5 t.nm [] (.aW 3 t.aq.length gD) (.aW 1 nK gK) .af false)=true:=rfl;have hSo:cZ (stM 5 t.nm [] (.aW 3 t.aq.length gD) (.aW 1 nK gK) .af false).cells=true:=rfl
  refine iq (σ:=Mv t.idx.length) false (fun s=>[(0,DZ t.nm k t.aq.length t.key.length t.idx.length gC gX gI),(1,.ref 0 0 0 0),(2,.af),(3,.bool false),(4,.aW 1 nK gK),(5,.bool true),(6,.ref (0+1+1) 0 0 0),(30,.aW 1 t.key.length gX),(31,.int .i64 t.key.length),(32,.int .i64 t.key.length),(33,.bool false),(9,s.out),(46,.aW 4 t.idx.length gI),(47,.int .i64 t.idx.length),(48,.int .i64 s.j)])
   (Mv.hp t (stM 5 t.nm [] (.aW 3 t.aq.length gD) (.aW 1 nK gK) .af false) (DZ t.nm k t.aq.length t.key.length t.idx.length gC gX gI)) (fun s=>t.idx.length-s.j) ?_ .E
  intro s;have hi:s.j<=t.idx.length:=by cases s<;>first|exact Nat.zero_le _|assumption
  have aas:=g.Ou;have e7:IntKind.i64.wrap ((s.j:Int)+1)=((s.j+1:Nat):Int):=bf (by omega);have et:=Int.toNat_natCast s.j;by_cases hil:s.j<t.idx.length
  ·have hd:decide ((s.j:Int)<(t.idx.length:Int))=true:=decide_eq_true (by omega)
   have hb:(decide (0<=(s.j:Int))&&decide ((s.j:Int)<(t.idx.length:Int)))=true:=by simp only[Bool.and_eq_true,decide_eq_true_eq];omega
   have eg:gI (s.j:Int).toNat=Jg (1+s.j) t.idx[s.j]:=by rw[et];exact Wh _ hil
   have gx:=g.idx _ (List.getElem_mem hil);have hts:=vP hil;generalize t.idx[s.j]=x at*;have hxm:(x.aq.map gA).length=x.aq.length:=List.length_map ..;unfold Jg rowOf at eg;rw[hxm]at eg;generalize hgM:(fun i=>(x.aq.map gA).getD i .undef)=gM at eg;have YO:=ye (l:=t.aq) (xs:=x.aq) (gX:=gM) rfl DS rfl (fun i hi=>by rw[<- hgM];exact ji i hi) eD (by have:=gx.le;omega) gx.lt;have Hl: ∃nJ gJ,rowOf 1 ((x.aq.map (nameAt t.aq)).map SV.str)= .aW 1 nJ gJ:=⟨_,_,rfl⟩;obtain⟨nJ,gJ,Hl⟩:=Hl;rw[Hl]at YO;have ZH:D0 t x=stM 6 x.nm t.nm .af .af (.aW 1 nJ gJ) x.To:=by rw[D0,Hl]
   cases s with
   |E=>
    iterate 100 all_goals ((try conv=>whnf);try first|(with_reducible first|refine zY ?_|refine zN ?_|refine zT ?_|refine br (fun _=> ?_) (fun _=> ?_)|refine⟨rfl,?_⟩)|(rewrite [eg])|(refine YO.call ?_)|(refine wS (iO dD rfl) (by simp) rfl rfl (by simp) (by simp) (by simp) (by simp) ?_))
    refine⟨fun j=>Nat.beq j 3||(Nat.beq j 4||Nat.beq j 5),_,_,7,(by show 4<=7;decide),bh,.refl,?_⟩;iterate 14 all_goals ((try conv=>whnf);try first|(with_reducible first|refine zY ?_|refine zN ?_|refine zT ?_|refine br (fun _=> ?_) (fun _=> ?_)|refine⟨rfl,?_⟩)|(refine au (Mw rfl rfl) ?_)|(refine au (fP rfl) ?_))
    refine⟨.L 0 1 hil (by decide),(by have h9:0<t.idx.length:=hil;show t.idx.length-1<t.idx.length-0;omega),(by rw[e7];rfl),?_⟩;dsimp only[Mv.hp];rw[show t.idx.take 1=[x] from hts,List.map_singleton,ZH];rfl
   |L gg j hj2 h0=>
    have qQ:=Nat.beq_refl gg;iterate 100 all_goals ((try conv=>whnf);try first|(with_reducible first|refine zY ?_|refine zN ?_|refine zT ?_|refine br (fun _=> ?_) (fun _=> ?_)|refine⟨rfl,?_⟩)|(rewrite [eg])|(refine YO.call ?_)|(refine eu (by simp;omega) rfl (by decide) rfl (by omega) (by omega) ?_))
    refine⟨fun j=>Nat.beq j 7||Nat.beq j 8,_,_,7,Nat.le_refl 7,bh,.refl,?_⟩;iterate 14 all_goals ((try conv=>whnf);try first|(with_reducible first|refine zY ?_|refine zN ?_|refine zT ?_|refine br (fun _=> ?_) (fun _=> ?_)|refine⟨rfl,?_⟩)|(refine au (Mx rfl rfl) ?_)|(refine au (fP rfl) ?_))
    refine⟨.L (gg+1) (j+1) hil (by omega),(by have h9:j<t.idx.length:=hil;show t.idx.length-(j+1)<t.idx.length-j;omega),(by rw[e7];rfl),?_⟩;dsimp only[Mv.hp];rw[hts,List.map_append,List.map_singleton,ZH];rfl
  ·have hd:decide ((s.j:Int)<(t.idx.length:Int))=false:=decide_eq_false (by omega)
   cases s with
   |E=>
    have e:t.idx=[]:=List.eq_nil_of_length_eq_zero (by simp only[Mv.j]at hil;omega);iterate 30 all_goals ((try conv=>whnf);try first|(with_reducible first|refine zY ?_|refine zN ?_|refine zT ?_|refine br (fun _=> ?_) (fun _=> ?_)|refine⟨rfl,?_⟩))
    refine⟨_,rfl,ij ?_ (.lit (.bool _))⟩;rw[cV,e]
    exact sX (es:=[(stM 5 t.nm [] (.aW 3 t.aq.length gD) (.aW 1 nK gK) .af false)]) rfl rfl rfl fun j v hv=>by
     cases j with
     |zero=>cases hv;exact hV _
     |succ j=>cases hv
   |L gg j hj2 h0=>
    obtain rfl:j=t.idx.length:=by have h9: ¬j<t.idx.length:=hil;omega
    iterate 30 all_goals ((try conv=>whnf);try first|(with_reducible first|refine zY ?_|refine zN ?_|refine zT ?_|refine br (fun _=> ?_) (fun _=> ?_)|refine⟨rfl,?_⟩))
    refine⟨_,rfl,ij ?_ (.lit (.bool _))⟩;rw[cV];refine sX (es:=(stM 5 t.nm [] (.aW 3 t.aq.length gD) (.aW 1 nK gK) .af false)::(t.idx.take t.idx.length).map (D0 t)) rfl (by simp;omega) (by simp) fun j v hv=> ?_
    rw[List.take_length]at hv;cases j with
    |zero=>cases hv;exact hV _
    |succ j=>
     have hv:(t.idx.map (D0 t))[j]? =some v:=hv;rw[List.getElem?_map]at hv;show bA _ v (((t.idx.map (mI t)).map qN).getD j .undef);rw[List.map_map,List.getD,List.getElem?_map];cases hx:t.idx[j]? with
     |none=>rw[hx]at hv;cases hv
     |some x=>rw[hx]at hv;cases hv;exact hX _ x
section
@[reducible] def Ta:ai:= .vec 0 2 [.agg [.eM,.af]] ⟨false,some 99⟩
@[reducible] def Tc (bi q g n:Nat):ai:=mU 99 bi q g n
@[reducible] def Mz (g:Nat) (o:List UInt8):ai:=mV 5 g o
inductive yg(l:List (Nat×ai))(bi:Nat):List UInt8->Prop
 |nil (h:ak l bi=some Ta):yg l bi []
 |buf {q g:Nat} {o:List UInt8} (h0:0<o.length) (hne:bi≠q) (hb:ak l bi=some (Tc bi q g o.length)) (hq:ak l q=some (Mz g o)):yg l bi o
section
variable {m bi:Nat} {l:List (Nat×ai)} {R:bu->Heap->Prop} {s o:List UInt8}
theorem ON(hB:yg l bi o)(h0:0<s.length)(hlen:o.length+s.length<=140737488355328)
  (hk: ∀m' l',m<=m'->yg l' bi (o++s)->(∀ j ob,ak l j=some ob->j≠bi->(∀ g z,ob≠Mz g z)->ak l' j=some ob)->(∀ j p,ak l' j=some p->j<m')->R (.ret (.bn [.int .i64 s.length,.dF])) ⟨m',l'⟩):
  aC Tryz.prog 33 [.ref bi 0 0 0,.str s] ⟨m,l⟩ R:=by
 refine Bu (zX fun hlt=>Gx.call mixed rfl ?_);cases hB with
 |nil hb=>
  have AH:=hlt _ _ hb;have q1:Nat.beq m bi=false:=cu (by omega);iterate 40 all_goals ((try conv=>whnf);try first|(with_reducible first|refine zY ?_|refine zN ?_|refine zT ?_|refine br (fun _=> ?_) (fun _=> ?_)|refine⟨rfl,?_⟩)|(refine sK.call mixed rfl ?_)|(with_reducible refine aH hb ?_)|(refine lU (qt _) (by simpa using h0) (oJ _) (by simp;omega) (by simp;omega) ?_)|(with_reducible refine aH (aV hb) ?_)|(with_reducible refine aH ((aU (by omega)).trans (aV hb)) ?_)|(with_reducible refine kE ?_))
  rw[List.length_map];refine fun hl'=>hk _ _ (Nat.le_succ m) (.buf (q:=m) (g:=0) h0 (by omega) ?_ dD) (fun j ob hj hjb _=> ?_) hl'
  ·exact(aU (by omega)).trans (aV (aV hb))
  ·have:=hlt _ _ hj
   exact(aU (by omega)).trans ((aF hjb).trans ((aF hjb).trans hj))
 | @buf q g _ ho hne hb hq=>
   have AH:=hlt _ _ hb;have hqm:=hlt _ _ hq;have q4:(Nat.beq bi bi&&Nat.beq 0 0&&(Nat.beq 0 0&&Nat.beq 0 0))=true:=by rw[cC];rfl
   have q5:ak (bt l q (.vec (g+1) 1 (o.map tw++s.map tw) ⟨true,some 5⟩)) bi=some (Tc bi q g o.length):=by rw[aF hne];exact hb
   iterate 40 all_goals ((try conv=>whnf);try first|(with_reducible first|refine zY ?_|refine zN ?_|refine zT ?_|refine br (fun _=> ?_) (fun _=> ?_)|refine⟨rfl,?_⟩)|(refine sK.call mixed rfl ?_)|(with_reducible refine aH hb ?_)|(with_reducible refine aH hq ?_)|(with_reducible refine aH q5 ?_)|(refine wR hq h0 hlen ?_)|(with_reducible refine kE ?_))
   refine fun hl'=>hk _ _ (Nat.le_refl m) (.buf (q:=q) (g:=g+1) (by rw[List.length_append];omega) hne ?_ ?_) (fun j ob hj hjb hn=> ?_) hl'
   ·rw[List.length_append]
    exact aV ((aF hne).trans hb)
   ·rw[Mz,mV,List.map_append]
    exact(aF (Ne.symm hne)).trans (aV hq)
   ·refine(aF hjb).trans ((aF fun e=> ?_).trans hj)
    subst e;rw[hq]at hj;cases hj
    exact hn _ _ rfl
inductive D1(l:List (Nat×ai))(bi:Nat):List UInt8->Prop
 |nil (h:ak l bi=some Ta):D1 l bi []
 |kf {q g:Nat} {o:List UInt8} (h0:0<o.length) (hl:o.length<=9223372036854775807) (hne:bi≠q) (hb:ak l bi=some (Tc bi q g o.length)) (hq:ak l q=some (.kf g 5 (o.map tw))):D1 l bi o
theorem D1.mono{l l':List (Nat×ai)}(h: ∀j p,ak l j=some p->ak l' j=some p)(hB:D1 l bi o):D1 l' bi o:=by
 cases hB with
 |nil hb=>exact .nil (h _ _ hb)
 |kf h0 hl hne hb hq=>exact .kf h0 hl hne (h _ _ hb) (h _ _ hq)
theorem OO(hB:yg l bi o)(hlen:o.length<=140737488355328)
  (hk: ∀m' l',m<=m'->D1 l' bi o->(∀ j ob,ak l j=some ob->j≠bi->(∀ g z,ob≠Mz g z)->ak l' j=some ob)->(∀ j p,ak l' j=some p->j<m')->R (.ret (.str o)) ⟨m',l'⟩):aC Tryz.prog 34 [.ref bi 0 0 0] ⟨m,l⟩ R:=by
 refine Bu ?_;cases hB with
 |nil hb=>
  refine zv.call mixed rfl ?_;iterate 40 all_goals ((try conv=>whnf);try first|(with_reducible first|refine zY ?_|refine zN ?_|refine zT ?_|refine br (fun _=> ?_) (fun _=> ?_)|refine⟨rfl,?_⟩)|(with_reducible refine aH hb ?_))
  exact fun hl=>hk _ _ (Nat.le_refl _) (.nil hb) (fun j ob hj _ _=>hj) hl
 | @buf q g _ ho hne hb hq=>
   refine A4 hb hq ho (by omega) fun hl=>hk _ _ (Nat.le_refl _) (.kf ho (by omega) hne ((aF hne).trans hb) (aV hq)) (fun j ob hj hjb hn=>(aF fun e=> ?_).trans hj) hl
   subst e;rw[hq]at hj;cases hj
   exact hn _ _ rfl
theorem Ho{v:SV}(g:Nat)(z:List UInt8):jm v≠Mz g z:=fun h=>by
 injection h with _ _ _ h
 injection h with h
 cases h
theorem MA{v:SV}(hB:yg l 1 o)(hlen:o.length<=140737488355328)(b0:ak l 0=some (jm v))(hm2:2<=m)
  (hk: ∀m' l',m<=m'->D1 l' 1 o->ak l' 0=some (jm v)->(∀ j p,ak l' j=some p->j<m')->Nat.beq (m'+1) m'=false->Nat.beq m' (m'+1)=false->Nat.beq m' 0=false->Nat.beq (m'+1) 0=false->Nat.beq m' m'=true->Nat.beq (m'+1) (m'+1)=true->R (.ret (.str o)) ⟨m',l'⟩):aC Tryz.prog 34 [.ref 1 0 0 0] ⟨m,l⟩ R:=
 OO hB hlen fun m' l' hm hF hsame hl=>hk m' l' hm hF (hsame _ _ b0 (by decide) Ho) hl (cu (show m'+1≠m' by omega)) (cu (show m'≠m'+1 by omega)) (cu (show m'≠0 by omega)) (cu (show m'+1≠0 by omega)) (Nat.beq_refl m') (Nat.beq_refl (m'+1))
theorem yg.mono{l l':List (Nat×ai)}(h: ∀j p,ak l j=some p->ak l' j=some p)(hB:yg l bi o):yg l' bi o:=by
 cases hB with
 |nil hb=>exact .nil (h _ _ hb)
 |buf h0 hne hb hq=>exact .buf h0 hne (h _ _ hb) (h _ _ hq)
theorem MB(hB:D1 l bi o)(hk: ∀m' l',m<=m'->R (.ret (.str o)) ⟨m',l'⟩):aC Tryz.prog 34 [.ref bi 0 0 0] ⟨m,l⟩ R:=by
 refine zv.call mixed rfl ?_;cases hB with
 |nil hb=>
  iterate 40 all_goals ((try conv=>whnf);try first|(with_reducible first|refine zY ?_|refine zN ?_|refine zT ?_|refine br (fun _=> ?_) (fun _=> ?_)|refine⟨rfl,?_⟩)|(with_reducible refine aH hb ?_))
  exact hk _ _ (Nat.le_refl _)
 | @kf q g _ ho hlen hne hb hq=>
   have q1:Nat.blt 0 o.length=true:=by rw[Nat.blt,Nat.ble_eq];exact ho
   have q2:(Nat.beq g g&&(Nat.beq 0 0&&Nat.beq 0 0)&&Nat.beq 5 5&&(decide (0<(o.length:Int))&&decide ((o.length:Int)<=9223372036854775807)))=true:=by
    rw[cC,cC 5,decide_eq_true (show 0<(o.length:Int) by omega),decide_eq_true (show(o.length:Int)<=9223372036854775807 by omega)];rfl
   have q3:Nat.beq g g=true:=cC g;have q4:Nat.beq q q=true:=cC q;iterate 40 all_goals ((try conv=>whnf);try first|(with_reducible first|refine zY ?_|refine zN ?_|refine zT ?_|refine br (fun _=> ?_) (fun _=> ?_)|refine⟨rfl,?_⟩)|(with_reducible refine aH hb ?_)|(with_reducible refine aH hq ?_)|(refine tU (by simp) ?_)|(refine rP ?_)|(with_reducible refine kE ?_))
   exact hk _ _ (Nat.le_refl _)
end
end
end Go.Proofs.YtegmnocpkgpgeaaGreatDoor
