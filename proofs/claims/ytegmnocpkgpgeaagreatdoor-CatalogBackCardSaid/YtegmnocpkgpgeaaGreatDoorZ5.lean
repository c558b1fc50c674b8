/- Parts of the proof of PCatalogBack, one behind the other, with short names. -/
import Derived.Test.YtegmnocpkgpgeaaGreatDoorZ4
set_option linter.unusedVariables false
set_option linter.unusedSimpArgs false
namespace Ab
open Go
section
section
variable {P:Program} {Γ:bR} {c:Cx} {h:Heap} {w:World} {e:Env} {a:Act} {o:Oper} {k kp:SV->Heap->Prop}
theorem lG(he:ER c h w e a.tmps){d:Int}{x:Option Operand}{K:Int->Prop}(hp:iw e d (x.map aD) K):
  (x=none/\K d)\/ ∃y kk n,x=some y/\a.eval y= .int kk n/\K n:=by
 cases x with
 |none=>exact .inl ⟨rfl,hp⟩
 |some y=>
  simp only[Option.map_some,iw,aE]at hp;have hy:=he.ev y;split at hp
  ·rename_i kk n h1
   rw[h1]at hy;exact .inr ⟨y,kk,n,rfl,hy.bQ,hp⟩
  ·exact hp.elim
theorem ia{kk:IntKind}{i:Int}{y:Nat}(code:BoundsCode)(h0:0<=i)(h1:i<=y):(Instr.sliceBound (.int kk i) y code).run P w= .ok i.toNat w:=by
 simp[Instr.sliceBound,asIntOf,h0,h1]
theorem lH(he:ER c h w e a.tmps)(b:Bool)(len cap:Nat){lo hi:Option Operand}{K:Int->Int->Prop}(hp:iw e 0 (lo.map aD) fun l=>iw e len (hi.map aD) fun hh=>K l hh):
  ∃l hh,K l hh/\(0<=l->l<=hh->hh<=cap->(Instr.sliceBounds b len cap (lo.map a.eval) (hi.map a.eval) none).run P w= .ok (l.toNat,hh.toNat,cap) w):=by
 rcases lG he hp with⟨rfl,Qm⟩|⟨y,kk,n,rfl,hy,Qm⟩
 ·rcases lG he Qm with⟨rfl,tE⟩|⟨y,kk,n,rfl,hy,tE⟩
  ·exact⟨_,_,tE,fun h0 h1 h2=>by simp[Instr.sliceBounds]⟩
  ·exact⟨_,_,tE,fun h0 h1 h2=>by simp[Instr.sliceBounds,hy,ia _ h1 h2]⟩
 ·rcases lG he Qm with⟨rfl,tE⟩|⟨y2,Y2,n2,rfl,Qn,tE⟩
  ·exact⟨_,_,tE,fun h0 h1 h2=>by simp[Instr.sliceBounds,hy,ia _ h0 h1]⟩
  ·refine⟨_,_,tE,fun h0 h1 h2=> ?_⟩
   simp[Instr.sliceBounds,hy,Qn,ia _ (Int.le_trans h0 h1) h2];exact(congrArg (fun r=>Result.andThen r _) (ia (P:=P) (w:=w) .sliceB h0 (by omega))).trans (by simp)
theorem yu(he:ER c h w e a.tmps){t:TypeId}{x:Operand}{lo hi:Option Operand}(ho:o.op= .slice t x lo hi none)(hu:P.underlying t=some .string)
  (hp:bF P Γ (.bN (aD x) (lo.map aD) (hi.map aD)) e h k kp):dW P c h w a o k:=by
 simp only[bF,aE]at hp;have hx:=he.ev x;split at hp
 ·rename_i s h1
  rw[h1]at hx;obtain⟨l,hh,hp,hrun⟩:=lH (P:=P) (w:=w) he false s.length s.length hp
  replace hp:=ah.1 hp
  obtain⟨hb,hp⟩:=hp;simp only[Bool.and_eq_true,decide_eq_true_eq]at hb;obtain⟨⟨h0,h1⟩,h2⟩:=hb;refine .of _ _ hp ?_ .str;have hsz:(ByteArray.mk s.toArray).size=s.length:=by simp[ByteArray.size]
  have hex:(ByteArray.mk s.toArray).extract l.toNat hh.toNat=ByteArray.mk ((s.drop l.toNat).take (hh.toNat-l.toNat)).toArray:=by
   apply ByteArray.ext
   apply Array.ext'
   simp[ByteArray.data_extract,List.extract_eq_take_drop]
  simp[execOp,ho,hx.eJ,Instr.sliceAt,run_underlying hu,Instr.slice,hsz,hrun h0 h1 h2,hex]
 ·exact hp.elim
theorem Ej(he:ER c h w e a.tmps){t el:TypeId}{x:Operand}{lo hi:Option Operand}{i:TypeInfo}(ho:o.op= .slice t x lo hi none)(hu:P.underlying t=some (.slice el))(hi':P.info? el=some i)
  (hp:bF P Γ (.slice i.size (aD x) (lo.map aD) (hi.map aD)) e h k kp):dW P c h w a o k:=by
 simp only[bF,aE]at hp;have hx:=he.ev x
 have hrun: ∀(ad:Option Addr) (len cap l hh:Nat),a.eval x= .slice ad len cap->(Instr.sliceBounds true len cap (lo.map a.eval) (hi.map a.eval) none).run P w= .ok (l,hh,cap) w->
   (execOp a.eval o).run P w= .ok (.value (.slice (if cap=l then ad else ad.map (·.add (l*i.size))) (hh-l) (cap-l))) w:=by
  intro ad len cap l hh hx hr;simp[execOp,ho,hx,Instr.sliceAt,run_underlying hu,Instr.slice,hr,dy hi']
 split at hp
 ·rename_i sz n get h1
  rw[h1]at hx
  replace hp:=ah.1 hp
  obtain⟨hsz,hp⟩:=hp;have hsz:=Nat.eq_of_beq_eq_true hsz;obtain⟨ad,cap,dA,hnc,jn⟩:=hx.oh;obtain⟨l,hh,hp,yo⟩:=lH (P:=P) (w:=w) he true n cap hp
  replace hp:=ah.1 hp
  obtain⟨hb,hp⟩:=hp;simp only[Bool.and_eq_true,decide_eq_true_eq]at hb;obtain⟨⟨h0,h1⟩,h2⟩:=hb;refine .of _ _ hp (hrun _ _ _ _ _ dA (yo h0 h1 (by omega))) ?_;by_cases hz:hh.toNat-l.toNat=0
  ·rw[hz]
   exact .pure (.pE _ _ _ _)
  ·rcases jn with rfl|⟨b,off,C,ty,fz,rfl,hb,hw,hn,hc,hcell⟩
   ·omega
   ·rw[if_neg (by omega)]
    simp only[Option.map_some,add_eq];refine .pure (.aW sz _ _ b (off+l.toNat*i.size) _ C ty fz hb hw ?_ (by omega) (fun j hj=>hc _ (by omega)) fun j j' v y hj hv hy=>hcell (l.toNat+j) j' v y (by omega) hv ?_)
    ·have e1:(l.toNat+(hh.toNat-l.toNat))*sz<=n*sz:=Nat.mul_le_mul_right _ (by omega)
     rw[Nat.add_mul]at e1;rw[<- hsz];omega
    ·rw[<- hy,<-hsz,Nat.add_mul]
     congr 1
     omega
 ·rename_i ii g sz off len cap hev
  rw[hev]at hx;clear hev
  replace hp:=ah.1 hp
  obtain⟨hsz,hp⟩:=hp;have hsz:=Nat.eq_of_beq_eq_true hsz;obtain⟨hp,sz',elems,sk,bZ⟩:=eR hp;obtain⟨iz,ad,cc,dA,hlc,hcap,jn⟩:=hx.iS bZ rfl;obtain⟨l,hh,hp,yo⟩:=lH (P:=P) (w:=w) he true len cc hp
  replace hp:=ah.1 hp
  obtain⟨hb,hp⟩:=hp;simp only[Bool.and_eq_true,decide_eq_true_eq]at hb;obtain⟨h0,h1⟩:=hb
  have hfull:cap=none->l.toNat<=cc-> ∃ty n,w.shape? (c.β ii)=some (ty,n)/\(off+l.toNat)*sz+(cc-l.toNat)*sz=n:=fun Pb ZR=>by
   subst Pb;obtain⟨ty,n,h1,h2⟩:=hx.Am bZ rfl dA;refine⟨ty,n,h1,?_⟩;rw[<- h2,<-Nat.add_mul,<-Nat.add_mul];congr 1
   omega
  have hmk: ∀cap',(cap'=none->cap=none)->hh.toNat<=cc->(∀ k,cap'=some k->cc-l.toNat=k)->VR c h w (.sl ii g sz (off+l.toNat) (hh.toNat-l.toNat) cap') (.slice (if cc=l.toNat then some ad else(some ad).map (·.add (l.toNat*i.size))) (hh.toNat-l.toNat) (cc-l.toNat)):=by
   intro cap' Pb hle hk;cases hx with
   |pure hx=>cases hx
   |sl _ _ _ _ _ _ _ _ hi hg _=>
   refine .sl _ _ _ _ _ _ _ ⟨_,_,_,rfl⟩ hi hg fun o' ho' hgo=> ?_
   rw[bZ]at ho';cases ho'
   by_cases hz:cc=l.toNat
   ·rw[if_pos hz]
    exact⟨iz,ad,_,rfl,by omega,hk,.inl (by omega),fun h=>hfull (Pb h) (by omega)⟩
   ·rw[if_neg hz]
    simp only[Option.map_some];refine⟨iz,_,_,rfl,by omega,hk,.inr ?_,fun h=>hfull (Pb h) (by omega)⟩;rcases jn with h0|⟨rfl,ty,n,hsh,hle'⟩
    ·omega
    ·refine⟨by rw[add_eq,Nat.add_mul,hsz],ty,n,hsh,?_⟩
     have e1:(off+l.toNat)*sz+(cc-l.toNat)*sz=off*sz+cc*sz:=by
      rw[<- Nat.add_mul,<-Nat.add_mul];congr 1
      omega
     omega
  cases cap with
  |some cp=>
   replace hp:=ah.1 hp
   obtain⟨D7,hp⟩:=hp;simp only[decide_eq_true_eq]at D7;have ZS:=hcap cp rfl;refine .of _ _ hp (hrun _ _ _ _ _ dA (yo h0 h1 (by omega))) (hmk _ (fun h=>by cases h) (by omega) fun k hk=>by cases hk;omega)
  |none=>
   replace hp:=ah.1 hp
   obtain⟨D7,hp⟩:=hp;simp only[decide_eq_true_eq]at D7;refine .of _ _ hp (hrun _ _ _ _ _ dA (yo h0 h1 (by omega))) (hmk _ (fun _=>rfl) (by omega) fun k hk=>by cases hk)
 ·rename_i h1
  rw[h1]at hx;obtain⟨l,hh,hp,yo⟩:=lH (P:=P) (w:=w) he true 0 0 hp
  replace hp:=ah.1 hp
  obtain⟨hb,hp⟩:=hp;simp only[Bool.and_eq_true,decide_eq_true_eq]at hb;obtain⟨h0,h1⟩:=hb;subst h0;subst h1
  refine .of _ _ hp (hrun _ _ _ _ _ hx.cF (yo (by omega) (by omega) (by omega))) ?_;exact .pure .af
 ·exact hp.elim
theorem wj(he:ER c h w e a.tmps){t el:TypeId}{x i:Operand}{ti:TypeInfo}(ho:o.op= .indexAddr t x i)(hu:P.underlying t=some (.slice el))(F5:P.info? el=some ti)
  (hp:bF P Γ (.indexAddr ti.size (aD x) (aD i)) e h k kp):dW P c h w a o k:=by
 simp only[bF,aE]at hp;have hx:=he.ev x;have hi:=he.ev i
 have hrun: ∀b off len cap kk (j:Int),a.eval x= .slice (some ⟨b,off,none⟩) len cap->a.eval i= .int kk j->0<=j->j<len->
   (execOp a.eval o).run P w= .ok (.value (.pointer (some ⟨b,off+j.toNat*ti.size,none⟩))) w:=by
  intro b off len cap kk j hx hi h0 h1;simp[execOp,ho,hx,hi,Instr.indexAt,asIntOf,run_underlying hu,h0,h1,dy F5,add_eq]
 split at hp
 ·rename_i sz n get kk j h1 h2
  rw[h1]at hx;rw[h2]at hi
  replace hp:=ah.1 hp
  obtain⟨hsz,hp⟩:=hp;have hsz:=Nat.eq_of_beq_eq_true hsz
  replace hp:=ah.1 hp
  obtain⟨hb,hp⟩:=hp;simp only[Bool.and_eq_true,decide_eq_true_eq]at hb;obtain⟨ad,cap,dA,hnc,jn⟩:=hx.oh;rcases jn with rfl|⟨b,off,C,ty,fz,rfl,Xh,hw,hn,hc,hcell⟩
  ·omega
  ·refine .of _ _ hp (hrun _ _ _ _ _ _ dA hi.bQ hb.1 hb.2) ?_
   have hj:j.toNat<n:=by omega
   have:=VP.kK (w:=w) (get j.toNat) 0 b (off+j.toNat*sz) C ty fz Xh hw (by
    rw[hc _ hj];have e1:(j.toNat+1)*sz<=n*sz:=Nat.mul_le_mul_right _ hj;rw[Nat.succ_mul]at e1;omega) fun j' u y hu hy=>hcell j.toNat j' u y hj hu hy
   rw[<- hsz];exact .pure this
 ·rename_i ii g sz off len cap kk j h1 h2
  rw[h1]at hx;rw[h2]at hi
  replace hp:=ah.1 hp
  obtain⟨hsz,hp⟩:=hp;have hsz:=Nat.eq_of_beq_eq_true hsz;obtain⟨hp,sz',elems,sk,bZ⟩:=eR hp
  replace hp:=ah.1 hp
  obtain⟨hb,hp⟩:=hp;simp only[Bool.and_eq_true,decide_eq_true_eq]at hb;obtain⟨iz,ad,cc,dA,hlc,hcap,jn⟩:=hx.iS bZ rfl;rcases jn with h0|⟨rfl,ty,n,hsh,hle⟩
  ·omega
  ·refine .of _ _ hp (hrun _ _ _ _ _ _ dA hi.bQ hb.1 hb.2) ?_
   cases hx with
   |pure hx=>cases hx
   |sl _ _ _ _ _ _ _ _ MS hg _=>
   refine .ref _ _ _ _ _ ⟨_,rfl⟩ MS hg fun o' ho' hgo=> ?_
   rw[bZ]at ho';cases ho'
   simp only[ai.sz]at iz ⊢;rw[iz,<-hsz,Nat.add_mul];rfl
 ·exact hp.elim
theorem yw(hr:bT c h w)(he:ER c h w e a.tmps){t el:TypeId}{n:Nat}{x i:Operand}{ti:TypeInfo}(ho:o.op= .indexAddr t x i)(hu:P.underlying t=some (.array n el))(F5:P.info? el=some ti)
  (hp:bF P Γ (.dZ n ti.size (aD x) (aD i)) e h k kp):dW P c h w a o k:=by
 simp only[bF,aE]at hp;have hx:=he.ev x;have hi:=he.ev i
 have hrun: ∀b off kk (j:Int),a.eval x= .pointer (some ⟨b,off,none⟩)->a.eval i= .int kk j->0<=j->j<n->
   (execOp a.eval o).run P w= .ok (.value (.pointer (some ⟨b,off+j.toNat*ti.size,none⟩))) w:=by
  intro b off kk j hx hi h0 h1;simp[execOp,ho,hx,hi,Instr.indexAt,asIntOf,Instr.sureAddr,run_underlying hu,h0,h1,dy F5,add_eq]
 split at hp
 ·rename_i ii g idx sub _ jj h1 h2
  rw[h1]at hx;rw[h2]at hi
  replace hp:=ah.1 hp
  obtain⟨hb,hp⟩:=hp;simp only[Bool.and_eq_true,decide_eq_true_eq]at hb;obtain⟨m,hl⟩:=h;simp only[JM,bg]at hp;split at hp
  ·rename_i ob bZ
   split at hp
   ·rename_i g' sz' elems sk
    replace hp:=ah.1 hp
    obtain⟨hg,hp⟩:=hp;have hg:=Nat.eq_of_beq_eq_true hg;subst hg;have hq:=hx.eK (o:= .vec g' sz' elems sk) bZ rfl;simp only[ai.sz]at hq
    have MS:ii<m:=by
     cases hx with
     |pure hx=>cases hx
     |ref _ _ _ _ _ _ MS _ _=>exact MS
    have qQ: ∀o,(Heap.mk m hl).obj ii=some o->g'<=o.gen:=by
     cases hx with
     |pure hx=>cases hx
     |ref _ _ _ _ _ _ _ qQ _=>exact qQ
    rcases Bw hp with⟨hs,hp⟩|⟨hs,hp⟩
    ·have hs:=Nat.eq_of_beq_eq_true hs
     refine .of _ _ hp (hrun _ _ _ _ hq hi.bQ hb.1 hb.2) ?_;refine .ref _ _ _ _ _ ⟨_,rfl⟩ MS qQ fun o' ho' _=> ?_
     have e:(Heap.mk m hl).obj ii=some (.vec g' sz' elems sk):=bZ;rw[e]at ho';cases ho'
     simp only[ai.sz];rw[hs,Nat.add_mul,Nat.add_right_comm]
    ·refine .of _ _ hp (hrun _ _ _ _ hq hi.bQ hb.1 hb.2) ?_
     refine .ref _ _ _ _ _ ⟨_,rfl⟩ MS qQ fun o' ho' _=> ?_
     have e:(Heap.mk m hl).obj ii=some (.vec g' sz' elems sk):=bZ;rw[e]at ho';cases ho'
     simp only[ai.sz];rw[Nat.add_assoc]
   ·exact hp.elim
  ·exact hp.elim
 ·rename_i g _ jj h1 h2
  rw[h1]at hx;rw[h2]at hi
  replace hp:=ah.1 hp
  obtain⟨hb,hp⟩:=hp;simp only[Bool.and_eq_true,decide_eq_true_eq]at hb;split at hp
  ·rename_i v hv
   obtain⟨hI,C,ty,fz,hw,hn,hc⟩:=hr.dj.1 g v hv;refine .of _ _ hp (hrun _ _ _ _ hx.nk hi.bQ hb.1 hb.2) ?_;have:=VP.kK (Im:=c.Im) (w:=w) v (0+jj.toNat*ti.size) g 0 C ty fz hI hw (by omega) (fun j u x hu hx=>hc j u x hu (by rw[Nat.zero_add]at hx;exact hx));simp only[Nat.zero_add]at this ⊢;exact .pure this
  ·exact hp.elim
 ·rename_i h1 h2
  rw[h1]at hx;rw[h2]at hi
  replace hp:=ah.1 hp
  obtain⟨hb,hp⟩:=hp;simp only[Bool.and_eq_true,decide_eq_true_eq]at hb;obtain⟨b,q,C,ty,fz,hq,Xh,hw,hn,hc⟩:=hx.vt;refine .of _ _ hp (hrun _ _ _ _ hq hi.bQ hb.1 hb.2) ?_;rw[Nat.add_assoc];exact .pure (.kK _ _ _ _ _ _ _ Xh hw hn hc)
 ·exact hp.elim
theorem BU(he:ER c h w e a.tmps){cl:Call}{x:Operand}{t:TypeId}{b:Bool}(ho:o.op= .call cl)(eD:cl.callee= .builtin .len)(hargs:cl.args.toList=[x])(js:cl.argTypes.toList=[t])
  (hu:match b with|true=>P.underlying t=some .string|false=> ∃el,P.underlying t=some (.slice el))
  (hp:bF P Γ (.len b (aD x)) e h k kp):dW P c h w a o k:=by
 simp only[bF,aE]at hp;have hx:=he.ev x;have de:cl.args= #[x]:=by simpa using congrArg List.toArray hargs
 have kW:cl.argTypes= #[t]:=by simpa using congrArg List.toArray js
 have hl:b=false-> ∀ad n m,a.eval x= .slice ad n m->(execOp a.eval o).run P w= .ok (.value (.int .i64 n)) w:=by
  intro hb ad n m hs;subst hb;obtain⟨el,hel⟩:=hu;simp[execOp,ho,resolve,eD,de,kW,invoke,builtin,Builtin.len_,run_underlying hel,hs,goInt]
 split at hp
 ·rename_i s h1
  rw[h1]at hx;refine .of _ _ hp ?_ .int;have hsz:(ByteArray.mk s.toArray).size=s.length:=by simp[ByteArray.size]
  simp[execOp,ho,resolve,eD,de,kW,invoke,builtin,Builtin.len_,run_underlying hu,hx.eJ,goInt,hsz]
 ·rename_i h1
  rw[h1]at hx;obtain⟨ad,cap,dA,_,_⟩:=hx.oh;exact .of _ _ hp (hl rfl _ _ _ dA) .int
 ·rename_i h1
  rw[h1]at hx;obtain⟨hp,ob,bZ,hg⟩:=y4 hp;obtain⟨_,ad,cc,dA,_⟩:=hx.iS bZ hg;exact .of _ _ hp (hl rfl _ _ _ dA) .int
 ·rename_i h1
  rw[h1]at hx;exact .of _ _ hp (hl rfl _ _ _ hx.cF) .int
 ·exact hp.elim
theorem F6(he:ER c h w e a.tmps){cl:Call}{x y:Operand}{m:Bool}(ho:o.op= .call cl)(eD:cl.callee= .builtin (if m then .max else .min))(hargs:cl.args.toList=[x,y])
  (hp:bF P Γ (.mm m (aD x) (aD y)) e h k kp):dW P c h w a o k:=by
 simp only[bF,aE]at hp;have hx:=he.ev x;have hy:=he.ev y;have de:cl.args= #[x,y]:=by simpa using congrArg List.toArray hargs
 split at hp
 ·rename_i kk p k' q h1 h2
  rw[h1]at hx;rw[h2]at hy
  cases m
  ·refine .of _ _ hp ?_ .int
   simp[execOp,ho,resolve,eD,de,invoke,builtin,Builtin.min_,Builtin.min2,hx.bQ,hy.bQ]
  ·refine .of _ _ hp ?_ .int
   simp[execOp,ho,resolve,eD,de,invoke,builtin,Builtin.max_,Builtin.max2,hx.bQ,hy.bQ]
 ·exact hp.elim
end
end
end Ab
