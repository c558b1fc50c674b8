/- Parts of the proof of PParserBlanks, one behind the other, with short names. -/
import Derived.Test.YtbjifmbemdhndaaGreatDoorZ4
set_option linter.unusedVariables false
set_option linter.unusedSimpArgs false
namespace Ab
open Go
section
section
variable {P:Program} {Γ:bZ} {c:Cx} {h:Heap} {w:World} {e:Env} {a:Act} {o:Oper} {k kp:SV->Heap->Prop}
theorem lE(he:ER c h w e a.tmps){d:Int}{x:Option Operand}{K:Int->Prop}(hp:gS e d (x.map aK) K):
  (x=none/\K d)\/ ∃y kk n,x=some y/\a.eval y= .int kk n/\K n:=by
 cases x with
 |none=>exact .inl ⟨rfl,hp⟩
 |some y=>
  simp only[Option.map_some,gS,aM]at hp;have hy:=he.ev y;split at hp
  ·rename_i kk n h1
   rw[h1]at hy;exact .inr ⟨y,kk,n,rfl,hy.bY,hp⟩
  ·exact hp.elim
theorem gK{kk:IntKind}{i:Int}{y:Nat}(code:BoundsCode)(h0:0<=i)(h1:i<=y):(Instr.sliceBound (.int kk i) y code).run P w= .ok i.toNat w:=by
 simp[Instr.sliceBound,asIntOf,h0,h1]
theorem lF(he:ER c h w e a.tmps)(b:Bool)(len cap:Nat){lo hi:Option Operand}{K:Int->Int->Prop}(hp:gS e 0 (lo.map aK) fun l=>gS e len (hi.map aK) fun hh=>K l hh):
  ∃l hh,K l hh/\(0<=l->l<=hh->hh<=cap->(Instr.sliceBounds b len cap (lo.map a.eval) (hi.map a.eval) none).run P w= .ok (l.toNat,hh.toNat,cap) w):=by
 rcases lE he hp with⟨rfl,M9⟩|⟨y,kk,n,rfl,hy,M9⟩
 ·rcases lE he M9 with⟨rfl,uN⟩|⟨y,kk,n,rfl,hy,uN⟩
  ·exact⟨_,_,uN,fun h0 h1 h2=>by simp[Instr.sliceBounds]⟩
  ·exact⟨_,_,uN,fun h0 h1 h2=>by simp[Instr.sliceBounds,hy,gK _ h1 h2]⟩
 ·rcases lE he M9 with⟨rfl,uN⟩|⟨y2,VA,n2,rfl,Na,uN⟩
  ·exact⟨_,_,uN,fun h0 h1 h2=>by simp[Instr.sliceBounds,hy,gK _ h0 h1]⟩
  ·refine⟨_,_,uN,fun h0 h1 h2=> ?_⟩
   simp[Instr.sliceBounds,hy,Na,gK _ (Int.le_trans h0 h1) h2];exact(congrArg (fun r=>Result.andThen r _) (gK (P:=P) (w:=w) .sliceB h0 (by omega))).trans (by simp)
theorem xg(he:ER c h w e a.tmps){t:TypeId}{x:Operand}{lo hi:Option Operand}(ho:o.op= .slice t x lo hi none)(hu:P.underlying t=some .string)
  (hp:bR P Γ (.cJ (aK x) (lo.map aK) (hi.map aK)) e h k kp):eA P c h w a o k:=by
 simp only[bR,aM]at hp;have hx:=he.ev x;split at hp
 ·rename_i s h1
  rw[h1]at hx;obtain⟨l,hh,hp,hrun⟩:=lF (P:=P) (w:=w) he false s.length s.length hp
  replace hp:=av.1 hp
  obtain⟨hb,hp⟩:=hp;simp only[Bool.and_eq_true,decide_eq_true_eq]at hb;obtain⟨⟨h0,h1⟩,h2⟩:=hb;refine .of _ _ hp ?_ .str;have hsz:(ByteArray.mk s.toArray).size=s.length:=by simp[ByteArray.size]
  have hex:(ByteArray.mk s.toArray).extract l.toNat hh.toNat=ByteArray.mk ((s.drop l.toNat).take (hh.toNat-l.toNat)).toArray:=by
   apply ByteArray.ext
   apply Array.ext'
   simp[ByteArray.data_extract,List.extract_eq_take_drop]
  simp[execOp,ho,hx.eU,Instr.sliceAt,run_underlying hu,Instr.slice,hsz,hrun h0 h1 h2,hex]
 ·exact hp.elim
theorem CN(he:ER c h w e a.tmps){t el:TypeId}{x:Operand}{lo hi:Option Operand}{i:TypeInfo}(ho:o.op= .slice t x lo hi none)(hu:P.underlying t=some (.slice el))(hi':P.info? el=some i)
  (hp:bR P Γ (.slice i.size (aK x) (lo.map aK) (hi.map aK)) e h k kp):eA P c h w a o k:=by
 simp only[bR,aM]at hp;have hx:=he.ev x
 have hrun: ∀(ad:Option Addr) (len cap l hh:Nat),a.eval x= .slice ad len cap->(Instr.sliceBounds true len cap (lo.map a.eval) (hi.map a.eval) none).run P w= .ok (l,hh,cap) w->
   (execOp a.eval o).run P w= .ok (.value (.slice (if cap=l then ad else ad.map (·.add (l*i.size))) (hh-l) (cap-l))) w:=by
  intro ad len cap l hh hx hr;simp[execOp,ho,hx,Instr.sliceAt,run_underlying hu,Instr.slice,hr,dJ hi']
 split at hp
 ·rename_i sz n get h1
  rw[h1]at hx
  replace hp:=av.1 hp
  obtain⟨hsz,hp⟩:=hp;have hsz:=Nat.eq_of_beq_eq_true hsz;obtain⟨ad,cap,dS,hnc,ja⟩:=hx.nP;obtain⟨l,hh,hp,w7⟩:=lF (P:=P) (w:=w) he true n cap hp
  replace hp:=av.1 hp
  obtain⟨hb,hp⟩:=hp;simp only[Bool.and_eq_true,decide_eq_true_eq]at hb;obtain⟨⟨h0,h1⟩,h2⟩:=hb;refine .of _ _ hp (hrun _ _ _ _ _ dS (w7 h0 h1 (by omega))) ?_;by_cases hz:hh.toNat-l.toNat=0
  ·rw[hz]
   exact .pure (.oO _ _ _ _)
  ·rcases ja with rfl|⟨b,off,C,ty,fz,rfl,hb,hw,hn,hc,hcell⟩
   ·omega
   ·rw[if_neg (by omega)]
    simp only[Option.map_some,add_eq];refine .pure (.dm sz _ _ b (off+l.toNat*i.size) _ C ty fz hb hw ?_ (by omega) (fun j hj=>hc _ (by omega)) fun j j' v y hj hv hy=>hcell (l.toNat+j) j' v y (by omega) hv ?_)
    ·have e1:(l.toNat+(hh.toNat-l.toNat))*sz<=n*sz:=Nat.mul_le_mul_right _ (by omega)
     rw[Nat.add_mul]at e1;rw[<- hsz];omega
    ·rw[<- hy,<-hsz,Nat.add_mul]
     congr 1
     omega
 ·rename_i ii g sz off len cap hev
  rw[hev]at hx;clear hev
  replace hp:=av.1 hp
  obtain⟨hsz,hp⟩:=hp;have hsz:=Nat.eq_of_beq_eq_true hsz;obtain⟨hp,sz',elems,sk,cK⟩:=fc hp;obtain⟨gU,ad,cc,dS,hlc,hcap,ja⟩:=hx.iH cK rfl;obtain⟨l,hh,hp,w7⟩:=lF (P:=P) (w:=w) he true len cc hp
  replace hp:=av.1 hp
  obtain⟨hb,hp⟩:=hp;simp only[Bool.and_eq_true,decide_eq_true_eq]at hb;obtain⟨h0,h1⟩:=hb
  have hfull:cap=none->l.toNat<=cc-> ∃ty n,w.shape? (c.β ii)=some (ty,n)/\(off+l.toNat)*sz+(cc-l.toNat)*sz=n:=fun Qq Wy=>by
   subst Qq;obtain⟨ty,n,h1,h2⟩:=hx.za cK rfl dS;refine⟨ty,n,h1,?_⟩;rw[<- h2,<-Nat.add_mul,<-Nat.add_mul];congr 1
   omega
  have hmk: ∀cap',(cap'=none->cap=none)->hh.toNat<=cc->(∀ k,cap'=some k->cc-l.toNat=k)->VR c h w (.sl ii g sz (off+l.toNat) (hh.toNat-l.toNat) cap') (.slice (if cc=l.toNat then some ad else(some ad).map (·.add (l.toNat*i.size))) (hh.toNat-l.toNat) (cc-l.toNat)):=by
   intro cap' Qq hle hk;cases hx with
   |pure hx=>cases hx
   |sl _ _ _ _ _ _ _ _ hi hg _=>
   refine .sl _ _ _ _ _ _ _ ⟨_,_,_,rfl⟩ hi hg fun o' ho' hgo=> ?_
   rw[cK]at ho';cases ho'
   by_cases hz:cc=l.toNat
   ·rw[if_pos hz]
    exact⟨gU,ad,_,rfl,by omega,hk,.inl (by omega),fun h=>hfull (Qq h) (by omega)⟩
   ·rw[if_neg hz]
    simp only[Option.map_some];refine⟨gU,_,_,rfl,by omega,hk,.inr ?_,fun h=>hfull (Qq h) (by omega)⟩;rcases ja with h0|⟨rfl,ty,n,hsh,hle'⟩
    ·omega
    ·refine⟨by rw[add_eq,Nat.add_mul,hsz],ty,n,hsh,?_⟩
     have e1:(off+l.toNat)*sz+(cc-l.toNat)*sz=off*sz+cc*sz:=by
      rw[<- Nat.add_mul,<-Nat.add_mul];congr 1
      omega
     omega
  cases cap with
  |some cp=>
   replace hp:=av.1 hp
   obtain⟨Qr,hp⟩:=hp;simp only[decide_eq_true_eq]at Qr;have YS:=hcap cp rfl;refine .of _ _ hp (hrun _ _ _ _ _ dS (w7 h0 h1 (by omega))) (hmk _ (fun h=>by cases h) (by omega) fun k hk=>by cases hk;omega)
  |none=>
   replace hp:=av.1 hp
   obtain⟨Qr,hp⟩:=hp;simp only[decide_eq_true_eq]at Qr;refine .of _ _ hp (hrun _ _ _ _ _ dS (w7 h0 h1 (by omega))) (hmk _ (fun _=>rfl) (by omega) fun k hk=>by cases hk)
 ·rename_i h1
  rw[h1]at hx;obtain⟨l,hh,hp,w7⟩:=lF (P:=P) (w:=w) he true 0 0 hp
  replace hp:=av.1 hp
  obtain⟨hb,hp⟩:=hp;simp only[Bool.and_eq_true,decide_eq_true_eq]at hb;obtain⟨h0,h1⟩:=hb;subst h0;subst h1
  refine .of _ _ hp (hrun _ _ _ _ _ hx.cX (w7 (by omega) (by omega) (by omega))) ?_;exact .pure .ak
 ·exact hp.elim
theorem vJ(he:ER c h w e a.tmps){t el:TypeId}{x i:Operand}{ti:TypeInfo}(ho:o.op= .indexAddr t x i)(hu:P.underlying t=some (.slice el))(Nb:P.info? el=some ti)
  (hp:bR P Γ (.indexAddr ti.size (aK x) (aK i)) e h k kp):eA P c h w a o k:=by
 simp only[bR,aM]at hp;have hx:=he.ev x;have hi:=he.ev i
 have hrun: ∀b off len cap kk (j:Int),a.eval x= .slice (some ⟨b,off,none⟩) len cap->a.eval i= .int kk j->0<=j->j<len->
   (execOp a.eval o).run P w= .ok (.value (.pointer (some ⟨b,off+j.toNat*ti.size,none⟩))) w:=by
  intro b off len cap kk j hx hi h0 h1;simp[execOp,ho,hx,hi,Instr.indexAt,asIntOf,run_underlying hu,h0,h1,dJ Nb,add_eq]
 split at hp
 ·rename_i sz n get kk j h1 h2
  rw[h1]at hx;rw[h2]at hi
  replace hp:=av.1 hp
  obtain⟨hsz,hp⟩:=hp;have hsz:=Nat.eq_of_beq_eq_true hsz
  replace hp:=av.1 hp
  obtain⟨hb,hp⟩:=hp;simp only[Bool.and_eq_true,decide_eq_true_eq]at hb;obtain⟨ad,cap,dS,hnc,ja⟩:=hx.nP;rcases ja with rfl|⟨b,off,C,ty,fz,rfl,To,hw,hn,hc,hcell⟩
  ·omega
  ·refine .of _ _ hp (hrun _ _ _ _ _ _ dS hi.bY hb.1 hb.2) ?_
   have hj:j.toNat<n:=by omega
   have:=VP.mW (w:=w) (get j.toNat) 0 b (off+j.toNat*sz) C ty fz To hw (by
    rw[hc _ hj];have e1:(j.toNat+1)*sz<=n*sz:=Nat.mul_le_mul_right _ hj;rw[Nat.succ_mul]at e1;omega) fun j' u y hu hy=>hcell j.toNat j' u y hj hu hy
   rw[<- hsz];exact .pure this
 ·rename_i ii g sz off len cap kk j h1 h2
  rw[h1]at hx;rw[h2]at hi
  replace hp:=av.1 hp
  obtain⟨hsz,hp⟩:=hp;have hsz:=Nat.eq_of_beq_eq_true hsz;obtain⟨hp,sz',elems,sk,cK⟩:=fc hp
  replace hp:=av.1 hp
  obtain⟨hb,hp⟩:=hp;simp only[Bool.and_eq_true,decide_eq_true_eq]at hb;obtain⟨gU,ad,cc,dS,hlc,hcap,ja⟩:=hx.iH cK rfl;rcases ja with h0|⟨rfl,ty,n,hsh,hle⟩
  ·omega
  ·refine .of _ _ hp (hrun _ _ _ _ _ _ dS hi.bY hb.1 hb.2) ?_
   cases hx with
   |pure hx=>cases hx
   |sl _ _ _ _ _ _ _ _ JP hg _=>
   refine .ref _ _ _ _ _ ⟨_,rfl⟩ JP hg fun o' ho' hgo=> ?_
   rw[cK]at ho';cases ho'
   simp only[aG.sz]at gU ⊢;rw[gU,<-hsz,Nat.add_mul];rfl
 ·exact hp.elim
theorem xh(hr:cF c h w)(he:ER c h w e a.tmps){t el:TypeId}{n:Nat}{x i:Operand}{ti:TypeInfo}(ho:o.op= .indexAddr t x i)(hu:P.underlying t=some (.array n el))(Nb:P.info? el=some ti)
  (hp:bR P Γ (.eg n ti.size (aK x) (aK i)) e h k kp):eA P c h w a o k:=by
 simp only[bR,aM]at hp;have hx:=he.ev x;have hi:=he.ev i
 have hrun: ∀b off kk (j:Int),a.eval x= .pointer (some ⟨b,off,none⟩)->a.eval i= .int kk j->0<=j->j<n->
   (execOp a.eval o).run P w= .ok (.value (.pointer (some ⟨b,off+j.toNat*ti.size,none⟩))) w:=by
  intro b off kk j hx hi h0 h1;simp[execOp,ho,hx,hi,Instr.indexAt,asIntOf,Instr.sureAddr,run_underlying hu,h0,h1,dJ Nb,add_eq]
 split at hp
 ·rename_i ii g idx sub _ jj h1 h2
  rw[h1]at hx;rw[h2]at hi
  replace hp:=av.1 hp
  obtain⟨hb,hp⟩:=hp;simp only[Bool.and_eq_true,decide_eq_true_eq]at hb;obtain⟨m,hl⟩:=h;simp only[Hu,bC]at hp;split at hp
  ·rename_i ob cK
   split at hp
   ·rename_i g' sz' elems sk
    replace hp:=av.1 hp
    obtain⟨hg,hp⟩:=hp;have hg:=Nat.eq_of_beq_eq_true hg;subst hg;have hq:=hx.eV (o:= .vec g' sz' elems sk) cK rfl;simp only[aG.sz]at hq
    have JP:ii<m:=by
     cases hx with
     |pure hx=>cases hx
     |ref _ _ _ _ _ _ JP _ _=>exact JP
    have sS: ∀o,(Heap.mk m hl).obj ii=some o->g'<=o.gen:=by
     cases hx with
     |pure hx=>cases hx
     |ref _ _ _ _ _ _ _ sS _=>exact sS
    rcases zf hp with⟨hs,hp⟩|⟨hs,hp⟩
    ·have hs:=Nat.eq_of_beq_eq_true hs
     refine .of _ _ hp (hrun _ _ _ _ hq hi.bY hb.1 hb.2) ?_;refine .ref _ _ _ _ _ ⟨_,rfl⟩ JP sS fun o' ho' _=> ?_
     have e:(Heap.mk m hl).obj ii=some (.vec g' sz' elems sk):=cK;rw[e]at ho';cases ho'
     simp only[aG.sz];rw[hs,Nat.add_mul,Nat.add_right_comm]
    ·refine .of _ _ hp (hrun _ _ _ _ hq hi.bY hb.1 hb.2) ?_
     refine .ref _ _ _ _ _ ⟨_,rfl⟩ JP sS fun o' ho' _=> ?_
     have e:(Heap.mk m hl).obj ii=some (.vec g' sz' elems sk):=cK;rw[e]at ho';cases ho'
     simp only[aG.sz];rw[Nat.add_assoc]
   ·exact hp.elim
  ·exact hp.elim
 ·rename_i g _ jj h1 h2
  rw[h1]at hx;rw[h2]at hi
  replace hp:=av.1 hp
  obtain⟨hb,hp⟩:=hp;simp only[Bool.and_eq_true,decide_eq_true_eq]at hb;split at hp
  ·rename_i v hv
   obtain⟨hI,C,ty,fz,hw,hn,hc⟩:=hr.dY.1 g v hv;refine .of _ _ hp (hrun _ _ _ _ hx.mX hi.bY hb.1 hb.2) ?_;have:=VP.mW (Im:=c.Im) (w:=w) v (0+jj.toNat*ti.size) g 0 C ty fz hI hw (by omega) (fun j u x hu hx=>hc j u x hu (by rw[Nat.zero_add]at hx;exact hx));simp only[Nat.zero_add]at this ⊢;exact .pure this
  ·exact hp.elim
 ·rename_i h1 h2
  rw[h1]at hx;rw[h2]at hi
  replace hp:=av.1 hp
  obtain⟨hb,hp⟩:=hp;simp only[Bool.and_eq_true,decide_eq_true_eq]at hb;obtain⟨b,q,C,ty,fz,hq,To,hw,hn,hc⟩:=hx.uZ;refine .of _ _ hp (hrun _ _ _ _ hq hi.bY hb.1 hb.2) ?_;rw[Nat.add_assoc];exact .pure (.mW _ _ _ _ _ _ _ To hw hn hc)
 ·exact hp.elim
theorem AG(he:ER c h w e a.tmps){cl:Call}{x:Operand}{t:TypeId}{b:Bool}(ho:o.op= .call cl)(fC:cl.callee= .builtin .len)(hargs:cl.args.toList=[x])(je:cl.argTypes.toList=[t])
  (hu:match b with|true=>P.underlying t=some .string|false=> ∃el,P.underlying t=some (.slice el))
  (hp:bR P Γ (.len b (aK x)) e h k kp):eA P c h w a o k:=by
 simp only[bR,aM]at hp;have hx:=he.ev x;have dD:cl.args= #[x]:=by simpa using congrArg List.toArray hargs
 have kP:cl.argTypes= #[t]:=by simpa using congrArg List.toArray je
 have hl:b=false-> ∀ad n m,a.eval x= .slice ad n m->(execOp a.eval o).run P w= .ok (.value (.int .i64 n)) w:=by
  intro hb ad n m hs;subst hb;obtain⟨el,hel⟩:=hu;simp[execOp,ho,resolve,fC,dD,kP,invoke,builtin,Builtin.len_,run_underlying hel,hs,goInt]
 split at hp
 ·rename_i s h1
  rw[h1]at hx;refine .of _ _ hp ?_ .int;have hsz:(ByteArray.mk s.toArray).size=s.length:=by simp[ByteArray.size]
  simp[execOp,ho,resolve,fC,dD,kP,invoke,builtin,Builtin.len_,run_underlying hu,hx.eU,goInt,hsz]
 ·rename_i h1
  rw[h1]at hx;obtain⟨ad,cap,dS,_,_⟩:=hx.nP;exact .of _ _ hp (hl rfl _ _ _ dS) .int
 ·rename_i h1
  rw[h1]at hx;obtain⟨hp,ob,cK,hg⟩:=xV hp;obtain⟨_,ad,cc,dS,_⟩:=hx.iH cK hg;exact .of _ _ hp (hl rfl _ _ _ dS) .int
 ·rename_i h1
  rw[h1]at hx;exact .of _ _ hp (hl rfl _ _ _ hx.cX) .int
 ·exact hp.elim
theorem EY(he:ER c h w e a.tmps){cl:Call}{x y:Operand}{m:Bool}(ho:o.op= .call cl)(fC:cl.callee= .builtin (if m then .max else .min))(hargs:cl.args.toList=[x,y])
  (hp:bR P Γ (.mm m (aK x) (aK y)) e h k kp):eA P c h w a o k:=by
 simp only[bR,aM]at hp;have hx:=he.ev x;have hy:=he.ev y;have dD:cl.args= #[x,y]:=by simpa using congrArg List.toArray hargs
 split at hp
 ·rename_i kk p k' q h1 h2
  rw[h1]at hx;rw[h2]at hy
  cases m
  ·refine .of _ _ hp ?_ .int
   simp[execOp,ho,resolve,fC,dD,invoke,builtin,Builtin.min_,Builtin.min2,hx.bY,hy.bY]
  ·refine .of _ _ hp ?_ .int
   simp[execOp,ho,resolve,fC,dD,invoke,builtin,Builtin.max_,Builtin.max2,hx.bY,hy.bY]
 ·exact hp.elim
end
end
end Ab
