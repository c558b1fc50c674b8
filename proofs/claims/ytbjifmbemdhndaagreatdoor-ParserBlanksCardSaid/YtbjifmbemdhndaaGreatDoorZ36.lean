/- Parts of the proof of PParserBlanks, one behind the other, with short names. -/
import Derived.Test.YtbjifmbemdhndaaGreatDoorZ35
import Derived.Test.YtbjifmbemdhndaaGreatDoorZ33
import Derived.Test.YtbjifmbemdhndaaGreatDoorZ26
set_option linter.unusedVariables false
set_option linter.unusedSimpArgs false
namespace Ab
open Go
noncomputable section
def GR(K:Option SV->Heap->Prop)(m:Option SV):cG->Heap->Prop
 | .ret _,h=>K m h
 | .bO _,_=>False
def DQ:Option SV->SV
 |none=> .dZ
 |some v=>v
def KV:bW->Option (Nat×bW)
 | .seq a b=>match a with
   | .region ops _=>match ops with
     |o::r=>match r with
      | []=>match o.op with
        | .Lp=>match o.guard with
          |none=>match o.dst with
           |some d=>some (d,b)
           |none=>none
          |_=>none
        |_=>none
      |_=>none
     |_=>none
   |_=>none
 |_=>none
def Sj(P:Program)(Γ:bZ)(Λ:kD)(code:bW)(rs:List RV)(m:Option SV)(K:Option SV->Heap->Prop)(e:Env)(h:Heap):Prop:=
 match KV code with
 |some (d,b)=>nh e (some d) (DQ m) fun e=>oJ P Γ Λ b (wj rs (GR K none)) e h
 |none=>oJ P Γ Λ code (wj rs (GR K m)) e h
def KW(P:Program)(T:List (Nat×cE))(Γ:bZ)(Λ:kD):DO:=fun f a m h K=>Ds T f fun t=>dO (Nat.ble a.length t.nt) (Sj P Γ Λ t.code t.rs m K (fH 0 a) h)
def Te(l:List (Nat×cE))(f:Nat)(k:cE->Prop)(d:Prop):Prop:=
 @List.rec (Nat×cE) (fun _=>Prop) d (fun x _ ih=> @Bool.rec (fun _=>Prop) ih (k x.2) (Nat.beq x.1 f)) l
def z7(P:Program)(T TD:List (Nat×cE))(L:List bg)(n:Nat):bZ×kD:=
 @Nat.rec (fun _=>bZ×kD) (⟨fun _ _ _ _=>False,fun v v' p=>dO (EW 8 v' v) p,fun b _ p=>dO b p⟩,fun _ _ _ _=>False)
  (fun _ ih=>(⟨fun f a h k=>B7 L f a h k (Te TD f (fun t=>dO (Nat.ble a.length t.nt) (xI P ih.1 ih.2 t.code (Jh P (KW P T ih.1 ih.2) t.rs k) (fH 0 a) h []))
    (Ds T f fun t=>dO (Nat.ble a.length t.nt) (oJ P ih.1 ih.2 t.code (wj t.rs k) (fH 0 a) h))),fun v v' p=>dO (EW 8 v' v) p,fun b _ p=>dO b p⟩,
   fun b Q e h=>oJ P ih.1 ih.2 b (Iw Q (ih.2 b Q)) e h)) n
end
theorem FB{P:Program}{f:Nat}{k:cE->Prop}{d:Prop}: ∀ {l:List (Nat×cE)},gv P l->Te l f k d->(∃ t,aY P f t/\k t)\/d
 | [],_,hp=> .inr hp
 |(g,t)::r,.cons h1 h2,hp=>by
  replace hp: @Bool.rec (fun _=>Prop) (Te r f k d) (k t) (Nat.beq g f):=hp
  rcases zf hp with⟨hb,hq⟩|⟨_,hq⟩
  ·obtain rfl:=Nat.eq_of_beq_eq_true hb
   exact .inl ⟨t,h1,hq⟩
  ·exact FB h2 hq
theorem KX{P:Program}{op:Op}(h:l9 P op= .Lp): ∃cl,op= .call cl/\cl.callee= .builtin .recover:=by
 cases op with
 |call cl=>
  refine⟨cl,rfl,?_⟩;revert h;simp only[l9,cond_eq_ite]
  repeat' split
  all_goals intro h
  all_goals first
   |assumption
   |(cases h;done)
 |_=>
  exfalso;revert h;simp only[l9,cond_eq_ite]
  repeat' split
  all_goals intro h
  all_goals first
   |(cases h;done)
   |(cases ‹_=Op.call _›;done)
theorem DS{P:Program}{n:Nat}{ops:Array Oper}{o:Oper}{p:pZ}(hop:(bP P n ops false o).op=p)(hb:p≠ .bad)(hg:(bP P n ops false o).guard=none):
  oU n o=true/\o.guard=none/\(bP P n ops false o).dst=o.dst/\l9 P o.op=p:=by
 unfold bP at hop hg ⊢;dsimp only at hop hg ⊢;cases GQ:oU n o
 ·rw[GQ]at hop;exact absurd hop.symm hb
 ·rw[GQ]at hop hg
  simp only[cond_true]at hop hg ⊢;cases sS:o.guard with
  |none=>rw[sS]at hop;exact⟨trivial,rfl,rfl,hop⟩
  |some gw=>
   obtain⟨q,want⟩:=gw;rw[sS]at hop hg;dsimp only at hop hg;split at hop
   ·rename_i t ht
    cases HN:Nat.blt t n
    ·rw[HN]at hop;exact absurd hop.symm hb
    ·rw[ht]at hg
     dsimp only at hg;rw[HN]at hg;cases hg
   ·exact absurd hop.symm hb
theorem Ji{code b:bW}{d:Nat}(h:KV code=some (d,b)): ∃o fg,code= .seq (.region [o] fg) b/\o.op= .Lp/\o.guard=none/\o.dst=some d:=by
 unfold KV at h
 repeat' split at h
 all_goals first
  |(cases h;done)
  |(cases h;exact⟨_,_,rfl,by assumption,by assumption,by assumption⟩)
theorem xK{P:Program}{Γ:bZ}{Λ:kD}(gp:Γ.Ok P)(nN: ∀b Q e h,Λ b Q e h->fR P b Q e h){f:FuncId}{fn:Func}{code:Code}{ac ab:bW}{d:Nat}{rs:List RV}{args:List SV}{h:Heap}{m:Option SV}{K:Option SV->Heap->Prop}(hm:P.follows .mixedOrders=true)(hf:P.funcs[f]? =some fn)(hb:fn.body=some code)
  (ho:fA ac=true)(hc:erase ac=cR P fn.ntmps code)(Fo:pK P fn.results.toList=some rs)(hn:Nat.ble args.length fn.ntmps=true)(hac:KV ac=some (d,ab))
  (hp:oJ P Γ Λ ab (wj rs (GR K none)) (oV (fH 0 args) (some d) (DQ m)) h):DP P f args m h K:=by
 refine⟨fun c w xs u hr hs hv hmr=> ?_⟩;have hn:=Nat.le_of_ble_eq_true hn;obtain⟨ao,fg,rfl,Uq,hag,had⟩:=Ji hac;have Nn:=z6 hs hn hv;have hsz:(xs++Array.replicate (fn.ntmps-xs.size) undef).size=fn.ntmps:=by simp;omega
 cases code<;>simp only[erase,cR,bW.seq.injEq,reduceCtorEq]at hc
 ·rename_i id ops dr;cases dr<;>simp only[cond_true,cond_false,reduceCtorEq]at hc
 rename_i x y;obtain⟨hx,hy⟩:=hc;cases x<;>simp only[cR,reduceCtorEq]at hx
 rename_i id ops dr;cases dr<;>simp only[cond_true,cond_false,reduceCtorEq,bW.region.injEq,and_true]at hx
 obtain⟨ops⟩:=ops;cases ops with
 |nil=>simp at hx
 |cons o r=>
 cases r with
 |cons _ _=>simp at hx
 |nil=>
 simp only[List.map_cons,List.map_nil,List.cons.injEq,and_true]at hx;subst hx;obtain⟨GQ,sS,eN,OE⟩:=DS Uq (by intro h;cases h) hag;obtain⟨cl,OF,GO⟩:=KX OE;rw[eN]at had
 have hlt:d<fn.ntmps:=by
  unfold oU at GQ;rw[had]at GQ;exact Nat.lt_of_succ_le (by simpa[Nat.blt]using GQ)
 have hrun: ∀ev,(execOp ev o).run P w= .ok .recover w:=fun ev=>by
  simp[execOp,OF,resolve,GO,invoke,builtin]
 simp only[fA,Bool.and_eq_true]at ho
 have key: ∀(c₀:Frame) (cs:List Frame),c₀.mode=u-> ∃u' x cs',(match recoverD (c₀::cs)with|some (v,cs')=>x=v/\cs'={c₀ with mode:=u'}::cs|none=>x= .nilIface/\u'=u)/\cs'={c₀ with mode:=u'}::cs/\VR c h w (DQ m) x/\MR c h w none (settle u'):=by
  intro c₀ cs hu;cases m with
  |none=>
   cases u<;>try exact hmr.elim
   refine⟨.returning,.nilIface,_,?_,rfl,.pure .dZ,trivial⟩;simp[recoverD,hu]
  |some v=>
   obtain⟨x,rfl,nX⟩:=hmr;refine⟨.panicking [{v:=x,recovered:=true}],x,_,?_,rfl,nX,trivial⟩;simp[recoverD,hu]
 refine callsD_of_wpS hf hb fun c₀ cs hu=>wpS_seq (wpS_region ?_)
 obtain⟨u',x,cs',KY,hcs,nX,Ur⟩:=key c₀ cs hu
 have rest: ∀Sl,Sl={c₀ with mode:=u'}::cs->Exit.thenS (y.wpS P (bodyPostS P fn c₀ cs fun e u' w'=>(∃ x,e= .returned x)/\ ∃c' h' m',K m' h'/\cF c' h' w'/\Ext c h w c' h' w'/\MR c' h' w' m' (settle u')))
   (bodyPostS P fn c₀ cs fun e u' w'=>(∃ x,e= .returned x)/\ ∃c' h' m',K m' h'/\cF c' h' w'/\Ext c h w c' h' w'/\MR c' h' w' m' (settle u')) .normal (Act.put {tmps:=xs++Array.replicate (fn.ntmps-xs.size) undef,defers:=[]} o.dst x) Sl w:=by
  intro Sl OG;subst OG;refine wpS_of_wp ?_;refine wp_mono (eB (n:=fn.ntmps) gp nN hm y ab _ _ h ho.2 hy hp c w _ hr ?_ ?_) fun ex a' w' hpost=> ?_
  ·rw[had]
   exact ER.put (a:={tmps:=xs++Array.replicate (fn.ntmps-xs.size) undef,defers:=[]}) Nn (fun t ht=>by cases ht;show d<_;rw[hsz];exact hlt) nX
  ·rw[kA];exact hsz
  ·obtain⟨c',h',e',xx,hq,hr',hx',he',hn',hd',hex⟩:=hpost
   have hd':a'.defers=[]:=by rw[hd',put_defers]
   have fin:(tB rs e' h' fun vs=>match vs with
     | [v]=>GR K none (.ret v) h'
     |vs=>GR K none (.ret (.bn vs)) h')->a'.defers=[]/\ ∃VW,({c₀ with mode:=u'}::cs:List Frame)={c₀ with mode:=VW}::cs/\ ∃v,(results fn a'.tmps).run P w'= .ok v w'/\(∃ x,Ending.returned v= .returned x)/\ ∃c' h' m',K m' h'/\cF c' h' w'/\Ext c h w c' h' w'/\MR c' h' w' m' (settle VW):=fun hq=>by
    obtain⟨v,x,hR,hrun,nX⟩:=mD (P:=P) (fn:=fn) (R:=GR K none) hr' he' Fo hq;exact⟨hd',u',rfl,x,hrun,⟨x,rfl⟩,c',h',none,hR,hr',hx',Ur.mono hr hx'⟩
   cases ex with
   |normal=>cases xx<;>first|exact hex.elim|exact fin hq
   |exit i=>cases xx<;>first|exact hex.elim|exact hq.elim
   |goto l=>cases xx<;>exact hex.elim
   |ret=>cases xx<;>first|exact hex.elim|exact fin hq
   |panic ch=>cases xx<;>first|exact hex.elim|exact hq.elim
   |outgrown=>cases xx<;>exact hex.elim
 have OH:List.range (#[o]:Array Oper).size=[0]:=rfl;show wpOpsS P #[o] _ (List.range (#[o]:Array Oper).size) _ (c₀::cs) w;rw[OH];have h0:(#[o]:Array Oper)[0]? =some o:=rfl;unfold wpOpsS;rw[h0];dsimp only;rw[if_pos (by simp[Region.wanted,sS]),hrun];dsimp only;cases hrc:recoverD (c₀::cs)with
 |none=>
  rw[hrc]at KY;obtain⟨rfl,rfl⟩:=KY;exact rest _ (by cases c₀;cases hu;rfl)
 |some vc=>
  obtain⟨v,Sl⟩:=vc;rw[hrc]at KY;obtain⟨rfl,OG⟩:=KY;exact rest Sl OG
theorem wM{P:Program}{T:List (Nat×cE)}{Γ:bZ}{Λ:kD}(hm:P.follows .mixedOrders=true)(hT:gv P T)(gp:Γ.Ok P)(nN: ∀b Q e h,Λ b Q e h->fR P b Q e h):(KW P T Γ Λ).Ok P:=by
 intro f a m h K hp;obtain⟨t,⟨fn,code,hf,hb,ho,hc,hr,hn⟩,hp⟩:=sj hT hp;obtain⟨hl,hp⟩:=av.1 hp;rw[hn]at hl;unfold Sj at hp;split at hp
 ·rename_i d b hd
  rw[gH]at hp;exact xK gp nN hm hf hb ho hc hr hl hd hp
 ·exact wL gp nN hm hf hb ho hc hr hl hp
theorem B9{P:Program}{T TD:List (Nat×cE)}{L:List bg}: ∀n v v' p,(z7 P T TD L n).1.same v v' p->Lk v' v/\p
 |0,v,v',p,h=>by
  have h':=av.1 (show dO (EW 8 v' v) p from h);exact⟨mO 8 _ _ h'.1,h'.2⟩
 |n+1,v,v',p,h=>by
  have h':=av.1 (show dO (EW 8 v' v) p from h);exact⟨mO 8 _ _ h'.1,h'.2⟩
theorem tO{P:Program}{T TD:List (Nat×cE)}{L:List bg}(hm:P.follows .mixedOrders=true)(hT:gv P T)(hD:gv P TD)(hL:og P L): ∀n,(z7 P T TD L n).1.Ok P/\(∀ b Q e h,(z7 P T TD L n).2 b Q e h->gu P b Q n e h)
 |0=>⟨⟨fun _ _ _ _ h=>h.elim,B9 0,vf⟩,fun _ _ _ _ h=>h.elim⟩
 |n+1=>by
  obtain⟨ih1,ih2⟩:=tO hm hT hD hL n;have nN: ∀b Q e h,(z7 P T TD L n).2 b Q e h->fR P b Q e h:=fun b Q e h hp=>fS n (ih2 b Q e h hp)
  refine⟨⟨fun f a h k hp=> ?_,B9 (n+1),vf⟩,fun b Q e h hp=>gu.LS ih1 nN (fun e h hp=>ih2 b Q e h hp) hp⟩
  have hp':B7 L f a h k (Te TD f (fun t=>dO (Nat.ble a.length t.nt) (xI P (z7 P T TD L n).1 (z7 P T TD L n).2 t.code (Jh P (KW P T (z7 P T TD L n).1 (z7 P T TD L n).2) t.rs k) (fH 0 a) h []))
   (Ds T f fun t=>dO (Nat.ble a.length t.nt) (oJ P (z7 P T TD L n).1 (z7 P T TD L n).2 t.code (wj t.rs k) (fH 0 a) h))):=hp
  rcases tN hL hp' with hc|hp'
  ·exact hc
  ·rcases FB hD hp' with⟨t,⟨fn,code,hf,hb,ho,hc,hr,hn⟩,hp'⟩|hp'
   ·replace hp':=av.1 hp'
    exact qJ ih1 nN (wM hm hT ih1 nN) hm hf hb ho hc hr (by rw[<- hn];exact hp'.1) hp'.2
   ·obtain⟨t,⟨fn,code,hf,hb,ho,hc,hr,hn⟩,hp'⟩:=sj hT hp'
    replace hp':=av.1 hp'
    exact mQ ih1 nN hm hf hb ho hc hr (by rw[<- hn];exact hp'.1) hp'.2
theorem au{P:Program}{T TD:List (Nat×cE)}{L:List bg}(hm:P.follows .mixedOrders=true)(hT:gv P T)(hD:gv P TD)(hL:og P L)(n:Nat)(k:bg)(h1:(k.args.all (Jd 8)&&(qI 8 k.v&&BY k.H))=true)
  (hp:(z7 P T TD L n).1.call k.f k.args ⟨0,[]⟩ (fun r h=>Sf k.v k.N k.H r h=true)):aL P k.f k.args k.v k.N k.H:=by
 simp only[Bool.and_eq_true]at h1;refine⟨fun a ha=>sH 8 a (List.all_eq_true.1 h1.1 a ha),h1.2.1,h1.2.2,((tO hm hT hD hL n).1.call _ _ _ _ hp).mono fun r h' hr=> ?_⟩;unfold Sf at hr;split at hr
 ·simp only[Bool.and_eq_true]at hr
  exact⟨by rw[gM 8 _ _ hr.1],Nat.eq_of_beq_eq_true hr.2.1,fun i o ho=>B6 hr.2.2 i o ho⟩
 ·cases hr
theorem GU{P:Program}{T TD:List (Nat×cE)}{L:List bg}(hm:P.follows .mixedOrders=true)(hT:gv P T)(hD:gv P TD)(hL:og P L)(n:Nat){f:FuncId}{args:List SV}{v:SV}(ha: ∀a∈args,bJ a)(hv:bJ v)
  (hp:(z7 P T TD L n).1.call f args ⟨0,[]⟩ (fun r _=>r= .ret v)):aj P f args v:=
 ⟨ha,((tO hm hT hD hL n).1.call _ _ _ _ hp).mono fun r h' hr=>⟨v,hr,.lit hv⟩⟩
end Ab
namespace Go.Proofs.YtbjifmbemdhndaaGreatDoor
open Ab Go.RowKit
set_option maxRecDepth 100000
set_option maxHeartbeats 4000000
attribute [local irreducible] bB cH
theorem yQ{l:List TP}{m e i:Nat}(h: ¬i<l.length):cy Tryz.prog 23 [] (dx l i m e) (.ret (.bn [])) (dx l i m e):=by
 refine⟨aO,ah ..,ah ..,.bn (by simp),ID.call mixed rfl ?_⟩;have hd:decide ((i:Int)<(l.length:Int))=false:=decide_eq_false (by omega);iterate 12 all_goals ((try conv=>whnf);try first|(with_reducible first|refine zY ?_|refine zN ?_|refine zT ?_|refine br (fun _=> ?_) (fun _=> ?_)|refine⟨rfl,?_⟩))
 exact bT (.lit (.bn (by simp))) rfl
theorem Ca{l:List TP}{m e i:Nat}(h:i<l.length):cy Tryz.prog 23 [] (dx l i m e) (.bO (kX 240 (dF l m i))) (dx l i m e):=by
 refine⟨aO,ah ..,ah ..,ai ..,ID.call mixed rfl ?_⟩;have hd:decide ((i:Int)<(l.length:Int))=true:=decide_eq_true (by omega);have c:=bM (l:=l) (m:=m) (e:=e) 240 i;iterate 12 all_goals ((try conv=>whnf);try first|(with_reducible first|refine zY ?_|refine zN ?_|refine zT ?_|refine br (fun _=> ?_) (fun _=> ?_)|refine⟨rfl,?_⟩)|(refine c.bO rfl fun h=> ?_))
 exact aW (ai _ _)
theorem Jj(l:List TP): ∀(Im:Nat->Prop) (w:World) (x:Value),VP Im w (KJ (.ok l)) x->VP Im w (.bn [Gz l,wG 0 0]) x:=by
 intro Im w x h;cases l with
 |cons _ _=>exact h
 |nil=>
  cases h with
  |bn _ cs hl hh=>
   refine .bn _ cs hl fun i v x a b=> ?_
   match i with
   |0=>
    simp at a;subst a;have:=hh 0 .ak x rfl b;cases this
    exact .oO ..
   |i+1=>exact hh (i+1) v x a b
theorem qh{A:Heap}{a b a' b':SV}(h:cq A a a')(k:cq A b b'):cq A (.bn [a,b]) (.bn [a',b']):= .bn rfl fun i u u' h1 h2=>by
 match i with
 |0=>simp at h1 h2;subst h1;subst h2;exact h
 |1=>simp at h1 h2;subst h1;subst h2;exact k
 |i+2=>simp at h1
theorem qi(e a:Int):bJ (wG e a):= .agg (by simp only[List.mem_cons,List.not_mem_nil,or_false];rintro _ (rfl|rfl)<;>constructor)
section
variable {l:List TP} {m e:Nat}
theorem nG{n most:Nat}(h:n<most)(i:Nat):cy Tryz.prog 135 [.int .i64 n,.int .i64 most] (dx l i m e) (.ret (.bn [])) (dx l i m e):=by
 refine⟨kE (.int _ _) (.int _ _),ah ..,ah ..,.bn (by simp),zF.call mixed rfl ?_⟩;have hd:decide ((n:Int)<(most:Int))=true:=decide_eq_true (by omega);iterate 12 all_goals ((try conv=>whnf);try first|(with_reducible first|refine zY ?_|refine zN ?_|refine zT ?_|refine br (fun _=> ?_) (fun _=> ?_)|refine⟨rfl,?_⟩))
 exact bT (.lit (.bn (by simp))) rfl
theorem sI{n most:Nat}(h: ¬n<most)(i:Nat):cy Tryz.prog 135 [.int .i64 n,.int .i64 most] (dx l i m e) (.bO (kX (if i<l.length then 3 else 240) (dF l m i))) (dx l i m e):=by
 have hd:decide ((n:Int)<(most:Int))=false:=decide_eq_false (by omega);by_cases hi:i<l.length
 ·have mc:decide ((i:Int)<(l.length:Int))=true:=decide_eq_true (by omega)
  rw[if_pos hi];have c:=bM (l:=l) (m:=m) (e:=e) 3 i;refine⟨kE (.int _ _) (.int _ _),ah ..,ah ..,ai ..,zF.call mixed rfl ?_⟩;iterate 16 all_goals ((try conv=>whnf);try first|(with_reducible first|refine zY ?_|refine zN ?_|refine zT ?_|refine br (fun _=> ?_) (fun _=> ?_)|refine⟨rfl,?_⟩)|(refine c.bO rfl fun h=> ?_))
  exact aW (ai _ _)
 ·have mc:decide ((i:Int)<(l.length:Int))=false:=decide_eq_false (by omega)
  rw[if_neg hi];have c:=bM (l:=l) (m:=m) (e:=e) 240 i;refine⟨kE (.int _ _) (.int _ _),ah ..,ah ..,ai ..,zF.call mixed rfl ?_⟩;iterate 16 all_goals ((try conv=>whnf);try first|(with_reducible first|refine zY ?_|refine zN ?_|refine zT ?_|refine br (fun _=> ?_) (fun _=> ?_)|refine⟨rfl,?_⟩)|(refine c.bO rfl fun h=> ?_))
  exact aW (ai _ _)
end
end Go.Proofs.YtbjifmbemdhndaaGreatDoor
namespace Ab
open Go
theorem cB{ty:TypeId}{sz bytes m:Nat}{v:SV}{sk:Sk}{l:List (Nat×aG)}{k:SV->Heap->Prop}(h1:allOnes [v]=true)(hb:bytes<=140737488355328)
  (hk:k (.sl (m+1) 0 sz 0 1 none) ⟨m+2,(m+1,.vec 0 sz [v] ⟨true,some ty⟩)::(m,.vec 0 sz [v] sk)::l⟩):
  bB ty sz bytes ⟨m+1,(m,.vec 0 sz [v] sk)::l⟩ .ak (.sl m 0 sz 0 1 (some 1)) k:=
 oc (lz kW rfl) (by simp) h1 (by simp;exact hb) (by simp) hk
theorem KZ{ty:TypeId}{sz bytes m i g:Nat}{vs:List SV}{v:SV}{sk:Sk}{l:List (Nat×aG)}{k:SV->Heap->Prop}(ho:aV l i=some (.vec g sz vs ⟨true,some ty⟩))(xB:i<m)(h1:allOnes [v]=true)(hlen:(vs.length+1)*bytes<=140737488355328)(hl:vs.length<=1000000)
  (hk:k (.sl i (g+1) sz 0 (vs.length+1) none) ⟨m+1,(m,.vec 0 sz [v] sk)::cO l i (.vec (g+1) sz (vs++[v]) ⟨true,some ty⟩)⟩):
  bB ty sz bytes ⟨m+1,(m,.vec 0 sz [v] sk)::l⟩ (.sl i g sz 0 vs.length none) (.sl m 0 sz 0 1 (some 1)) k:=by
 refine qd (lz kW rfl) (by simp) h1 (by rw[jx (by omega)];exact ho) rfl (by simpa using hlen) (by simp;omega) ?_;rw[eW];unfold cO;rw[if_neg (by omega),mH];exact hk
theorem bA{ty:TypeId}{sz bytes m i g n:Nat}{vs:List SV}{v:SV}{sk:Sk}{l:List (Nat×aG)}{k:SV->Heap->Prop}(hn:n=vs.length)(ho:aV l i=some (.vec g sz vs ⟨true,some ty⟩))(xB:i<m)(h1:allOnes [v]=true)(hlen:(n+1)*bytes<=140737488355328)(hl:n<=1000000)
  (hk:k (.sl i (g+1) sz 0 (n+1) none) ⟨m+1,(m,.vec 0 sz [v] sk)::cO l i (.vec (g+1) sz (vs++[v]) ⟨true,some ty⟩)⟩):
  bB ty sz bytes ⟨m+1,(m,.vec 0 sz [v] sk)::l⟩ (.sl i g sz 0 n none) (.sl m 0 sz 0 1 (some 1)) k:=by
 subst hn;exact KZ ho xB h1 hlen hl hk
section
theorem FC{a b p:Prop}(ha:a)(hb:b)(hp:p):(a/\b)/\p:=⟨⟨ha,hb⟩,hp⟩
theorem aZ.tidy{P:Program}{f:FuncId}{args:List SV}{h:Heap}{R:cG->Heap->Prop}
  (hp:aZ P f args h fun r h'=> ∃(S:Nat->Bool) (r2:cG) (l1:List (Nat×aG)),(r=r2\/sw ⟨h'.dB,ou S h'.l⟩ r r2)/\pU ⟨h'.dB,ou S h'.l⟩ (ia S h'.l) l1/\R r2 ⟨h'.dB,l1⟩):aZ P f args h R:=by
 refine⟨fun c w xs hr hs hv=>(hp.calls c w xs hr hs hv).mono fun en w' ⟨c',h',r,⟨S,r2,l1,hh,hl,hR⟩,hr',hx',vU⟩=> ?_⟩;obtain⟨q1,_,q3⟩:=sy (e:=[]) (e1:=[]) (tmps:= #[]) hr' (fun t=> .pure (.undef _)) aQ hl;refine⟨Ab.mb S c' h',⟨h'.dB,l1⟩,r2,hR,q1,hx'.trans hr q3,?_⟩;rcases hh with rfl|hh
 ·cases r with
  |ret v=>obtain⟨x,rfl,hx⟩:=vU;exact⟨x,rfl,hx.mono hr' q3⟩
  |bO v=>obtain⟨x,rfl,hx⟩:=vU;exact⟨x,rfl,hx.mono hr' q3⟩
 ·cases hh with
  |ret h=>obtain⟨x,rfl,hx⟩:=vU;exact⟨x,rfl,.pure (h.mb S hr' hx)⟩
  |bO h=>obtain⟨x,rfl,hx⟩:=vU;exact⟨x,rfl,.pure (h.mb S hr' hx)⟩
def Same(L:List (Nat×aG))(k j:Nat):Prop:=k=j/\ ∃o,aV L k=some o
theorem aZ.norm{P:Program}{f:FuncId}{m:Nat}{L:List (Nat×aG)}{args:List SV}{R:cG->Heap->Prop}
  (hL: ∀k o,aV L k=some o->k<m/\mS (Same L) o o)(ha:wB (Same L) args args)
  (hp:aZ P f args ⟨m,L⟩ fun r h'=> ∃N' r2 h2,Fr (Same L) m m L N' r h' r2 h2/\R r2 h2):aZ P f args ⟨m,L⟩ R:=
 aZ.frame (fun k o hk=>⟨(hL k o hk).1,k,o,⟨rfl,o,hk⟩,hk,(hL k o hk).2⟩) (fun k j ⟨_,o,ho⟩=>⟨(hL k o ho).1,o,ho⟩) (fun k k' j h h'=>h.1.trans h'.1.symm) (fun k j j' h h'=>h.1.symm.trans h'.1) ha hp
structure jb(tgt:SV->aG):Prop where
 DD: ∀ {N:Nat->Nat->Prop} {v v':SV},iT N v v'->mS N (tgt v) (tgt v')
 iq: ∀ {A:Heap} {v v':SV},cq A v v'->xF A (tgt v) (tgt v')
theorem Jk{k:Nat}{a b c o:aG}(h:aV [(2,c),(1,b),(0,a)] k=some o):(k=2/\o=c)\/(k=1/\o=b)\/(k=0/\o=a):=by
 unfold aV at h;split at h
 ·cases h;rename_i hk;exact .inl ⟨hk.symm,rfl⟩
 unfold aV at h;split at h
 ·cases h;rename_i hk;exact .inr (.inl ⟨hk.symm,rfl⟩)
 unfold aV at h;split at h
 ·cases h;rename_i hk;exact .inr (.inr ⟨hk.symm,rfl⟩)
 ·cases h
theorem Jl{m k:Nat}{a b c d o:aG}(h:aV [(m,d),(2,c),(1,b),(0,a)] k=some o):(k=m/\o=d)\/(k=2/\o=c)\/(k=1/\o=b)\/(k=0/\o=a):=by
 unfold aV at h;split at h
 ·cases h;rename_i hk;exact .inl ⟨hk.symm,rfl⟩
 ·exact .inr (Jk h)
@[reducible] def mJ (ty:TypeId):aG:= .vec 0 1 [.ref 0 0 0 0] ⟨false,some ty⟩
theorem sJ{N:Nat->Nat->Prop}{ty:TypeId}(h:N 0 0):mS N (mJ ty) (mJ ty):= .vec rfl fun i v v' a b=>by
 cases i with
 |zero=>simp at a b;subst a;subst b;exact .ref h
 |succ i=>simp at a
theorem z8{N:Nat->Nat->Prop}{g sz:Nat}{es:List SV}{sk:Sk}(h: ∀v∈es,bJ v):mS N (.vec g sz es sk) (.vec g sz es sk):=
 .vec rfl fun i v v' a b=>by rw[a]at b;cases b;exact .lit (h v (List.mem_of_getElem? a))
section
variable {P:Program} {f:FuncId} {tgt:SV->aG} {ty tr:TypeId} {sz:Nat} {o0 KR:aG}
@[reducible] def aT (fl:Bool):List SV:=match fl with
  |false=>[.ref 2 0 0 0,.ref 1 0 0 0]
  |true=>[.ref 1 0 0 0,.ref 2 0 0 0]
theorem Jm{N:Nat->Nat->Prop}(fl:Bool)(h1:N 1 1)(h2:N 2 2):wB N (aT fl) (aT fl):=match fl with
 |false=> .cons (.ref h2) (.cons (.ref h1) .nil)
 |true=> .cons (.ref h1) (.cons (.ref h2) .nil)
variable {fl:Bool}
theorem OI(ht:jb tgt)(h0:BI o0)(h0':BI KR){x:SV}(hx:bJ x)
  (hp:aZ P f (aT fl) ⟨3,[(2,tgt .ak),(1,mJ tr),(0,o0)]⟩ fun r h'=>r= .ret (.bn [])/\ ∃k,3<=k/\h'.l=[(k,.vec 0 sz [x] ⟨true,some ty⟩),(2,tgt (.sl k 0 sz 0 1 none)),(1,mJ tr),(0,KR)]):
  aZ P f (aT fl) ⟨3,[(2,tgt .ak),(1,mJ tr),(0,o0)]⟩ fun r h'=>r= .ret (.bn [])/\h'=⟨4,[(3,.vec 0 sz [x] ⟨true,some ty⟩),(2,tgt (.sl 3 0 sz 0 1 none)),(1,mJ tr),(0,KR)]⟩:=by
 refine aZ.norm (fun k o hk=> ?_) (Jm fl ⟨rfl,_,rfl⟩ ⟨rfl,_,rfl⟩) (hp.mono fun r h' ⟨hr,k,hk,hl⟩=>⟨fun a b=>(a=b/\a<3)\/(a=k/\b=3),.ret (.bn []),_,?_,rfl,rfl⟩)
 ·rcases Jk hk with⟨rfl,rfl⟩|⟨rfl,rfl⟩|⟨rfl,rfl⟩
  ·exact⟨by decide,ht.DD (.lit .ak)⟩
  ·exact⟨by decide,sJ ⟨rfl,_,rfl⟩⟩
  ·exact⟨by decide,kG h0⟩
 ·subst hr
  obtain⟨nx,l'⟩:=h';subst hl;refine⟨fun a b h=> ?_,fun a a' b h h'=>by omega,fun a b b' h h'=>by omega,fun a b h _=>by show b<4;omega,(by show 3<=4;decide),fun j o2 hj=> ?_,.ret (.lit (.bn (by simp)))⟩
  ·rcases h with⟨rfl,h⟩|⟨rfl,rfl⟩
   ·refine .inl ⟨h,rfl,?_⟩
    match a,h with
    |0,_=>exact⟨_,rfl⟩
    |1,_=>exact⟨_,rfl⟩
    |2,_=>exact⟨_,rfl⟩
   ·exact .inr ⟨hk,Nat.le_refl 3⟩
  ·rcases Jl (m:=3) hj with⟨rfl,rfl⟩|⟨rfl,rfl⟩|⟨rfl,rfl⟩|⟨rfl,rfl⟩
   ·exact⟨(by show 3<4;decide),.inl ⟨k,_,.inr ⟨rfl,rfl⟩,kW,z8 (by simpa using hx)⟩⟩
   ·exact⟨(by show 2<4;decide),.inl ⟨2,_,.inl ⟨rfl,by decide⟩,(jx (by omega)).trans rfl,ht.DD (.sl (.inr ⟨rfl,rfl⟩))⟩⟩
   ·exact⟨(by show 1<4;decide),.inl ⟨1,_,.inl ⟨rfl,by decide⟩,(jx (by omega)).trans rfl,sJ (.inl ⟨rfl,by decide⟩)⟩⟩
   ·exact⟨(by show 0<4;decide),.inl ⟨0,_,.inl ⟨rfl,by decide⟩,(jx (by omega)).trans rfl,kG h0'⟩⟩
theorem OJ(ht:jb tgt)(h0:BI o0)(h0':BI KR){g:Nat}{xs:List SV}{x:SV}(hxs: ∀v∈xs,bJ v)(hx:bJ x)
  (hp:aZ P f (aT fl) ⟨4,[(3,.vec g sz xs ⟨true,some ty⟩),(2,tgt (.sl 3 g sz 0 xs.length none)),(1,mJ tr),(0,o0)]⟩ fun r h'=>r= .ret (.bn [])/\h'.l=[(3,.vec (g+1) sz (xs++[x]) ⟨true,some ty⟩),(2,tgt (.sl 3 (g+1) sz 0 (xs.length+1) none)),(1,mJ tr),(0,KR)]):
  aZ P f (aT fl) ⟨4,[(3,.vec g sz xs ⟨true,some ty⟩),(2,tgt (.sl 3 g sz 0 xs.length none)),(1,mJ tr),(0,o0)]⟩ fun r h'=>r= .ret (.bn [])/\h'=⟨4,[(3,.vec (g+1) sz (xs++[x]) ⟨true,some ty⟩),(2,tgt (.sl 3 (g+1) sz 0 (xs.length+1) none)),(1,mJ tr),(0,KR)]⟩:=by
 refine aZ.norm (fun k o hk=> ?_) (Jm fl ⟨rfl,_,rfl⟩ ⟨rfl,_,rfl⟩) (hp.mono fun r h' ⟨hr,hl⟩=>⟨fun a b=>a=b/\a<4,.ret (.bn []),_,?_,rfl,rfl⟩)
 ·rcases Jl (m:=3) hk with⟨rfl,rfl⟩|⟨rfl,rfl⟩|⟨rfl,rfl⟩|⟨rfl,rfl⟩
  ·exact⟨by decide,z8 hxs⟩
  ·exact⟨by decide,ht.DD (.sl ⟨rfl,_,rfl⟩)⟩
  ·exact⟨by decide,sJ ⟨rfl,_,rfl⟩⟩
  ·exact⟨by decide,kG h0⟩
 ·subst hr
  obtain⟨nx,l'⟩:=h';subst hl;refine⟨fun a b h=> ?_,fun a a' b h h'=>by omega,fun a b b' h h'=>by omega,fun a b h _=>by show b<4;omega,(by show 4<=4;decide),fun j o2 hj=> ?_,.ret (.lit (.bn (by simp)))⟩
  ·obtain⟨rfl,h⟩:=h
   refine .inl ⟨h,rfl,?_⟩
   match a,h with
   |0,_=>exact⟨_,rfl⟩
   |1,_=>exact⟨_,rfl⟩
   |2,_=>exact⟨_,rfl⟩
   |3,_=>exact⟨_,rfl⟩
  ·rcases Jl (m:=3) hj with⟨rfl,rfl⟩|⟨rfl,rfl⟩|⟨rfl,rfl⟩|⟨rfl,rfl⟩
   ·exact⟨(by show 3<4;decide),.inl ⟨3,_,⟨rfl,by decide⟩,rfl,z8 (by simp only[List.mem_append,List.mem_singleton];rintro _ (h|rfl);exact hxs _ h;exact hx)⟩⟩
   ·exact⟨(by show 2<4;decide),.inl ⟨2,_,⟨rfl,by decide⟩,rfl,ht.DD (.sl ⟨rfl,by decide⟩)⟩⟩
   ·exact⟨(by show 1<4;decide),.inl ⟨1,_,⟨rfl,by decide⟩,rfl,sJ ⟨rfl,by decide⟩⟩⟩
   ·exact⟨(by show 0<4;decide),.inl ⟨0,_,⟨rfl,by decide⟩,rfl,kG h0'⟩⟩
end
end
end Ab
