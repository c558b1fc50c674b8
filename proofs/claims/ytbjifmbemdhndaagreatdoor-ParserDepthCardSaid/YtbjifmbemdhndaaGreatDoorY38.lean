/- Parts of the proof of PParserDepth, one behind the other, with short names. -/
import Derived.Test.YtbjifmbemdhndaaGreatDoorY37
import Derived.Test.YtbjifmbemdhndaaGreatDoorY35
set_option linter.unusedVariables false
set_option linter.unusedSimpArgs false
namespace Ab
open Go
noncomputable section
def FF(K:Option SV->Heap->Prop)(m:Option SV):bV->Heap->Prop
 | .ret _,h=>K m h
 | .cZ _,_=>False
def Cy:Option SV->SV
 |none=> .de
 |some v=>v
def Jy:bD->Option (Nat×bD)
 | .seq a b=>match a with
   | .region ops _=>match ops with
     |o::r=>match r with
      | []=>match o.op with
        | .J1=>match o.guard with
          |none=>match o.dst with
           |some d=>some (d,b)
           |none=>none
          |_=>none
        |_=>none
      |_=>none
     |_=>none
   |_=>none
 |_=>none
def QO(P:Program)(Γ:bH)(Λ:iO)(code:bD)(rs:List RV)(m:Option SV)(K:Option SV->Heap->Prop)(e:Env)(h:Heap):Prop:=
 match Jy code with
 |some (d,b)=>lJ e (some d) (Cy m) fun e=>nh P Γ Λ b (uj rs (FF K none)) e h
 |none=>nh P Γ Λ code (uj rs (FF K m)) e h
def HV(P:Program)(T:List (Nat×bR))(Γ:bH)(Λ:iO):Cv:=fun f a m h K=>B9 T f fun t=>cQ (Nat.ble a.length t.nt) (QO P Γ Λ t.code t.rs m K (eL 0 a) h)
def RC(l:List (Nat×bR))(f:Nat)(k:bR->Prop)(d:Prop):Prop:=
 @List.rec (Nat×bR) (fun _=>Prop) d (fun x _ ih=> @Bool.rec (fun _=>Prop) ih (k x.2) (Nat.beq x.1 f)) l
def yB(P:Program)(T TD:List (Nat×bR))(L:List aM)(n:Nat):bH×iO:=
 @Nat.rec (fun _=>bH×iO) (⟨fun _ _ _ _=>False,fun v v' p=>cQ (Dx 8 v' v) p,fun b _ p=>cQ b p⟩,fun _ _ _ _=>False)
  (fun _ ih=>(⟨fun f a h k=>AS L f a h k (RC TD f (fun t=>cQ (Nat.ble a.length t.nt) (uU P ih.1 ih.2 t.code (FD P (HV P T ih.1 ih.2) t.rs k) (eL 0 a) h []))
    (B9 T f fun t=>cQ (Nat.ble a.length t.nt) (nh P ih.1 ih.2 t.code (uj t.rs k) (eL 0 a) h))),fun v v' p=>cQ (Dx 8 v' v) p,fun b _ p=>cQ b p⟩,
   fun b Q e h=>nh P ih.1 ih.2 b (GZ Q (ih.2 b Q)) e h)) n
end
theorem Er{P:Program}{f:Nat}{k:bR->Prop}{d:Prop}: ∀ {l:List (Nat×bR)},fm P l->RC l f k d->(∃ t,aL P f t/\k t)\/d
 | [],_,hp=> .inr hp
 |(g,t)::r,.cons h1 h2,hp=>by
  replace hp: @Bool.rec (fun _=>Prop) (RC r f k d) (k t) (Nat.beq g f):=hp
  rcases xB hp with⟨hb,hq⟩|⟨_,hq⟩
  ·obtain rfl:=Nat.eq_of_beq_eq_true hb
   exact .inl ⟨t,h1,hq⟩
  ·exact Er h2 hq
theorem Jz{P:Program}{op:Op}(h:ko P op= .J1): ∃cl,op= .call cl/\cl.callee= .builtin .recover:=by
 cases op with
 |call cl=>
  refine⟨cl,rfl,?_⟩;revert h;simp only[ko,cond_eq_ite]
  repeat' split
  all_goals intro h
  all_goals first
   |assumption
   |(cases h;done)
 |_=>
  exfalso;revert h;simp only[ko,cond_eq_ite]
  repeat' split
  all_goals intro h
  all_goals first
   |(cases h;done)
   |(cases ‹_=Op.call _›;done)
theorem Cz{P:Program}{n:Nat}{ops:Array Oper}{o:Oper}{p:n6}(hop:(bt P n ops false o).op=p)(hb:p≠ .bad)(hg:(bt P n ops false o).guard=none):
  nC n o=true/\o.guard=none/\(bt P n ops false o).dst=o.dst/\ko P o.op=p:=by
 unfold bt at hop hg ⊢;dsimp only at hop hg ⊢;cases FE:nC n o
 ·rw[FE]at hop;exact absurd hop.symm hb
 ·rw[FE]at hop hg
  simp only[cond_true]at hop hg ⊢;cases vS:o.guard with
  |none=>rw[vS]at hop;exact⟨trivial,rfl,rfl,hop⟩
  |some gw=>
   obtain⟨q,want⟩:=gw;rw[vS]at hop hg;dsimp only at hop hg;split at hop
   ·rename_i t ht
    cases Gg:Nat.blt t n
    ·rw[Gg]at hop;exact absurd hop.symm hb
    ·rw[ht]at hg
     dsimp only at hg;rw[Gg]at hg;cases hg
   ·exact absurd hop.symm hb
theorem HW{code b:bD}{d:Nat}(h:Jy code=some (d,b)): ∃o fg,code= .seq (.region [o] fg) b/\o.op= .J1/\o.guard=none/\o.dst=some d:=by
 unfold Jy at h
 repeat' split at h
 all_goals first
  |(cases h;done)
  |(cases h;exact⟨_,_,rfl,by assumption,by assumption,by assumption⟩)
theorem vI{P:Program}{Γ:bH}{Λ:iO}(fF:Γ.Ok P)(mb: ∀b Q e h,Λ b Q e h->dx P b Q e h){f:FuncId}{fn:Func}{code:Code}{ac ab:bD}{d:Nat}{rs:List RV}{args:List SV}{h:Heap}{m:Option SV}{K:Option SV->Heap->Prop}(hm:P.follows .mixedOrders=true)(hf:P.funcs[f]? =some fn)(hb:fn.body=some code)
  (ho:eK ac=true)(hc:erase ac=bW P fn.ntmps code)(DY:nQ P fn.results.toList=some rs)(hn:Nat.ble args.length fn.ntmps=true)(hac:Jy ac=some (d,ab))
  (hp:nh P Γ Λ ab (uj rs (FF K none)) (nD (eL 0 args) (some d) (Cy m)) h):Cw P f args m h K:=by
 refine⟨fun c w xs u hr hs hv hmr=> ?_⟩;have hn:=Nat.le_of_ble_eq_true hn;obtain⟨ao,fg,rfl,S8,hag,had⟩:=HW hac;have LP:=yA hs hn hv;have hsz:(xs++Array.replicate (fn.ntmps-xs.size) undef).size=fn.ntmps:=by simp;omega
 cases code<;>simp only[erase,bW,bD.seq.injEq,reduceCtorEq]at hc
 ·rename_i id ops dr;cases dr<;>simp only[cond_true,cond_false,reduceCtorEq]at hc
 rename_i x y;obtain⟨hx,hy⟩:=hc;cases x<;>simp only[bW,reduceCtorEq]at hx
 rename_i id ops dr;cases dr<;>simp only[cond_true,cond_false,reduceCtorEq,bD.region.injEq,and_true]at hx
 obtain⟨ops⟩:=ops;cases ops with
 |nil=>simp at hx
 |cons o r=>
 cases r with
 |cons _ _=>simp at hx
 |nil=>
 simp only[List.map_cons,List.map_nil,List.cons.injEq,and_true]at hx;subst hx;obtain⟨FE,vS,dZ,Nn⟩:=Cz S8 (by intro h;cases h) hag;obtain⟨cl,No,HU⟩:=Jz Nn;rw[dZ]at had
 have hlt:d<fn.ntmps:=by
  unfold nC at FE;rw[had]at FE;exact Nat.lt_of_succ_le (by simpa[Nat.blt]using FE)
 have hrun: ∀ev,(execOp ev o).run P w= .ok .recover w:=fun ev=>by
  simp[execOp,No,resolve,HU,invoke,builtin]
 simp only[eK,Bool.and_eq_true]at ho
 have key: ∀(c₀:Frame) (cs:List Frame),c₀.mode=u-> ∃u' x cs',(match recoverD (c₀::cs)with|some (v,cs')=>x=v/\cs'={c₀ with mode:=u'}::cs|none=>x= .nilIface/\u'=u)/\cs'={c₀ with mode:=u'}::cs/\VR c h w (Cy m) x/\MR c h w none (settle u'):=by
  intro c₀ cs hu;cases m with
  |none=>
   cases u<;>try exact hmr.elim
   refine⟨.returning,.nilIface,_,?_,rfl,.pure .de,trivial⟩;simp[recoverD,hu]
  |some v=>
   obtain⟨x,rfl,mB⟩:=hmr;refine⟨.panicking [{v:=x,recovered:=true}],x,_,?_,rfl,mB,trivial⟩;simp[recoverD,hu]
 refine callsD_of_wpS hf hb fun c₀ cs hu=>wpS_seq (wpS_region ?_)
 obtain⟨u',x,cs',JA,hcs,mB,S9⟩:=key c₀ cs hu
 have rest: ∀QS,QS={c₀ with mode:=u'}::cs->Exit.thenS (y.wpS P (bodyPostS P fn c₀ cs fun e u' w'=>(∃ x,e= .returned x)/\ ∃c' h' m',K m' h'/\bP c' h' w'/\Ext c h w c' h' w'/\MR c' h' w' m' (settle u')))
   (bodyPostS P fn c₀ cs fun e u' w'=>(∃ x,e= .returned x)/\ ∃c' h' m',K m' h'/\bP c' h' w'/\Ext c h w c' h' w'/\MR c' h' w' m' (settle u')) .normal (Act.put {tmps:=xs++Array.replicate (fn.ntmps-xs.size) undef,defers:=[]} o.dst x) QS w:=by
  intro QS Np;subst Np;refine wpS_of_wp ?_;refine wp_mono (dN (n:=fn.ntmps) fF mb hm y ab _ _ h ho.2 hy hp c w _ hr ?_ ?_) fun ex a' w' hpost=> ?_
  ·rw[had]
   exact ER.put (a:={tmps:=xs++Array.replicate (fn.ntmps-xs.size) undef,defers:=[]}) LP (fun t ht=>by cases ht;show d<_;rw[hsz];exact hlt) mB
  ·rw[iL];exact hsz
  ·obtain⟨c',h',e',xx,hq,hr',hx',he',hn',hd',hex⟩:=hpost
   have hd':a'.defers=[]:=by rw[hd',put_defers]
   have fin:(rK rs e' h' fun vs=>match vs with
     | [v]=>FF K none (.ret v) h'
     |vs=>FF K none (.ret (.aN vs)) h')->a'.defers=[]/\ ∃UC,({c₀ with mode:=u'}::cs:List Frame)={c₀ with mode:=UC}::cs/\ ∃v,(results fn a'.tmps).run P w'= .ok v w'/\(∃ x,Ending.returned v= .returned x)/\ ∃c' h' m',K m' h'/\bP c' h' w'/\Ext c h w c' h' w'/\MR c' h' w' m' (settle UC):=fun hq=>by
    obtain⟨v,x,hR,hrun,mB⟩:=kI (P:=P) (fn:=fn) (R:=FF K none) hr' he' DY hq;exact⟨hd',u',rfl,x,hrun,⟨x,rfl⟩,c',h',none,hR,hr',hx',S9.mono hr hx'⟩
   cases ex with
   |normal=>cases xx<;>first|exact hex.elim|exact fin hq
   |exit i=>cases xx<;>first|exact hex.elim|exact hq.elim
   |goto l=>cases xx<;>exact hex.elim
   |ret=>cases xx<;>first|exact hex.elim|exact fin hq
   |panic ch=>cases xx<;>first|exact hex.elim|exact hq.elim
   |outgrown=>cases xx<;>exact hex.elim
 have Nq:List.range (#[o]:Array Oper).size=[0]:=rfl;show wpOpsS P #[o] _ (List.range (#[o]:Array Oper).size) _ (c₀::cs) w;rw[Nq];have h0:(#[o]:Array Oper)[0]? =some o:=rfl;unfold wpOpsS;rw[h0];dsimp only;rw[if_pos (by simp[Region.wanted,vS]),hrun];dsimp only;cases hrc:recoverD (c₀::cs)with
 |none=>
  rw[hrc]at JA;obtain⟨rfl,rfl⟩:=JA;exact rest _ (by cases c₀;cases hu;rfl)
 |some vc=>
  obtain⟨v,QS⟩:=vc;rw[hrc]at JA;obtain⟨rfl,Np⟩:=JA;exact rest QS Np
theorem pY{P:Program}{T:List (Nat×bR)}{Γ:bH}{Λ:iO}(hm:P.follows .mixedOrders=true)(hT:fm P T)(fF:Γ.Ok P)(mb: ∀b Q e h,Λ b Q e h->dx P b Q e h):(HV P T Γ Λ).Ok P:=by
 intro f a m h K hp;obtain⟨t,⟨fn,code,hf,hb,ho,hc,hr,hn⟩,hp⟩:=qF hT hp;obtain⟨hl,hp⟩:=ah.1 hp;rw[hn]at hl;unfold QO at hp;split at hp
 ·rename_i d b hd
  rw[fS]at hp;exact vI fF mb hm hf hb ho hc hr hl hd hp
 ·exact uV fF mb hm hf hb ho hc hr hl hp
theorem AU{P:Program}{T TD:List (Nat×bR)}{L:List aM}: ∀n v v' p,(yB P T TD L n).1.same v v' p->Lk v' v/\p
 |0,v,v',p,h=>by
  have h':=ah.1 (show cQ (Dx 8 v' v) p from h);exact⟨kW 8 _ _ h'.1,h'.2⟩
 |n+1,v,v',p,h=>by
  have h':=ah.1 (show cQ (Dx 8 v' v) p from h);exact⟨kW 8 _ _ h'.1,h'.2⟩
theorem rW{P:Program}{T TD:List (Nat×bR)}{L:List aM}(hm:P.follows .mixedOrders=true)(hT:fm P T)(hD:fm P TD)(hL:mQ P L): ∀n,(yB P T TD L n).1.Ok P/\(∀ b Q e h,(yB P T TD L n).2 b Q e h->dI P b Q n e h)
 |0=>⟨⟨fun _ _ _ _ h=>h.elim,AU 0,tq⟩,fun _ _ _ _ h=>h.elim⟩
 |n+1=>by
  obtain⟨ih1,ih2⟩:=rW hm hT hD hL n;have mb: ∀b Q e h,(yB P T TD L n).2 b Q e h->dx P b Q e h:=fun b Q e h hp=>cW n (ih2 b Q e h hp)
  refine⟨⟨fun f a h k hp=> ?_,AU (n+1),tq⟩,fun b Q e h hp=>dI.Ku ih1 mb (fun e h hp=>ih2 b Q e h hp) hp⟩
  have hp':AS L f a h k (RC TD f (fun t=>cQ (Nat.ble a.length t.nt) (uU P (yB P T TD L n).1 (yB P T TD L n).2 t.code (FD P (HV P T (yB P T TD L n).1 (yB P T TD L n).2) t.rs k) (eL 0 a) h []))
   (B9 T f fun t=>cQ (Nat.ble a.length t.nt) (nh P (yB P T TD L n).1 (yB P T TD L n).2 t.code (uj t.rs k) (eL 0 a) h))):=hp
  rcases rV hL hp' with hc|hp'
  ·exact hc
  ·rcases Er hD hp' with⟨t,⟨fn,code,hf,hb,ho,hc,hr,hn⟩,hp'⟩|hp'
   ·replace hp':=ah.1 hp'
    exact oW ih1 mb (pY hm hT ih1 mb) hm hf hb ho hc hr (by rw[<- hn];exact hp'.1) hp'.2
   ·obtain⟨t,⟨fn,code,hf,hb,ho,hc,hr,hn⟩,hp'⟩:=qF hT hp'
    replace hp':=ah.1 hp'
    exact kZ ih1 mb hm hf hb ho hc hr (by rw[<- hn];exact hp'.1) hp'.2
theorem af{P:Program}{T TD:List (Nat×bR)}{L:List aM}(hm:P.follows .mixedOrders=true)(hT:fm P T)(hD:fm P TD)(hL:mQ P L)(n:Nat)(k:aM)(h1:(k.args.all (HQ 8)&&(oV 8 k.v&&AN k.H))=true)
  (hp:(yB P T TD L n).1.call k.f k.args ⟨0,[]⟩ (fun r h=>QL k.v k.N k.H r h=true)):aD P k.f k.args k.v k.N k.H:=by
 simp only[Bool.and_eq_true]at h1;refine⟨fun a ha=>qS 8 a (List.all_eq_true.1 h1.1 a ha),h1.2.1,h1.2.2,((rW hm hT hD hL n).1.call _ _ _ _ hp).mono fun r h' hr=> ?_⟩;unfold QL at hr;split at hr
 ·simp only[Bool.and_eq_true]at hr
  exact⟨by rw[fX 8 _ _ hr.1],Nat.eq_of_beq_eq_true hr.2.1,fun i o ho=>AR hr.2.2 i o ho⟩
 ·cases hr
theorem FG{P:Program}{T TD:List (Nat×bR)}{L:List aM}(hm:P.follows .mixedOrders=true)(hT:fm P T)(hD:fm P TD)(hL:mQ P L)(n:Nat){f:FuncId}{args:List SV}{v:SV}(ha: ∀a∈args,bA a)(hv:bA v)
  (hp:(yB P T TD L n).1.call f args ⟨0,[]⟩ (fun r _=>r= .ret v)):au P f args v:=
 ⟨ha,((rW hm hT hD hL n).1.call _ _ _ _ hp).mono fun r h' hr=>⟨v,hr,.lit hv⟩⟩
end Ab
namespace Go.Proofs.YtbjifmbemdhndaaGreatDoor
open Ab Go.RowKit
set_option maxRecDepth 100000
set_option maxHeartbeats 4000000
attribute [local irreducible] aO bx
def K3:List (Nat×bR):=[(63,t63)]
theorem JB:fm Tryz.prog K3:= .cons KF .nil
theorem bq{args:List SV}{h:Heap}{R:bV->Heap->Prop}(hn:Nat.ble args.length t24.nt=true)
  (hp:uU Tryz.prog (si Tryz.prog) (dx Tryz.prog) t24.code (FD Tryz.prog (HV Tryz.prog K3 (si Tryz.prog) (dx Tryz.prog)) t24.rs R) (eL 0 args) h []):aP Tryz.prog 24 args h R:=
 Ky.K2 lI (fun _ _ _ _ h=>h) (pY mixed JB lI fun _ _ _ _ h=>h) mixed hn hp
theorem fu(op:Int)(v:Va)(tb nm:List UInt8)(slot kd:Int)(args:List Ex):ga (.mk op v tb nm slot kd args)=Ad op v tb nm (uy args):=by rw[ga]
theorem cL: ∀args:List Ex,uy args=args.map kr
 | []=>by rw[uy];rfl
 |x::r=>by rw[uy,cL r];rfl
theorem Es: ∀args:List Ex,(eP args).length=args.length
 | []=>by rw[eP];rfl
 |x::r=>by rw[eP,List.length_cons,List.length_cons,Es r]
theorem gU(a:Ex):eP [a]=[kq a]:=by rw[eP,eP]
theorem oX(a c:Ex):eP [a,c]=[kq a,kq c]:=by rw[eP,eP,eP]
theorem qT{l:List Ex}{n:Nat}:(((eP l).length:Int)!=(n:Int))=decide (l.length≠n):=by
 rw[Es];by_cases h:l.length=n
 ·rw[h];simp
 ·rw[decide_eq_true h,bne_iff_ne];omega
theorem JC(v:Va):oI v≠[]:=by
 unfold oI;split
 ·exact List.cons_ne_nil _ _
 split
 ·exact List.cons_ne_nil _ _
 split
 ·split<;>exact List.cons_ne_nil _ _
 ·exact List.cons_ne_nil _ _
theorem WN.off{b c:Bool}{ys zs:List Tk}{n j g:Nat}{h':Heap}(hc:c=b)(e:zs=ys)(hne:zs≠[])(hj:0<j)(hn:n=zs.length)(h0:h'.obj 0=some (mc c (.sl j g 4 0 n none)))(h1:h'.obj j=some (nY g zs)):WN b ys h':=by
 subst hc;exact .of e hne hj hn h0 h1
theorem WN.Nr{b c:Bool}{ys:List Tk}{h':Heap}(hc:c=b)(e:[]=ys)(h0:h'.obj 0=some (mc c .ak)):WN b ys h':=by
 subst hc;exact .nil e h0
theorem WL.off{b c:Bool}{ys zs:List Tk}{n g:Nat}{h':Heap}(hc:c=b)(e:zs=ys)(hn:n=zs.length)(h0:h'.obj 0=some (mc c (.sl 1 g 4 0 n none)))(h1:h'.obj 1=some (nY g zs)):WL b ys h':=by
 subst hc;exact .of e hn h0 h1
def K4:aA:= .map [(.int .u8 16,.str [111,114],0),(.int .u8 15,.str [97,110,100],1),(.int .u8 9,.str [61],2),(.int .u8 10,.str [60,62],3),(.int .u8 11,.str [60],4),(.int .u8 12,.str [60,61],5),(.int .u8 13,.str [62],6),(.int .u8 14,.str [62,61],7),(.int .u8 3,.str [43],8),(.int .u8 4,.str [45],9),(.int .u8 8,.str [124,124],10),(.int .u8 5,.str [42],11),(.int .u8 6,.str [47],12),(.int .u8 7,.str [37],13)] 14
def K5:aA:= .map [(.str [99,111,117,110,116],.int .u8 22,0),(.str [115,117,109],.int .u8 23,1),(.str [109,105,110],.int .u8 24,2),(.str [109,97,120],.int .u8 25,3)] 4
theorem aK{n:Nat}{l:List (Nat×aA)}{R:bV->Heap->Prop}(hR:R (.ret (.cJ n 0)) ⟨n+1,(n,K4)::l⟩):aP Tryz.prog 66 [] ⟨n,l⟩ R:=by
 refine aP.fresh (o:=K4) aV (fun _=> .map ..) (KG.call mixed rfl ?_) hR;iterate 60 all_goals ((try conv=>whnf);try first|(with_reducible first|refine zY ?_|refine zN ?_|refine zT ?_|refine br (fun _=> ?_) (fun _=> ?_)|refine⟨rfl,?_⟩))
 exact⟨0,rfl,rfl⟩
theorem gE{n:Nat}{l:List (Nat×aA)}{R:bV->Heap->Prop}(hR:R (.ret (.cJ n 0)) ⟨n+1,(n,K5)::l⟩):aP Tryz.prog 69 [] ⟨n,l⟩ R:=by
 refine aP.fresh (o:=K5) aV (fun _=> .map ..) (gD.call mixed rfl ?_) hR;iterate 60 all_goals ((try conv=>whnf);try first|(with_reducible first|refine zY ?_|refine zN ?_|refine zT ?_|refine br (fun _=> ?_) (fun _=> ?_)|refine⟨rfl,?_⟩))
 exact⟨0,rfl,rfl⟩
theorem HX{v:Va}{tb nm:List UInt8}{slot kd:Int}{args:List Ex}:WX (.mk 1 v tb nm slot kd args):=by
 intro b xs hb
 have e:ga (.mk 1 v tb nm slot kd args)=(oI v,decide (args.length≠0)):=by
  rw[fu,cL];unfold Ad;rw[if_pos rfl,List.length_map]
 rw[e]at hb ⊢;rw[aB];have cC:=bK (aB 1 v tb nm slot kd args▸aq (.mk 1 v tb nm slot kd args));have cv:=Fz (v:=v) (b:=b) (xs:=xs) (by dsimp only at hb;omega);have hf:=qT (l:=args) (n:=0);have QT:=JC v;refine WC.of cC (fun hn=> ?_) fun hn g=> ?_
 ·subst hn
  refine bq rfl ?_;iterate 60 all_goals ((try conv=>whnf);try first|(with_reducible first|refine zY ?_|refine zN ?_|refine zT ?_|refine br (fun _=> ?_) (fun _=> ?_)|refine⟨rfl,?_⟩)|(refine cv.N rfl (by simpa using QT) fun g'=> ?_))
  all_goals exact WN.off (by simp_all) rfl (by simpa using QT) (by decide) rfl rfl rfl
 ·refine bq rfl ?_
  iterate 60 all_goals ((try conv=>whnf);try first|(with_reducible first|refine zY ?_|refine zN ?_|refine zT ?_|refine br (fun _=> ?_) (fun _=> ?_)|refine⟨rfl,?_⟩)|(refine cv.L rfl rfl rfl hn rfl fun g'=> ?_))
  all_goals exact WL.off (by simp_all) rfl rfl rfl rfl
theorem JD{v:Va}{tb nm:List UInt8}{slot kd:Int}{args:List Ex}:WX (.mk 2 v tb nm slot kd args):=by
 intro b xs hb
 have e:ga (.mk 2 v tb nm slot kd args)=((if tb≠[]then[bg tb,bg [46]]else[])++[bg nm],decide (args.length≠0)):=by
  rw[fu,cL];unfold Ad;rw[if_neg (by decide),if_pos rfl,List.length_map]
 rw[e]at hb ⊢;rw[aB];have cC:=bK (aB 2 v tb nm slot kd args▸aq (.mk 2 v tb nm slot kd args));have hf:=qT (l:=args) (n:=0);by_cases ht:tb=[]
 ·have q:(!tb==[])=false:=by rw[ht];rfl
  rw[if_neg (fun h=>h ht)]at hb ⊢;simp only[List.length_append,List.length_cons,List.length_nil]at hb;refine WC.of cC (fun hn=> ?_) fun hn g=> ?_
  ·subst hn
   refine bq rfl ?_;iterate 60 all_goals ((try conv=>whnf);try first|(with_reducible first|refine zY ?_|refine zN ?_|refine zT ?_|refine br (fun _=> ?_) (fun _=> ?_)|refine⟨rfl,?_⟩)|(refine jl [nm] (by show 1<=1000;decide) rfl rfl rfl (by simp) fun g'=> ?_))
   all_goals refine WN.off ?_ ?_ ?_ (by decide) ?_ rfl rfl
   all_goals first|rfl|(simp;done)|(simp_all;done)
  ·refine bq rfl ?_
   iterate 60 all_goals ((try conv=>whnf);try first|(with_reducible first|refine zY ?_|refine zN ?_|refine zT ?_|refine br (fun _=> ?_) (fun _=> ?_)|refine⟨rfl,?_⟩)|(refine eO [nm] (by show 1<=1000;decide) rfl rfl rfl rfl hn rfl rfl rfl (by omega) fun g'=> ?_))
   all_goals refine WL.off ?_ ?_ ?_ rfl rfl
   all_goals first|rfl|(simp;done)|(simp_all;done)
 ·have q:(!tb==[])=true:=by simpa using ht
  rw[if_pos ht]at hb ⊢;simp only[List.length_append,List.length_cons,List.length_nil]at hb;refine WC.of cC (fun hn=> ?_) fun hn g=> ?_
  ·subst hn
   refine bq rfl ?_;iterate 60 all_goals ((try conv=>whnf);try first|(with_reducible first|refine zY ?_|refine zN ?_|refine zT ?_|refine br (fun _=> ?_) (fun _=> ?_)|refine⟨rfl,?_⟩)|(refine jl [tb,[46]] (by show 2<=1000;decide) rfl rfl rfl (by simp) fun g'=> ?_)|(refine eO [nm] (by show 1<=1000;decide) rfl rfl rfl rfl (by simp) rfl rfl rfl (by simp) fun g'=> ?_))
   all_goals refine WN.off ?_ ?_ ?_ (by decide) ?_ rfl rfl
   all_goals first|rfl|(simp;done)|(simp_all;done)
  ·refine bq rfl ?_
   iterate 60 all_goals ((try conv=>whnf);try first|(with_reducible first|refine zY ?_|refine zN ?_|refine zT ?_|refine br (fun _=> ?_) (fun _=> ?_)|refine⟨rfl,?_⟩)|(refine eO [tb,[46]] (by show 2<=1000;decide) rfl rfl rfl rfl hn rfl rfl rfl (by omega) fun g'=> ?_)|(refine eO [nm] (by show 1<=1000;decide) rfl rfl rfl rfl (by simp) rfl rfl rfl (by simp;omega) fun g'=> ?_))
   all_goals refine WL.off ?_ ?_ ?_ rfl rfl
   all_goals first|rfl|(simp;done)|(simp_all;done)
theorem Ns{v:Va}{tb nm:List UInt8}{slot kd:Int}{args:List Ex}:WX (.mk 21 v tb nm slot kd args):=by
 intro b xs hb
 have e:ga (.mk 21 v tb nm slot kd args)=([bg [99,111,117,110,116],bg [40],bg [42],bg [41]],decide (args.length≠0)):=by
  rw[fu,cL];unfold Ad;rw[if_neg (by decide),if_neg (by decide),if_pos rfl,List.length_map]
 rw[e]at hb ⊢;rw[aB];have cC:=bK (aB 21 v tb nm slot kd args▸aq (.mk 21 v tb nm slot kd args));simp only[List.length_append,List.length_cons,List.length_nil]at hb;have hf:=qT (l:=args) (n:=0);refine WC.of cC (fun hn=> ?_) fun hn g=> ?_
 ·subst hn
  refine bq rfl ?_;iterate 60 all_goals ((try conv=>whnf);try first|(with_reducible first|refine zY ?_|refine zN ?_|refine zT ?_|refine br (fun _=> ?_) (fun _=> ?_)|refine⟨rfl,?_⟩)|(refine jl [[99,111,117,110,116],[40],[42],[41]] (by decide) rfl rfl rfl (by simp) fun g'=> ?_))
  all_goals refine WN.off ?_ ?_ ?_ (by decide) ?_ rfl rfl
  all_goals first|rfl|(simp;done)|(simp_all;done)
 ·refine bq rfl ?_
  iterate 60 all_goals ((try conv=>whnf);try first|(with_reducible first|refine zY ?_|refine zN ?_|refine zT ?_|refine br (fun _=> ?_) (fun _=> ?_)|refine⟨rfl,?_⟩)|(refine eO [[99,111,117,110,116],[40],[42],[41]] (by decide) rfl rfl rfl rfl hn rfl rfl rfl (by omega) fun g'=> ?_))
  all_goals refine WL.off ?_ ?_ ?_ rfl rfl
  all_goals first|rfl|(simp;done)|(simp_all;done)
theorem QU{v:Va}{tb nm:List UInt8}{slot kd:Int}{a:Ex}(ha:WX a):WX (.mk 17 v tb nm slot kd [a]):=by
 intro b xs hb;have e:ga (.mk 17 v tb nm slot kd [a])=(bg [110,111,116]::bZ (kr a) 3,(ga a).2):=by rw[fu,cL];rfl
 rw[e]at hb ⊢;have cb:=dw (.mk 17 v tb nm slot kd [a]);rw[aB,gU]at cb ⊢;have cC:=bK (gU a▸aB 17 v tb nm slot kd [a]▸aq (.mk 17 v tb nm slot kd [a]));obtain⟨op',v',pZ,qb,ei,oJ,args'⟩:=a;rw[aB]at cb cC ⊢;have co:=bQ ha (least:=3) (b:=b) (xs:=xs++[bg [110,111,116]]) (by simp only[List.length_append,List.length_cons,List.length_nil]at hb ⊢;omega);generalize hw:bZ (kr (.mk op' v' pZ qb ei oJ args')) 3=ow at*;rw[aB]at co;simp only[List.length_append,List.length_cons,List.length_nil]at hb;refine WC.of cC (fun hn=> ?_) fun hn g=> ?_
 ·subst hn
  refine bq rfl ?_;iterate 150 all_goals ((try conv=>whnf);try first|(with_reducible first|refine zY ?_|refine zN ?_|refine zT ?_|refine br (fun _=> ?_) (fun _=> ?_)|refine⟨rfl,?_⟩|refine au.call (cb) ?_)|(refine aK ?_)|(refine jl [[110,111,116]] (by decide) rfl rfl rfl (by simp) fun g'=> ?_)|(refine co.L rfl rfl rfl (by simp) rfl fun g'=> ?_))
  all_goals refine WN.off ?_ ?_ ?_ (by decide) ?_ rfl rfl
  all_goals first|rfl|(simp;done)|(simp_all;done)|(simp_all[Bool.or_assoc];done)
 ·refine bq rfl ?_
  iterate 150 all_goals ((try conv=>whnf);try first|(with_reducible first|refine zY ?_|refine zN ?_|refine zT ?_|refine br (fun _=> ?_) (fun _=> ?_)|refine⟨rfl,?_⟩|refine au.call (cb) ?_)|(refine aK ?_)|(refine eO [[110,111,116]] (by decide) rfl rfl rfl rfl hn rfl rfl rfl (by omega) fun g'=> ?_)|(refine co.L rfl rfl rfl (by simp) rfl fun g'=> ?_))
  all_goals refine WL.off ?_ ?_ ?_ rfl rfl
  all_goals first|rfl|(simp;done)|(simp_all;done)|(simp_all[Bool.or_assoc];done)
theorem QV{v:Va}{tb nm:List UInt8}{slot kd:Int}{a:Ex}(ha:WX a):WX (.mk 19 v tb nm slot kd [a]):=by
 intro b xs hb;have e:ga (.mk 19 v tb nm slot kd [a])=(bZ (kr a) 5++[bg [105,115],bg [110,117,108,108]],(ga a).2):=by rw[fu,cL];rfl
 rw[e]at hb ⊢;have cb:=dw (.mk 19 v tb nm slot kd [a]);rw[aB,gU]at cb ⊢;have cC:=bK (gU a▸aB 19 v tb nm slot kd [a]▸aq (.mk 19 v tb nm slot kd [a]));obtain⟨op',v',pZ,qb,ei,oJ,args'⟩:=a;rw[aB]at cb cC ⊢;have co:=bQ ha (least:=5) (b:=b) (xs:=xs) (by simp only[List.length_append,List.length_cons,List.length_nil]at hb ⊢;omega);generalize hw:bZ (kr (.mk op' v' pZ qb ei oJ args')) 5=ow at*;rw[aB]at co;simp only[List.length_append,List.length_cons,List.length_nil]at hb;refine WC.of cC (fun hn=> ?_) fun hn g=> ?_
 ·subst hn
  by_cases hz:ow=[]
  ·subst hz
   refine bq rfl ?_;iterate 150 all_goals ((try conv=>whnf);try first|(with_reducible first|refine zY ?_|refine zN ?_|refine zT ?_|refine br (fun _=> ?_) (fun _=> ?_)|refine⟨rfl,?_⟩|refine au.call (cb) ?_)|(refine aK ?_)|(refine co.Z rfl ?_)|(refine jl [[105,115],[110,117,108,108]] (by decide) rfl rfl rfl (by simp) fun g'=> ?_))
   all_goals refine WN.off ?_ ?_ ?_ (by decide) ?_ rfl rfl
   all_goals first|rfl|(simp;done)|(simp_all;done)|(simp_all[Bool.or_assoc];done)
  ·refine bq rfl ?_
   iterate 150 all_goals ((try conv=>whnf);try first|(with_reducible first|refine zY ?_|refine zN ?_|refine zT ?_|refine br (fun _=> ?_) (fun _=> ?_)|refine⟨rfl,?_⟩|refine au.call (cb) ?_)|(refine aK ?_)|(refine co.N rfl (by simpa using hz) fun g'=> ?_)|(refine eO [[105,115],[110,117,108,108]] (by decide) rfl rfl rfl rfl (by simpa using hz) rfl rfl rfl (by simp;omega) fun g'=> ?_))
   all_goals refine WN.off ?_ ?_ ?_ (by decide) ?_ rfl rfl
   all_goals first|rfl|(simp;done)|(simp_all;done)|(simp_all[Bool.or_assoc];done)
 ·refine bq rfl ?_
  iterate 150 all_goals ((try conv=>whnf);try first|(with_reducible first|refine zY ?_|refine zN ?_|refine zT ?_|refine br (fun _=> ?_) (fun _=> ?_)|refine⟨rfl,?_⟩|refine au.call (cb) ?_)|(refine aK ?_)|(refine co.L rfl rfl rfl hn rfl fun g'=> ?_)|(refine eO [[105,115],[110,117,108,108]] (by decide) rfl rfl rfl rfl (by simp[hn]) rfl rfl rfl (by simp;omega) fun g'=> ?_))
  all_goals refine WL.off ?_ ?_ ?_ rfl rfl
  all_goals first|rfl|(simp;done)|(simp_all;done)|(simp_all[Bool.or_assoc];done)
theorem QW{v:Va}{tb nm:List UInt8}{slot kd:Int}{a:Ex}(ha:WX a):WX (.mk 20 v tb nm slot kd [a]):=by
 intro b xs hb;have e:ga (.mk 20 v tb nm slot kd [a])=(bZ (kr a) 5++[bg [105,115],bg [110,111,116],bg [110,117,108,108]],(ga a).2):=by rw[fu,cL];rfl
 rw[e]at hb ⊢;have cb:=dw (.mk 20 v tb nm slot kd [a]);rw[aB,gU]at cb ⊢;have cC:=bK (gU a▸aB 20 v tb nm slot kd [a]▸aq (.mk 20 v tb nm slot kd [a]));obtain⟨op',v',pZ,qb,ei,oJ,args'⟩:=a;rw[aB]at cb cC ⊢;have co:=bQ ha (least:=5) (b:=b) (xs:=xs) (by simp only[List.length_append,List.length_cons,List.length_nil]at hb ⊢;omega);generalize hw:bZ (kr (.mk op' v' pZ qb ei oJ args')) 5=ow at*;rw[aB]at co;simp only[List.length_append,List.length_cons,List.length_nil]at hb;refine WC.of cC (fun hn=> ?_) fun hn g=> ?_
 ·subst hn
  by_cases hz:ow=[]
  ·subst hz
   refine bq rfl ?_;iterate 150 all_goals ((try conv=>whnf);try first|(with_reducible first|refine zY ?_|refine zN ?_|refine zT ?_|refine br (fun _=> ?_) (fun _=> ?_)|refine⟨rfl,?_⟩|refine au.call (cb) ?_)|(refine aK ?_)|(refine co.Z rfl ?_)|(refine jl [[105,115],[110,111,116],[110,117,108,108]] (by decide) rfl rfl rfl (by simp) fun g'=> ?_))
   all_goals refine WN.off ?_ ?_ ?_ (by decide) ?_ rfl rfl
   all_goals first|rfl|(simp;done)|(simp_all;done)|(simp_all[Bool.or_assoc];done)
  ·refine bq rfl ?_
   iterate 150 all_goals ((try conv=>whnf);try first|(with_reducible first|refine zY ?_|refine zN ?_|refine zT ?_|refine br (fun _=> ?_) (fun _=> ?_)|refine⟨rfl,?_⟩|refine au.call (cb) ?_)|(refine aK ?_)|(refine co.N rfl (by simpa using hz) fun g'=> ?_)|(refine eO [[105,115],[110,111,116],[110,117,108,108]] (by decide) rfl rfl rfl rfl (by simpa using hz) rfl rfl rfl (by simp;omega) fun g'=> ?_))
   all_goals refine WN.off ?_ ?_ ?_ (by decide) ?_ rfl rfl
   all_goals first|rfl|(simp;done)|(simp_all;done)|(simp_all[Bool.or_assoc];done)
 ·refine bq rfl ?_
  iterate 150 all_goals ((try conv=>whnf);try first|(with_reducible first|refine zY ?_|refine zN ?_|refine zT ?_|refine br (fun _=> ?_) (fun _=> ?_)|refine⟨rfl,?_⟩|refine au.call (cb) ?_)|(refine aK ?_)|(refine co.L rfl rfl rfl hn rfl fun g'=> ?_)|(refine eO [[105,115],[110,111,116],[110,117,108,108]] (by decide) rfl rfl rfl rfl (by simp[hn]) rfl rfl rfl (by simp;omega) fun g'=> ?_))
  all_goals refine WL.off ?_ ?_ ?_ rfl rfl
  all_goals first|rfl|(simp;done)|(simp_all;done)|(simp_all[Bool.or_assoc];done)
end Go.Proofs.YtbjifmbemdhndaaGreatDoor
