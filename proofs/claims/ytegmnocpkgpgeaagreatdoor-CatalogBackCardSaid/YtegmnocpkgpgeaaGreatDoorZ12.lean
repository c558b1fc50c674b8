/- Parts of the proof of PCatalogBack, one behind the other, with short names. -/
import Derived.Test.YtegmnocpkgpgeaaGreatDoorZ11
set_option linter.unusedVariables false
set_option linter.unusedSimpArgs false
namespace Ab
open Go
section
section
variable {P:Program} {Γ:bR} {c:Cx} {h:Heap} {w:World} {e:Env} {a:Act} {o:Oper} {k kp:SV->Heap->Prop} {next:Act->World->Prop} {Q:Exit->Act->World->Prop}
theorem jt.wp(hd:jt P c h w a o k)(hk: ∀v x h' c' w',k v h'->bT c' h' w'->Ext c h w c' h' w'->VR c' h' w' v x->next (a.put o.dst x) w'):o.wp P a w next Q:=by
 obtain⟨v,x,h',c',w',hkk,hrun,hr,hx,hv⟩:=hd;unfold Oper.wp;rcases hrun with hrun|⟨hrun,rfl⟩
 ·rw[hrun,Oper.upon_value];exact hk v x h' c' w' hkk hr hx hv
 ·rw[hrun,Oper.upon_skip];exact hk v _ h' c' w' hkk hr hx hv
theorem oB{f:FuncId}(hc:eS P f=true)(args:Array Value):(callFunc f args).run P w= .ok (.enter f args) w:=by
 unfold eS at hc;split at hc
 ·rename_i fn hf
  simp only[Bool.and_eq_true,bne_iff_ne,ne_eq]at hc;obtain⟨hb,hn⟩:=hc;have hnone:fn.body.isNone=false:=by cases yD:fn.body<;>simp_all
  have hn':(fn.name== "runtime.NumGoroutine")=false:=by simpa using hn
  unfold callFunc;rw[Sem.run_bind,run_program,Result.andThen_ok,hf];dsimp only;rw[if_neg (by rw[hn'];decide),if_neg (by rw[hnone];decide)];rfl
 ·cases hc
theorem Cp{f:FuncId}{args:List SV}{xs:Array Value}(hr:bT c h w)(hrun:(execOp a.eval o).run P w= .ok (.enter f xs) w)(hs:xs.size=args.length)
  (hv: ∀(i:Nat) (v:SV) (x:Value),args[i]? =some v->xs[i]? =some x->VR c h w v x)
  (hp:aC P f args h fun r h'=>match r with| .ret v=>k v h'| .eY v=>kp v h')
  (hk: ∀v x h' c' w',k v h'->bT c' h' w'->Ext c h w c' h' w'->VR c' h' w' v x->next (a.put o.dst x) w')
  (hkp: ∀v x h' c' w',kp v h'->bT c' h' w'->Ext c h w c' h' w'->VR c' h' w' v x->Q (.panic [{v:=x,recovered:=false}]) a w'):o.wp P a w next Q:=by
 unfold Oper.wp;rw[hrun,Oper.upon_enter];refine(hp.calls c w xs hr hs hv).mono fun en w' hpost=> ?_
 obtain⟨c',h',r,hkk,hr',hx',hres⟩:=hpost;cases r with
 |ret v=>
  obtain⟨x,rfl,mQ⟩:=hres;exact hk v x h' c' w' hkk hr' hx' mQ
 |eY v=>
  obtain⟨x,rfl,mQ⟩:=hres;exact hkp v x h' c' w' hkk hr' hx' mQ
theorem Cq(hr:bT c h w){x:Operand}(he:ER c h w e a.tmps)(hrun: ∀t y,a.eval x= .iface t y->(execOp a.eval o).run P w= .halt (.panic (.iface t y)) w)
  (hp:bF P Γ (.panic (aD x)) e h k kp)
  (hkp: ∀v x h' c' w',kp v h'->bT c' h' w'->Ext c h w c' h' w'->VR c' h' w' v x->Q (.panic [{v:=x,recovered:=false}]) a w'):o.wp P a w next Q:=by
 simp only[bF,aE]at hp;have hx:=he.ev x;split at hp
 ·rename_i t v h1
  rw[h1]at hx;obtain⟨y,hy,hvy⟩:=hx.gW;unfold Oper.wp;rw[hrun t y hy,Oper.upon_panic];exact hkp _ _ h c w hp hr .refl (.iface _ _ _ hvy)
 ·exact hp.elim
theorem Ph(gd:Γ.Ok P)(hr:bT c h w)(he:ER c h w e a.tmps)(hp:bF P Γ (mb P o.op) e h k kp)
  (hk: ∀v x h' c' w',k v h'->bT c' h' w'->Ext c h w c' h' w'->VR c' h' w' v x->next (a.put o.dst x) w')
  (hkp: ∀v x h' c' w',kp v h'->bT c' h' w'->Ext c h w c' h' w'->VR c' h' w' v x->Q (.panic [{v:=x,recovered:=false}]) a w'):o.wp P a w next Q:=by
 cases hop:o.op with
 |move x=>rw[hop]at hp;exact((BN he (.inl hop) hp).does hr).wp hk
 |assign x=>rw[hop]at hp;exact((BN he (.inr hop) hp).does hr).wp hk
 |pick x y z=>rw[hop]at hp;exact((HL he hop hp).does hr).wp hk
 |alloc t=>
  rw[hop]at hp;simp only[mb]at hp;split at hp
  ·rename_i i hi
   split at hp
   ·rename_i z hz
    cases aJ:HH P t
    ·rw[aJ]at hp;exact(Ek hr hop hi hz hp).wp hk
    ·rw[aJ]at hp;exact(BV hr hop hi hz hp).wp hk
   ·exact hp.elim
  ·exact hp.elim
 |box t x=>
  rw[hop]at hp;simp only[mb]at hp;split at hp
  ·rename_i i hi
   cases aJ:HH P t
   ·rw[aJ]at hp;exact(JW hr he hop hi hp).wp hk
   ·rw[aJ]at hp;exact(HQ hr he hop hi hp).wp hk
  ·exact hp.elim
 |build t ps=>
  rw[hop]at hp;simp only[mb]at hp;split at hp
  ·rename_i fs i hu hi
   split at hp
   ·rename_i z hz
    cases aJ:(!((bw 4 z).known&&fs.toList.all fun f=>(P.info? f.type).isSome))
    ·rw[aJ]at hp
     simp only[Bool.not_eq_false',Bool.and_eq_true]at aJ;simp only[cond_false]at hp;split at hp
     ·rename_i l hl;exact((En he hop hu hi hz aJ.1 aJ.2 hl hp).does hr).wp hk
     ·exact hp.elim
    ·rw[aJ]at hp;exact hp.elim
   ·exact hp.elim
  ·exact hp.elim
 |buildSlice t n ps=>
  rw[hop]at hp;simp only[mb]at hp;split at hp
  ·rename_i el hu
   split at hp
   ·rename_i i hi
    split at hp
    ·rename_i z hz
     cases aJ:(Nat.ble (n*i.size) 16777216&&(Nat.beq (bw 4 z).cells.length i.size&&(bw 4 z).known))
     ·rw[aJ]at hp;exact hp.elim
     ·rw[aJ]at hp
      simp only[Bool.and_eq_true]at aJ;exact(u6 hr he hop hu hi hz (Nat.le_of_ble_eq_true aJ.1) (Nat.eq_of_beq_eq_true aJ.2.1) aJ.2.2 hp).wp hk
    ·exact hp.elim
   ·exact hp.elim
  ·exact hp.elim
 |load t x=>exact((HK hr he hop hp).does hr).wp hk
 |store t x y=>
  rw[hop]at hp;simp only[mb]at hp;split at hp
  ·rename_i i hi;exact(El hr he hop hi hp).wp hk
  ·exact hp.elim
 |binOp op t x y yt=>
  rw[hop]at hp;simp only[mb]at hp;split at hp
  ·exact((BP he hop hp).does hr).wp hk
  ·exact((BP he hop hp).does hr).wp hk
  ·rename_i hu
   split at hp
   ·exact((BQ (neg:=false) he hop hu hp).does hr).wp hk
   ·exact((BQ (neg:=true) he hop hu hp).does hr).wp hk
   ·exact hp.elim
  ·rename_i u hu
   split at hp
   ·rename_i i hi
    cases aJ:Nat.beq i.size 0
    ·rw[aJ]at hp;exact((B9 (neg:=false) hr he hop hu hi hp).does hr).wp hk
    ·rw[aJ]at hp;exact hp.elim
   ·rename_i i hi
    cases aJ:Nat.beq i.size 0
    ·rw[aJ]at hp;exact((B9 (neg:=true) hr he hop hu hi hp).does hr).wp hk
    ·rw[aJ]at hp;exact hp.elim
   ·exact hp.elim
  ·rename_i el hu
   split at hp
   ·exact((Co (neg:=false) hr he hop hu hp).does hr).wp hk
   ·exact((Co (neg:=true) hr he hop hu hp).does hr).wp hk
   ·exact hp.elim
  ·rename_i ms hu
   cases aJ:(isConst x||isConst y)
   ·rw[aJ]at hp;exact hp.elim
   ·rw[aJ]at hp
    simp only[cond_true]at hp;split at hp
    ·exact((Ci (neg:=false) he hop hu aJ hp).does hr).wp hk
    ·exact((Ci (neg:=true) he hop hu aJ hp).does hr).wp hk
    ·exact hp.elim
  ·rename_i fs hu
   cases aJ:(!P.stoodInHeld t&& !P.eqGuardType P.depth t)
   ·rw[aJ]at hp;exact hp.elim
   ·rw[aJ]at hp
    simp only[Bool.and_eq_true,Bool.not_eq_true']at aJ;simp only[cond_true]at hp;split at hp
    ·rename_i ks hks;exact((BR (neg:=false) he hop hu aJ.1 aJ.2 hks hp).does hr).wp hk
    ·rename_i ks hks;exact((BR (neg:=true) he hop hu aJ.1 aJ.2 hks hp).does hr).wp hk
    ·exact hp.elim
  ·exact hp.elim
 |unOp u t x=>rw[hop]at hp;exact((M9 he hop hp).does hr).wp hk
 |convert s d x=>
  rw[hop]at hp;simp only[mb]at hp;split at hp
  ·rename_i hs hd;exact((HP he hop hs hd hp).does hr).wp hk
  ·rename_i hs hd;exact((Aq he hop hs hd hp).does hr).wp hk
  ·rename_i el hs hd
   split at hp
   ·rename_i i hel hi
    cases aJ:Nat.beq i.size 1
    ·rw[aJ]at hp;exact hp.elim
    ·rw[aJ]at hp;exact((Es hr he hop hs hel hd hp).does hr).wp hk
   ·exact hp.elim
  ·rename_i u hs hd
   split at hp
   ·rename_i i hi
    cases aJ:Nat.beq i.size 0
    ·rw[aJ]at hp;exact((Eu hr he hop hs hd hi (fun hz=>by rw[hz]at aJ;simp at aJ) hp).does hr).wp hk
    ·rw[aJ]at hp;exact hp.elim
   ·exact hp.elim
  ·rename_i u hs hd
   split at hp
   ·rename_i i hi
    cases aJ:(!Nat.beq i.size 0&&(Nat.beq (P.cellsOf u) i.size&&liesAt P P.depth u 1 0 u 1))
    ·rw[aJ]at hp;exact hp.elim
    ·rw[aJ]at hp
     simp only[Bool.and_eq_true,Bool.not_eq_true']at aJ;exact((Ay hr he hop hs hd hi (fun hz=>by rw[hz]at aJ;simp at aJ) (Nat.eq_of_beq_eq_true aJ.2.1) aJ.2.2 hp).does hr).wp hk
   ·exact hp.elim
  ·rename_i el hs hd
   split at hp
   ·rename_i i hel hi
    cases aJ:Nat.beq i.size 1
    ·rw[aJ]at hp;exact hp.elim
    ·rw[aJ]at hp;exact(Ax hr he hop hs hd hel hp).wp hk
   ·exact hp.elim
  ·exact hp.elim
 |makeFunc fn xs ys=>rw[hop]at hp;exact((BS he hop hp).does hr).wp hk
 |makeInterface t x=>
  rw[hop]at hp;simp only[mb]at hp;split at hp
  ·exact hp.elim
  ·rename_i d hd hu;exact((Ar he hop hu (fun ms hh=>hd ms hh) hp).does hr).wp hk
  ·exact hp.elim
 |slice t x lo hi mx=>
  rw[hop]at hp;cases mx with
  |some m=>
   cases hi with
   |none=>exact hp.elim
   |some hi=>
   simp only[mb]at hp;split at hp
   ·rename_i el hu
    split at hp
    ·rename_i i hi';exact((Cj he hop (by simp) hu hi' hp).does hr).wp hk
    ·exact hp.elim
   ·exact hp.elim
  |none=>
  simp only[mb]at hp;split at hp
  ·rename_i el hu
   split at hp
   ·rename_i i hi';exact((Ej he hop hu hi' hp).does hr).wp hk
   ·exact hp.elim
  ·rename_i hu;exact((yu he hop hu hp).does hr).wp hk
  ·rename_i n el hu
   split at hp
   ·rename_i i hi'
    cases aJ:Nat.beq i.size 1
    ·rw[aJ]at hp;exact hp.elim
    ·rw[aJ]at hp;exact((yC hr he hop hu hi' (Nat.eq_of_beq_eq_true aJ) hp).does hr).wp hk
   ·exact hp.elim
  ·exact hp.elim
 |fieldAddr t x f=>
  rw[hop]at hp;simp only[mb]at hp;split at hp
  ·rename_i fs hu
   split at hp
   ·rename_i fd hf
    split at hp
    ·rename_i i hi
     cases aJ:Nat.beq i.size 0
     ·rw[aJ]at hp
      exact((we he hop hu hf hi (fun hz=>by rw[hz]at aJ;simp at aJ) hp).does hr).wp hk
     ·rw[aJ]at hp;exact hp.elim
    ·exact hp.elim
   ·exact hp.elim
  ·exact hp.elim
 |field t x f=>
  rw[hop]at hp;simp only[mb]at hp;split at hp
  ·rename_i fs hu
   split at hp
   ·rename_i fd hf
    split at hp
    ·rename_i i hag hi;exact(((wg he hop hu hf).2 i hag hi hp).does hr).wp hk
    ·rename_i hag;exact(((wg he hop hu hf).1 hag hp).does hr).wp hk
    ·exact hp.elim
   ·exact hp.elim
  ·exact hp.elim
 |indexAddr t x i=>
  rw[hop]at hp;simp only[mb]at hp;split at hp
  ·rename_i el hu
   split at hp
   ·rename_i ti F5;exact((wj he hop hu F5 hp).does hr).wp hk
   ·exact hp.elim
  ·rename_i n el hu
   split at hp
   ·rename_i ti F5;exact((yw hr he hop hu F5 hp).does hr).wp hk
   ·exact hp.elim
  ·exact hp.elim
 |index t x i=>
  rw[hop]at hp;simp only[mb]at hp;split at hp
  ·rename_i hu;exact((Ei he hop hu hp).does hr).wp hk
  ·exact hp.elim
 |extract x i=>rw[hop]at hp;exact((As he hop hp).does hr).wp hk
 |makeSlice t l cc=>
  rw[hop]at hp;simp only[mb]at hp;split at hp
  ·rename_i el hu
   split at hp
   ·rename_i i hi
    split at hp
    ·rename_i z hz
     cases aJ:(Nat.beq (bw 4 z).cells.length i.size&&(bw 4 z).known)
     ·rw[aJ]at hp;exact hp.elim
     ·rw[aJ]at hp
      simp only[Bool.and_eq_true]at aJ;exact(wv hr he hop hu hi hz (Nat.eq_of_beq_eq_true aJ.1) aJ.2 hp).wp hk
    ·exact hp.elim
   ·exact hp.elim
  ·exact hp.elim
 |call cl=>
  rw[hop]at hp;simp only[mb]at hp;split at hp
  ·rename_i f eD
   cases aJ:eS P f
   ·rw[aJ]at hp
    simp only[cond_false]at hp;split at hp
    ·rename_i fn x hf hargs
     cases gf:(fn.body.isNone&&(fn.name== "internal/abi.NoEscape" &&fn.origin== ""))
     ·rw[gf]at hp
      simp only[cond_false]at hp;cases tI:(fn.body.isNone&&(fn.name== "internal/bytealg.MakeNoZero" &&fn.origin== ""))
      ·rw[tI]at hp;exact hp.elim
      ·rw[tI]at hp
       simp only[Bool.and_eq_true,beq_iff_eq]at tI;simp only[cond_true]at hp;split at hp
       ·rename_i t Xo
        split at hp
        ·rename_i el hu;exact(yB hr he hop eD hargs hf tI.1 tI.2.1 tI.2.2 Xo hu hp).wp hk
        ·exact hp.elim
       ·exact hp.elim
     ·rw[gf]at hp
      simp only[Bool.and_eq_true,beq_iff_eq]at gf;exact((Ez he hop eD hargs hf gf.1 gf.2.1 gf.2.2 hp).does hr).wp hk
    ·rename_i fn x y hf hargs
     cases gf:(fn.body.isNone&&fn.origin== "")
     ·rw[gf]at hp;exact hp.elim
     ·rw[gf]at hp
      simp only[Bool.and_eq_true,beq_iff_eq]at gf;simp only[cond_true]at hp;split at hp
      ·rename_i i hid;exact((HV he hop eD hargs hf gf.1 hid gf.2 hp).does hr).wp hk
      ·exact hp.elim
    ·exact hp.elim
   ·rw[aJ]at hp
    simp only[cond_true,bF,kZ]at hp;refine Cp hr (xs:=cl.args.map a.eval) ?_ (by simp) (sg he cl.args) (gd.call _ _ _ _ hp) hk hkp;simp[execOp,hop,resolve,eD,Act.eval,Deferred.ofValue,invoke,oB aJ]
  ·rename_i v hnf eD
   simp only[bF,aE]at hp;have hv:=he.ev v;split at hp
   ·rename_i f first cap h1
    rw[h1]at hv
    replace hp:=ah.1 hp
    obtain⟨aJ,hp⟩:=hp;rw[kZ]at hp;obtain⟨a',b',hvv,ha,hb,Cr,H7⟩:=hv.nv;refine Cp hr (xs:=a'++(cl.args.map a.eval++b')) ?_ (by simp[ha,hb]) (fun i u y hu hy=> ?_) (gd.call _ _ _ _ hp) hk hkp
    ·simp[execOp,hop,resolve,eD,hvv,Deferred.ofValue,invoke,oB aJ]
    ·rw[List.getElem?_append]at hu
     rw[Array.getElem?_append]at hy;by_cases hi:i<first.length
     ·rw[if_pos hi]at hu
      rw[if_pos (by omega)]at hy;exact Cr i u y hu hy
     ·rw[if_neg hi]at hu
      rw[if_neg (by omega)]at hy;rw[List.getElem?_append]at hu;rw[Array.getElem?_append]at hy;simp only[List.length_map,Array.length_toList,Array.size_map]at hu hy;by_cases hi2:i-first.length<cl.args.size
      ·rw[if_pos hi2]at hu
       rw[if_pos (by omega)]at hy;rw[ha]at hy;exact sg he cl.args _ u y hu hy
      ·rw[if_neg hi2]at hu
       rw[if_neg (by omega)]at hy;rw[ha]at hy;exact H7 _ u y hu hy
   ·exact hp.elim
  ·rename_i eD
   split at hp
   ·rename_i x t hargs js
    split at hp
    ·rename_i hu;exact((BU (b:=true) he hop eD hargs js hu hp).does hr).wp hk
    ·rename_i el hu;exact((BU (b:=false) he hop eD hargs js ⟨el,hu⟩ hp).does hr).wp hk
    ·rename_i kt et hu;exact((HX hr he hop eD hargs js hu hp).does hr).wp hk
    ·exact hp.elim
   ·exact hp.elim
  ·rename_i eD
   split at hp
   ·rename_i x t hargs js
    split at hp
    ·rename_i el hu;exact((EA he hop eD hargs js hu hp).does hr).wp hk
    ·exact hp.elim
   ·exact hp.elim
  ·rename_i eD
   split at hp
   ·rename_i x y t u hargs js
    split at hp
    ·rename_i el hu
     split at hp
     ·rename_i i hi;exact((Ey he hop eD hargs js hu hi hp).does hr).wp hk
     ·exact hp.elim
    ·exact hp.elim
   ·exact hp.elim
  ·rename_i eD
   split at hp
   ·rename_i x t hargs js
    split at hp
    ·rename_i el hu
     split at hp
     ·rename_i i hi
      split at hp
      ·rename_i z hz
       cases aJ:(Nat.beq (bw 4 z).cells.length i.size&&(bw 4 z).known)
       ·rw[aJ]at hp;exact hp.elim
       ·rw[aJ]at hp
        simp only[Bool.and_eq_true]at aJ;exact(J6 hr he hop eD hargs js hu hi hz (Nat.eq_of_beq_eq_true aJ.1) aJ.2 hp).wp hk
      ·exact hp.elim
     ·exact hp.elim
    ·exact hp.elim
   ·exact hp.elim
  ·exact hp.elim
  ·rename_i eD
   split at hp
   ·rename_i x hargs;exact((wC he hop eD hargs hp).does hr).wp hk
   ·exact hp.elim
  ·rename_i eD
   split at hp
   ·rename_i x y t t2 hargs js
    split at hp
    ·rename_i el hu
     cases aJ:Nat.beq (P.cellsOf el) 1
     ·rw[aJ]at hp;exact hp.elim
     ·rw[aJ]at hp;exact(Ca hr he hop eD hargs js hu (Nat.eq_of_beq_eq_true aJ) hp).wp hk
    ·exact hp.elim
   ·exact hp.elim
  ·rename_i eD
   split at hp
   ·rename_i x y hargs;exact((F6 (m:=false) he hop eD hargs hp).does hr).wp hk
   ·exact hp.elim
  ·rename_i eD
   split at hp
   ·rename_i x y hargs;exact((F6 (m:=true) he hop eD hargs hp).does hr).wp hk
   ·exact hp.elim
  ·rename_i eD
   split at hp
   ·rename_i x hargs
    have de:cl.args= #[x]:=by simpa using congrArg List.toArray hargs
    exact Cq hr he (fun t y hy=>by simp[execOp,hop,resolve,eD,de,invoke,builtin,hy,Instr.panic]) hp hkp
   ·exact hp.elim
  ·rename_i eD
   split at hp
   ·rename_i x y t u hargs js
    split at hp
    ·rename_i el hu
     cases aJ:rG (P.underlying u)
     ·rw[aJ]at hp;exact hp.elim
     ·rw[aJ]at hp
      have J2:(∃ e',P.underlying u=some (.slice e'))\/P.underlying u=some .string:=by
       unfold rG at aJ;split at aJ
       ·rename_i e' h1;exact .inl ⟨e',h1⟩
       ·rename_i h1;exact .inr h1
       ·cases aJ
      simp only[cond_true]at hp;split at hp
      ·rename_i i hi
       split at hp
       ·rename_i z hz
        cases gf:(Nat.beq (bw 4 z).cells.length i.size&&(bw 4 z).known)
        ·rw[gf]at hp;exact hp.elim
        ·rw[gf]at hp
         simp only[Bool.and_eq_true]at gf;exact(B4 hr he hop eD hargs js hu J2 hi hz (Nat.eq_of_beq_eq_true gf.1) gf.2 hp).wp hk
       ·exact hp.elim
      ·exact hp.elim
    ·exact hp.elim
   ·exact hp.elim
  ·exact hp.elim
 |range t x=>
  rw[hop]at hp;simp only[mb]at hp;split at hp
  ·rename_i hu;exact(Ce hr he hop hu hp).wp hk
  ·rename_i kt et hu;exact(Cf hr he hop hu hp).wp hk
  ·exact hp.elim
 |next x b=>
  rw[hop]at hp;cases b with
  |true=>exact(EB hr he hop hp).wp hk
  |false=>exact(EH hr he hop hp).wp hk
 |makeMap t r=>
  rw[hop]at hp;cases r with
  |none=>exact(ED hr hop hp).wp hk
  |some r=>exact hp.elim
 |mapUpdate t m x y=>
  rw[hop]at hp;simp only[mb]at hp;split at hp
  ·rename_i kt et hu
   split at hp
   ·rename_i b Nf;exact(uJ hr he (.inl hop) hu Nf hp).wp hk
   ·exact hp.elim
  ·exact hp.elim
 |insert t m x y=>
  rw[hop]at hp;simp only[mb]at hp;split at hp
  ·rename_i kt et hu
   split at hp
   ·rename_i b Nf;exact(uJ hr he (.inr hop) hu Nf hp).wp hk
   ·exact hp.elim
  ·exact hp.elim
 |lookup t m x ok=>
  rw[hop]at hp;simp only[mb]at hp;split at hp
  ·rename_i kt et hu
   split at hp
   ·rename_i i hi
    split at hp
    ·rename_i z hz
     split at hp
     ·rename_i b Nf
      cases aJ:eB 4 (bw 4 z)
      ·rw[aJ]at hp;exact hp.elim
      ·rw[aJ]at hp;exact((Ch hr he hop hu Nf hi hz aJ hp).does hr).wp hk
     ·exact hp.elim
    ·exact hp.elim
   ·exact hp.elim
  ·exact hp.elim
 |typeAssert x xt t ok=>
  rw[hop]at hp;simp only[mb]at hp;split at hp
  ·exact hp.elim
  ·rename_i d i hd hu hi
   split at hp
   ·rename_i z hz
    cases aJ:eB 4 (bw 4 z)
    ·rw[aJ]at hp;exact hp.elim
    ·rw[aJ]at hp;exact((HY he hop hu (fun ms hh=>hd ms hh) hi hz hp).does hr).wp hk
   ·exact hp.elim
  ·exact hp.elim
 |defer cl=>
  rw[hop]at hp;simp only[mb]at hp;split at hp
  ·exact hp.elim
  ·exact hp.elim
 |entry x=>rw[hop]at hp;exact(EI hr he hop hp).wp hk
 |nilCheck x=>rw[hop]at hp;exact((B7 he hop hp).does hr).wp hk
 |panic x=>rw[hop]at hp;exact Cq hr he (fun t y hy=>by simp[execOp,hop,hy,Instr.panic]) hp hkp
 |_=>rw[hop]at hp;exact hp.elim
end
theorem kr(a:Act)(d:Option Nat)(v:Value):(a.put d v).tmps.size=a.tmps.size:=by cases d<;>simp[Act.put]
theorem put_defers(a:Act)(d:Option Nat)(v:Value):(a.put d v).defers=a.defers:=by cases d<;>rfl
end
end Ab
