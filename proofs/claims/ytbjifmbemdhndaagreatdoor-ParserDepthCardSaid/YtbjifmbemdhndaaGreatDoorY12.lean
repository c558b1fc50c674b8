/- Parts of the proof of PParserDepth, one behind the other, with short names. -/
import Derived.Test.YtbjifmbemdhndaaGreatDoorY11
set_option linter.unusedVariables false
set_option linter.unusedSimpArgs false
namespace Ab
open Go
section
section
variable {P:Program} {Γ:bH} {c:Cx} {h:Heap} {w:World} {e:Env} {a:Act} {o:Oper} {k kp:SV->Heap->Prop} {next:Act->World->Prop} {Q:Exit->Act->World->Prop}
theorem gZ.wp(hd:gZ P c h w a o k)(hk: ∀v x h' c' w',k v h'->bP c' h' w'->Ext c h w c' h' w'->VR c' h' w' v x->next (a.put o.dst x) w'):o.wp P a w next Q:=by
 obtain⟨v,x,h',c',w',hkk,hrun,hr,hx,hv⟩:=hd;unfold Oper.wp;rcases hrun with hrun|⟨hrun,rfl⟩
 ·rw[hrun,Oper.upon_value];exact hk v x h' c' w' hkk hr hx hv
 ·rw[hrun,Oper.upon_skip];exact hk v _ h' c' w' hkk hr hx hv
theorem mA{f:FuncId}(hc:gI P f=true)(args:Array Value):(callFunc f args).run P w= .ok (.enter f args) w:=by
 unfold gI at hc;split at hc
 ·rename_i fn hf
  simp only[Bool.and_eq_true,bne_iff_ne,ne_eq]at hc;obtain⟨hb,hn⟩:=hc;have hnone:fn.body.isNone=false:=by cases vu:fn.body<;>simp_all
  have hn':(fn.name== "runtime.NumGoroutine")=false:=by simpa using hn
  unfold callFunc;rw[Sem.run_bind,run_program,Result.andThen_ok,hf];dsimp only;rw[if_neg (by rw[hn'];decide),if_neg (by rw[hnone];decide)];rfl
 ·cases hc
theorem zz{f:FuncId}{args:List SV}{xs:Array Value}(hr:bP c h w)(hrun:(execOp a.eval o).run P w= .ok (.enter f xs) w)(hs:xs.size=args.length)
  (hv: ∀(i:Nat) (v:SV) (x:Value),args[i]? =some v->xs[i]? =some x->VR c h w v x)
  (hp:aP P f args h fun r h'=>match r with| .ret v=>k v h'| .cZ v=>kp v h')
  (hk: ∀v x h' c' w',k v h'->bP c' h' w'->Ext c h w c' h' w'->VR c' h' w' v x->next (a.put o.dst x) w')
  (hkp: ∀v x h' c' w',kp v h'->bP c' h' w'->Ext c h w c' h' w'->VR c' h' w' v x->Q (.panic [{v:=x,recovered:=false}]) a w'):o.wp P a w next Q:=by
 unfold Oper.wp;rw[hrun,Oper.upon_enter];refine(hp.calls c w xs hr hs hv).mono fun en w' hpost=> ?_
 obtain⟨c',h',r,hkk,hr',hx',hres⟩:=hpost;cases r with
 |ret v=>
  obtain⟨x,rfl,mB⟩:=hres;exact hk v x h' c' w' hkk hr' hx' mB
 |cZ v=>
  obtain⟨x,rfl,mB⟩:=hres;exact hkp v x h' c' w' hkk hr' hx' mB
theorem zA(hr:bP c h w){x:Operand}(he:ER c h w e a.tmps)(hrun: ∀t y,a.eval x= .iface t y->(execOp a.eval o).run P w= .halt (.panic (.iface t y)) w)
  (hp:bw P Γ (.panic (aC x)) e h k kp)
  (hkp: ∀v x h' c' w',kp v h'->bP c' h' w'->Ext c h w c' h' w'->VR c' h' w' v x->Q (.panic [{v:=x,recovered:=false}]) a w'):o.wp P a w next Q:=by
 simp only[bw,aE]at hp;have hx:=he.ev x;split at hp
 ·rename_i t v h1
  rw[h1]at hx;obtain⟨y,hy,Vt⟩:=hx.fR;unfold Oper.wp;rw[hrun t y hy,Oper.upon_panic];exact hkp _ _ h c w hp hr .refl (.iface _ _ _ Vt)
 ·exact hp.elim
theorem Ka(fF:Γ.Ok P)(hr:bP c h w)(he:ER c h w e a.tmps)(hp:bw P Γ (ko P o.op) e h k kp)
  (hk: ∀v x h' c' w',k v h'->bP c' h' w'->Ext c h w c' h' w'->VR c' h' w' v x->next (a.put o.dst x) w')
  (hkp: ∀v x h' c' w',kp v h'->bP c' h' w'->Ext c h w c' h' w'->VR c' h' w' v x->Q (.panic [{v:=x,recovered:=false}]) a w'):o.wp P a w next Q:=by
 cases hop:o.op with
 |move x=>rw[hop]at hp;exact((yU he (.inl hop) hp).does hr).wp hk
 |assign x=>rw[hop]at hp;exact((yU he (.inr hop) hp).does hr).wp hk
 |pick x y z=>rw[hop]at hp;exact((EI he hop hp).does hr).wp hk
 |alloc t=>
  rw[hop]at hp;simp only[ko]at hp;split at hp
  ·rename_i i hi
   split at hp
   ·rename_i z hz
    cases aJ:EF P t
    ·rw[aJ]at hp;exact(Bp hr hop hi hz hp).wp hk
    ·rw[aJ]at hp;exact(y5 hr hop hi hz hp).wp hk
   ·exact hp.elim
  ·exact hp.elim
 |box t x=>
  rw[hop]at hp;simp only[ko]at hp;split at hp
  ·rename_i i hi
   cases aJ:EF P t
   ·rw[aJ]at hp;exact(F8 hr he hop hi hp).wp hk
   ·rw[aJ]at hp;exact(EN hr he hop hi hp).wp hk
  ·exact hp.elim
 |build t ps=>
  rw[hop]at hp;simp only[ko]at hp;split at hp
  ·rename_i fs i hu hi
   split at hp
   ·rename_i z hz
    cases aJ:(!((bf 4 z).known&&fs.toList.all fun f=>(P.info? f.type).isSome))
    ·rw[aJ]at hp
     simp only[Bool.not_eq_false',Bool.and_eq_true]at aJ;simp only[cond_false]at hp;split at hp
     ·rename_i l hl;exact((Bs he hop hu hi hz aJ.1 aJ.2 hl hp).does hr).wp hk
     ·exact hp.elim
    ·rw[aJ]at hp;exact hp.elim
   ·exact hp.elim
  ·exact hp.elim
 |buildSlice t n ps=>
  rw[hop]at hp;simp only[ko]at hp;split at hp
  ·rename_i el hu
   split at hp
   ·rename_i i hi
    split at hp
    ·rename_i z hz
     cases aJ:(Nat.ble (n*i.size) 16777216&&(Nat.beq (bf 4 z).cells.length i.size&&(bf 4 z).known))
     ·rw[aJ]at hp;exact hp.elim
     ·rw[aJ]at hp
      simp only[Bool.and_eq_true]at aJ;exact(sQ hr he hop hu hi hz (Nat.le_of_ble_eq_true aJ.1) (Nat.eq_of_beq_eq_true aJ.2.1) aJ.2.2 hp).wp hk
    ·exact hp.elim
   ·exact hp.elim
  ·exact hp.elim
 |load t x=>exact((EH hr he hop hp).does hr).wp hk
 |store t x y=>
  rw[hop]at hp;simp only[ko]at hp;split at hp
  ·rename_i i hi;exact(Bq hr he hop hi hp).wp hk
  ·exact hp.elim
 |binOp op t x y yt=>
  rw[hop]at hp;simp only[ko]at hp;split at hp
  ·exact((yW he hop hp).does hr).wp hk
  ·exact((yW he hop hp).does hr).wp hk
  ·rename_i hu
   split at hp
   ·exact((yX (neg:=false) he hop hu hp).does hr).wp hk
   ·exact((yX (neg:=true) he hop hu hp).does hr).wp hk
   ·exact hp.elim
  ·rename_i u hu
   split at hp
   ·rename_i i hi
    cases aJ:Nat.beq i.size 0
    ·rw[aJ]at hp;exact((zf (neg:=false) hr he hop hu hi hp).does hr).wp hk
    ·rw[aJ]at hp;exact hp.elim
   ·rename_i i hi
    cases aJ:Nat.beq i.size 0
    ·rw[aJ]at hp;exact((zf (neg:=true) hr he hop hu hi hp).does hr).wp hk
    ·rw[aJ]at hp;exact hp.elim
   ·exact hp.elim
  ·rename_i el hu
   split at hp
   ·exact((zy (neg:=false) hr he hop hu hp).does hr).wp hk
   ·exact((zy (neg:=true) hr he hop hu hp).does hr).wp hk
   ·exact hp.elim
  ·rename_i ms hu
   cases aJ:(isConst x||isConst y)
   ·rw[aJ]at hp;exact hp.elim
   ·rw[aJ]at hp
    simp only[cond_true]at hp;split at hp
    ·exact((zo (neg:=false) he hop hu aJ hp).does hr).wp hk
    ·exact((zo (neg:=true) he hop hu aJ hp).does hr).wp hk
    ·exact hp.elim
  ·rename_i fs hu
   cases aJ:(!P.stoodInHeld t&& !P.eqGuardType P.depth t)
   ·rw[aJ]at hp;exact hp.elim
   ·rw[aJ]at hp
    simp only[Bool.and_eq_true,Bool.not_eq_true']at aJ;simp only[cond_true]at hp;split at hp
    ·rename_i ks hks;exact((yY (neg:=false) he hop hu aJ.1 aJ.2 hks hp).does hr).wp hk
    ·rename_i ks hks;exact((yY (neg:=true) he hop hu aJ.1 aJ.2 hks hp).does hr).wp hk
    ·exact hp.elim
  ·exact hp.elim
 |unOp u t x=>rw[hop]at hp;exact((Ix he hop hp).does hr).wp hk
 |convert s d x=>
  rw[hop]at hp;simp only[ko]at hp;split at hp
  ·rename_i hs hd;exact((EM he hop hs hd hp).does hr).wp hk
  ·rename_i hs hd;exact((xC he hop hs hd hp).does hr).wp hk
  ·rename_i el hs hd
   split at hp
   ·rename_i i hel hi
    cases aJ:Nat.beq i.size 1
    ·rw[aJ]at hp;exact hp.elim
    ·rw[aJ]at hp;exact((Bx hr he hop hs hel hd hp).does hr).wp hk
   ·exact hp.elim
  ·rename_i u hs hd
   split at hp
   ·rename_i i hi
    cases aJ:Nat.beq i.size 0
    ·rw[aJ]at hp;exact((Bz hr he hop hs hd hi (fun hz=>by rw[hz]at aJ;simp at aJ) hp).does hr).wp hk
    ·rw[aJ]at hp;exact hp.elim
   ·exact hp.elim
  ·rename_i u hs hd
   split at hp
   ·rename_i i hi
    cases aJ:(!Nat.beq i.size 0&&(Nat.beq (P.cellsOf u) i.size&&liesAt P P.depth u 1 0 u 1))
    ·rw[aJ]at hp;exact hp.elim
    ·rw[aJ]at hp
     simp only[Bool.and_eq_true,Bool.not_eq_true']at aJ;exact((xH hr he hop hs hd hi (fun hz=>by rw[hz]at aJ;simp at aJ) (Nat.eq_of_beq_eq_true aJ.2.1) aJ.2.2 hp).does hr).wp hk
   ·exact hp.elim
  ·rename_i el hs hd
   split at hp
   ·rename_i i hel hi
    cases aJ:Nat.beq i.size 1
    ·rw[aJ]at hp;exact hp.elim
    ·rw[aJ]at hp;exact(xG hr he hop hs hd hel hp).wp hk
   ·exact hp.elim
  ·exact hp.elim
 |makeFunc fn xs ys=>rw[hop]at hp;exact((yZ he hop hp).does hr).wp hk
 |makeInterface t x=>
  rw[hop]at hp;simp only[ko]at hp;split at hp
  ·exact hp.elim
  ·rename_i d hd hu;exact((xD he hop hu (fun ms hh=>hd ms hh) hp).does hr).wp hk
  ·exact hp.elim
 |slice t x lo hi mx=>
  rw[hop]at hp;cases mx with
  |some m=>
   cases hi with
   |none=>exact hp.elim
   |some hi=>
   simp only[ko]at hp;split at hp
   ·rename_i el hu
    split at hp
    ·rename_i i hi';exact((zq he hop (by simp) hu hi' hp).does hr).wp hk
    ·exact hp.elim
   ·exact hp.elim
  |none=>
  simp only[ko]at hp;split at hp
  ·rename_i el hu
   split at hp
   ·rename_i i hi';exact((Bo he hop hu hi' hp).does hr).wp hk
   ·exact hp.elim
  ·rename_i hu;exact((vj he hop hu hp).does hr).wp hk
  ·rename_i n el hu
   split at hp
   ·rename_i i hi'
    cases aJ:Nat.beq i.size 1
    ·rw[aJ]at hp;exact hp.elim
    ·rw[aJ]at hp;exact((vt hr he hop hu hi' (Nat.eq_of_beq_eq_true aJ) hp).does hr).wp hk
   ·exact hp.elim
  ·exact hp.elim
 |fieldAddr t x f=>
  rw[hop]at hp;simp only[ko]at hp;split at hp
  ·rename_i fs hu
   split at hp
   ·rename_i fd hf
    split at hp
    ·rename_i i hi
     cases aJ:Nat.beq i.size 0
     ·rw[aJ]at hp
      exact((tK he hop hu hf hi (fun hz=>by rw[hz]at aJ;simp at aJ) hp).does hr).wp hk
     ·rw[aJ]at hp;exact hp.elim
    ·exact hp.elim
   ·exact hp.elim
  ·exact hp.elim
 |field t x f=>
  rw[hop]at hp;simp only[ko]at hp;split at hp
  ·rename_i fs hu
   split at hp
   ·rename_i fd hf
    split at hp
    ·rename_i i hag hi;exact(((tL he hop hu hf).2 i hag hi hp).does hr).wp hk
    ·rename_i hag;exact(((tL he hop hu hf).1 hag hp).does hr).wp hk
    ·exact hp.elim
   ·exact hp.elim
  ·exact hp.elim
 |indexAddr t x i=>
  rw[hop]at hp;simp only[ko]at hp;split at hp
  ·rename_i el hu
   split at hp
   ·rename_i ti LC;exact((tN he hop hu LC hp).does hr).wp hk
   ·exact hp.elim
  ·rename_i n el hu
   split at hp
   ·rename_i ti LC;exact((vl hr he hop hu LC hp).does hr).wp hk
   ·exact hp.elim
  ·exact hp.elim
 |index t x i=>
  rw[hop]at hp;simp only[ko]at hp;split at hp
  ·rename_i hu;exact((Bn he hop hu hp).does hr).wp hk
  ·exact hp.elim
 |extract x i=>rw[hop]at hp;exact((xE he hop hp).does hr).wp hk
 |makeSlice t l cc=>
  rw[hop]at hp;simp only[ko]at hp;split at hp
  ·rename_i el hu
   split at hp
   ·rename_i i hi
    split at hp
    ·rename_i z hz
     cases aJ:(Nat.beq (bf 4 z).cells.length i.size&&(bf 4 z).known)
     ·rw[aJ]at hp;exact hp.elim
     ·rw[aJ]at hp
      simp only[Bool.and_eq_true]at aJ;exact(tR hr he hop hu hi hz (Nat.eq_of_beq_eq_true aJ.1) aJ.2 hp).wp hk
    ·exact hp.elim
   ·exact hp.elim
  ·exact hp.elim
 |call cl=>
  rw[hop]at hp;simp only[ko]at hp;split at hp
  ·rename_i f eI
   cases aJ:gI P f
   ·rw[aJ]at hp
    simp only[cond_false]at hp;split at hp
    ·rename_i fn x hf hargs
     cases fG:(fn.body.isNone&&(fn.name== "internal/abi.NoEscape" &&fn.origin== ""))
     ·rw[fG]at hp
      simp only[cond_false]at hp;cases rB:(fn.body.isNone&&(fn.name== "internal/bytealg.MakeNoZero" &&fn.origin== ""))
      ·rw[rB]at hp;exact hp.elim
      ·rw[rB]at hp
       simp only[Bool.and_eq_true,beq_iff_eq]at rB;simp only[cond_true]at hp;split at hp
       ·rename_i t RW
        split at hp
        ·rename_i el hu;exact(vq hr he hop eI hargs hf rB.1 rB.2.1 rB.2.2 RW hu hp).wp hk
        ·exact hp.elim
       ·exact hp.elim
     ·rw[fG]at hp
      simp only[Bool.and_eq_true,beq_iff_eq]at fG;exact((BE he hop eI hargs hf fG.1 fG.2.1 fG.2.2 hp).does hr).wp hk
    ·rename_i fn x y hf hargs
     cases fG:(fn.body.isNone&&fn.origin== "")
     ·rw[fG]at hp;exact hp.elim
     ·rw[fG]at hp
      simp only[Bool.and_eq_true,beq_iff_eq]at fG;simp only[cond_true]at hp;split at hp
      ·rename_i i hid;exact((EV he hop eI hargs hf fG.1 hid fG.2 hp).does hr).wp hk
      ·exact hp.elim
    ·exact hp.elim
   ·rw[aJ]at hp
    simp only[cond_true,bw,jh]at hp;refine zz hr (xs:=cl.args.map a.eval) ?_ (by simp) (qk he cl.args) (fF.call _ _ _ _ hp) hk hkp;simp[execOp,hop,resolve,eI,Act.eval,Deferred.ofValue,invoke,mA aJ]
  ·rename_i v hnf eI
   simp only[bw,aE]at hp;have hv:=he.ev v;split at hp
   ·rename_i f first cap h1
    rw[h1]at hv
    replace hp:=ah.1 hp
    obtain⟨aJ,hp⟩:=hp;rw[jh]at hp;obtain⟨a',b',Vu,ha,hb,E1,E2⟩:=hv.ny;refine zz hr (xs:=a'++(cl.args.map a.eval++b')) ?_ (by simp[ha,hb]) (fun i u y hu hy=> ?_) (fF.call _ _ _ _ hp) hk hkp
    ·simp[execOp,hop,resolve,eI,Vu,Deferred.ofValue,invoke,mA aJ]
    ·rw[List.getElem?_append]at hu
     rw[Array.getElem?_append]at hy;by_cases hi:i<first.length
     ·rw[if_pos hi]at hu
      rw[if_pos (by omega)]at hy;exact E1 i u y hu hy
     ·rw[if_neg hi]at hu
      rw[if_neg (by omega)]at hy;rw[List.getElem?_append]at hu;rw[Array.getElem?_append]at hy;simp only[List.length_map,Array.length_toList,Array.size_map]at hu hy;by_cases hi2:i-first.length<cl.args.size
      ·rw[if_pos hi2]at hu
       rw[if_pos (by omega)]at hy;rw[ha]at hy;exact qk he cl.args _ u y hu hy
      ·rw[if_neg hi2]at hu
       rw[if_neg (by omega)]at hy;rw[ha]at hy;exact E2 _ u y hu hy
   ·exact hp.elim
  ·rename_i eI
   split at hp
   ·rename_i x t hargs gY
    split at hp
    ·rename_i hu;exact((y4 (b:=true) he hop eI hargs gY hu hp).does hr).wp hk
    ·rename_i el hu;exact((y4 (b:=false) he hop eI hargs gY ⟨el,hu⟩ hp).does hr).wp hk
    ·rename_i kt et hu;exact((EY hr he hop eI hargs gY hu hp).does hr).wp hk
    ·exact hp.elim
   ·exact hp.elim
  ·rename_i eI
   split at hp
   ·rename_i x t hargs gY
    split at hp
    ·rename_i el hu;exact((BF he hop eI hargs gY hu hp).does hr).wp hk
    ·exact hp.elim
   ·exact hp.elim
  ·rename_i eI
   split at hp
   ·rename_i x y t u hargs gY
    split at hp
    ·rename_i el hu
     split at hp
     ·rename_i i hi;exact((BD he hop eI hargs gY hu hi hp).does hr).wp hk
     ·exact hp.elim
    ·exact hp.elim
   ·exact hp.elim
  ·rename_i eI
   split at hp
   ·rename_i x t hargs gY
    split at hp
    ·rename_i el hu
     split at hp
     ·rename_i i hi
      split at hp
      ·rename_i z hz
       cases aJ:(Nat.beq (bf 4 z).cells.length i.size&&(bf 4 z).known)
       ·rw[aJ]at hp;exact hp.elim
       ·rw[aJ]at hp
        simp only[Bool.and_eq_true]at aJ;exact(Gh hr he hop eI hargs gY hu hi hz (Nat.eq_of_beq_eq_true aJ.1) aJ.2 hp).wp hk
      ·exact hp.elim
     ·exact hp.elim
    ·exact hp.elim
   ·exact hp.elim
  ·exact hp.elim
  ·rename_i eI
   split at hp
   ·rename_i x hargs;exact((tU he hop eI hargs hp).does hr).wp hk
   ·exact hp.elim
  ·rename_i eI
   split at hp
   ·rename_i x y t t2 hargs gY
    split at hp
    ·rename_i el hu
     cases aJ:Nat.beq (P.cellsOf el) 1
     ·rw[aJ]at hp;exact hp.elim
     ·rw[aJ]at hp;exact(zg hr he hop eI hargs gY hu (Nat.eq_of_beq_eq_true aJ) hp).wp hk
    ·exact hp.elim
   ·exact hp.elim
  ·rename_i eI
   split at hp
   ·rename_i x y hargs;exact((DA (m:=false) he hop eI hargs hp).does hr).wp hk
   ·exact hp.elim
  ·rename_i eI
   split at hp
   ·rename_i x y hargs;exact((DA (m:=true) he hop eI hargs hp).does hr).wp hk
   ·exact hp.elim
  ·rename_i eI
   split at hp
   ·rename_i x hargs
    have cM:cl.args= #[x]:=by simpa using congrArg List.toArray hargs
    exact zA hr he (fun t y hy=>by simp[execOp,hop,resolve,eI,cM,invoke,builtin,hy,Instr.panic]) hp hkp
   ·exact hp.elim
  ·rename_i eI
   split at hp
   ·rename_i x y t u hargs gY
    split at hp
    ·rename_i el hu
     cases aJ:pg (P.underlying u)
     ·rw[aJ]at hp;exact hp.elim
     ·rw[aJ]at hp
      have Gd:(∃ e',P.underlying u=some (.slice e'))\/P.underlying u=some .string:=by
       unfold pg at aJ;split at aJ
       ·rename_i e' h1;exact .inl ⟨e',h1⟩
       ·rename_i h1;exact .inr h1
       ·cases aJ
      simp only[cond_true]at hp;split at hp
      ·rename_i i hi
       split at hp
       ·rename_i z hz
        cases fG:(Nat.beq (bf 4 z).cells.length i.size&&(bf 4 z).known)
        ·rw[fG]at hp;exact hp.elim
        ·rw[fG]at hp
         simp only[Bool.and_eq_true]at fG;exact(za hr he hop eI hargs gY hu Gd hi hz (Nat.eq_of_beq_eq_true fG.1) fG.2 hp).wp hk
       ·exact hp.elim
      ·exact hp.elim
    ·exact hp.elim
   ·exact hp.elim
  ·exact hp.elim
 |range t x=>
  rw[hop]at hp;simp only[ko]at hp;split at hp
  ·rename_i hu;exact(zk hr he hop hu hp).wp hk
  ·rename_i kt et hu;exact(zl hr he hop hu hp).wp hk
  ·exact hp.elim
 |next x b=>
  rw[hop]at hp;cases b with
  |true=>exact(BG hr he hop hp).wp hk
  |false=>exact(BK hr he hop hp).wp hk
 |makeMap t r=>
  rw[hop]at hp;cases r with
  |none=>exact(BH hr hop hp).wp hk
  |some r=>exact hp.elim
 |mapUpdate t m x y=>
  rw[hop]at hp;simp only[ko]at hp;split at hp
  ·rename_i kt et hu
   split at hp
   ·rename_i b ID;exact(sw hr he (.inl hop) hu ID hp).wp hk
   ·exact hp.elim
  ·exact hp.elim
 |insert t m x y=>
  rw[hop]at hp;simp only[ko]at hp;split at hp
  ·rename_i kt et hu
   split at hp
   ·rename_i b ID;exact(sw hr he (.inr hop) hu ID hp).wp hk
   ·exact hp.elim
  ·exact hp.elim
 |lookup t m x ok=>
  rw[hop]at hp;simp only[ko]at hp;split at hp
  ·rename_i kt et hu
   split at hp
   ·rename_i i hi
    split at hp
    ·rename_i z hz
     split at hp
     ·rename_i b ID
      cases aJ:ec 4 (bf 4 z)
      ·rw[aJ]at hp;exact hp.elim
      ·rw[aJ]at hp;exact((zn hr he hop hu ID hi hz aJ hp).does hr).wp hk
     ·exact hp.elim
    ·exact hp.elim
   ·exact hp.elim
  ·exact hp.elim
 |typeAssert x xt t ok=>
  rw[hop]at hp;simp only[ko]at hp;split at hp
  ·exact hp.elim
  ·rename_i d i hd hu hi
   split at hp
   ·rename_i z hz
    cases aJ:ec 4 (bf 4 z)
    ·rw[aJ]at hp;exact hp.elim
    ·rw[aJ]at hp;exact((EZ he hop hu (fun ms hh=>hd ms hh) hi hz hp).does hr).wp hk
   ·exact hp.elim
  ·exact hp.elim
 |defer cl=>
  rw[hop]at hp;simp only[ko]at hp;split at hp
  ·exact hp.elim
  ·exact hp.elim
 |entry x=>rw[hop]at hp;exact(BL hr he hop hp).wp hk
 |nilCheck x=>rw[hop]at hp;exact((zc he hop hp).does hr).wp hk
 |panic x=>rw[hop]at hp;exact zA hr he (fun t y hy=>by simp[execOp,hop,hy,Instr.panic]) hp hkp
 |_=>rw[hop]at hp;exact hp.elim
end
theorem iL(a:Act)(d:Option Nat)(v:Value):(a.put d v).tmps.size=a.tmps.size:=by cases d<;>simp[Act.put]
theorem put_defers(a:Act)(d:Option Nat)(v:Value):(a.put d v).defers=a.defers:=by cases d<;>rfl
end
end Ab
