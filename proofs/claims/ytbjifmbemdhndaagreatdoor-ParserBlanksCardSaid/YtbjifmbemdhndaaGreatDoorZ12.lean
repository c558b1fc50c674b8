/- Parts of the proof of PParserBlanks, one behind the other, with short names. -/
import Derived.Test.YtbjifmbemdhndaaGreatDoorZ11
set_option linter.unusedVariables false
set_option linter.unusedSimpArgs false
namespace Ab
open Go
section
section
variable {P:Program} {Γ:bZ} {c:Cx} {h:Heap} {w:World} {e:Env} {a:Act} {o:Oper} {k kp:SV->Heap->Prop} {next:Act->World->Prop} {Q:Exit->Act->World->Prop}
theorem jg.wp(hd:jg P c h w a o k)(hk: ∀v x h' c' w',k v h'->cF c' h' w'->Ext c h w c' h' w'->VR c' h' w' v x->next (a.put o.dst x) w'):o.wp P a w next Q:=by
 obtain⟨v,x,h',c',w',hkk,hrun,hr,hx,hv⟩:=hd;unfold Oper.wp;rcases hrun with hrun|⟨hrun,rfl⟩
 ·rw[hrun,Oper.upon_value];exact hk v x h' c' w' hkk hr hx hv
 ·rw[hrun,Oper.upon_skip];exact hk v _ h' c' w' hkk hr hx hv
theorem nW{f:FuncId}(hc:fh P f=true)(args:Array Value):(callFunc f args).run P w= .ok (.enter f args) w:=by
 unfold fh at hc;split at hc
 ·rename_i fn hf
  simp only[Bool.and_eq_true,bne_iff_ne,ne_eq]at hc;obtain⟨hb,hn⟩:=hc;have hnone:fn.body.isNone=false:=by cases xu:fn.body<;>simp_all
  have hn':(fn.name== "runtime.NumGoroutine")=false:=by simpa using hn
  unfold callFunc;rw[Sem.run_bind,run_program,Result.andThen_ok,hf];dsimp only;rw[if_neg (by rw[hn'];decide),if_neg (by rw[hnone];decide)];rfl
 ·cases hc
theorem Bb{f:FuncId}{args:List SV}{xs:Array Value}(hr:cF c h w)(hrun:(execOp a.eval o).run P w= .ok (.enter f xs) w)(hs:xs.size=args.length)
  (hv: ∀(i:Nat) (v:SV) (x:Value),args[i]? =some v->xs[i]? =some x->VR c h w v x)
  (hp:aZ P f args h fun r h'=>match r with| .ret v=>k v h'| .bO v=>kp v h')
  (hk: ∀v x h' c' w',k v h'->cF c' h' w'->Ext c h w c' h' w'->VR c' h' w' v x->next (a.put o.dst x) w')
  (hkp: ∀v x h' c' w',kp v h'->cF c' h' w'->Ext c h w c' h' w'->VR c' h' w' v x->Q (.panic [{v:=x,recovered:=false}]) a w'):o.wp P a w next Q:=by
 unfold Oper.wp;rw[hrun,Oper.upon_enter];refine(hp.calls c w xs hr hs hv).mono fun en w' hpost=> ?_
 obtain⟨c',h',r,hkk,hr',hx',hres⟩:=hpost;cases r with
 |ret v=>
  obtain⟨x,rfl,nX⟩:=hres;exact hk v x h' c' w' hkk hr' hx' nX
 |bO v=>
  obtain⟨x,rfl,nX⟩:=hres;exact hkp v x h' c' w' hkk hr' hx' nX
theorem Bc(hr:cF c h w){x:Operand}(he:ER c h w e a.tmps)(hrun: ∀t y,a.eval x= .iface t y->(execOp a.eval o).run P w= .halt (.panic (.iface t y)) w)
  (hp:bR P Γ (.panic (aK x)) e h k kp)
  (hkp: ∀v x h' c' w',kp v h'->cF c' h' w'->Ext c h w c' h' w'->VR c' h' w' v x->Q (.panic [{v:=x,recovered:=false}]) a w'):o.wp P a w next Q:=by
 simp only[bR,aM]at hp;have hx:=he.ev x;split at hp
 ·rename_i t v h1
  rw[h1]at hx;obtain⟨y,hy,WN⟩:=hx.gF;unfold Oper.wp;rw[hrun t y hy,Oper.upon_panic];exact hkp _ _ h c w hp hr .refl (.iface _ _ _ WN)
 ·exact hp.elim
theorem LB(gp:Γ.Ok P)(hr:cF c h w)(he:ER c h w e a.tmps)(hp:bR P Γ (l9 P o.op) e h k kp)
  (hk: ∀v x h' c' w',k v h'->cF c' h' w'->Ext c h w c' h' w'->VR c' h' w' v x->next (a.put o.dst x) w')
  (hkp: ∀v x h' c' w',kp v h'->cF c' h' w'->Ext c h w c' h' w'->VR c' h' w' v x->Q (.panic [{v:=x,recovered:=false}]) a w'):o.wp P a w next Q:=by
 cases hop:o.op with
 |move x=>rw[hop]at hp;exact((Ay he (.inl hop) hp).does hr).wp hk
 |assign x=>rw[hop]at hp;exact((Ay he (.inr hop) hp).does hr).wp hk
 |pick x y z=>rw[hop]at hp;exact((FX he hop hp).does hr).wp hk
 |alloc t=>
  rw[hop]at hp;simp only[l9]at hp;split at hp
  ·rename_i i hi
   split at hp
   ·rename_i z hz
    cases aX:FU P t
    ·rw[aX]at hp;exact(CO hr hop hi hz hp).wp hk
    ·rw[aX]at hp;exact(AH hr hop hi hz hp).wp hk
   ·exact hp.elim
  ·exact hp.elim
 |box t x=>
  rw[hop]at hp;simp only[l9]at hp;split at hp
  ·rename_i i hi
   cases aX:FU P t
   ·rw[aX]at hp;exact(HF hr he hop hi hp).wp hk
   ·rw[aX]at hp;exact(F3 hr he hop hi hp).wp hk
  ·exact hp.elim
 |build t ps=>
  rw[hop]at hp;simp only[l9]at hp;split at hp
  ·rename_i fs i hu hi
   split at hp
   ·rename_i z hz
    cases aX:(!((bH 4 z).known&&fs.toList.all fun f=>(P.info? f.type).isSome))
    ·rw[aX]at hp
     simp only[Bool.not_eq_false',Bool.and_eq_true]at aX;simp only[cond_false]at hp;split at hp
     ·rename_i l hl;exact((CS he hop hu hi hz aX.1 aX.2 hl hp).does hr).wp hk
     ·exact hp.elim
    ·rw[aX]at hp;exact hp.elim
   ·exact hp.elim
  ·exact hp.elim
 |buildSlice t n ps=>
  rw[hop]at hp;simp only[l9]at hp;split at hp
  ·rename_i el hu
   split at hp
   ·rename_i i hi
    split at hp
    ·rename_i z hz
     cases aX:(Nat.ble (n*i.size) 16777216&&(Nat.beq (bH 4 z).cells.length i.size&&(bH 4 z).known))
     ·rw[aX]at hp;exact hp.elim
     ·rw[aX]at hp
      simp only[Bool.and_eq_true]at aX;exact(uO hr he hop hu hi hz (Nat.le_of_ble_eq_true aX.1) (Nat.eq_of_beq_eq_true aX.2.1) aX.2.2 hp).wp hk
    ·exact hp.elim
   ·exact hp.elim
  ·exact hp.elim
 |load t x=>exact((FW hr he hop hp).does hr).wp hk
 |store t x y=>
  rw[hop]at hp;simp only[l9]at hp;split at hp
  ·rename_i i hi;exact(CP hr he hop hi hp).wp hk
  ·exact hp.elim
 |binOp op t x y yt=>
  rw[hop]at hp;simp only[l9]at hp;split at hp
  ·exact((AA he hop hp).does hr).wp hk
  ·exact((AA he hop hp).does hr).wp hk
  ·rename_i hu
   split at hp
   ·exact((AB (neg:=false) he hop hu hp).does hr).wp hk
   ·exact((AB (neg:=true) he hop hu hp).does hr).wp hk
   ·exact hp.elim
  ·rename_i u hu
   split at hp
   ·rename_i i hi
    cases aX:Nat.beq i.size 0
    ·rw[aX]at hp;exact((AR (neg:=false) hr he hop hu hi hp).does hr).wp hk
    ·rw[aX]at hp;exact hp.elim
   ·rename_i i hi
    cases aX:Nat.beq i.size 0
    ·rw[aX]at hp;exact((AR (neg:=true) hr he hop hu hi hp).does hr).wp hk
    ·rw[aX]at hp;exact hp.elim
   ·exact hp.elim
  ·rename_i el hu
   split at hp
   ·exact((Ba (neg:=false) hr he hop hu hp).does hr).wp hk
   ·exact((Ba (neg:=true) hr he hop hu hp).does hr).wp hk
   ·exact hp.elim
  ·rename_i ms hu
   cases aX:(isConst x||isConst y)
   ·rw[aX]at hp;exact hp.elim
   ·rw[aX]at hp
    simp only[cond_true]at hp;split at hp
    ·exact((A4 (neg:=false) he hop hu aX hp).does hr).wp hk
    ·exact((A4 (neg:=true) he hop hu aX hp).does hr).wp hk
    ·exact hp.elim
  ·rename_i fs hu
   cases aX:(!P.stoodInHeld t&& !P.eqGuardType P.depth t)
   ·rw[aX]at hp;exact hp.elim
   ·rw[aX]at hp
    simp only[Bool.and_eq_true,Bool.not_eq_true']at aX;simp only[cond_true]at hp;split at hp
    ·rename_i ks hks;exact((AE (neg:=false) he hop hu aX.1 aX.2 hks hp).does hr).wp hk
    ·rename_i ks hks;exact((AE (neg:=true) he hop hu aX.1 aX.2 hks hp).does hr).wp hk
    ·exact hp.elim
  ·exact hp.elim
 |unOp u t x=>rw[hop]at hp;exact((J1 he hop hp).does hr).wp hk
 |convert s d x=>
  rw[hop]at hp;simp only[l9]at hp;split at hp
  ·rename_i hs hd;exact((F2 he hop hs hd hp).does hr).wp hk
  ·rename_i hs hd;exact((zg he hop hs hd hp).does hr).wp hk
  ·rename_i el hs hd
   split at hp
   ·rename_i i hel hi
    cases aX:Nat.beq i.size 1
    ·rw[aX]at hp;exact hp.elim
    ·rw[aX]at hp;exact((CY hr he hop hs hel hd hp).does hr).wp hk
   ·exact hp.elim
  ·rename_i u hs hd
   split at hp
   ·rename_i i hi
    cases aX:Nat.beq i.size 0
    ·rw[aX]at hp;exact((C2 hr he hop hs hd hi (fun hz=>by rw[hz]at aX;simp at aX) hp).does hr).wp hk
    ·rw[aX]at hp;exact hp.elim
   ·exact hp.elim
  ·rename_i u hs hd
   split at hp
   ·rename_i i hi
    cases aX:(!Nat.beq i.size 0&&(Nat.beq (P.cellsOf u) i.size&&liesAt P P.depth u 1 0 u 1))
    ·rw[aX]at hp;exact hp.elim
    ·rw[aX]at hp
     simp only[Bool.and_eq_true,Bool.not_eq_true']at aX;exact((zl hr he hop hs hd hi (fun hz=>by rw[hz]at aX;simp at aX) (Nat.eq_of_beq_eq_true aX.2.1) aX.2.2 hp).does hr).wp hk
   ·exact hp.elim
  ·rename_i el hs hd
   split at hp
   ·rename_i i hel hi
    cases aX:Nat.beq i.size 1
    ·rw[aX]at hp;exact hp.elim
    ·rw[aX]at hp;exact(zk hr he hop hs hd hel hp).wp hk
   ·exact hp.elim
  ·exact hp.elim
 |makeFunc fn xs ys=>rw[hop]at hp;exact((AF he hop hp).does hr).wp hk
 |makeInterface t x=>
  rw[hop]at hp;simp only[l9]at hp;split at hp
  ·exact hp.elim
  ·rename_i d hd hu;exact((zh he hop hu (fun ms hh=>hd ms hh) hp).does hr).wp hk
  ·exact hp.elim
 |slice t x lo hi mx=>
  rw[hop]at hp;cases mx with
  |some m=>
   cases hi with
   |none=>exact hp.elim
   |some hi=>
   simp only[l9]at hp;split at hp
   ·rename_i el hu
    split at hp
    ·rename_i i hi';exact((A5 he hop (by simp) hu hi' hp).does hr).wp hk
    ·exact hp.elim
   ·exact hp.elim
  |none=>
  simp only[l9]at hp;split at hp
  ·rename_i el hu
   split at hp
   ·rename_i i hi';exact((CN he hop hu hi' hp).does hr).wp hk
   ·exact hp.elim
  ·rename_i hu;exact((xg he hop hu hp).does hr).wp hk
  ·rename_i n el hu
   split at hp
   ·rename_i i hi'
    cases aX:Nat.beq i.size 1
    ·rw[aX]at hp;exact hp.elim
    ·rw[aX]at hp;exact((xq hr he hop hu hi' (Nat.eq_of_beq_eq_true aX) hp).does hr).wp hk
   ·exact hp.elim
  ·exact hp.elim
 |fieldAddr t x f=>
  rw[hop]at hp;simp only[l9]at hp;split at hp
  ·rename_i fs hu
   split at hp
   ·rename_i fd hf
    split at hp
    ·rename_i i hi
     cases aX:Nat.beq i.size 0
     ·rw[aX]at hp
      exact((vH he hop hu hf hi (fun hz=>by rw[hz]at aX;simp at aX) hp).does hr).wp hk
     ·rw[aX]at hp;exact hp.elim
    ·exact hp.elim
   ·exact hp.elim
  ·exact hp.elim
 |field t x f=>
  rw[hop]at hp;simp only[l9]at hp;split at hp
  ·rename_i fs hu
   split at hp
   ·rename_i fd hf
    split at hp
    ·rename_i i hag hi;exact(((vI he hop hu hf).2 i hag hi hp).does hr).wp hk
    ·rename_i hag;exact(((vI he hop hu hf).1 hag hp).does hr).wp hk
    ·exact hp.elim
   ·exact hp.elim
  ·exact hp.elim
 |indexAddr t x i=>
  rw[hop]at hp;simp only[l9]at hp;split at hp
  ·rename_i el hu
   split at hp
   ·rename_i ti Nb;exact((vJ he hop hu Nb hp).does hr).wp hk
   ·exact hp.elim
  ·rename_i n el hu
   split at hp
   ·rename_i ti Nb;exact((xh hr he hop hu Nb hp).does hr).wp hk
   ·exact hp.elim
  ·exact hp.elim
 |index t x i=>
  rw[hop]at hp;simp only[l9]at hp;split at hp
  ·rename_i hu;exact((CM he hop hu hp).does hr).wp hk
  ·exact hp.elim
 |extract x i=>rw[hop]at hp;exact((zi he hop hp).does hr).wp hk
 |makeSlice t l cc=>
  rw[hop]at hp;simp only[l9]at hp;split at hp
  ·rename_i el hu
   split at hp
   ·rename_i i hi
    split at hp
    ·rename_i z hz
     cases aX:(Nat.beq (bH 4 z).cells.length i.size&&(bH 4 z).known)
     ·rw[aX]at hp;exact hp.elim
     ·rw[aX]at hp
      simp only[Bool.and_eq_true]at aX;exact(vN hr he hop hu hi hz (Nat.eq_of_beq_eq_true aX.1) aX.2 hp).wp hk
    ·exact hp.elim
   ·exact hp.elim
  ·exact hp.elim
 |call cl=>
  rw[hop]at hp;simp only[l9]at hp;split at hp
  ·rename_i f fC
   cases aX:fh P f
   ·rw[aX]at hp
    simp only[cond_false]at hp;split at hp
    ·rename_i fn x hf hargs
     cases gq:(fn.body.isNone&&(fn.name== "internal/abi.NoEscape" &&fn.origin== ""))
     ·rw[gq]at hp
      simp only[cond_false]at hp;cases tg:(fn.body.isNone&&(fn.name== "internal/bytealg.MakeNoZero" &&fn.origin== ""))
      ·rw[tg]at hp;exact hp.elim
      ·rw[tg]at hp
       simp only[Bool.and_eq_true,beq_iff_eq]at tg;simp only[cond_true]at hp;split at hp
       ·rename_i t Ty
        split at hp
        ·rename_i el hu;exact(xp hr he hop fC hargs hf tg.1 tg.2.1 tg.2.2 Ty hu hp).wp hk
        ·exact hp.elim
       ·exact hp.elim
     ·rw[gq]at hp
      simp only[Bool.and_eq_true,beq_iff_eq]at gq;exact((C6 he hop fC hargs hf gq.1 gq.2.1 gq.2.2 hp).does hr).wp hk
    ·rename_i fn x y hf hargs
     cases gq:(fn.body.isNone&&fn.origin== "")
     ·rw[gq]at hp;exact hp.elim
     ·rw[gq]at hp
      simp only[Bool.and_eq_true,beq_iff_eq]at gq;simp only[cond_true]at hp;split at hp
      ·rename_i i hid;exact((F8 he hop fC hargs hf gq.1 hid gq.2 hp).does hr).wp hk
      ·exact hp.elim
    ·exact hp.elim
   ·rw[aX]at hp
    simp only[cond_true,bR,kS]at hp;refine Bb hr (xs:=cl.args.map a.eval) ?_ (by simp) (rN he cl.args) (gp.call _ _ _ _ hp) hk hkp;simp[execOp,hop,resolve,fC,Act.eval,Deferred.ofValue,invoke,nW aX]
  ·rename_i v hnf fC
   simp only[bR,aM]at hp;have hv:=he.ev v;split at hp
   ·rename_i f first cap h1
    rw[h1]at hv
    replace hp:=av.1 hp
    obtain⟨aX,hp⟩:=hp;rw[kS]at hp;obtain⟨a',b',WO,ha,hb,Ge,Gf⟩:=hv.oQ;refine Bb hr (xs:=a'++(cl.args.map a.eval++b')) ?_ (by simp[ha,hb]) (fun i u y hu hy=> ?_) (gp.call _ _ _ _ hp) hk hkp
    ·simp[execOp,hop,resolve,fC,WO,Deferred.ofValue,invoke,nW aX]
    ·rw[List.getElem?_append]at hu
     rw[Array.getElem?_append]at hy;by_cases hi:i<first.length
     ·rw[if_pos hi]at hu
      rw[if_pos (by omega)]at hy;exact Ge i u y hu hy
     ·rw[if_neg hi]at hu
      rw[if_neg (by omega)]at hy;rw[List.getElem?_append]at hu;rw[Array.getElem?_append]at hy;simp only[List.length_map,Array.length_toList,Array.size_map]at hu hy;by_cases hi2:i-first.length<cl.args.size
      ·rw[if_pos hi2]at hu
       rw[if_pos (by omega)]at hy;rw[ha]at hy;exact rN he cl.args _ u y hu hy
      ·rw[if_neg hi2]at hu
       rw[if_neg (by omega)]at hy;rw[ha]at hy;exact Gf _ u y hu hy
   ·exact hp.elim
  ·rename_i fC
   split at hp
   ·rename_i x t hargs je
    split at hp
    ·rename_i hu;exact((AG (b:=true) he hop fC hargs je hu hp).does hr).wp hk
    ·rename_i el hu;exact((AG (b:=false) he hop fC hargs je ⟨el,hu⟩ hp).does hr).wp hk
    ·rename_i kt et hu;exact((Ga hr he hop fC hargs je hu hp).does hr).wp hk
    ·exact hp.elim
   ·exact hp.elim
  ·rename_i fC
   split at hp
   ·rename_i x t hargs je
    split at hp
    ·rename_i el hu;exact((C7 he hop fC hargs je hu hp).does hr).wp hk
    ·exact hp.elim
   ·exact hp.elim
  ·rename_i fC
   split at hp
   ·rename_i x y t u hargs je
    split at hp
    ·rename_i el hu
     split at hp
     ·rename_i i hi;exact((C5 he hop fC hargs je hu hi hp).does hr).wp hk
     ·exact hp.elim
    ·exact hp.elim
   ·exact hp.elim
  ·rename_i fC
   split at hp
   ·rename_i x t hargs je
    split at hp
    ·rename_i el hu
     split at hp
     ·rename_i i hi
      split at hp
      ·rename_i z hz
       cases aX:(Nat.beq (bH 4 z).cells.length i.size&&(bH 4 z).known)
       ·rw[aX]at hp;exact hp.elim
       ·rw[aX]at hp
        simp only[Bool.and_eq_true]at aX;exact(HP hr he hop fC hargs je hu hi hz (Nat.eq_of_beq_eq_true aX.1) aX.2 hp).wp hk
      ·exact hp.elim
     ·exact hp.elim
    ·exact hp.elim
   ·exact hp.elim
  ·exact hp.elim
  ·rename_i fC
   split at hp
   ·rename_i x hargs;exact((vS he hop fC hargs hp).does hr).wp hk
   ·exact hp.elim
  ·rename_i fC
   split at hp
   ·rename_i x y t t2 hargs je
    split at hp
    ·rename_i el hu
     cases aX:Nat.beq (P.cellsOf el) 1
     ·rw[aX]at hp;exact hp.elim
     ·rw[aX]at hp;exact(AS hr he hop fC hargs je hu (Nat.eq_of_beq_eq_true aX) hp).wp hk
    ·exact hp.elim
   ·exact hp.elim
  ·rename_i fC
   split at hp
   ·rename_i x y hargs;exact((EY (m:=false) he hop fC hargs hp).does hr).wp hk
   ·exact hp.elim
  ·rename_i fC
   split at hp
   ·rename_i x y hargs;exact((EY (m:=true) he hop fC hargs hp).does hr).wp hk
   ·exact hp.elim
  ·rename_i fC
   split at hp
   ·rename_i x hargs
    have dD:cl.args= #[x]:=by simpa using congrArg List.toArray hargs
    exact Bc hr he (fun t y hy=>by simp[execOp,hop,resolve,fC,dD,invoke,builtin,hy,Instr.panic]) hp hkp
   ·exact hp.elim
  ·rename_i fC
   split at hp
   ·rename_i x y t u hargs je
    split at hp
    ·rename_i el hu
     cases aX:qR (P.underlying u)
     ·rw[aX]at hp;exact hp.elim
     ·rw[aX]at hp
      have HK:(∃ e',P.underlying u=some (.slice e'))\/P.underlying u=some .string:=by
       unfold qR at aX;split at aX
       ·rename_i e' h1;exact .inl ⟨e',h1⟩
       ·rename_i h1;exact .inr h1
       ·cases aX
      simp only[cond_true]at hp;split at hp
      ·rename_i i hi
       split at hp
       ·rename_i z hz
        cases gq:(Nat.beq (bH 4 z).cells.length i.size&&(bH 4 z).known)
        ·rw[gq]at hp;exact hp.elim
        ·rw[gq]at hp
         simp only[Bool.and_eq_true]at gq;exact(AN hr he hop fC hargs je hu HK hi hz (Nat.eq_of_beq_eq_true gq.1) gq.2 hp).wp hk
       ·exact hp.elim
      ·exact hp.elim
    ·exact hp.elim
   ·exact hp.elim
  ·exact hp.elim
 |range t x=>
  rw[hop]at hp;simp only[l9]at hp;split at hp
  ·rename_i hu;exact(AW hr he hop hu hp).wp hk
  ·rename_i kt et hu;exact(AX hr he hop hu hp).wp hk
  ·exact hp.elim
 |next x b=>
  rw[hop]at hp;cases b with
  |true=>exact(C8 hr he hop hp).wp hk
  |false=>exact(Dd hr he hop hp).wp hk
 |makeMap t r=>
  rw[hop]at hp;cases r with
  |none=>exact(C9 hr hop hp).wp hk
  |some r=>exact hp.elim
 |mapUpdate t m x y=>
  rw[hop]at hp;simp only[l9]at hp;split at hp
  ·rename_i kt et hu
   split at hp
   ·rename_i b J6;exact(ur hr he (.inl hop) hu J6 hp).wp hk
   ·exact hp.elim
  ·exact hp.elim
 |insert t m x y=>
  rw[hop]at hp;simp only[l9]at hp;split at hp
  ·rename_i kt et hu
   split at hp
   ·rename_i b J6;exact(ur hr he (.inr hop) hu J6 hp).wp hk
   ·exact hp.elim
  ·exact hp.elim
 |lookup t m x ok=>
  rw[hop]at hp;simp only[l9]at hp;split at hp
  ·rename_i kt et hu
   split at hp
   ·rename_i i hi
    split at hp
    ·rename_i z hz
     split at hp
     ·rename_i b J6
      cases aX:eP 4 (bH 4 z)
      ·rw[aX]at hp;exact hp.elim
      ·rw[aX]at hp;exact((AZ hr he hop hu J6 hi hz aX hp).does hr).wp hk
     ·exact hp.elim
    ·exact hp.elim
   ·exact hp.elim
  ·exact hp.elim
 |typeAssert x xt t ok=>
  rw[hop]at hp;simp only[l9]at hp;split at hp
  ·exact hp.elim
  ·rename_i d i hd hu hi
   split at hp
   ·rename_i z hz
    cases aX:eP 4 (bH 4 z)
    ·rw[aX]at hp;exact hp.elim
    ·rw[aX]at hp;exact((Gb he hop hu (fun ms hh=>hd ms hh) hi hz hp).does hr).wp hk
   ·exact hp.elim
  ·exact hp.elim
 |defer cl=>
  rw[hop]at hp;simp only[l9]at hp;split at hp
  ·exact hp.elim
  ·exact hp.elim
 |entry x=>rw[hop]at hp;exact(De hr he hop hp).wp hk
 |nilCheck x=>rw[hop]at hp;exact((AP he hop hp).does hr).wp hk
 |panic x=>rw[hop]at hp;exact Bc hr he (fun t y hy=>by simp[execOp,hop,hy,Instr.panic]) hp hkp
 |_=>rw[hop]at hp;exact hp.elim
end
theorem kA(a:Act)(d:Option Nat)(v:Value):(a.put d v).tmps.size=a.tmps.size:=by cases d<;>simp[Act.put]
theorem put_defers(a:Act)(d:Option Nat)(v:Value):(a.put d v).defers=a.defers:=by cases d<;>rfl
end
end Ab
