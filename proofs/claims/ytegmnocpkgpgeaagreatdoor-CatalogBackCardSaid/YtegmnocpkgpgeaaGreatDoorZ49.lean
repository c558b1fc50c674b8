/- Parts of the proof of PCatalogBack, one behind the other, with short names. -/
import Derived.Test.YtegmnocpkgpgeaaGreatDoorZ48
set_option linter.unusedVariables false
set_option linter.unusedSimpArgs false
namespace Go.Proofs.YtegmnocpkgpgeaaGreatDoor
open Ab Go.RowKit
set_option maxRecDepth 100000
set_option maxHeartbeats 4000000
attribute [local irreducible] aS bH
section
section
variable {kind:Int} {name eH:List UInt8} {nN:Nat} {gN:Nat->SV} {C K RW IT FR GP OR ST:SV} {uniq:Bool} {wh:Ex} {limit:Int} {names:List (List UInt8)}
@[reducible] def Eb (kind:Int) (name eH:List UInt8) (nN:Nat) (gN:Nat->SV) (C K RW IT FR GP OR ST:SV) (uniq:Bool) (wh:Ex) (limit:Int):SV:= .agg (W3 kind name eH C K uniq (.aW 1 nN gN) RW IT FR wh GP OR limit ST)
theorem Mj(k:Nat)(x:Ix):aj Tryz.prog 66 [Jg k x,.kK (Eb kind name eH nN gN C K RW IT FR GP OR ST uniq wh limit) 0] (.bool (x.nm==name)):=by
 refine aG (cP (.agg (by simp[aL.str,aL.int,aL.bool,aL.aW])) (.kK _ _)) (UY.call mixed rfl ?_);iterate 40 all_goals ((try conv=>whnf);try first|(with_reducible first|refine zY ?_|refine zN ?_|refine zT ?_|refine br (fun _=> ?_) (fun _=> ?_)|refine⟨rfl,?_⟩))
 exact leaf rfl (.bool _)
theorem OJ{k:Nat}{l:List Ix}(hl:l.length<=100000):aj Tryz.prog 65 [rowOf 4 (j4 k l),.func (.func 66) [] [.kK (Eb kind name eH nN gN C K RW IT FR GP OR ST uniq wh limit) 0]] (.bool (n9 l name)):=by
 have c:=OB (F:=66) (w:= .kK (Eb kind name eH nN gN C K RW IT FR GP OR ST uniq wh limit) 0) (v:=fun x:Nat×Ix=>Jg x.1 x.2) (p:=fun c=>c.2.nm==name) (l:=qP k l) OC S1 rfl (.kK _ _) (by rw[Bp];exact hl) (fun x=>⟨_,_,_,_,rfl,rfl⟩) fun x _=>Mj x.1 x.2
 rw[show List.findIdx? (fun c:Nat×Ix=>c.2.nm==name) (qP k l)=l.findIdx? (fun t:Ix=>t.nm==name) from xV (p:=fun t:Ix=>t.nm==name)]at c;refine aG (cP (.aW _ _ _) (vL (.kK _ _))) (UX.call mixed rfl ?_);unfold n9;cases hf:l.findIdx? fun t=>t.nm==name with
 |none=>
  rw[hf]at c;iterate 40 all_goals ((try conv=>whnf);try first|(with_reducible first|refine zY ?_|refine zN ?_|refine zT ?_|refine br (fun _=> ?_) (fun _=> ?_)|refine⟨rfl,?_⟩)|(refine c.call ?_))
  exact leaf rfl (.bool _)
 |some i=>
  rw[hf]at c;have hi:decide ((i:Int)>=0)=true:=decide_eq_true (by omega);iterate 40 all_goals ((try conv=>whnf);try first|(with_reducible first|refine zY ?_|refine zN ?_|refine zT ?_|refine br (fun _=> ?_) (fun _=> ?_)|refine⟨rfl,?_⟩)|(refine c.call ?_))
  exact leaf rfl (.bool _)
theorem Mk{n M:Nat}{l:List (Nat×ai)}{xs:List Ix}{w:SV}{sv:SV}{sk:Sk}{R:bu->Heap->Prop}(hx:Bt l xs w)(hn:ak l n=some (.vec 0 23 [sv] sk))(V3:sv=Eb kind name eH nN gN C K RW IT FR GP OR ST uniq wh limit)(hl:xs.length<=100000)(AP:aL sv)(hR:R (.ret (.bool (n9 xs name))) ⟨M,l⟩):
  aC Tryz.prog 65 [w,.func (.func 66) [] [.ref n 0 0 0]] ⟨M,l⟩ R:=by
 subst V3
 have XF:(Heap.mk M (kL (fun _=>true) l)).obj n=some (.vec 0 23 [Eb kind name eH nN gN C K RW IT FR GP OR ST uniq wh limit] sk):=by
  show ak (kL _ l) n=_;rw[s6];exact hn
 exact(OJ (kind:=kind) (name:=name) (eH:=eH) (nN:=nN) (gN:=gN) (C:=C) (K:=K) (RW:=RW) (IT:=IT) (FR:=FR) (GP:=GP) (OR:=OR) (ST:=ST) (uniq:=uniq) (wh:=wh) (limit:=limit) hl).L7 (fun _=>true) (.cons (by rw[s6];exact hx.mW) (.fn (.cons (.ref (elems:=[Eb kind name eH nN gN C K RW IT FR GP OR ST uniq wh limit]) XF rfl (.lit AP)) .nil) .nil)) (.bool _) hR
theorem Bt.or{l:List (Nat×ai)}{xs:List Ix}{w:SV}(h:Bt l xs w):(w= .af/\xs=[])\/ ∃bi gi,w= .sl bi gi 4 0 xs.length none/\xs≠[]/\ak l bi=some (Jh gi (j4 1 xs)):=by
 cases h with
 |nil=>exact .inl ⟨rfl,rfl⟩
 |sl a b=>exact .inr ⟨_,_,rfl,a,b⟩
theorem x9{p q:Tb×SV}(h:kS p q):kS q p:=fun b g n g' n' h1 h2=>h b g' n' g n h2 h1
theorem DU{ps:List (Tb×SV)}(h:ps.Pairwise kS){i j:Nat}(hi:i<ps.length)(hj:j<ps.length)(hij:j≠i):kS ps[j] ps[i]:=by
 have:=List.pairwise_iff_getElem.1 h;rcases Nat.lt_or_gt_of_ne hij with h1|h1
 ·exact this j i hj hi h1
 ·exact x9 (this i j hi hj h1)
theorem Ml{ps:List (Tb×SV)}{p:Tb×SV}{i:Nat}(h:ps.Pairwise kS)(hp: ∀j (hj:j<ps.length),j≠i->kS ps[j] p):(ps.set i p).Pairwise kS:=by
 refine List.pairwise_iff_getElem.2 fun a b ha hb hab=> ?_
 rw[List.length_set]at ha hb;rw[List.getElem_set,List.getElem_set];split
 ·rw[if_neg (by omega)]
  exact x9 (hp b hb (by omega))
 ·split
  ·exact hp a ha (by omega)
  ·exact List.pairwise_iff_getElem.1 h a b ha hb hab
theorem DV{t1:Tb}{w1:SV}: ∀ {k i:Nat} {ps:List (Tb×SV)},(ni k ps).set i (FN (k+i) t1 w1)=ni k (ps.set i (t1,w1))
 |_,_,[]=>rfl
 |k,0,(t,w)::r=>rfl
 |k,i+1,(t,w)::r=>by
  have:=DV (t1:=t1) (w1:=w1) (k:=k+1) (i:=i) (ps:=r);rw[ni,List.set_cons_succ,List.set_cons_succ,ni,<-this,show k+(i+1)=k+1+i by omega]
theorem DW: ∀ {k:Nat} {xs:List Ix} {x:Ix},j4 k (xs++[x])=j4 k xs++[Jg (k+xs.length) x]
 |k,[],x=>rfl
 |k,y::r,x=>by
  rw[List.cons_append,j4,j4,DW (k:=k+1),List.length_cons,show k+1+r.length=k+(r.length+1) by omega];rfl
theorem Jk{l l':List (Nat×ai)}{ps:List (Tb×SV)}{cb b g i:Nat}{v0 w0 w1:SV}{t0 t1:Tb}(hc:ak l cb=some (jm v0))(h0:ps≠[])(hb:ak l b=some (Bs g (ni 1 ps)))(hx: ∀p∈ps,Bt l p.1.idx p.2)(ha:ps.Pairwise kS)(hi:i<ps.length)(JF:ps[i]=(t0,w0))
  (hw0:w0= .af\/ ∃bi gi n ob,w0= .sl bi gi 4 0 n none/\ak l bi=some ob/\ob.sz=4)
  (hsame: ∀j o,ak l j=some o->j≠b->(∀ g n,w0≠ .sl j g 4 0 n none)->ak l' j=some o)(hb':ak l' b=some (Bs g ((ni 1 ps).set i (FN (1+i) t1 w1))))(hx':Bt l' t1.idx w1)(hap: ∀j (hj:j<ps.length),j≠i->kS ps[j] (t1,w1)):
  gU l' (ps.set i (t1,w1)) (.sl b g 5 0 ps.length none)/\zZ cb l l'/\ak l' cb=some (jm v0):=by
 have hcb:cb≠b:=fun e=>by rw[e,hb]at hc;cases hc
 have hcw: ∀g n,w0≠ .sl cb g 4 0 n none:=fun g n e=>by
  rcases hw0 with h|⟨bi,gi,m,ob,h,h2,h3⟩
  ·rw[h]at e;cases e
  ·rw[h]at e;cases e;rw[hc]at h2;cases h2;cases h3
 refine⟨.sl (by intro h;exact h0 (by simpa using h)) (by rw[List.length_set]) (by rw[hb',DV]) (fun p hp=> ?_) (Ml ha hap),fun j o hj _ h5 h4=> ?_,hsame _ _ hc hcb hcw⟩
 ·obtain⟨j,hj,rfl⟩:=List.mem_iff_getElem.1 hp
  rw[List.length_set]at hj;rw[List.getElem_set];split
  ·exact hx'
  ·rename_i hij
   have V4:=hx _ (List.getElem_mem hj);have S5:=DU ha hi hj (Ne.symm hij);rw[JF]at S5;generalize ps[j]=q at V4 S5;obtain⟨tq,wq⟩:=q;dsimp only at V4 ⊢;rcases V4.or with⟨rfl,h⟩|⟨bq,gq,rfl,h0q,hq⟩
   ·rw[h];exact .nil
   ·refine .sl h0q (hsame _ _ hq (fun e=>by rw[e,hb]at hq;cases hq) fun g n=>S5 bq gq _ g n rfl)
 ·refine hsame j o hj (fun e=>by rw[e,hb]at hj;cases hj;exact h5 rfl) fun g n e=> ?_
  rcases hw0 with h|⟨bi,gi,m,ob,h,h2,h3⟩
  ·rw[h]at e;cases e
  ·rw[h]at e;cases e;rw[hj]at h2;cases h2;exact h4 h3
@[reducible] def ya (v:SV):ai:= .vec 0 23 [v] ⟨false,some 93⟩
theorem Jl{cb n:Nat}{l:List (Nat×ai)}{ps:List (Tb×SV)}{v:SV}{R:bu->Heap->Prop}(hc:ak l cb=some (jm v))(ht:gU l ps v)(hp:ps.length<=1000)(ZB: ∀p∈ps,p.1.idx.length<=1000)(eD: ∀p∈ps,p.1.aq.length<=1000)(hk:names.length<=1000)
  (cp: ∀aq:List fH,aq.length<=1000->aj Tryz.prog 67 [rowOf 3 (aq.map gQ),.aW 1 nN gN] (VY (bY aq names)))(AP:aL (Eb kind name eH nN gN C K RW IT FR GP OR ST uniq wh limit))
  (eO: ∀e n' l',jh (ps.map (·.1)) eH name names uniq= .error e->n<=n'->kT l l'->R (.ret (.int .i64 e)) ⟨n',l'⟩)
  (hok: ∀ps' n' l',jh (ps.map (·.1)) eH name names uniq= .ok (ps'.map (·.1))->n<=n'->zZ cb l l'->ak l' cb=some (jm v)->gU l' ps' v->R (.ret (.int .i64 0)) ⟨n',l'⟩):
  aC Tryz.prog 30 [.ref cb 0 0 0,Eb kind name eH nN gN C K RW IT FR GP OR ST uniq wh limit] ⟨n,l⟩ R:=by
 refine zX fun hlt=>Ux.call mixed rfl ?_
 have Pb:=hlt _ _ hc;have hnc:Nat.beq n cb=false:=cu (by omega);have hnn:Nat.beq n n=true:=Nat.beq_refl n;have hsub:kT l ((n,ya (Eb kind name eH nN gN C K RW IT FR GP OR ST uniq wh limit))::l):=kT.cons hlt;have Tz:=ht.mono hsub;have h4:iu (ps.map (·.1)) eH=none->jh (ps.map (·.1)) eH name names uniq= .error 4:=fun h=>by unfold jh;rw[h]
 have y8:ak ((n,ya (Eb kind name eH nN gN C K RW IT FR GP OR ST uniq wh limit))::l) cb=some (jm v):=hsub _ _ hc;iterate 60 all_goals ((try conv=>whnf);try first|(with_reducible first|refine zY ?_|refine zN ?_|refine zT ?_|refine br (fun _=> ?_) (fun _=> ?_)|refine⟨rfl,?_⟩)|(refine aH hc ?_)|(refine lB hc rfl ?_)|(refine z7 Tz hp (fun h1=> ?_) (fun i hi h1=> ?_)))
 all_goals first
  |exact eO _ _ _ (h4 h1) (Nat.le_succ _) hsub
  |skip
 cases ht with
 |nil=>simp at hi
 | @sl _ b g m h0 hm hb hx ha=>
 subst hm;have hbn:=hlt _ _ hb;have hnb:Nat.beq n b=false:=cu (by omega);have qQ:=Nat.beq_refl g;have et:=Int.toNat_natCast i;have WS:(decide (0<=(i:Int))&&decide ((i:Int)<(ps.length:Int)))=true:=by simp only[Bool.and_eq_true,decide_eq_true_eq];omega
 have pq:(ni 1 ps)[0+(i:Int).toNat]? =some (FN (1+i) ps[i].1 ps[i].2):=by rw[et,Nat.zero_add];exact vN hi
 have WZ:=hsub _ _ hb;have YJ:=hx _ (List.getElem_mem hi);have JF: ∃p0,ps[i]=p0:=⟨_,rfl⟩;obtain⟨⟨t0,w0⟩,JF⟩:=JF;rw[JF]at pq YJ;dsimp only at pq YJ;have F5:(ps.map (·.1))[i]? =some t0:=by rw[List.getElem?_map,List.getElem?_eq_getElem hi,JF];rfl
 have ZC:jh (ps.map (·.1)) eH name names uniq=if 8<=t0.idx.length then .error 3 else if(ps.map (·.1)).any (fun t=>n9 t.idx name)then .error 9 else match bY t0.aq names with| .error e=> .error e| .ok l=> .ok (xK (ps.map (·.1)) i ⟨name,l,uniq⟩):=by
  unfold jh;rw[h1];dsimp only;rw[F5];rfl
 rw[<- cM]at pq;have hlk:=ZB _ (List.getElem_mem hi);rw[JF]at hlk;dsimp only at hlk;rcases YJ.or with⟨rfl,S6⟩|⟨bi,gi,rfl,S6,yb⟩
 all_goals
  try have aap:Nat.beq n bi=false:=cu (by have:=hlt _ _ yb;omega)
  try have hgi:=Nat.beq_refl gi
  iterate 60 all_goals ((try conv=>whnf);try first|(with_reducible first|refine zY ?_|refine zN ?_|refine zT ?_|refine br (fun _=> ?_) (fun _=> ?_)|refine⟨rfl,?_⟩)|(refine aH hc ?_)|(refine lB hc rfl ?_)|(refine aH hb ?_)|(rewrite [pq])|(refine aH yb ?_))
  all_goals try exact eO _ _ _ (ZC.trans (if_pos (by have:=of_decide_eq_true ‹decide ((_:Int)>=8)=true›;omega))) (Nat.le_succ _) hsub
 all_goals
  have W7:=ZC.trans (if_neg (by first|(rw[S6];decide)|(have:=of_decide_eq_false ‹decide ((_:Int)>=8)=false›;omega)))
  refine iq (σ:={y:Nat×Nat // n+1<=y.1/\y.2<=ps.length/\ ∀x∈(ps.take y.2).map (·.1),n9 x.idx name=false}) false (fun y=>[(0,.ref cb 0 0 0),(0+1,Eb kind name eH nN gN C K RW IT FR GP OR ST uniq wh limit),(3,.ref n 0 0 0),(4,.int .i64 0),(5,.int .i64 i),(18,.bool false),(6,.ref b g (0+(i:Int).toNat) 0),(30,.bool false),(34,.sl b g 5 0 ps.length none),(35,.int .i64 ps.length),(36,.int .i64 (y.1.2:Nat))])
   (fun y=>⟨y.1.1,(n,ya (Eb kind name eH nN gN C K RW IT FR GP OR ST uniq wh limit))::l⟩) (fun y=>ps.length-y.1.2) ?_ ⟨(n+1,0),Nat.le_refl _,Nat.zero_le _,by simp⟩
  rintro⟨⟨M,k⟩,hM,hk2,hq⟩;dsimp only at hM hk2 hq ⊢;have hMn:Nat.beq M n=false:=cu (by omega);have hMM:Nat.beq M M=true:=Nat.beq_refl M;have hMc:Nat.beq M cb=false:=cu (by omega);have hMb:Nat.beq M b=false:=cu (by omega);have e7:IntKind.i64.wrap ((k:Int)+1)=((k+1:Nat):Int):=bf (by omega);have etk:=Int.toNat_natCast k;have S7:=tg (o:=ya (Eb kind name eH nN gN C K RW IT FR GP OR ST uniq wh limit)) hlt (show n<M by omega);by_cases M5:k<ps.length
  ·have hd:decide ((k:Int)<(ps.length:Int))=true:=decide_eq_true (by omega)
   have hbk:(decide (0<=(k:Int))&&decide ((k:Int)<(ps.length:Int)))=true:=by simp only[Bool.and_eq_true,decide_eq_true_eq];omega
   have S8:(ni 1 ps)[0+(k:Int).toNat]? =some (FN (1+k) ps[k].1 ps[k].2):=by rw[etk,Nat.zero_add];exact vN M5
   have ZD:=hx _ (List.getElem_mem M5);have hlk:=ZB _ (List.getElem_mem M5);have hmem:ps[k].1∈ps.map (·.1):=List.mem_map_of_mem (List.getElem_mem M5)
   have YH:n9 ps[k].1.idx name=false-> ∀x∈(ps.take (k+1)).map (·.1),n9 x.idx name=false:=fun h x hx=>by
    rw[List.take_add_one,List.getElem?_eq_getElem M5,List.map_append]at hx;rcases List.mem_append.1 hx with hx|hx
    ·exact hq x hx
    ·simp at hx;rw[hx];exact h
   rw[<- cM]at S8;generalize ps[k]=q at*;obtain⟨tk,wk⟩:=q;dsimp only at*
   have hone:(Nat.beq [SV.str tk.nm,.int .i64 ((1+k:Nat):Int),rowOf 3 (tk.aq.map gQ),rowOf 1 (tk.key.map gA),wk].length 5&&cZ [SV.str tk.nm,.int .i64 ((1+k:Nat):Int),rowOf 3 (tk.aq.map gQ),rowOf 1 (tk.key.map gA),wk])=true:=by
    rcases ZD.or with⟨h,_⟩|⟨_,_,h,_⟩<;>rw[h]<;>rfl
   have V5: ∀o,Bt ((M,o)::(n,ya (Eb kind name eH nN gN C K RW IT FR GP OR ST uniq wh limit))::l) tk.idx wk:=fun o=>ZD.mono (hsub.trans (kT.cons S7))
   have hn2: ∀o,ak ((M,o)::(n,ya (Eb kind name eH nN gN C K RW IT FR GP OR ST uniq wh limit))::l) n=some (ya (Eb kind name eH nN gN C K RW IT FR GP OR ST uniq wh limit)):=fun o=>(aU (by omega)).trans dD
   cases hh:n9 tk.idx name with
   |true=>
    have hgo:=fun(o:ai) (R:bu->Heap->Prop) (k:Nat) hR=>Mk (R:=R) (M:=k) (V5 o) (hn2 o) rfl (by omega) AP hR
    rw[hh]at hgo;iterate 60 all_goals ((try conv=>whnf);try first|(with_reducible first|refine zY ?_|refine zN ?_|refine zT ?_|refine br (fun _=> ?_) (fun _=> ?_)|refine⟨rfl,?_⟩)|(rewrite [S8])|(refine aH hb ?_)|(refine hgo _ _ _ ?_))
    exact eO _ _ _ (W7.trans (if_pos (by rw[List.any_eq_true];exact⟨tk,hmem,hh⟩))) (by omega) (hsub.trans (kT.cons S7))
   |false=>
    have hgo:=fun(o:ai) (R:bu->Heap->Prop) (k:Nat) hR=>Mk (R:=R) (M:=k) (V5 o) (hn2 o) rfl (by omega) AP hR
    rw[hh]at hgo;iterate 60 all_goals ((try conv=>whnf);try first|(with_reducible first|refine zY ?_|refine zN ?_|refine zT ?_|refine br (fun _=> ?_) (fun _=> ?_)|refine⟨rfl,?_⟩)|(rewrite [S8])|(refine aH hb ?_)|(refine hgo _ _ _ ?_))
    refine⟨fun j=>Nat.beq j M,_,_,M+1,Nat.le_succ M,bh,Hi S7,mJ ?_⟩;iterate 14 all_goals ((try conv=>whnf);try first|(with_reducible first|refine zY ?_|refine zN ?_|refine zT ?_|refine br (fun _=> ?_) (fun _=> ?_)|refine⟨rfl,?_⟩))
    exact⟨⟨(M+1,k+1),by dsimp only;omega,M5,YH hh⟩,by dsimp only;omega,by rw[e7],rfl⟩
  ·have hd:decide ((k:Int)<(ps.length:Int))=false:=decide_eq_false (by omega)
   obtain rfl:k=ps.length:=by omega
   rw[List.take_length]at hq;have W8:=W7.trans (if_neg (by rw[Bool.not_eq_true,List.any_eq_false];intro t h;rw[hq t h];decide));have hc0:=eD _ (List.getElem_mem hi);rw[JF]at hc0;have W9:=cp t0.aq hc0;cases Av:bY t0.aq names with
   |error e=>
    rw[Av]at W9 W8;have hne:=mK Av;iterate 60 all_goals ((try conv=>whnf);try first|(with_reducible first|refine zY ?_|refine zN ?_|refine zT ?_|refine br (fun _=> ?_) (fun _=> ?_)|refine⟨rfl,?_⟩)|(rewrite [pq])|(refine aH hb ?_)|(refine W9.call ?_))
    exact eO _ _ _ W8 (by omega) hsub
   |ok xs=>
    rw[Av]at W9 W8;have hPn:Nat.beq (M+1) n=false:=cu (by omega);have hPb:Nat.beq (M+1) b=false:=cu (by omega);have Zz:Nat.beq (M+1) M=false:=cu (by omega);have hPP:Nat.beq (M+1) (M+1)=true:=Nat.beq_refl _
    try have WS:Nat.beq bi b=false:=cu (fun h=>by rw[h,hb]at yb;cases yb)
    try have aaq:=hlt _ _ yb
    try have aar:Nat.beq M bi=false:=cu (by omega)
    have hlen:0+(i:Int).toNat<(ni 1 ps).length:=by rw[od,et];omega
    iterate 200 all_goals ((try conv=>whnf);try first|(with_reducible first|refine zY ?_|refine zN ?_|refine zT ?_|refine br (fun _=> ?_) (fun _=> ?_)|refine⟨rfl,?_⟩)|(rewrite [pq])|(refine aH hb ?_)|(refine aH yb ?_)|(refine W9.call ?_)|(refine eW rfl (by decide) ?_)|(refine eu jl.symm ((aU (by omega)).trans yb) (by omega) rfl (by omega) (by omega) ?_)|(refine fy.2 ⟨hlen,?_⟩)|(rewrite [cL])|(refine aH ((aF (fun h=>by rw[h,yb]at hb;cases hb)).trans WZ) ?_))
    have Nt: ∀w1,jh (ps.map (·.1)) eH name names uniq= .ok ((ps.set i ({t0 with idx:=t0.idx++[⟨name,xs,uniq⟩]},w1)).map (·.1)):=fun w1=>by
     rw[W8,List.map_set];show Except.ok (xK _ _ _)=_;unfold xK;rw[F5]
    have e0:0+(i:Int).toNat=i:=by rw[et,Nat.zero_add]
    rw[e0]
    have fin: ∀n' l' w1,n<=n'->(∀ j o,ak l j=some o->j≠b->ak l' j=some o\/ ∃g n,_=SV.sl j g 4 0 n none)->ak l' b=some (Bs g ((ni 1 ps).set i (FN (1+i) {t0 with idx:=t0.idx++[⟨name,xs,uniq⟩]} w1)))->Bt l' (t0.idx++[⟨name,xs,uniq⟩]) w1->(∀ j (hj:j<ps.length),j≠i->kS ps[j] ({t0 with idx:=t0.idx++[⟨name,xs,uniq⟩]},w1))->R (.ret (.int .i64 0)) ⟨n',l'⟩:=fun n' l' w1 q1 q2 q3 q4 q5=>
     have hf:=Jk hc h0 hb hx ha hi JF (by first|exact .inl rfl|exact .inr ⟨_,_,_,_,rfl,yb,rfl⟩) (fun j o hj hjb hw=>(q2 j o hj hjb).elim id fun⟨g,n,h⟩=>absurd h (hw g n)) q3 q4 q5
     hok _ _ _ (Nt w1) q1 hf.2.1 hf.2.2 hf.1
    first
     |(have V6:b≠bi:=fun h=>by rw[h,yb]at hb;cases hb
       have hwr:IntKind.i64.wrap ((t0.idx.length:Int)+1)=((1+t0.idx.length:Nat):Int):=by rw[Nat.add_comm];exact bf (by omega)
       refine fin _ _ (.sl bi (gi+1) 4 0 (t0.idx.length+1) none) (by omega) (fun j o hj hjb=> ?_) ?_ ?_ ?_
       ·have hjn:=hlt _ _ hj
        by_cases V7:j=bi
        ·exact .inr ⟨_,_,by rw[V7]⟩
        ·exact .inl ((aU (by omega)).trans ((aF hjb).trans ((aF V7).trans ((aU (by omega)).trans hj))))
       ·exact(aU (by omega)).trans (aV ((aF V6).trans WZ))
       ·refine(by simp:t0.idx.length+1=(t0.idx++[⟨name,xs,uniq⟩]:List Ix).length)▸ .sl (by simp) ((aU (by omega)).trans ((aF (Ne.symm V6)).trans ((aV ((aU (by omega)).trans yb)).trans ?_)))
        rw[DW,hwr]
       ·intro j hj hji
        have:=DU ha hi hj hji;rw[JF]at this
        exact fun b' g' m g'' m' h1 h2=>by
         cases h2
         exact this _ _ _ _ _ h1 rfl)
     |(refine fin _ _ (.sl (M+1) 0 4 0 1 none) (by omega) (fun j o hj hjb=> ?_) ?_ ?_ ?_
       ·have hjn:=hlt _ _ hj
        exact .inl ((aU (by omega)).trans ((aU (by omega)).trans ((aU (by omega)).trans ((aF hjb).trans hj))))
       ·exact(aU (by omega)).trans ((aU (by omega)).trans ((aU (by omega)).trans (aV hb)))
       ·rw[S6]
        exact .sl (by simp) dD
       ·intro j hj hji
        have V4:=hx _ (List.getElem_mem hj)
        exact fun b' g' m g'' m' h1 h2=>by
         cases h2
         rcases V4.or with⟨h,_⟩|⟨_,_,h,_,h3⟩
         ·rw[h]at h1;cases h1
         ·rw[h]at h1;cases h1
          have:=hlt _ _ h3;omega)
end
end
end Go.Proofs.YtegmnocpkgpgeaaGreatDoor
