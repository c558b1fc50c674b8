/- Parts of the proof of PCatalogBack, one behind the other, with short names. -/
import Derived.Test.YtegmnocpkgpgeaaGreatDoorZ47
set_option linter.unusedVariables false
set_option linter.unusedSimpArgs false
namespace Go.Proofs.YtegmnocpkgpgeaaGreatDoor
open Ab Go.RowKit
set_option maxRecDepth 100000
set_option maxHeartbeats 4000000
attribute [local irreducible] aS bH
section
def kT(l l':List (Nat×ai)):Prop:= ∀j o,ak l j=some o->ak l' j=some o
theorem kT.cons{n:Nat}{o:ai}{l:List (Nat×ai)}(h: ∀j p,ak l j=some p->j<n):kT l ((n,o)::l):=fun j p hj=>by
 rw[aU (by have:=h j p hj;omega)];exact hj
theorem kT.trans{a b c:List (Nat×ai)}(h:kT a b)(h':kT b c):kT a c:=fun j o hj=>h' j o (h j o hj)
theorem Bt.mono{l l':List (Nat×ai)}(hs:kT l l'){xs:List Ix}{w:SV}(h:Bt l xs w):Bt l' xs w:=by
 cases h with
 |nil=>exact .nil
 |sl h0 h=>exact .sl h0 (hs _ _ h)
theorem gU.mono{l l':List (Nat×ai)}(hs:kT l l'){ps:List (Tb×SV)}{v:SV}(h:gU l ps v):gU l' ps v:=by
 cases h with
 |nil=>exact .nil
 |sl h0 hn h hx ha=>exact .sl h0 hn (hs _ _ h) (fun p hp=>(hx p hp).mono hs) ha
def zZ(cb:Nat)(l l':List (Nat×ai)):Prop:= ∀j o,ak l j=some o->j≠cb->o.sz≠5->o.sz≠4->ak l' j=some o
theorem vO{k M:Nat}{l:List (Nat×ai)}:(Heap.mk k (kL (fun j=>Nat.beq j M) l)).obj M=ak l M:=by
 show ak (kL _ l) M=_;rw[mD,if_pos (Nat.beq_refl M)]
theorem z6: ∀ {k:Nat} {ps:List (Tb×SV)} {p:Tb×SV},ni k (ps++[p])=ni k ps++[FN (k+ps.length) p.1 p.2]
 |k,[],(t,w)=>rfl
 |k,(u,v)::r,p=>by
  rw[List.cons_append,ni,ni,z6 (k:=k+1),List.length_cons,show k+1+r.length=k+(r.length+1) by omega];rfl
theorem Bt.keep{l l':List (Nat×ai)}{xs:List Ix}{w:SV}(hs: ∀j g es,ak l j=some (Jh g es)->ak l' j=some (Jh g es))(h:Bt l xs w):Bt l' xs w:=by
 cases h with
 |nil=>exact .nil
 |sl h0 h=>exact .sl h0 (hs _ _ _ h)
theorem FP(p:Tb×SV)(t:Tb):kS p (t,.af):=fun b g n g' n' _ h=>by cases h
theorem Ji{l l':List (Nat×ai)}{ps:List (Tb×SV)}{cb b g:Nat}{v0:SV}{t:Tb}(hc:ak l cb=some (jm v0))(ht:gU l ps (.sl b g 5 0 ps.length none))(F5:t.idx=[])(hsame: ∀j o,ak l j=some o->j≠cb->j≠b->ak l' j=some o)
  (hb':ak l' b=some (Bs (g+1) (ni 1 ps++[FN (ps.length+1) t .af]))):gU l' (ps++[(t,.af)]) (.sl b (g+1) 5 0 (ps.length+1) none)/\zZ cb l l':=by
 cases ht with
 | @sl _ _ _ _ h0 hn h hx ha=>
   have hk: ∀j g' es,ak l j=some (Jh g' es)->ak l' j=some (Jh g' es):=fun j g' es hj=>hsame j _ hj (fun e=>by subst e;rw[hc]at hj;cases hj) (fun e=>by subst e;rw[h]at hj;cases hj)
   refine⟨.sl (by simp) (by simp) (by rw[hb',z6,Nat.add_comm 1]) (fun p hp=> ?_) ?_,fun j o hj hcb h5 _=>hsame j o hj hcb (fun e=>by subst e;rw[h]at hj;cases hj;exact h5 rfl)⟩
   ·rcases List.mem_append.1 hp with hp|hp
    ·exact(hx p hp).keep hk
    ·rw[List.mem_singleton.1 hp,F5];exact .nil
   ·rw[List.pairwise_append]
    exact⟨ha,by simp,fun p _ q hq=>by rw[List.mem_singleton.1 hq];exact FP p t⟩
theorem FQ{l l':List (Nat×ai)}{cb b:Nat}{t:Tb}(F5:t.idx=[])(hsame: ∀j o,ak l j=some o->j≠cb->ak l' j=some o)
  (hb':ak l' b=some (Bs 0 [FN 1 t .af])):gU l' [(t,.af)] (.sl b 0 5 0 1 none)/\zZ cb l l':=
 ⟨.sl (by simp) rfl hb' (fun p hp=>by rw[List.mem_singleton.1 hp,F5];exact .nil) (by simp),fun j o hj hcb _ _=>hsame j o hj hcb⟩
theorem z7{l:List (Nat×ai)}{n:Nat}{ps:List (Tb×SV)}{v:SV}{nm:List UInt8}{R:bu->Heap->Prop}(ht:gU l ps v)(hl:ps.length<=1000)(hno:iu (ps.map (·.1)) nm=none->R (.ret (.int .i64 (-1))) ⟨n,l⟩)
  (hyes: ∀i:Nat,i<ps.length->iu (ps.map (·.1)) nm=some i->R (.ret (.int .i64 i)) ⟨n,l⟩):aC Tryz.prog 37 [.agg [v],.str nm] ⟨n,l⟩ R:=by
 have c:=xX (l:=ps.map (·.1)) (nm:=nm) (by rw[List.length_map];omega);refine c.Ns (fun _=>true) (.cons (by rw[s6];exact ht.mW) (.cons (.lit (.str _)) .nil)) (xW _) ?_;cases h:iu (ps.map (·.1)) nm with
 |none=>exact hno h
 |some i=>
  refine hyes i ?_ h;have h2:=h;unfold iu at h2;rw[List.findIdx?_eq_some_iff_getElem]at h2;obtain⟨h3,_⟩:=h2;rw[List.length_map]at h3;exact h3
theorem cu{a b:Nat}(h:a≠b):Nat.beq a b=false:=by
 cases hb:Nat.beq a b with
 |false=>rfl
 |true=>exact absurd (Nat.eq_of_beq_eq_true hb) h
theorem mK{l:List fH}{ns:List (List UInt8)}{e:Int}(h:bY l ns= .error e):(e !=0)=true:=by
 unfold bY at h;cases hc:dJ l ns with
 |none=>rw[hc]at h;cases h;rfl
 |some xs=>
  rw[hc]at h;dsimp only at h;split at h
  ·cases h
  ·cases h;rfl
theorem DQ: ∀aq:List fH,allOnes (aq.map gQ)=true
 | []=>rfl
 |_::r=>DQ r
theorem z8{n:Nat}{l:List (Nat×ai)}{aq:List fH}{gC:Nat->SV}{R:bu->Heap->Prop}(hs:aq.length<=1000)(h0:0<aq.length)(DS: ∀i (hi:i<aq.length),gC i=gQ aq[i])
  (hR:R (.ret (.sl n 0 3 0 aq.length none)) ⟨n+1,(n,.vec 0 3 (aq.map gQ) ⟨true,some 76⟩)::l⟩):aC Tryz.prog 64 [.aW 3 aq.length gC] ⟨n,l⟩ R:=by
 refine aC.made (fun j=> .sl j 0 3 0 aq.length none) (fun N j k h=> .sl h) (di (.aW _ _ _)) (fun N=>qy fun v hv=>by obtain⟨c,_,rfl⟩:=List.mem_map.1 hv;exact .agg (by simp[aL.str,aL.int,aL.bool])) (UW.call mixed rfl ?_) hR;obtain⟨k,hk⟩: ∃k,aq.length=k+1:=⟨aq.length-1,by omega⟩
 have hE:(List.range aq.length).map gC=aq.map gQ:=List.ext_getElem (by simp) fun i h1 h2=>by
  have hi:i<aq.length:=by simpa using h1
  simp only[List.getElem_map,List.getElem_range];exact DS i hi
 have hx:sG ⟨0+1,[(0,ai.vec 0 3 [] ⟨false,some 76⟩)]⟩ 3 (.aW 3 (k+1) gC) (aq.map gQ):=by rw[<- hE,hk];exact Ip
 have hl:(aq.map gQ).length=k+1:=by rw[List.length_map,hk]
 have h1:=DQ aq;rw[hk];iterate 20 all_goals ((try conv=>whnf);try first|(with_reducible first|refine zY ?_|refine zN ?_|refine zT ?_|refine br (fun _=> ?_) (fun _=> ?_)|refine⟨rfl,?_⟩)|(refine wS hx (by omega) h1 dD (Nat.le_refl 0) (by omega) (by omega) (by omega) ?_))
 exact⟨1,by rw[hl,Nat.zero_add (k+1)],rfl⟩
theorem Md(cs:List fH)(i:Nat):(rZ cs i).length=cs.length:=by
 unfold rZ kQ;split
 ·exact List.length_set
 ·rfl
theorem uv: ∀(xs:List Nat) (cs:List fH),(xs.foldl rZ cs).length=cs.length
 | [],_=>rfl
 |x::r,cs=>by rw[List.foldl_cons,uv r,Md]
theorem Me{cs:List fH}{i:Nat}(h:i<cs.length):(rZ cs i).map gQ=(cs.map gQ).set i (.agg ([.str cs[i].nm,.int .u8 cs[i].kd,.bool cs[i].nn].set 2 (.bool true))):=by
 unfold rZ kQ;rw[List.getElem?_eq_getElem h];dsimp only;rw[List.map_set];rfl
theorem DT{ns:List (List UInt8)}(h:ns≠[]):bY [] ns= .error 4:=by
 cases ns with
 |nil=>exact absurd rfl h
 |cons n r=>rfl
theorem Mf{s:Sm}(hs:s.aq.length<=1000)(hk:s.key.length<=1000):aj Tryz.prog 63 [qN s] (VY (bY s.aq s.key)):=by
 have c:=xZ hs hk;refine aG (di (dL s)) (UU.call mixed rfl ?_);cases h:bY s.aq s.key with
 |error e=>
  rw[h]at c;iterate 40 all_goals ((try conv=>whnf);try first|(with_reducible first|refine zY ?_|refine zN ?_|refine zT ?_|refine br (fun _=> ?_) (fun _=> ?_)|refine⟨rfl,?_⟩)|(refine c.call ?_))
  exact⟨_,rfl,.lit (.bn (cP .af (.int _ _)))⟩
 |ok xs=>
  rw[h]at c;iterate 40 all_goals ((try conv=>whnf);try first|(with_reducible first|refine zY ?_|refine zN ?_|refine zT ?_|refine br (fun _=> ?_) (fun _=> ?_)|refine⟨rfl,?_⟩)|(refine c.call ?_))
  exact⟨_,rfl,.lit (.bn (cP (.aW _ _ _) (.int _ _)))⟩
section
variable {kind:Int} {name eH:List UInt8} {nC:Nat} {gC:Nat->SV} {K N RW IT FR GP OR ST:SV} {uniq:Bool} {wh:Ex} {limit:Int} {aq:List fH} {key:List (List UInt8)}
@[reducible] def P9 (kind:Int) (name eH:List UInt8) (nC:Nat) (gC:Nat->SV) (K N RW IT FR GP OR ST:SV) (uniq:Bool) (wh:Ex) (limit:Int):SV:= .agg (W3 kind name eH (.aW 3 nC gC) K uniq N RW IT FR wh GP OR limit ST)
theorem Mg{L:List (Nat×ai)}{b cb:Nat}{o x:ai}(h:b≠cb)(hx:ak L cb=some x):ak (bt L b o) cb=some x:=(aF (Ne.symm h)).trans hx
theorem Jj{cb n:Nat}{l:List (Nat×ai)}{ps:List (Tb×SV)}{v:SV}{R:bu->Heap->Prop}(hc:ak l cb=some (jm v))(ht:gU l ps v)(hs:aq.length<=1000)(hk:key.length<=1000)(hk0:key≠[])
  (S4:nC=aq.length)(DS: ∀i (hi:i<aq.length),gC i=gQ aq[i])(ck:aj Tryz.prog 63 [P9 kind name eH nC gC K N RW IT FR GP OR ST uniq wh limit] (VY (bY aq key)))
  (eO: ∀e n' l',eX (ps.map (·.1)) name aq key= .error e->n<=n'->kT l l'->R (.ret (.int .i64 e)) ⟨n',l'⟩)
  (hok: ∀t n' l' v',eX (ps.map (·.1)) name aq key= .ok t->n<=n'->zZ cb l l'->ak l' cb=some (jm v')->gU l' (ps++[(t,.af)]) v'->R (.ret (.int .i64 0)) ⟨n',l'⟩):
  aC Tryz.prog 29 [.ref cb 0 0 0,P9 kind name eH nC gC K N RW IT FR GP OR ST uniq wh limit] ⟨n,l⟩ R:=by
 refine zX fun hlt=>Uv.call mixed rfl ?_
 subst S4;have Pb:=hlt _ _ hc;have hnc:Nat.beq n cb=false:=cu (by omega);have hnn:Nat.beq n n=true:=Nat.beq_refl n;have hsub:kT l ((n,ai.vec 0 23 [P9 kind name eH aq.length gC K N RW IT FR GP OR ST uniq wh limit] ⟨false,some 93⟩)::l):=kT.cons hlt;have Tz:=ht.mono hsub
 have hv:(v= .af/\ps=[])\/ ∃b g,v= .sl b g 5 0 ps.length none/\ps≠[]/\ak l b=some (Bs g (ni 1 ps))/\(∀ M,n<=M->Nat.beq M b=false)/\Nat.beq g g=true:=by
  cases ht with
  |nil=>exact .inl ⟨rfl,rfl⟩
  | @sl _ b g m h0 hn h hx ha=>exact .inr ⟨b,g,by rw[hn],h0,h,fun M hM=>cu (by have:=hlt _ _ h;omega),Nat.beq_refl g⟩
 have h3:16<=ps.length->eX (ps.map (·.1)) name aq key= .error 3:=fun h=>if_pos (by rw[List.length_map];exact h)
 have h9: ∀i:Nat,ps.length<16->iu (ps.map (·.1)) name=some i->eX (ps.map (·.1)) name aq key= .error 9:=fun i h h'=>by
  rw[eX,if_neg (by rw[List.length_map];omega),h'];rfl
 have hpre:ps.length<16->iu (ps.map (·.1)) name=none->eX (ps.map (·.1)) name aq key=if ¬(aq.map (·.nm)).Nodup then .error 9 else match bY aq key with| .error e=> .error e| .ok key=> .ok ⟨name,key.foldl rZ aq,key,[]⟩:=fun h h'=>by
  rw[eX,if_neg (by rw[List.length_map];omega),if_neg (by rw[h'];simp)];rfl
 rcases hv with⟨rfl,rfl⟩|⟨b,g,rfl,h0,hb,hnb,qQ⟩
 all_goals try have aak:=hnb n (Nat.le_refl n)
 all_goals
  iterate 60 all_goals ((try conv=>whnf);try first|(with_reducible first|refine zY ?_|refine zN ?_|refine zT ?_|refine br (fun _=> ?_) (fun _=> ?_)|refine⟨rfl,?_⟩)|(refine aH hc ?_)|(refine aH hb ?_)|(refine lB hc rfl ?_)|(refine z7 Tz (by first|(simp;done)|(have:=of_decide_eq_false ‹decide ((_:Int)>=16)=false›;omega)) (fun h1=> ?_) (fun i _ h1=> ?_)))
  all_goals first
   |exact eO _ _ _ (h3 (by have:=of_decide_eq_true ‹decide ((_:Int)>=16)=true›;omega)) (Nat.le_succ _) hsub
   |exact eO _ _ _ (h9 _ (by first|(simp;done)|(have:=of_decide_eq_false ‹decide ((_:Int)>=16)=false›;omega)) h1) (Nat.le_succ _) hsub
   |skip
 all_goals
  have hpre:=hpre (by first|(simp;done)|(have:=of_decide_eq_false ‹decide ((_:Int)>=16)=false›;omega)) h1
  refine iq (σ:={y:Nat×Nat // n+1<=y.1/\y.2<=aq.length/\((aq.take y.2).map (·.nm)).Nodup}) false (fun y=>[(0,.ref cb 0 0 0),(0+1,P9 kind name eH aq.length gC K N RW IT FR GP OR ST uniq wh limit),(3,.ref n 0 0 0),(4,.int .i64 0),(17,.bool false),(24,.bool false),(26,.aW 3 aq.length gC),(27,.int .i64 aq.length),(28,.int .i64 (y.1.2:Nat))])
   (fun y=>⟨y.1.1,(n,ai.vec 0 23 [P9 kind name eH aq.length gC K N RW IT FR GP OR ST uniq wh limit] ⟨false,some 93⟩)::l⟩) (fun y=>aq.length-y.1.2) ?_ ⟨(n+1,0),Nat.le_refl _,Nat.zero_le _,by simp⟩
  rintro⟨⟨M,i⟩,hM,hi,hq⟩;dsimp only at hM hi hq ⊢;have hMn:Nat.beq M n=false:=cu (by omega);have hMM:Nat.beq M M=true:=Nat.beq_refl M;have hMc:Nat.beq M cb=false:=cu (by omega);have hPc:Nat.beq (M+1) cb=false:=cu (by omega);have hPn:Nat.beq (M+1) n=false:=cu (by omega);have Zz:Nat.beq (M+1) M=false:=cu (by omega)
  try have aal:=hnb M (by omega)
  try have aam:=hnb (M+1) (by omega)
  try clear hnb
  have hPP:Nat.beq (M+1) (M+1)=true:=Nat.beq_refl _;have e7:IntKind.i64.wrap ((i:Int)+1)=((i+1:Nat):Int):=bf (by omega);have et:=Int.toNat_natCast i;by_cases hil:i<aq.length
  ·have hd:decide ((i:Int)<(aq.length:Int))=true:=decide_eq_true (by omega)
   have D7:(decide (0<=(i:Int))&&decide ((i:Int)<(aq.length:Int)))=true:=by simp only[Bool.and_eq_true,decide_eq_true_eq];omega
   have eg:gC (i:Int).toNat=gQ aq[i]:=by rw[et];exact DS _ hil
   have Xk:(aq.take i).length=i:=by rw[List.length_take];omega
   have cc:aj Tryz.prog 62 [.aW 3 ((i:Int).toNat-Int.toNat 0) fun j=>gC (Int.toNat 0+j),.str aq[i].nm] (oI (fW (aq.take i) aq[i].nm)):=DN (by rw[Xk,et];rfl) (fun j hj=>by
    rw[show Int.toNat 0+j=j from Nat.zero_add j,DS j (by omega)];simp) (by omega)
   have hnd: ∀x:Nat,fW (aq.take i) aq[i].nm=some x-> ¬(aq.map (·.nm)).Nodup:=fun x hx hnd=>by
    have:=(List.Sublist.map (fun c:fH=>c.nm) (List.take_sublist (i+1) aq)).nodup hnd;rw[List.take_add_one,List.getElem?_eq_getElem hil,List.map_append,List.nodup_append]at this;unfold fW at hx;rw[List.findIdx?_eq_some_iff_getElem]at hx;obtain⟨h1,h2,_⟩:=hx;exact this.2.2 _ (List.mem_map.2 ⟨_,List.getElem_mem h1,rfl⟩) _ (by simp) (eq_of_beq h2)
   have hnx:fW (aq.take i) aq[i].nm=none->((aq.take (i+1)).map (·.nm)).Nodup:=fun hx=>by
    rw[List.take_add_one,List.getElem?_eq_getElem hil,List.map_append,List.nodup_append];refine⟨hq,by simp,fun a ha b hb h=> ?_⟩;unfold fW at hx;rw[List.findIdx?_eq_none_iff]at hx;simp at hb;obtain⟨c,hc,rfl⟩:=List.mem_map.1 ha;have:=hx c hc;rw[h,hb]at this;simp at this
   cases Bf:fW (aq.take i) aq[i].nm with
   |none=>
    rw[Bf]at cc;iterate 60 all_goals ((try conv=>whnf);try first|(with_reducible first|refine zY ?_|refine zN ?_|refine zT ?_|refine br (fun _=> ?_) (fun _=> ?_)|refine⟨rfl,?_⟩)|(rewrite [eg])|(refine cc.call ?_))
    refine⟨fun j=>Nat.beq j M,_,_,M+1,Nat.le_succ M,bh,Hi (tg hlt (by omega)),mJ ?_⟩;iterate 14 all_goals ((try conv=>whnf);try first|(with_reducible first|refine zY ?_|refine zN ?_|refine zT ?_|refine br (fun _=> ?_) (fun _=> ?_)|refine⟨rfl,?_⟩))
    exact⟨⟨(M+1,i+1),by dsimp only;omega,hil,hnx Bf⟩,by dsimp only;omega,by rw[e7],rfl⟩
   |some x=>
    rw[Bf]at cc;have hx0:decide ((x:Int)>=0)=true:=decide_eq_true (by omega);iterate 60 all_goals ((try conv=>whnf);try first|(with_reducible first|refine zY ?_|refine zN ?_|refine zT ?_|refine br (fun _=> ?_) (fun _=> ?_)|refine⟨rfl,?_⟩)|(rewrite [eg])|(refine cc.call ?_))
    exact eO _ _ _ (hpre.trans (if_pos (hnd x Bf))) (by omega) (hsub.trans (kT.cons (tg hlt (by omega))))
  ·have hd:decide ((i:Int)<(aq.length:Int))=false:=decide_eq_false (by omega)
   obtain rfl:i=aq.length:=by omega
   rw[List.take_length]at hq;have Hj:=hpre.trans (if_neg (fun h=>h hq));cases Av:bY aq key with
   |error e=>
    rw[Av]at ck Hj;have hne:=mK Av;iterate 60 all_goals ((try conv=>whnf);try first|(with_reducible first|refine zY ?_|refine zN ?_|refine zT ?_|refine br (fun _=> ?_) (fun _=> ?_)|refine⟨rfl,?_⟩)|(refine ck.call ?_))
    exact eO _ _ _ Hj (by omega) hsub
   |ok xs=>
    rw[Av]at ck Hj
    have h0:0<aq.length:=by
     rcases aq with _|⟨c,r⟩
     ·exact absurd (DT hk0) (by rw[Av];simp)
     ·simp
    iterate 200 all_goals ((try conv=>whnf);try first|(with_reducible first|refine zY ?_|refine zN ?_|refine zT ?_|refine br (fun _=> ?_) (fun _=> ?_)|refine⟨rfl,?_⟩)|(refine ck.call ?_)|(refine aH hc ?_)|(refine aH hb ?_)|(refine lB hc rfl ?_)|(refine z8 hs h0 DS ?_))
    obtain⟨hxs,aan⟩:=r3 Av;have YI:=qD hxs;have ZA:=l7 hxs;have hxl:(xs.map gA).length=xs.length:=List.length_map ..;unfold rowOf;rw[hxl];generalize qM:(fun j=>(xs.map gA).getD j .undef)=g2;have OF: ∀i (hi:i<xs.length),g2 i=gA xs[i]:=fun i hi=>by rw[<- qM];exact ur hi
    generalize OI:IntKind.i64.wrap _=num
    refine iq (σ:={j:Nat // j<=xs.length}) true (fun y=>[(0,.ref cb 0 0 0),(0+1,P9 kind name eH aq.length gC K N RW IT FR GP OR ST uniq wh limit),(3,.ref n 0 0 0),(4,.int .i64 0),(17,.bool false),(24,.bool false),(26,.aW 3 aq.length gC),(27,.int .i64 aq.length),(28,.int .i64 aq.length),(29,.bool false),(7,.aW 1 xs.length g2),(8,.int .i64 0),(48,.bool false),(9,.ref (M+1) 0 0 0),(63,.aW 1 xs.length g2),(64,.int .i64 xs.length),(65,.int .i64 (y.1:Nat))])
     (fun y=>⟨M+1+1,(M+1,ai.vec 0 5 [.agg [.str name,.int .i64 num,.sl M 0 3 0 aq.length none,.aW 1 xs.length g2,.af]] ⟨false,some 39⟩)::(M,ai.vec 0 3 (((xs.take y.1).foldl rZ aq).map gQ) ⟨true,some 76⟩)::(n,ai.vec 0 23 [P9 kind name eH aq.length gC K N RW IT FR GP OR ST uniq wh limit] ⟨false,some 93⟩)::l⟩) (fun y=>xs.length-y.1) ?_ ⟨0,Nat.zero_le _⟩
    rintro⟨j,hj⟩;dsimp only;have e7:IntKind.i64.wrap ((j:Int)+1)=((j+1:Nat):Int):=bf (by omega);have et:=Int.toNat_natCast j;by_cases hjl:j<xs.length
    ·have hd:decide ((j:Int)<(xs.length:Int))=true:=decide_eq_true (by omega)
     have D7:(decide (0<=(j:Int))&&decide ((j:Int)<(xs.length:Int)))=true:=by simp only[Bool.and_eq_true,decide_eq_true_eq];omega
     have eg:g2 (j:Int).toNat= .int .i64 (xs[j]:Int):=by rw[et];exact OF _ hjl
     have uH:(xs.take (j+1)).foldl rZ aq=rZ ((xs.take j).foldl rZ aq) xs[j]:=by
      rw[List.take_add_one,List.getElem?_eq_getElem hjl,List.foldl_append];rfl
     have eD:=uv (xs.take j) aq;generalize hcs:(xs.take j).foldl rZ aq=cs at uH eD ⊢;have hx:xs[j]<cs.length:=by rw[eD];exact YI _ (List.getElem_mem hjl)
     have hcell:(cs.map gQ)[xs[j]]? =some (.agg [.str cs[xs[j]].nm,.int .u8 cs[xs[j]].kd,.bool cs[xs[j]].nn]):=by rw[List.getElem?_map,List.getElem?_eq_getElem hx];rfl
     have Zk:(decide (0<=(xs[j]:Int))&&decide ((xs[j]:Int)<(aq.length:Int)))=true:=by simp only[Bool.and_eq_true,decide_eq_true_eq];omega
     have ex:=Int.toNat_natCast xs[j];have JX:=Me hx;generalize xs[j]=x0 at*;have x8:(cs.map gQ)[0+(x0:Int).toNat]? =some (.agg [.str cs[x0].nm,.int .u8 cs[x0].kd,.bool cs[x0].nn]):=by rw[ex,Nat.zero_add];exact hcell
     have Mh:(rZ cs x0).map gQ=(cs.map gQ).set (0+(x0:Int).toNat) (.agg ([.str cs[x0].nm,.int .u8 cs[x0].kd,.bool cs[x0].nn].set (0+2) (.bool true))):=by rw[ex,Nat.zero_add];exact JX
     rw[<- cM]at x8;have Mi:0+(x0:Int).toNat<(cs.map gQ).length:=by rw[ex,List.length_map];omega
     iterate 80 all_goals ((try conv=>whnf);try first|(with_reducible first|refine zY ?_|refine zN ?_|refine zT ?_|refine br (fun _=> ?_) (fun _=> ?_)|refine⟨rfl,?_⟩)|(rewrite [eg])|(rewrite [x8])|(refine fy.2 ⟨Mi,?_⟩))
     refine⟨fun _=>false,_,_,M+1+1,Nat.le_refl _,bh,(by rw[l8];exact .refl),mJ ?_⟩;iterate 14 all_goals ((try conv=>whnf);try first|(with_reducible first|refine zY ?_|refine zN ?_|refine zT ?_|refine br (fun _=> ?_) (fun _=> ?_)|refine⟨rfl,?_⟩))
     exact⟨⟨j+1,hjl⟩,by dsimp only;omega,by rw[e7],by dsimp only;rw[uH,Mh];rfl⟩
    ·have hd:decide ((j:Int)<(xs.length:Int))=false:=decide_eq_false (by omega)
     obtain rfl:j=xs.length:=by omega
     rw[List.take_length];have eD:=uv xs aq;have hlM: ∀a p,ak ((n,ai.vec 0 23 [P9 kind name eH aq.length gC K N RW IT FR GP OR ST uniq wh limit] ⟨false,some 93⟩)::l) a=some p->a<M:=tg hlt (by omega);generalize hcs:xs.foldl rZ aq=cs at eD ⊢;iterate 20 all_goals ((try conv=>whnf);try first|(with_reducible first|refine zY ?_|refine zN ?_|refine zT ?_|refine br (fun _=> ?_) (fun _=> ?_)|refine⟨rfl,?_⟩))
     refine⟨fun j=>Nat.beq j M,_,(M+1,ai.vec 0 5 [.agg [.str name,.int .i64 num,rowOf 3 (cs.map gQ),.aW 1 xs.length g2,.af]] ⟨false,some 39⟩)::_,bh,(by
      show k9 _ (cE (fun j=>Nat.beq j M) ((M+1,_)::(M,_)::_)) _;rw[OH Zz hlM];refine .cons (oK (fI.get (.cons (.lit (.str _)) (.cons (.lit (.int _ _)) (.cons (dH (vs:=cs.map gQ) (sk:=⟨true,some 76⟩) ?_ (by rw[List.length_map,eD]) (jg qz)) (.cons (.lit (.aW _ _ _)) (.cons (.lit .af) .nil))))))) .refl;exact vO.trans ((aU (by omega)).trans dD)),?_⟩
     have hQc:Nat.beq (M+1+1) cb=false:=cu (by omega);have hQn:Nat.beq (M+1+1) n=false:=cu (by omega);have hQP:Nat.beq (M+1+1) (M+1)=false:=cu (by omega);have hQQ:Nat.beq (M+1+1) (M+1+1)=true:=Nat.beq_refl _;have hSc:Nat.beq (M+1+1+1) cb=false:=cu (by omega);have hSn:Nat.beq (M+1+1+1) n=false:=cu (by omega);have hSP:Nat.beq (M+1+1+1) (M+1)=false:=cu (by omega);have hSQ:Nat.beq (M+1+1+1) (M+1+1)=false:=cu (by omega)
     try have hbc:b≠cb:=fun h=>by rw[h,hc]at hb;cases hb
     try have hbn:b<n:=hlt _ _ hb
     try have hbM:b<M:=Nat.lt_trans (hlt _ _ hb) (by omega)
     try have aao:ps.length<16:=by have:=of_decide_eq_false ‹decide ((ps.length:Int)>=16)=false›;omega
     try have hQb:Nat.beq (M+1+1) b=false:=cu (by omega)
     iterate 200 all_goals ((try conv=>whnf);try first|(with_reducible first|refine zY ?_|refine zN ?_|refine zT ?_|refine br (fun _=> ?_) (fun _=> ?_)|refine⟨rfl,?_⟩)|(refine aH hc ?_)|(refine aH hb ?_)|(refine lB hc rfl ?_)|(refine eW rfl (by decide) ?_)|(refine eu od.symm ((aU (by omega)).trans ((aU (by omega)).trans hb)) (Nat.lt_trans hbM (by show M<M+1+1;omega)) rfl (by omega) (by omega) ?_)|(rewrite [cL])|(refine aH (Mg hbc ((aU (by omega)).trans ((aU (by omega)).trans hc))) ?_))
     all_goals
      have Qa:=Hj.trans (show(match(Except.ok xs:Except Int (List Nat))with| .error e=> .error e| .ok key=> .ok ⟨name,key.foldl rZ aq,key,[]⟩)=(Except.ok ⟨name,cs,xs,[]⟩:Except Int Tb) by rw[<- hcs])
      have Qb: ∀k:Nat,num=(k:Int)->SV.agg [.str name,.int .i64 num,rowOf 3 (cs.map gQ),.aW 1 xs.length g2,.af]=FN k ⟨name,cs,xs,[]⟩ .af:=fun k hk=>by
       rw[hk,<-qM];show SV.agg [_,_,_,.aW 1 xs.length _,_]=SV.agg [_,_,_,.aW 1 (xs.map gA).length _,_];rw[hxl]
     first
      |(have wB:num=((ps.length+1:Nat):Int):=by rw[<- OI];exact bf (by omega)
        have e1:=Qb _ wB
        have fin: ∀n' l',n<=n'->(∀ j o,ak l j=some o->j≠cb->j≠b->ak l' j=some o)->ak l' b=some (Bs (g+1) (ni 1 ps++[FN (ps.length+1) ⟨name,cs,xs,[]⟩ .af]))->ak l' cb=some (jm (.sl b (g+1) 5 0 (ps.length+1) none))->R (.ret (.int .i64 0)) ⟨n',l'⟩:=fun n' l' h1 h2 h3 h4=>
         have hf:=Ji (t:=⟨name,cs,xs,[]⟩) hc ht rfl h2 h3
         hok _ _ _ _ Qa h1 hf.2 h4 hf.1
        rw[e1];refine fin _ _ (by show n<=M+1+1+1;omega) (fun j o hj hcb hjb=> ?_) ?_ ?_
        ·have hjn:=hlt _ _ hj
         exact(aU (by show M+1+1≠j;omega)).trans ((aF hcb).trans ((aF hjb).trans ((aU (by omega)).trans ((aU (by omega)).trans hj))))
        ·exact(aU (by show M+1+1≠b;omega)).trans ((aF hbc).trans (aV ((aU (by omega)).trans ((aU (by omega)).trans hb))))
        ·exact(aU (by show M+1+1≠cb;omega)).trans (aV ((aF (Ne.symm hbc)).trans ((aU (by omega)).trans ((aU (by omega)).trans hc)))))
      |(have wB:num=((1:Nat):Int):=by rw[<- OI];rfl
        have e1:=Qb 1 wB
        have fin: ∀n' l' K,n<=n'->(∀ j o,ak l j=some o->j≠cb->ak l' j=some o)->ak l' K=some (Bs 0 [FN 1 ⟨name,cs,xs,[]⟩ .af])->ak l' cb=some (jm (.sl K 0 5 0 1 none))->R (.ret (.int .i64 0)) ⟨n',l'⟩:=fun n' l' K h1 h2 h3 h4=>
         have hf:=FQ (t:=⟨name,cs,xs,[]⟩) rfl h2 h3
         hok _ _ _ _ Qa h1 hf.2 h4 hf.1
        rw[e1];refine fin _ _ (M+1+1+1) (by show n<=M+1+1+1+1;omega) (fun j o hj hcb=> ?_) ?_ ?_
        ·have hjn:=hlt _ _ hj
         exact(aU (by show M+1+1+1≠j;omega)).trans ((aU (by show M+1+1≠j;omega)).trans ((aU (by omega)).trans ((aU (by omega)).trans ((aF hcb).trans hj))))
        ·exact dD
        ·exact(aU (by show M+1+1+1≠cb;omega)).trans ((aU (by show M+1+1≠cb;omega)).trans ((aU (by omega)).trans ((aU (by omega)).trans (aV hc)))))
end
end
end Go.Proofs.YtegmnocpkgpgeaaGreatDoor
