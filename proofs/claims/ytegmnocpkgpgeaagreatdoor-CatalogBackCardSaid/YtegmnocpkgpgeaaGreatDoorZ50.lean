/- Parts of the proof of PCatalogBack, one behind the other, with short names. -/
import Derived.Test.YtegmnocpkgpgeaaGreatDoorZ49
import Derived.Test.YtegmnocpkgpgeaaGreatDoorZ44
import Derived.Test.YtegmnocpkgpgeaaGreatDoorZ48
set_option linter.unusedVariables false
set_option linter.unusedSimpArgs false
namespace Go.Proofs.YtegmnocpkgpgeaaGreatDoor
open Ab Go.RowKit
set_option maxRecDepth 100000
set_option maxHeartbeats 4000000
attribute [local irreducible] aS bH
section
theorem Bu{P:Program}{f:FuncId}{args:List SV}{h:Heap}{R:bu->Heap->Prop}(hp:aC P f args h fun r h'=>(∀ j p,ak h'.l j=some p->j<h'.cI)->R r h'):aC P f args h R:=
 ⟨fun c w xs hr hs hv=>(hp.calls c w xs hr hs hv).mono fun en w' ⟨c',h',r,hR,hr',rest⟩=>⟨c',h',r,hR fun j p hj=>hr'.lt j p hj,hr',rest⟩⟩
def Ec(s:List UInt8):Except (Int×Nat) (List Tb):=if(cN s).2.1≠0 then .error ((cN s).2.1,(cN s).2.2)else qe (cN s).1 0 []
def S9:Except (Int×Nat) (List Tb)->SV
 | .error (e,a)=> .bn [qf [],gO e a]
 | .ok c=> .bn [qf c,gO 0 0]
abbrev YK:Sm->Prop:=GS (kX bC)
abbrev Qc:List Tb->Prop:=o6 (kX bC)
theorem Qd{s:Sm}(g:Bk GW s)(h:s.kind=5\/s.kind=6):YK s:=by
 cases g with
 |table h1 h2 h3=>exact .table h1 h2.1 h2.2 h3.1 h3.2
 |index h1 h2 h3=>exact .index h1 h2 h3.1 h3.2
 |select=>rcases h with h|h<;>exact absurd h (by show ¬(1:Int)=_;decide)
 |insert=>rcases h with h|h<;>exact absurd h (by show ¬(2:Int)=_;decide)
 |update=>rcases h with h|h<;>exact absurd h (by show ¬(3:Int)=_;decide)
 |delete=>rcases h with h|h<;>exact absurd h (by show ¬(4:Int)=_;decide)
 |bare hk=>dsimp only at h;omega
 |named hk=>dsimp only at h;omega
theorem yc{ts:List Tb}{n:List UInt8}{aq:List fH}{key:List (List UInt8)}{e:Int}(h:eX ts n aq key= .error e):e≠0:=by
 unfold eX at h;split at h
 ·cases h;decide
 split at h
 ·cases h;decide
 split at h
 ·cases h;decide
 cases hp:bY aq key with
 |error e'=>rw[hp]at h;cases h;exact bne_iff_ne.1 (mK hp)
 |ok xs=>rw[hp]at h;cases h
theorem yd{ts:List Tb}{tb n:List UInt8}{u:Bool}{names:List (List UInt8)}{e:Int}(h:jh ts tb n names u= .error e):e≠0:=by
 unfold jh at h;cases ha:iu ts tb with
 |none=>rw[ha]at h;cases h;decide
 |some i=>
  rw[ha]at h;dsimp only at h;cases hi:ts[i]? with
  |none=>rw[hi]at h;cases h;decide
  |some t=>
   rw[hi]at h;dsimp only at h;split at h
   ·cases h;decide
   split at h
   ·cases h;decide
   cases hp:bY t.aq names with
   |error e'=>rw[hp]at h;cases h;exact bne_iff_ne.1 (mK hp)
   |ok xs=>rw[hp]at h;cases h
theorem Qe{e:Int}(h:e≠0):(e !=0)=true:=bne_iff_ne.2 h
section
variable {cb n:Nat} {l:List (Nat×ai)} {ps:List (Tb×SV)} {v:SV} {R:bu->Heap->Prop} {s:Sm}
structure Mm(cb n:Nat)(l:List (Nat×ai))(n':Nat)(l':List (Nat×ai))(ps':List (Tb×SV))(v':SV):Prop where
 le:n<=n'
 kp:zZ cb l l'
 obj:ak l' cb=some (jm v')
 eH:gU l' ps' v'
 lt: ∀j p,ak l' j=some p->j<n'
theorem Mn(g:Bk GW s)(h5:s.kind=5)(hc:ak l cb=some (jm v))(ht:gU l ps v)
  (eO: ∀e n' l',gu (ps.map (·.1)) s= .error e->(e !=0)=true->n<=n'->kT l l'->R (.ret (.int .i64 e)) ⟨n',l'⟩)
  (hok: ∀ps' n' l' v',gu (ps.map (·.1)) s= .ok (ps'.map (·.1))->Mm cb n l n' l' ps' v'->R (.ret (.int .i64 0)) ⟨n',l'⟩):
  aC Tryz.prog 29 [.ref cb 0 0 0,qN s] ⟨n,l⟩ R:=by
 have hst: ∀r,eX (ps.map (·.1)) s.name s.aq s.key=r->gu (ps.map (·.1)) s=match r with| .error e=> .error e| .ok t=> .ok (ps.map (·.1)++[t]):=fun r hr=>by unfold gu;rw[if_pos h5,hr];rfl
 cases g with
 | @table nm aq key h1 h2 h3=>
   have q1:aq.length<=1000:=by omega
   have q2:key.length<=1000:=by have:=h3.2.2;omega
   have q3:key≠[]:=fun h=>by have:=h3.2.1;rw[h]at this;simp at this
   refine Bu (Jj (aq:=aq) (key:=key) hc ht q1 q2 q3 (List.length_map ..) (fun i hi=>ji i hi) (Mf (s:={kind:=5,name:=nm,aq:=aq,key:=key}) q1 q2) (fun e n' l' he h1 h2 _=>eO e n' l' (hst _ he) (Qe (yc he)) h1 h2) fun t n' l' v' he h1 h2 h3 h4 hl=> ?_);exact hok (ps++[(t,.af)]) n' l' v' (by rw[hst _ he,List.map_append];rfl) ⟨h1,h2,h3,h4,hl⟩
 |index=>exact absurd h5 (by show ¬(6:Int)=_;decide)
 |select=>exact absurd h5 (by show ¬(1:Int)=_;decide)
 |insert=>exact absurd h5 (by show ¬(2:Int)=_;decide)
 |update=>exact absurd h5 (by show ¬(3:Int)=_;decide)
 |delete=>exact absurd h5 (by show ¬(4:Int)=_;decide)
 |bare hk=>dsimp only at h5;omega
 |named hk=>dsimp only at h5;omega
theorem Mq(g:Bk GW s)(h6:s.kind=6)(hG:Qc (ps.map (·.1)))(hc:ak l cb=some (jm v))(ht:gU l ps v)
  (eO: ∀e n' l',gu (ps.map (·.1)) s= .error e->(e !=0)=true->n<=n'->kT l l'->R (.ret (.int .i64 e)) ⟨n',l'⟩)
  (hok: ∀ps' n' l' v',gu (ps.map (·.1)) s= .ok (ps'.map (·.1))->Mm cb n l n' l' ps' v'->R (.ret (.int .i64 0)) ⟨n',l'⟩):
  aC Tryz.prog 30 [.ref cb 0 0 0,qN s] ⟨n,l⟩ R:=by
 have hst:gu (ps.map (·.1)) s=jh (ps.map (·.1)) s.eH s.name s.names s.uniq:=by unfold gu;rw[if_neg (by omega),if_pos h6]
 have hgt: ∀p∈ps,LF (kX bC) p.1:=fun p hp=>hG.tb _ (List.mem_map_of_mem hp)
 cases g with
 | @index nm tb u names h1 h2 h3=>
   have q2:names.length<=1000:=by have:=h3.2.2;omega
   refine Bu (Jl (names:=names) hc ht (by have:=hG.le;rw[List.length_map]at this;omega) (fun p hp=>by have:=(hgt p hp).Ou;omega) (fun p hp=>by have:=(hgt p hp).le;omega) q2 (fun aq hl=>xZ hl q2) (dL {kind:=6,name:=nm,eH:=tb,uniq:=u,names:=names}) (fun e n' l' he h1 h2 _=>eO e n' l' (hst.trans he) (Qe (yd he)) h1 h2) fun ps' n' l' he h1 h2 h3 h4 hl=> ?_);exact hok ps' n' l' v (hst.trans he) ⟨h1,h2,h3,h4,hl⟩
 |table=>exact absurd h6 (by show ¬(5:Int)=_;decide)
 |select=>exact absurd h6 (by show ¬(1:Int)=_;decide)
 |insert=>exact absurd h6 (by show ¬(2:Int)=_;decide)
 |update=>exact absurd h6 (by show ¬(3:Int)=_;decide)
 |delete=>exact absurd h6 (by show ¬(4:Int)=_;decide)
 |bare hk=>dsimp only at h6;omega
 |named hk=>dsimp only at h6;omega
end
theorem gU.keep{l l':List (Nat×ai)}{ps:List (Tb×SV)}{v:SV}(hs: ∀j o,ak l j=some o->o.sz=5\/o.sz=4->ak l' j=some o)(h:gU l ps v):gU l' ps v:=by
 cases h with
 |nil=>exact .nil
 |sl h0 hn h hx ha=>exact .sl h0 hn (hs _ _ h (.inl rfl)) (fun p hp=>(hx p hp).keep fun j g es hj=>hs _ _ hj (.inr rfl)) ha
structure ZE(xs:List Sm)(i n:Nat)(l:List (Nat×ai))(ps:List (Tb×SV))(v:SV):Prop where
 Ou:i<=xs.length
 spec:qe xs 0 []=qe (xs.drop i) i (ps.map (·.1))
 good:Qc (ps.map (·.1))
 b0:ak l 0=some (jm .af)
 b1:ak l 1=some Bo
 bc:ak l 3=some (jm v)
 eH:gU l ps v
 n4:4<=n
 lt: ∀j p,ak l j=some p->j<n
theorem Jm{ts:List Tb}{s:Sm}{e:Int}(h:gu ts s= .error e):e≠0:=by
 unfold gu at h;split at h
 ·cases ht:eX ts s.name s.aq s.key with
  |error e'=>rw[ht]at h;cases h;exact yc ht
  |ok t=>rw[ht]at h;cases h
 ·split at h
  ·exact yd h
  ·cases h;decide
theorem DX: ∀ {ss:List Sm} {i:Nat} {ts:List Tb} {e:Int} {a:Nat},qe ss i ts= .error (e,a)->e≠0
 | [],i,ts,e,a,h=>by cases h
 |s::r,i,ts,e,a,h=>by
  rw[qe]at h;cases hs:gu ts s with
  |error e'=>rw[hs]at h;cases h;exact Jm hs
  |ok ts'=>rw[hs]at h;exact DX h
def V8(s:List UInt8)(v:SV):Prop:=v=S9 (Ec s)/\(∀ c,Ec s= .ok c->Qc c/\(c.flatMap cV).length<=64)/\ ∀e a,Ec s= .error (e,a)->e≠0
theorem th{s:List UInt8}{r:bu}{h':Heap}(hQ:V8 s (S9 (Ec s)))(h: ∃v',r= .ret v'/\bA h' v' (S9 (Ec s))): ∃v v',r= .ret v'/\bA h' v' v/\V8 s v:=by
 obtain⟨v',h1,h2⟩:=h;exact⟨_,v',h1,h2,hQ⟩
theorem V9{s:List UInt8}(hs:s.length<=65536):PQ Tryz.prog 7 [.str s] (V8 s):=by
 have cq:=L5 hs;refine⟨di (.str _),X8.call mixed rfl ?_⟩;iterate 30 all_goals ((try conv=>whnf);try first|(with_reducible first|refine zY ?_|refine zN ?_|refine zT ?_|refine br (fun _=> ?_) (fun _=> ?_)|refine⟨rfl,?_⟩)|(refine cq.go fun u hu=> ?_))
 obtain⟨rfl,hu⟩:=hu;rcases hu with⟨h1,h2,h3,h4⟩|⟨h1,h2⟩
 ·have hF:Ec s=qe (cN s).1 0 []:=by unfold Ec;rw[h1];exact if_neg (fun h=>h rfl)
  have hQ:V8 s (S9 (Ec s)):=⟨rfl,fun c hc=>by
   rw[hF]at hc;obtain⟨g1,g2⟩:=G6 o6.nil (fun x hx=>Qd (h3 x hx)) hc;exact⟨g1,by rw[g2];simpa using h4⟩,fun e a hc=>by rw[hF]at hc;exact DX hc⟩
  rw[h1,h2];generalize (cN s).1=xs at*;have hxl:(xs.map qN).length=xs.length:=List.length_map ..;unfold FM rowOf;rw[hxl];generalize Mr:(fun i=>(xs.map qN).getD i .undef)=gX;have pq: ∀i (hi:i<xs.length),gX i=qN xs[i]:=fun i hi=>by rw[<- Mr];exact ji i hi
  clear Mr;iterate 60 all_goals ((try conv=>whnf);try first|(with_reducible first|refine zY ?_|refine zN ?_|refine zT ?_|refine br (fun _=> ?_) (fun _=> ?_)|refine⟨rfl,?_⟩))
  refine iq (σ:={y:Nat×Nat×List (Nat×ai)×List (Tb×SV)×SV // ZE xs y.1 y.2.1 y.2.2.1 y.2.2.2.1 y.2.2.2.2}) false (fun y=>[(0,.str s),(2,.ref 0 0 0 0),(3,.ref (0+1) 0 0 0),(5,.ref (0+1+1) 0 0 0),(4,.aW 23 xs.length gX),(17,.bool false),(6,.ref (0+1+1+1) 0 0 0),(20,.aW 23 xs.length gX),(21,.int .i64 xs.length),(22,.int .i64 (y.1.1:Nat))])
   (fun y=>⟨y.1.2.1,y.1.2.2.1⟩) (fun y=>xs.length-y.1.1) ?_ ⟨(0,4,[(3,jm .af),(2,Bo),(1,Bo),(0,jm .af)],[],.af),⟨Nat.zero_le _,rfl,o6.nil,rfl,rfl,rfl,.nil,Nat.le_refl _,fun j p hj=>by
    rcases Lj (m:=3) hj with⟨rfl,_⟩|⟨rfl,_⟩|⟨rfl,_⟩|⟨rfl,_⟩<;>decide⟩⟩
  rintro⟨⟨i,n,l,ps,v⟩,H⟩;obtain⟨hi,hspec,CA,b0,b1,bc,htab,n4,hlt⟩:=H;dsimp only at hi hspec CA b0 b1 bc htab n4 hlt ⊢;have e7:IntKind.i64.wrap ((i:Int)+1)=((i+1:Nat):Int):=bf (by omega);have et:=Int.toNat_natCast i;have hn0:Nat.beq n 0=false:=cu (by omega);have wB:Nat.beq n 1=false:=cu (by omega);have hn3:Nat.beq n 3=false:=cu (by omega);have hnn:=Nat.beq_refl n;have hl1: ∀x,ak (bt l 0 x) 1=some Bo:=fun x=>(aF (by decide)).trans b1
  have u7: ∀x y,ak (bt (bt l 0 x) 1 y) 0=some x:=fun x y=>(aF (by decide)).trans (aV b0)
  have ZF: ∀x y,ak (bt (bt l 0 x) 1 y) 1=some y:=fun x y=>aV (hl1 x)
  by_cases hil:i<xs.length
  ·have hd:decide ((i:Int)<(xs.length:Int))=true:=decide_eq_true (by omega)
   have hb:(decide (0<=(i:Int))&&decide ((i:Int)<(xs.length:Int)))=true:=by simp only[Bool.and_eq_true,decide_eq_true_eq];omega
   have eg:gX (i:Int).toNat=qN xs[i]:=by rw[et];exact pq _ hil
   have hG:=h3 _ (List.getElem_mem hil)
   have Wb:qe (xs.drop i) i (ps.map (·.1))=match gu (ps.map (·.1)) xs[i]with| .error e=> .error (e,i)| .ok ts'=>qe (xs.drop (i+1)) (i+1) ts':=by
    rw[List.drop_eq_getElem_cons hil];rfl
   have hsub: ∀o,kT l ((n,o)::l):=fun o=>kT.cons hlt
   generalize xs[i]=sm at*;obtain⟨a1,a2,a3,a4,a5,a6,a7,a8,a9,Xa,b2,b3,b4,b5,b6,b7,b8,b9,Lt,c0,c1,c2,V3,oa⟩: ∃a1 a2 a3 a4 a5 a6 a7 a8 a9 Xa b2 b3 b4 b5 b6 b7 b8 b9 Lt c0 c1 c2,qN sm= .agg [.int .u8 sm.kind,a1,a2,a3,a4,a5,a6,a7,a8,a9,Xa,b2,b3,b4,b5,b6,b7,b8,b9,Lt,c0,c1,c2]/\(Nat.beq [.int .u8 sm.kind,a1,a2,a3,a4,a5,a6,a7,a8,a9,Xa,b2,b3,b4,b5,b6,b7,b8,b9,Lt,c0,c1,c2].length 23&&cZ [.int .u8 sm.kind,a1,a2,a3,a4,a5,a6,a7,a8,a9,Xa,b2,b3,b4,b5,b6,b7,b8,b9,Lt,c0,c1,c2])=true:=⟨_,_,_,_,_,_,_,_,_,_,_,_,_,_,_,_,_,_,_,_,_,_,rfl,rfl⟩;have Wc:=fun(h5:sm.kind=5) o (R:bu->Heap->Prop)=>Mn (R:=R) (cb:=3) (n:=n+1) hG h5 (hsub o _ _ bc) (htab.mono (hsub o))
   have cidx:=fun(h6:sm.kind=6) o (R:bu->Heap->Prop)=>Mq (R:=R) (cb:=3) (n:=n+1) hG h6 CA (hsub o _ _ bc) (htab.mono (hsub o))
   rw[V3]at eg Wc cidx;have JZ: ∀e,gu (ps.map (·.1)) sm= .error e->qe xs 0 []= .error (e,i):=fun e h1=>by rw[hspec,Wb,h1]
   have hs0: ∀ {o l'},kT ((n,o)::l) l'->ak l' 0=some (jm .af):=fun h=>h _ _ (hsub _ _ _ b0)
   have hs1: ∀ {o l' x},kT ((n,o)::l) l'->ak (bt l' 0 x) 1=some Bo:=fun h=>(aF (by decide)).trans (h _ _ (hsub _ _ _ b1))
   have hs2: ∀ {o l' x y},kT ((n,o)::l) l'->ak (bt (bt l' 0 x) 1 y) 0=some x:=fun h=>(aF (by decide)).trans (aV (h _ _ (hsub _ _ _ b0)))
   have hs3: ∀ {o l' x y},kT ((n,o)::l) l'->ak (bt (bt l' 0 x) 1 y) 1=some y:=fun h=>aV ((aF (by decide)).trans (h _ _ (hsub _ _ _ b1)))
   have hnext: ∀ {o n' l' ps' v'},gu (ps.map (·.1)) sm= .ok (ps'.map (·.1))->Mm 3 (n+1) ((n,o)::l) n' l' ps' v'->n<=n'/\ZE xs (i+1) n' l' ps' v':=fun{o n' l' ps' v'} he hst=>by
    have hle:=hst.le;refine⟨by omega,hil,by rw[hspec,Wb,he],?_,hst.kp _ _ (hsub _ _ _ b0) (by decide) (by decide) (by decide),hst.kp _ _ (hsub _ _ _ b1) (by decide) (by decide) (by decide),hst.obj,hst.eH,by omega,hst.lt⟩;exact(zS CA (fun h=>Qd hG h) he).1
   by_cases h5:sm.kind=5
   ·have hk5:(sm.kind==5)=true:=beq_iff_eq.2 h5
    iterate 80 all_goals ((try conv=>whnf);try first|(with_reducible first|refine zY ?_|refine zN ?_|refine zT ?_|refine br (fun _=> ?_) (fun _=> ?_)|refine⟨rfl,?_⟩)|(rewrite [eg])|(refine Wc h5 _ _ (fun e n' l' he hne hle hs=> ?_) (fun ps' n' l' v' he hst=> ?_))|(refine aH (hs0 hs) ?_)|(refine aH (hs1 hs) ?_)|(refine aH (hs2 hs) ?_)|(refine aH (hs3 hs) ?_)|(rewrite [cL]))
    ·exact th hQ ⟨_,rfl,by rw[hF,JZ _ he];exact ij (fI.get (.cons .nil .nil)) (.lit (lq _ _))⟩
    ·obtain⟨q1,q2⟩:=hnext he hst
     refine⟨fun _=>false,_,_,n',q1,bh,(by rw[l8];exact .refl),mJ ?_⟩;iterate 14 all_goals ((try conv=>whnf);try first|(with_reducible first|refine zY ?_|refine zN ?_|refine zT ?_|refine br (fun _=> ?_) (fun _=> ?_)|refine⟨rfl,?_⟩))
     exact⟨⟨(i+1,n',l',ps',v'),q2⟩,by dsimp only;omega,by rw[e7],rfl⟩
   ·have hk5:(sm.kind==5)=false:=beq_eq_false_iff_ne.2 h5
    by_cases h6:sm.kind=6
    ·have hk6:(sm.kind==6)=true:=beq_iff_eq.2 h6
     iterate 80 all_goals ((try conv=>whnf);try first|(with_reducible first|refine zY ?_|refine zN ?_|refine zT ?_|refine br (fun _=> ?_) (fun _=> ?_)|refine⟨rfl,?_⟩)|(rewrite [eg])|(refine cidx h6 _ _ (fun e n' l' he hne hle hs=> ?_) (fun ps' n' l' v' he hst=> ?_))|(refine aH (hs0 hs) ?_)|(refine aH (hs1 hs) ?_)|(refine aH (hs2 hs) ?_)|(refine aH (hs3 hs) ?_)|(rewrite [cL]))
     ·exact th hQ ⟨_,rfl,by rw[hF,JZ _ he];exact ij (fI.get (.cons .nil .nil)) (.lit (lq _ _))⟩
     ·obtain⟨q1,q2⟩:=hnext he hst
      refine⟨fun _=>false,_,_,n',q1,bh,(by rw[l8];exact .refl),mJ ?_⟩;iterate 14 all_goals ((try conv=>whnf);try first|(with_reducible first|refine zY ?_|refine zN ?_|refine zT ?_|refine br (fun _=> ?_) (fun _=> ?_)|refine⟨rfl,?_⟩))
      exact⟨⟨(i+1,n',l',ps',v'),q2⟩,by dsimp only;omega,by rw[e7],rfl⟩
    ·have hk6:(sm.kind==6)=false:=beq_eq_false_iff_ne.2 h6
     have he:gu (ps.map (·.1)) sm= .error 2:=by unfold gu;rw[if_neg h5,if_neg h6]
     iterate 80 all_goals ((try conv=>whnf);try first|(with_reducible first|refine zY ?_|refine zN ?_|refine zT ?_|refine br (fun _=> ?_) (fun _=> ?_)|refine⟨rfl,?_⟩)|(rewrite [eg])|(refine aH b0 ?_)|(refine aH (hl1 _) ?_)|(refine aH (u7 _ _) ?_)|(refine aH (ZF _ _) ?_)|(rewrite [cL]))
     exact th hQ ⟨_,rfl,by rw[hF,JZ _ he];exact ij (fI.get (.cons .nil .nil)) (.lit (lq _ _))⟩
  ·have hd:decide ((i:Int)<(xs.length:Int))=false:=decide_eq_false (by omega)
   obtain rfl:i=xs.length:=by omega
   rw[List.drop_length]at hspec;have hv1:(Nat.beq [v].length 1&&cZ [v])=true:=by cases htab<;>rfl
   iterate 40 all_goals ((try conv=>whnf);try first|(with_reducible first|refine zY ?_|refine zN ?_|refine zT ?_|refine br (fun _=> ?_) (fun _=> ?_)|refine⟨rfl,?_⟩)|(refine aH bc ?_)|(refine aH b0 ?_)|(refine aH (hl1 _) ?_)|(refine aH (u7 _ _) ?_)|(refine aH (ZF _ _) ?_)|(refine lB bc rfl ?_)|(rewrite [cL]))
   refine th hQ ⟨_,rfl,?_⟩;rw[hF,hspec];refine ij ((htab.keep fun j o hj ho=> ?_).mW) (.lit (lq _ _));exact(aF (fun e=>by subst e;rw[b1]at hj;cases hj;rcases ho with h|h<;>cases h)).trans ((aF (fun e=>by subst e;rw[b0]at hj;cases hj;rcases ho with h|h<;>cases h)).trans hj)
 ·have hF:Ec s= .error ((cN s).2.1,(cN s).2.2):=by unfold Ec;exact if_pos h1
  have hQ:V8 s (S9 (Ec s)):=⟨rfl,fun c hc=>by(rw[hF]at hc;cases hc),fun e a hc=>by rw[hF]at hc;cases hc;exact h1⟩;iterate 60 all_goals ((try conv=>whnf);try first|refine zY ?_ (r4 h1)|(with_reducible first|refine zY ?_|refine zN ?_|refine zT ?_|refine br (fun _=> ?_) (fun _=> ?_)|refine⟨rfl,?_⟩))
  refine th hQ ⟨_,rfl,?_⟩;rw[hF];exact ij (fI.get (.cons .nil .nil)) (.lit (lq _ _))
theorem PQ.Wd{P:Program}{f:FuncId}{args:List SV}{Q:SV->Prop}{v:SV}(h:PQ P f args Q)(hq: ∀u,Q u->u=v):aj P f args v:=
 ⟨h.1,h.2.mono fun r h' ⟨u,v',h1,h2,h3⟩=>⟨v',h1,by rw[<- hq u h3];exact h2⟩⟩
theorem FT{s:List UInt8}(hs:s.length<=65536):aj Tryz.prog 7 [.str s] (S9 (Ec s)):=PQ.Wd (V9 hs) fun u h=>h.1
end
inductive Ms(ns:List (List UInt8)) where
 |E
 |L (g i:Nat) (hi:i<=ns.length) (h0:0<i)
@[reducible] def OL (g:Nat) (l:List (List UInt8)):ai:= .vec g 1 (l.map SV.str) ⟨true,some 9⟩
@[reducible] def Ms.hp {ns:List (List UInt8)}:Ms ns->Heap
  | .E=>⟨0,[]⟩
  | .L g i .. =>⟨2,[(1,OL g (ns.take i))]⟩
@[reducible] def Ms.i {ns:List (List UInt8)}:Ms ns->Nat
  | .E=>0
  | .L _ i .. =>i
@[reducible] def Ms.out {ns:List (List UInt8)}:Ms ns->SV
  | .E=> .af
  | .L g i .. => .sl 1 g 1 0 i none
theorem OM(n:Nat)(xs:List (List UInt8))(x:List UInt8): ∀v∈xs.map SV.str++[SV.str x],SV.lt 8 n v=true:=by
 intro v hv;rcases List.mem_append.1 hv with h|h
 ·obtain⟨k,_,rfl⟩:=List.mem_map.1 h;rfl
 ·obtain rfl:=List.mem_singleton.1 h;rfl
theorem vP{α:Type}{l:List α}{i:Nat}(h:i<l.length):l.take (i+1)=l.take i++[l[i]]:=by
 rw[List.take_add_one,List.getElem?_eq_getElem h];rfl
theorem ye{l:List fH}{xs:List Nat}{nC nX:Nat}{gC gX:Nat->SV}(S4:nC=l.length)(DS: ∀i (hi:i<l.length),gC i=gQ l[i])(YL:nX=xs.length)(Mr: ∀i (hi:i<xs.length),gX i=gA xs[i])(hl:l.length<=1000)(hx:xs.length<=1000)(h: ∀i∈xs,i<l.length):
  aj Tryz.prog 68 [.aW 3 nC gC,.aW 1 nX gX] (.bn [rowOf 1 ((xs.map (nameAt l)).map SV.str),.bool true]):=by
 refine aG (cP (.aW _ _ _) (.aW _ _ _)) (U0.call mixed rfl ?_);subst S4;subst YL
 have L8:(xs.map (nameAt l)).length=xs.length:=List.length_map ..;iterate 20 all_goals ((try conv=>whnf);try first|(with_reducible first|refine zY ?_|refine zN ?_|refine zT ?_|refine br (fun _=> ?_) (fun _=> ?_)|refine⟨rfl,?_⟩))
 refine iq (σ:=Ms (xs.map (nameAt l))) false (fun s=>[(0,.aW 3 l.length gC),(1,.aW 1 xs.length gX),(4,.af),(5,.bool false),(6,s.out),(9,.aW 1 xs.length gX),(10,.int .i64 xs.length),(11,.int .i64 s.i)]) Ms.hp (fun s=>xs.length-s.i) ?_ .E;intro s;have hi:s.i<=xs.length:=by cases s<;>first|exact Nat.zero_le _|(rw[<- L8];assumption)
 have e7:IntKind.i64.wrap ((s.i:Int)+1)=((s.i+1:Nat):Int):=bf (by omega);have et:=Int.toNat_natCast s.i;by_cases hil:s.i<xs.length
 ·have hd:decide ((s.i:Int)<(xs.length:Int))=true:=decide_eq_true (by omega)
  have hb:(decide (0<=(s.i:Int))&&decide ((s.i:Int)<(xs.length:Int)))=true:=by simp only[Bool.and_eq_true,decide_eq_true_eq];omega
  have eg:gX (s.i:Int).toNat= .int .i64 (xs[s.i]:Int):=by rw[et];exact Mr _ hil
  have hxl:xs[s.i]<l.length:=h _ (List.getElem_mem hil);have h1:decide ((xs[s.i]:Int)<0)=false:=decide_eq_false (by omega);have h2:decide ((xs[s.i]:Int)>=(l.length:Int))=false:=decide_eq_false (by omega);have h3:(decide (0<=(xs[s.i]:Int))&&decide ((xs[s.i]:Int)<(l.length:Int)))=true:=by simp only[Bool.and_eq_true,decide_eq_true_eq];omega
  have Wf:gC (xs[s.i]:Int).toNat=gQ l[xs[s.i]]:=by rw[Int.toNat_natCast];exact DS _ hxl
  have hna:nameAt l xs[s.i]=l[xs[s.i]].nm:=um hxl
  have hns:(xs.map (nameAt l)).take (s.i+1)=(xs.map (nameAt l)).take s.i++[l[xs[s.i]].nm]:=by
   rw[vP (by omega),List.getElem_map,hna]
  generalize l[xs[s.i]]=c at*;generalize xs[s.i]=x at*;cases s with
  |E=>
   iterate 60 all_goals ((try conv=>whnf);try first|(with_reducible first|refine zY ?_|refine zN ?_|refine zT ?_|refine br (fun _=> ?_) (fun _=> ?_)|refine⟨rfl,?_⟩)|(rewrite [eg])|(rewrite [Wf])|(refine eW rfl (by decide) ?_))
   refine⟨fun j=>Nat.beq j 0,_,_,2,(by show 0<=2;decide),bh,.refl,?_⟩;iterate 14 all_goals ((try conv=>whnf);try first|(with_reducible first|refine zY ?_|refine zN ?_|refine zT ?_|refine br (fun _=> ?_) (fun _=> ?_)|refine⟨rfl,?_⟩)|(refine au (fP rfl) ?_))
   exact⟨.L 0 1 (by rw[L8];exact hil) (by decide),by have h9:0<xs.length:=hil;show xs.length-1<xs.length-0;omega,by rw[e7],by dsimp only[Ms.hp,OL];rw[hns];rfl⟩
  |L gg i hi2 h0=>
   have qQ:=Nat.beq_refl gg;iterate 60 all_goals ((try conv=>whnf);try first|(with_reducible first|refine zY ?_|refine zN ?_|refine zT ?_|refine br (fun _=> ?_) (fun _=> ?_)|refine⟨rfl,?_⟩)|(rewrite [eg])|(rewrite [Wf])|(refine eu (by rw[List.length_map,List.length_take];omega) rfl (by decide) rfl (by omega) (by omega) ?_))
   refine⟨fun j=>Nat.beq j 2,_,_,2,(by show 2<=2;decide),bh,.refl,?_⟩;iterate 14 all_goals ((try conv=>whnf);try first|(with_reducible first|refine zY ?_|refine zN ?_|refine zT ?_|refine br (fun _=> ?_) (fun _=> ?_)|refine⟨rfl,?_⟩)|(refine au (OM 2 _ _) ?_))
   exact⟨.L (gg+1) (i+1) (by rw[L8];exact hil) (by omega),by have h9:i<xs.length:=hil;show xs.length-(i+1)<xs.length-i;omega,by rw[e7],by dsimp only[Ms.hp,OL];rw[hns,List.map_append];rfl⟩
 ·have hd:decide ((s.i:Int)<(xs.length:Int))=false:=decide_eq_false (by omega)
  cases s with
  |E=>
   have e:xs=[]:=List.eq_nil_of_length_eq_zero (by simp only[Ms.i]at hil;omega);iterate 30 all_goals ((try conv=>whnf);try first|(with_reducible first|refine zY ?_|refine zN ?_|refine zT ?_|refine br (fun _=> ?_) (fun _=> ?_)|refine⟨rfl,?_⟩))
   exact⟨_,rfl,by rw[e];exact ij .nil (.lit (.bool _))⟩
  |L gg i hi2 h0=>
   obtain rfl:i=xs.length:=by have h9: ¬i<xs.length:=hil;omega
   have ht:(xs.map (nameAt l)).take xs.length=xs.map (nameAt l):=List.take_of_length_le (by omega);iterate 30 all_goals ((try conv=>whnf);try first|(with_reducible first|refine zY ?_|refine zN ?_|refine zT ?_|refine br (fun _=> ?_) (fun _=> ?_)|refine⟨rfl,?_⟩))
   exact⟨_,rfl,ij (dH (sk:=⟨true,some 9⟩) (g:=gg) (vs:=(xs.map (nameAt l)).map SV.str) (by show some (OL gg ((xs.map (nameAt l)).take xs.length))=_;rw[ht]) (by simp) (by intro v hv;obtain⟨k,_,rfl⟩:=List.mem_map.1 hv;exact .str _)) (.lit (.bool _))⟩
end Go.Proofs.YtegmnocpkgpgeaaGreatDoor
