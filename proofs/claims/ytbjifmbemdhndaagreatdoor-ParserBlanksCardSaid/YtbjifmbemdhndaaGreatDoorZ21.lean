/- Parts of the proof of PParserBlanks, one behind the other, with short names. -/
import Derived.Test.YtbjifmbemdhndaaGreatDoorZ20
import Derived.Lib.TrimAscii
import Derived.Lib.ValidLaws
import Derived.Lib.ItoaNum
import Derived.Test.YtbjifmbemdhndaaGreatDoorZ19
import Derived.KernelRfl
set_option linter.unusedVariables false
set_option linter.unusedSimpArgs false
namespace Go.Proofs.YtbjifmbemdhndaaGreatDoor
open Go.Lib
theorem qc(r:List UInt8):decodeL (39::r)=(39,1):=decodeL_ascii 39 r (by decide)
theorem Bx{c:UInt8}{r:List UInt8}(h:c≠39):(decodeL (c::r)).1≠39:=by
 by_cases hc:c.toNat<128
 ·rw[decodeL_ascii c r hc]
  intro e;exact h (UInt8.toNat_inj.1 e)
 ·rw[decodeL_N]
  simp only[List.getD_cons_zero];unfold decodeN
  repeat' split
  all_goals (dsimp only;omega)
theorem lR(s:List UInt8)(pos:Nat):Utf8.decode ⟨s.toArray⟩ pos=decodeL (s.drop pos):=by
 have:=decodeL_drop ⟨s.toArray⟩ pos;rw[<- this]
theorem drop_cons{s:List UInt8}{pos:Nat}(h:pos<s.length):s.drop pos=s.getD pos 0::s.drop (pos+1):=by
 rw[List.drop_eq_getElem_cons h];simp[List.getD,h]
theorem uA{f i:Nat}{l buf:List UInt8}{bad:Bool}(hne:l≠[])(h:l.getD 0 0≠39):
  cA (f+1) l i bad buf=cA f (l.drop (decodeL l).2) (i+(decodeL l).2) (bad||((decodeL l).1==65533&&(decodeL l).2==1)) (buf++l.take (decodeL l).2):=by
 cases l with
 |nil=>exact absurd rfl hne
 |cons c r=>rw[cA,if_pos (show c≠39 from h)]
theorem wq{f i:Nat}{l buf:List UInt8}{bad:Bool}(h0:l.getD 0 0=39)(h1:l.getD 1 0=39):cA (f+1) l i bad buf=cA f (l.drop 2) (i+2) bad (buf++[39]):=by
 cases l with
 |nil=>exact absurd h0 (by decide)
 |cons c r=>
  rw[cA,if_neg (by simpa using h0),if_pos (show r.getD 0 0=39 from h1)];rfl
theorem wu{f i:Nat}{l buf:List UInt8}{bad:Bool}(h0:l.getD 0 0=39)(h1:l.getD 1 0≠39):cA (f+1) l i bad buf=if bad then .err 232 else if 64<buf.length then .err 3 else .ok ⟨3,buf,0⟩ (i+1):=by
 cases l with
 |nil=>exact absurd h0 (by decide)
 |cons c r=>rw[cA,if_neg (by simpa using h0),if_neg (show ¬r.getD 0 0=39 from h1)]
theorem Dr(f i:Nat)(bad:Bool)(buf:List UInt8):cA f [] i bad buf= .err 231:=by cases f<;>rfl
theorem zB{l:List UInt8}:([39,39]:List UInt8).isPrefixOf l=true<->l.getD 0 0=39/\l.getD 1 0=39:=by
 match l with
 | []=>simp[List.isPrefixOf]
 | [a]=>simp[List.isPrefixOf]
 |a::b::r=>
  show((39:UInt8)==a&&((39:UInt8)==b&&true))=true<->a=39/\b=39;simp only[Bool.and_eq_true,beq_iff_eq,and_true];exact⟨fun h=>⟨h.1.symm,h.2.symm⟩,fun h=>⟨h.1.symm,h.2.symm⟩⟩
theorem cV(s:List UInt8)(p j:Nat):(s.drop p).getD j 0=s.getD (p+j) 0:=by
 simp[List.getD,List.getElem?_drop]
theorem kU(a b:Nat):((a:Int)==(b:Int))=(a==b):=by
 rw[Bool.eq_iff_iff];simp;omega
def kV(s:List UInt8)(l:List (Tk×Nat))(i:Nat):List UInt8:=(s.drop (oA l i s.length)).take (oA l (i+1) s.length-oA l i s.length)
def Gt(s:List UInt8)(l:List (Tk×Nat))(i:Nat):List UInt8:=if(l.getD i (⟨0,[],0⟩,0)).1.k=1 then(kV s l i).map uz else kV s l i
theorem wv{s:List UInt8}{x:Tk}{n:Nat}(h:gN s= .ok x n)(hk:x.k=1): ∀c∈s.take n,(cL c||isDigit c)=true:=by
 match s,h with
 | [],h=>simp[gN]at h
 |c::r,h=>
  unfold gN at h;dsimp only at h;split at h
  ·unfold ov at h
   dsimp only at h;split at h
   ·cases h
   ·cases h
    intro d hd;have:=ve (p:=fun c=>cL c||isDigit c) (c::r);rw[this]at hd;exact jw (p:=fun c=>cL c||isDigit c) hd
  ·split at h
   ·unfold jv at h
    dsimp only at h;split at h
    ·cases h
    ·cases h;exact absurd (show(2:Int)=1 from hk) (by decide)
   ·split at h
    ·have:=mG _ _ _ _ _ _ _ h
     omega
    ·have:=q8 _ _ _ h
     omega
theorem zC{s:List UInt8}{l:List (Tk×Nat)}(h:mE s 0 l){i:Nat}(hi:i<l.length):oA l i s.length<oA l (i+1) s.length/\oA l (i+1) s.length<=s.length/\(kV s l i).length=oA l (i+1) s.length-oA l i s.length:=by
 obtain⟨x,q,h1,h2,h3,h4,_⟩:=tC h i hi;rw[Nat.zero_add]at h3 h4;have e:oA l i s.length=q:=by unfold oA;rw[h1]
 refine⟨by omega,h4,?_⟩;unfold kV;rw[List.length_take,List.length_drop];omega
theorem Iu{s:List UInt8}{l:List (Tk×Nat)}{i:Nat}:(Gt s l i).length=(kV s l i).length:=by
 unfold Gt;split
 ·rw[List.length_map]
 ·rfl
theorem yA{s:List UInt8}{l:List (Tk×Nat)}(h:mE s 0 l){i:Nat}(hi:i<l.length)(hk:(l.getD i (⟨0,[],0⟩,0)).1.k=1): ∀c∈kV s l i,c.toNat<128:=by
 obtain⟨x,q,h1,h2,h3,h4,h5,n,h6,h7,h8⟩:=tC h i hi;have e:oA l i s.length=q:=by unfold oA;rw[h1]
 have ex:l.getD i (⟨0,[],0⟩,0)=(x,q):=by simp[List.getD,h1]
 rw[ex]at hk;have hw:=wv h6 hk;rw[Nat.zero_add,Nat.sub_zero]at h8;rw[Nat.sub_zero]at hw;intro c hc;unfold kV at hc;rw[e]at hc;rw[<- List.take_append_drop n ((s.drop q).take (oA l (i+1) s.length-q))]at hc;have key: ∀n:Fin 256,(cL (UInt8.ofNat n.val)||isDigit (UInt8.ofNat n.val))=true\/cD (UInt8.ofNat n.val)=true->(UInt8.ofNat n.val).toNat<128:=by decide +kernel
 have NB:=key ⟨c.toNat,UInt8.toNat_lt c⟩;simp only[UInt8.ofNat_toNat]at NB;rcases List.mem_append.1 hc with hc|hc
 ·rw[List.take_take,Nat.min_eq_left (by rw[Nat.zero_add]at h7;omega)]at hc
  exact NB (.inl (hw c hc))
 ·exact NB (.inr (h8 c hc))
def eH(s:List UInt8)(l:List (Tk×Nat))(bs:List UInt8):Nat->List UInt8
 |0=>[]
 |k+1=>eH s l bs k++(Gt s l k++bs)
theorem yB{s:List UInt8}{l:List (Tk×Nat)}{bs:List UInt8}(h:mE s 0 l): ∀k,k<=l.length->(eH s l bs k).length<=oA l k s.length+k*bs.length
 |0,_=>by simp[eH]
 |k+1,hk=>by
  have ih:=yB (bs:=bs) h k (by omega);obtain⟨a,b,c⟩:=zC h (show k<l.length by omega);rw[eH,List.length_append,List.length_append,Iu,Nat.add_mul];omega
theorem si{s:List UInt8}{l:List (Tk×Nat)}{bs:List UInt8}(h:mE s 0 l)(hb0:bs≠[])(hb: ∀c∈bs,cD c=true): ∀k,k<=l.length-> ∃ps:List Piece,(∀ q∈ps,q.Ok)/\ps.map (·.x)=(l.take k).map (·.1)/\flat ps=eH s l bs k
 |0,_=>⟨[],by simp,by simp,rfl⟩
 |k+1,hk=>by
  obtain⟨ps,p1,p2,p3⟩:=si (bs:=bs) h hb0 hb k (by omega);obtain⟨x,q,h1,h2,h3,h4,h5,n,h6,h7,h8⟩:=tC h k (by omega);obtain⟨o1,o2,o3⟩:=zC h (show k<l.length by omega);have e:oA l k s.length=q:=by unfold oA;rw[h1]
  have ex:l.getD k (⟨0,[],0⟩,0)=(x,q):=by simp[List.getD,h1]
  rw[Nat.zero_add]at h3 h4 h7 h8;rw[Nat.sub_zero]at h5 h6 h8;obtain⟨c1,c2,c3⟩:=lQ h6;have hown:kV s l k=(s.drop q).take (oA l (k+1) s.length-q):=by unfold kV;rw[e]
  rw[<- hown]at h8;have c4:=c3 n (Nat.le_refl _);have htk:(kV s l k).take n=(s.drop q).take n:=by rw[hown,List.take_take,Nat.min_eq_left (by omega)]
  have hlen:((kV s l k).take n).length=n:=by rw[List.length_take,o3];omega
  rw[<- htk]at c4
  have Iv:cD (((kV s l k).take n).getD 0 0)=false:=by
   rw[htk];rw[show ((s.drop q).take n).getD 0 0=(s.drop q).getD 0 0 by cases n with|zero=>omega|succ n=>cases s.drop q<;>rfl];exact h5
  have Re:l.take (k+1)=l.take k++[(x,q)]:=by rw[List.take_add_one,h1];rfl
  have hone:gN ((kV s l k).take n)= .ok x ((kV s l k).take n).length:=by rw[hlen];exact c4
  have fin: ∀u:List UInt8,gN u= .ok x u.length->cD (u.getD 0 0)=false->Gt s l k=u++(kV s l k).drop n->
    ∃ps:List Piece,(∀ q∈ps,q.Ok)/\ps.map (·.x)=(l.take (k+1)).map (·.1)/\flat ps=eH s l bs (k+1):=by
   intro u a1 a2 a3;refine⟨ps++[⟨u,(kV s l k).drop n++bs,x⟩],?_,by rw[Re];simp[p2],?_⟩
   ·intro y hy
    rcases List.mem_append.1 hy with hy|hy
    ·exact p1 y hy
    ·simp only[List.mem_singleton]at hy
     subst hy;refine⟨a1,a2,by simp[hb0],?_⟩;intro c hc;rcases List.mem_append.1 hc with hc|hc
     ·exact h8 c hc
     ·exact hb c hc
   ·rw[eH,a3,<-p3]
    simp[flat]
  by_cases kn:x.k=1
  ·refine fin (((kV s l k).take n).map uz) ?_ ?_ ?_
   ·rw[List.length_map]
    exact Kn hone kn
   ·have hw:=wv h6 kn
    rw[<- htk]at hw;generalize (kV s l k).take n=u at Iv hlen hw;cases u with
    |nil=>simp at hlen;omega
    |cons a u=>
     show cD (uz a)=false;have ha:=hw a (by simp);have key: ∀n:Fin 256,(cL (UInt8.ofNat n.val)||isDigit (UInt8.ofNat n.val))=true->cD (uz (UInt8.ofNat n.val))=false:=by decide +kernel
     have NB:=key ⟨a.toNat,UInt8.toNat_lt a⟩;simp only[UInt8.ofNat_toNat]at NB;exact NB ha
   ·unfold Gt
    rw[ex,if_pos kn]
    conv=>lhs;rw[<- List.take_append_drop n (kV s l k)]
    rw[List.map_append];congr 1
    conv=>rhs;rw[<- List.map_id ((kV s l k).drop n)]
    exact List.map_congr_left fun c hc=>Iq c (h8 c hc)
  ·refine fin ((kV s l k).take n) hone Iv ?_
   unfold Gt;rw[ex,if_neg kn,List.take_append_drop]
theorem Gu{s:List UInt8}{l:List (Tk×Nat)}{bs:List UInt8}(h:mE s 0 l)(hb0:bs≠[])(hb: ∀c∈bs,cD c=true): ∃m,xC (eH s l bs l.length)= .ok m/\m.map (·.1)=l.map (·.1):=by
 obtain⟨ps,p1,p2,p3⟩:=si (bs:=bs) h hb0 hb l.length (Nat.le_refl _);obtain⟨m,m1,m2⟩:=Gr p1;rw[p3]at m1;rw[List.take_length]at p2;exact⟨m,m1,by rw[m2,p2]⟩
end Go.Proofs.YtbjifmbemdhndaaGreatDoor
namespace Ab
open Go
structure cE where
 nt:Nat
 code:bW
 rs:List RV
structure aY(P:Program)(f:Nat)(t:cE):Prop where
 ok: ∃fn code,P.funcs[f]? =some fn/\fn.body=some code/\fA t.code=true/\erase t.code=cR P fn.ntmps code/\pK P fn.results.toList=some t.rs/\t.nt=fn.ntmps
theorem Rf{P:Program}{f:Nat}{fn:Func}{code:Code}{t:cE}(hf:P.funcs[f]? =some fn)(hb:fn.body=some code)(ho:fA t.code=true)(hc:erase t.code=cR P fn.ntmps code)(hr:pK P fn.results.toList=some t.rs)(hn:t.nt=fn.ntmps):aY P f t:=
 ⟨fn,code,hf,hb,ho,hc,hr,hn⟩
theorem tk{P:Program}{f:Nat}{fn:Func}{t:cE}(hf:P.funcs[f]? =some fn)(h:(fA t.code,erase t.code,pK P fn.results.toList,t.nt,fn.body.isSome)=(true,cR P fn.ntmps (fn.body.getD .skip),some t.rs,fn.ntmps,true)):aY P f t:=by
 simp only[Prod.mk.injEq]at h;obtain⟨h1,h2,h3,h4,h5⟩:=h;obtain⟨code,h6⟩:=Option.isSome_iff_exists.1 h5;rw[h6]at h2;exact Rf hf h6 h1 h2 h3 h4
theorem aY.call{P:Program}{f:Nat}{t:cE}{args:List SV}{h:Heap}{R:cG->Heap->Prop}(ht:aY P f t)(hm:P.follows .mixedOrders=true)(hn:Nat.ble args.length t.nt=true)(hp:Gk P t.code (wj t.rs R) (fH 0 args) h):aZ P f args h R:=by
 obtain⟨fn,code,h1,h2,h3,h4,h5,h6⟩:=ht.ok;exact zx hm h1 h2 h3 h4 h5 (by rw[<- h6];exact hn) hp
inductive gv(P:Program):List (Nat×cE)->Prop
 |nil:gv P []
 |cons {f:Nat} {t:cE} {r:List (Nat×cE)} (h:aY P f t) (hr:gv P r):gv P ((f,t)::r)
noncomputable section
def Ds(l:List (Nat×cE))(f:Nat)(k:cE->Prop):Prop:=
 @List.rec (Nat×cE) (fun _=>Prop) False (fun x _ ih=> @Bool.rec (fun _=>Prop) ih (k x.2) (Nat.beq x.1 f)) l
def Iw(Q:cQ->Env->Heap->Prop)(I:Env->Heap->Prop):cQ->Env->Heap->Prop
 | .normal,e,h=>I e h
 |x,e,h=>Q x e h
def lvl(P:Program)(T:List (Nat×cE))(n:Nat):bZ×kD:=
 @Nat.rec (fun _=>bZ×kD) (⟨fun _ _ _ _=>False,fun v v' p=>dO (oF 8 v v') p,fun b _ p=>dO b p⟩,fun _ _ _ _=>False)
  (fun _ ih=>(⟨fun f a h k=>Ds T f fun t=>dO (Nat.ble a.length t.nt) (oJ P ih.1 ih.2 t.code (wj t.rs k) (fH 0 a) h),fun v v' p=>dO (oF 8 v v') p,fun b _ p=>dO b p⟩,
   fun b Q e h=>oJ P ih.1 ih.2 b (Iw Q (ih.2 b Q)) e h)) n
end
theorem vf(b:Bool)(q p:Prop)(h:dO b p):(b=true\/q)/\p:=⟨.inl (av.1 h).1,(av.1 h).2⟩
theorem By{P:Program}{T:List (Nat×cE)}: ∀n v v' p,(lvl P T n).1.same v v' p->Lk v' v/\p
 |0,v,v',p,h=>by
  have h':=av.1 (show dO (oF 8 v v') p from h);exact⟨gM 8 _ _ h'.1▸ .refl _,h'.2⟩
 |n+1,v,v',p,h=>by
  have h':=av.1 (show dO (oF 8 v v') p from h);exact⟨gM 8 _ _ h'.1▸ .refl _,h'.2⟩
theorem sj{P:Program}: ∀ {l:List (Nat×cE)} {f:Nat} {k:cE->Prop},gv P l->Ds l f k-> ∃t,aY P f t/\k t
 | [],f,k,_,h=>h.elim
 |(g,t)::r,f,k,.cons h1 h2,h=>by
  have h': @Bool.rec (fun _=>Prop) (Ds r f k) (k t) (Nat.beq g f):=h;rcases zf h' with⟨hb,hk⟩|⟨_,hk⟩
  ·obtain rfl:=Nat.eq_of_beq_eq_true hb
   exact⟨t,h1,hk⟩
  ·exact sj h2 hk
theorem gu.LS{P:Program}{Γ:bZ}{Λ:kD}(gp:Γ.Ok P)(nN: ∀b Q e h,Λ b Q e h->fR P b Q e h){b:bW}{Q:cQ->Env->Heap->Prop}{I:Env->Heap->Prop}{m:Nat}{e:Env}{h:Heap}
  (hI: ∀e h,I e h->gu P b Q m e h)(hp:oJ P Γ Λ b (Iw Q I) e h):gu P b Q (m+1) e h:=by
 refine⟨fun n code pG pH hc c w a hr he hn=> ?_⟩;rw[rounds_succ];refine wp_mono (eB (n:=n) gp nN pG code b _ e h pH hc hp c w a hr he hn) fun ex a2 w2 hpost=> ?_
 obtain⟨c2,h2,e2,xx,hq,iO,hx2,ku,hn2,mc,hex⟩:=hpost;cases ex with
 |normal=>
  cases xx<;>try exact hex.elim
  simp only[Exit.then];have:=(hI _ _ hq).run n code pG pH hc c2 w2 a2 iO ku hn2;rw[mc]at this;exact pJ (fun _ _ _ uN=>uN.of hr hx2) m this
 |exit i=>cases xx<;>first|exact hex.elim|exact⟨c2,h2,e2,_,hq,iO,hx2,ku,hn2,mc,hex⟩
 |goto l=>cases xx<;>exact hex.elim
 |ret=>cases xx<;>first|exact hex.elim|exact⟨c2,h2,e2,_,hq,iO,hx2,ku,hn2,mc,hex⟩
 |panic ch=>cases xx<;>first|exact hex.elim|exact⟨c2,h2,e2,_,hq,iO,hx2,ku,hn2,mc,hex⟩
 |outgrown=>cases xx<;>exact hex.elim
theorem tD{P:Program}{T:List (Nat×cE)}(hm:P.follows .mixedOrders=true)(hT:gv P T): ∀n,(lvl P T n).1.Ok P/\(∀ b Q e h,(lvl P T n).2 b Q e h->gu P b Q n e h)
 |0=>⟨⟨fun _ _ _ _ h=>h.elim,By 0,vf⟩,fun _ _ _ _ h=>h.elim⟩
 |n+1=>by
  obtain⟨ih1,ih2⟩:=tD hm hT n;have nN: ∀b Q e h,(lvl P T n).2 b Q e h->fR P b Q e h:=fun b Q e h hp=>fS n (ih2 b Q e h hp)
  refine⟨⟨fun f a h k hp=> ?_,By (n+1),vf⟩,fun b Q e h hp=>gu.LS ih1 nN (fun e h hp=>ih2 b Q e h hp) hp⟩;have hp':Ds T f fun t=>dO (Nat.ble a.length t.nt) (oJ P (lvl P T n).1 (lvl P T n).2 t.code (wj t.rs k) (fH 0 a) h):=hp
  obtain⟨t,⟨fn,code,hf,hb,ho,hc,hr,hn⟩,hp'⟩:=sj hT hp'
  replace hp':=av.1 hp'
  exact mQ ih1 nN hm hf hb ho hc hr (by rw[<- hn];exact hp'.1) hp'.2
end Ab
namespace Go.Proofs.YtbjifmbemdhndaaGreatDoor
open Ab Go.RowKit
theorem w8{x:Int}(h: -9223372036854775808<=x)(h':x<=9223372036854775807):IntKind.i64.wrap x=x:=by rw[IntKind.wrap_i64];omega
theorem bN{n:Nat}(h':n<9223372036854775807):IntKind.i64.wrap ((n:Int)+1)=((n+1:Nat):Int):=by rw[w8 (by omega) (by omega)];omega
end Go.Proofs.YtbjifmbemdhndaaGreatDoor
namespace Ab
open Go
def yC(h:Heap)(sz:Nat)(x:SV)(xs:List SV):Prop:= ∀k:List SV->Prop,k xs->mK h sz x k
@[reducible] def uS (b:UInt8):SV:= .int .u8 b.toNat
theorem tE{h:Heap}(s:List UInt8):yC h 1 (.str s) (s.map uS):=fun k hk=>by
 show dO (Nat.beq 1 1) (FP s k);rw[av,p9];exact⟨rfl,hk⟩
theorem Ix{m:Nat}{l:List (Nat×aG)}{i g sz off len iE:Nat}{cap:Option Nat}{elems:List SV}{sk:Sk}(ho:aV l i=some (.vec g iE elems sk))(hle:off+len<=elems.length):
  yC ⟨m,l⟩ sz (.sl i g sz off len cap) ((elems.drop off).take len):=fun k hk=>by
 show dO (Nat.beq sz sz) (ff l i (fun o=>match o with
  | .vec g' _ elems _=>dO (Nat.beq g' g) (oS elems off fun l=>takeN l len k)
  |_=>False) False)
 rw[av,bC,ho];refine⟨Nat.beq_refl _,?_⟩;dsimp only;rw[av,eM,dN];exact⟨Nat.beq_refl _,by omega,by rw[List.length_drop];omega,hk⟩
theorem lz{m:Nat}{l:List (Nat×aG)}{i g sz n iE:Nat}{cap:Option Nat}{elems:List SV}{sk:Sk}(ho:aV l i=some (.vec g iE elems sk))(hn:n=elems.length):
  yC ⟨m,l⟩ sz (.sl i g sz 0 n cap) elems:=fun k hk=>by
 refine Ix ho (by omega) k ?_;rw[List.drop_zero,List.take_of_length_le (by omega)];exact hk
theorem q9: ∀s:List UInt8,allOnes (s.map uS)=true
 | []=>rfl
 |b::r=>by
  show(dj (uS b).cells&&allOnes (r.map uS))=true;rw[q9 r];rfl
theorem zD{ty:TypeId}{sz bytes:Nat}{m:Nat}{l:List (Nat×aG)}{x:SV}{k:SV->Heap->Prop}{i g sz' off len iE:Nat}{cap:Option Nat}{elems:List SV}{sk:Sk}(hx:yC ⟨m,l⟩ sz x [])(ho:aV l i=some (.vec g iE elems sk))
  (hk:k (.sl i g sz' off len cap) ⟨m,l⟩):bB ty sz bytes ⟨m,l⟩ (.sl i g sz' off len cap) x k:=by
 unfold bB;refine hx _ ?_;show gx ⟨m,l⟩ i g _;unfold gx;dsimp only;rw[bC,ho];dsimp only;rw[av];exact⟨Nat.beq_refl _,hk⟩
theorem oc{ty:TypeId}{sz bytes m:Nat}{l:List (Nat×aG)}{x:SV}{xs:List SV}{k:SV->Heap->Prop}(hx:yC ⟨m,l⟩ sz x xs)(h0:0<xs.length)(h1:allOnes xs=true)
  (hl:xs.length*bytes<=140737488355328)(hl':xs.length<=9223372036854775807)(hk:k (.sl m 0 sz 0 xs.length none) ⟨m+1,(m,.vec 0 sz xs ⟨true,some ty⟩)::l⟩):bB ty sz bytes ⟨m,l⟩ .ak x k:=by
 unfold bB;refine hx _ ?_;cases xs with
 |nil=>simp at h0
 |cons x0 xr=>
  dsimp only;rw[av,av];exact⟨h1,by rw[decide_eq_true hl,decide_eq_true hl'];rfl,hk⟩
theorem qd{ty:TypeId}{sz bytes m:Nat}{l:List (Nat×aG)}{x:SV}{xs:List SV}{k:SV->Heap->Prop}{i g len iE:Nat}{elems:List SV}{sk:Sk}(hx:yC ⟨m,l⟩ sz x xs)(h0:0<xs.length)(h1:allOnes xs=true)
  (ho:aV l i=some (.vec g iE elems sk))(hn:len=elems.length)(hl:(len+xs.length)*bytes<=140737488355328)(hl':len+xs.length<=9223372036854775807)
  (hk:oR l i (.vec (g+1) iE (elems++xs) ⟨true,joinTy sk.ty ty⟩) fun l'=>k (.sl i (g+1) sz 0 (len+xs.length) none) ⟨m,l'⟩):bB ty sz bytes ⟨m,l⟩ (.sl i g sz 0 len none) x k:=by
 unfold bB;refine hx _ ?_;cases xs with
 |nil=>simp at h0
 |cons x0 xr=>
  dsimp only;rw[av];refine⟨h1,?_⟩;show dO (Nat.beq sz sz) _;rw[av];refine⟨Nat.beq_refl _,?_⟩;rw[bC,ho];dsimp only;rw[av];refine⟨Nat.beq_refl _,?_⟩
  have hno:(Nat.blt 0 sz&&Nat.ble (0+len+(x0::xr).length) elems.length)=false:=by
   cases hb:Nat.ble (0+len+(x0::xr).length) elems.length with
   |false=>rw[Bool.and_false]
   |true=>
    have:=Nat.le_of_ble_eq_true hb;rw[hn]at this;simp only[List.length_cons]at this;omega
  rw[hno];show dO _ _;rw[av];refine⟨?_,?_⟩
  ·rw[decide_eq_true hl,decide_eq_true hl',hn]
   simp only[Bool.and_true,Nat.beq_refl]
  ·rw[u5]
   exact hk
theorem Dt{s:List UInt8}{k:List UInt8->Prop}(hk:k s):mL (s.map uS) k:=by
 have e:s.map uS=(s.map fun b=>(b.toNat:Int)).map (SV.int .u8):=by rw[List.map_map];rfl
 rw[e];refine td ?_
 have e2:(s.map fun b=>(b.toNat:Int)).map (fun n=>UInt8.ofNat n.toNat)=s:=by
  rw[List.map_map]
  conv=>rhs;rw[<- List.map_id s]
  apply List.map_congr_left
  intro b _;simp
 rw[e2];exact hk
theorem Gv{l:List SV}{n:Nat}{k:List SV->Prop}(h:n=l.length)(hk:k l):takeN l n k:=dN.2 ⟨by omega,by rw[List.take_of_length_le (by omega)];exact hk⟩
theorem Rg{a b:Nat}(h:a≠b):Nat.beq a b=false:=by
 cases hh:Nat.beq a b
 ·rfl
 ·exact absurd (Nat.eq_of_beq_eq_true hh) h
theorem kW{i:Nat}{o:aG}{l:List (Nat×aG)}:aV ((i,o)::l) i=some o:=by simp[aV]
theorem jx{i j:Nat}{o:aG}{l:List (Nat×aG)}(h:j≠i):aV ((j,o)::l) i=aV l i:=by simp[aV,h]
def Qu(l:List (Nat×aG))(n:Nat):Prop:= ∀i o,aV l i=some o->i<n/\yo n o
def Iy:cG->Prop
 | .ret v=>bJ v
 | .bO v=>bJ v
theorem Ko{c:Cx}{w:World}{h h':Heap}(hr:cF c h w)(hl: ∀i o,h'.obj i=some o->h.obj i=some o/\i<h'.dB/\yo h'.dB o):cF c h' w:=by
 have hsub: ∀i o,h'.obj i=some o->h.obj i=some o:=fun i o ho=>(hl i o ho).1
 refine⟨fun i o ho=>(hl i o ho).2.1,fun i o ho=> ?_,fun i j o p ho hp' heq=>hr.inj i j o p (hsub i o ho) (hsub j p hp') heq,fun i o ho=>hr.apart i o (hsub i o ho),hr.im,hr.dY⟩;have ja:=hr.obj i o (hsub i o ho);have Ib:=(hl i o ho).2.2;cases ja with
 |vec g sz elems fE C ty fz hw hle heq hty hc hf hcell=>
  refine .vec g sz elems fE C ty fz hw hle heq hty hc hf fun i j e v x h1 h2 h3=> ?_
  have hv:=hcell i j e v x h1 h2 h3;have Ic:=Ib e (List.mem_of_getElem? h1);by_cases mN: ∃l,e= .agg l
  ·obtain⟨l,rfl⟩:=mN
   exact hv.cut hsub 7 (List.all_eq_true.1 Ic v (List.mem_of_getElem? h2))
  ·have h1:e.cells=[e]:=by cases e<;>first|rfl|exact absurd ⟨_,rfl⟩ mN
   rw[h1]at h2;cases j with
   |zero=>simp at h2;subst h2;exact hv.cut hsub 8 Ic
   |succ j=>simp at h2
 |iter s pos hw=>exact .iter s pos hw
 |map es cl hw hs=>exact .map es cl hw hs
 |cP m since seen stepped r hw hm=>exact .cP m since seen stepped r hw (hm.cut hsub 8 Ib)
 |lB g ty xs C fz hw hle hc=>exact .lB g ty xs C fz hw hle hc
theorem aZ.cut{P:Program}{f:FuncId}{args:List SV}{n N:Nat}{l:List (Nat×aG)}{R:cG->Heap->Prop}(hn:n<=N)
  (hc:aZ P f args ⟨n,l⟩ fun r h'=> ∃l',(∀ i o,aV l' i=some o->h'.obj i=some o/\i<N/\yo N o)/\Iy r/\R r ⟨N,l'⟩):aZ P f args ⟨n,l⟩ R:=
 ⟨fun c w xs hr hs hv=>(hc.calls c w xs hr hs hv).mono fun e w' ⟨c',h',r,⟨l',hl,Rh,hR⟩,hr',hx',he⟩=>by
  refine⟨c',⟨N,l'⟩,r,hR,Ko hr' hl,⟨hx'.os,hx'.tape,hx'.output,hx'.size,hx'.frame,hx'.shape,hx'.im,hx'.im',hn,fun i o' hi ho'=>hx'.old i o' hi (hl i o' ho').1,fun i o' ho'=>hx'.new i o' (hl i o' ho').1⟩,?_⟩;cases r with
  |ret v=>obtain⟨x,he,hx⟩:=he;exact⟨x,he,.pure (Rh.vp hx)⟩
  |bO v=>obtain⟨x,he,hx⟩:=he;exact⟨x,he,.pure (Rh.vp hx)⟩⟩
theorem gm{l:List (Nat×aG)}{i:Nat}{o:aG}{k:aG->Prop}{d:Prop}(h:aV l i=some o)(hk:k o):ff l i k d:=by
 rw[bC,h];exact hk
theorem sn{l:List (Nat×aG)}{i:Nat}{o:aG}{k:List (Nat×aG)->Prop}(hk:k (cO l i o)):oR l i o k:=by
 rw[eW];exact hk
theorem ie{l:List (Nat×aG)}{i:Nat}{o o':aG}(h:aV l i=some o):aV (cO l i o') i=some o':=tc l i o o' h
theorem dQ{l:List (Nat×aG)}{i j:Nat}{o':aG}(h:j≠i):aV (cO l i o') j=aV l j:=by rw[eE,if_neg h]
theorem iF(n:Nat):Nat.beq n n=true:=Nat.beq_refl n
theorem mH(t:TypeId):joinTy (some t) t=some t:=by show(bif Nat.beq t t then some t else none)=some t;rw[iF];rfl
theorem Du{ty:TypeId}{m g i:Nat}{o:List UInt8}{c:SV}{sk:Sk}{l:List (Nat×aG)}{k:SV->Heap->Prop}(ho:aV l i=some (.vec g 1 (o.map uS) ⟨true,some ty⟩))(xB:i<m)(hc:dj c.cells=true)(hlen:o.length+1<=140737488355328)
  (hk:k (.sl i (g+1) 1 0 (o.length+1) none) ⟨m+1,(m,.vec 0 1 [c] sk)::cO l i (.vec (g+1) 1 (o.map uS++[c]) ⟨true,some ty⟩)⟩):
  bB ty 1 1 ⟨m+1,(m,.vec 0 1 [c] sk)::l⟩ (.sl i g 1 0 o.length none) (.sl m 0 1 0 1 (some 1)) k:=by
 refine qd (lz kW rfl) (by simp) (by simp[allOnes,hc]) (by rw[jx (by omega)];exact ho) (by simp) (by simp;omega) (by simp;omega) ?_;rw[eW];unfold cO;rw[if_neg (by omega),mH];exact hk
theorem Dv{ty:TypeId}{m g i:Nat}{o s:List UInt8}{l:List (Nat×aG)}{k:SV->Heap->Prop}(ho:aV l i=some (.vec g 1 (o.map uS) ⟨true,some ty⟩))(h0:0<s.length)(hlen:o.length+s.length<=140737488355328)
  (hk:k (.sl i (g+1) 1 0 (o.length+s.length) none) ⟨m,cO l i (.vec (g+1) 1 (o.map uS++s.map uS) ⟨true,some ty⟩)⟩):
  bB ty 1 1 ⟨m,l⟩ (.sl i g 1 0 o.length none) (.str s) k:=by
 refine qd (tE s) (by simpa using h0) (q9 s) ho (by simp) (by simp;omega) (by simp;omega) ?_;rw[eW,List.length_map,mH];exact hk
@[reducible] def tF (tb bi j g n:Nat):aG:= .vec 0 2 [.agg [.ref bi 0 0 0,.sl j g 1 0 n none]] ⟨false,some tb⟩
@[reducible] def uT (ty g:Nat) (o:List UInt8):aG:= .vec g 1 (o.map uS) ⟨true,some ty⟩
def oK(tb ty:Nat)(l:List (Nat×aG))(bi j g:Nat)(o:List UInt8):List (Nat×aG):=cO (cO l j (uT ty g o)) bi (tF tb bi j g o.length)
theorem Iz{tb ty:Nat}{l:List (Nat×aG)}{bi j g:Nat}{o:List UInt8}{ob:aG}(hb:aV l bi=some ob)(hne:bi≠j):aV (oK tb ty l bi j g o) bi=some (tF tb bi j g o.length):=
 ie (o:=ob) (by rw[dQ hne];exact hb)
theorem IA{tb ty:Nat}{l:List (Nat×aG)}{bi j g:Nat}{o:List UInt8}{oj:aG}(hj:aV l j=some oj)(hne:bi≠j):aV (oK tb ty l bi j g o) j=some (uT ty g o):=by
 unfold oK;rw[dQ (fun h=>hne h.symm)];exact ie hj
theorem Kp{tb ty:Nat}{l:List (Nat×aG)}{bi j g i:Nat}{o:List UInt8}(h1:i≠bi)(h2:i≠j):aV (oK tb ty l bi j g o) i=aV l i:=by
 unfold oK;rw[dQ h1,dQ h2]
theorem wz{n:Nat}{s:List UInt8}{g sz:Nat}{sk:Sk}:yo n (.vec g sz (s.map uS) sk):=by
 intro v hv;obtain⟨b,_,rfl⟩:=List.mem_map.1 hv;rfl
theorem yD: ∀ {l:List (Nat×aG)} {i:Nat} {o:aG},aV l i=some o->cO l i o=l
 | [],_,_,h=>rfl
 |(s,q)::r,i,o,h=>by
  unfold cO;unfold aV at h;by_cases hs:s=i
  ·rw[if_pos hs]at h ⊢;cases h;rfl
  ·rw[if_neg hs]at h ⊢;rw[yD h]
theorem IB{m i:Nat}{t ob:aG}{l:List (Nat×aG)}(hi:i<m)(h:aV l i=some ob):aV ((m,t)::l) i=some ob:=by rw[jx (by omega)];exact h
theorem so{tb ty:Nat}{l:List (Nat×aG)}{m bi j g:Nat}{o:List UInt8}(hl:Qu l m)(Bk:bi<m)(Di:j<m)(hne:bi≠j):Qu (oK tb ty l bi j g o) m:=by
 intro i ob h;by_cases h1:i=bi
 ·subst h1
  cases hq:aV l i with
  |none=>
   unfold oK at h;rw[eE,if_pos rfl,dQ hne,hq]at h;cases h
  |some q=>
   rw[Iz hq hne]at h;cases h
   refine⟨Bk,fun v hv=> ?_⟩;simp only[List.mem_singleton]at hv;subst hv;simp[SV.lt,Nat.blt,Bk,Di];omega
 ·by_cases h2:i=j
  ·subst h2
   cases hq:aV l i with
   |none=>
    unfold oK at h;rw[dQ h1,eE,if_pos rfl,hq]at h;cases h
   |some q=>
    rw[IA hq hne]at h;cases h
    exact⟨Di,wz⟩
  ·rw[Kp h1 h2]at h
   exact hl i ob h
theorem ig{P:Program}{b:bW}{Q:cQ->Env->Heap->Prop}{σ:Type}(env:σ->Env)(hp:σ->Heap)(μ:σ->Nat)(N:σ->Nat)(hN: ∀s,(hp s).dB<=N s)
  (step: ∀s,Gk P b (Bp (Env.keys (env s)) (N s) Q (fun e' h'=> ∃s',μ s'<μ s/\e'=env s'/\h'=hp s')) (env s) (hp s))(s:σ):fR P b Q (env s) (hp s):=
 Ih (fun m e h=> ∃s,μ s=m/\e=env s/\h=hp s) (fun m e h ⟨s,hm,he,hh⟩=>by
  subst hm;subst he;subst hh
  exact⟨N s,_,hN s,fun e' h' ⟨s',hlt,he,hh⟩=>⟨μ s',hlt,s',rfl,he,hh⟩,step s⟩) ⟨s,rfl,rfl,rfl⟩
end Ab
