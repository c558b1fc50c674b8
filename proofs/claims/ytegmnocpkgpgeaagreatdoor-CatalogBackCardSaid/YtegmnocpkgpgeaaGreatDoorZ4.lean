/- Parts of the proof of PCatalogBack, one behind the other, with short names. -/
import Derived.Test.YtegmnocpkgpgeaaGreatDoorZ3
import Derived.Laws.StructEq
import Derived.Laws.Strings
import Derived.Laws.Cover1
set_option linter.unusedVariables false
set_option linter.unusedSimpArgs false
namespace Ab
open Go
section
section
variable {P:Program} {Γ:bR} {c:Cx} {h:Heap} {w:World} {e:Env} {a:Act} {o:Oper} {k kp:SV->Heap->Prop}
theorem dW.of(v:SV)(x:Value)(hk:k v h)(hrun:(execOp a.eval o).run P w= .ok (.value x) w)(hv:VR c h w v x):dW P c h w a o k:=⟨v,x,hk,hrun,hv⟩
theorem BN(he:ER c h w e a.tmps){x:Operand}(ho:o.op= .move x\/o.op= .assign x)(hp:bF P Γ (.aK (aD x)) e h k kp):dW P c h w a o k:=by
 simp only[bF,aE]at hp;refine .of _ (a.eval x) hp ?_ (he.ev x);rcases ho with ho|ho<;>simp[execOp,ho]
theorem HL(he:ER c h w e a.tmps){x y z:Operand}(ho:o.op= .pick x y z)(hp:bF P Γ (.pick (aD x) (aD y) (aD z)) e h k kp):dW P c h w a o k:=by
 simp only[bF,aE]at hp;have hx:=he.ev x;have hy:=he.ev y;have hz:=he.ev z;split at hp
 ·rename_i b hb
  rw[hb]at hx;have hx:=hx.dm;have hrun:(execOp a.eval o).run P w= .ok (.value (if b then a.eval y else a.eval z)) w:=by simp[execOp,ho,hx,asBool]
  cases b
  ·exact .of _ _ hp hrun hz
  ·exact .of _ _ hp hrun hy
 ·exact hp.elim
theorem ou{k k':IntKind}:O7 k k'=true<->k=k':=by cases k<;>cases k'<;>simp[O7]
theorem HM(op:BinOp)(t:TypeId){kk k':IntKind}{m n:Int}{K:SV->Prop}(hp:arith op kk k' m n K):
  ∃v x,K v/\(binOp op t (.int kk m) (.int k' n)).run P w= .ok x w/\VR c h w v x:=by
 by_cases hsh:op= .shl\/op= .shr
 ·rcases hsh with rfl|rfl
  ·simp only[arith]at hp
   replace hp:=ah.1 hp
   obtain⟨h0,hp⟩:=hp;simp only[decide_eq_true_eq]at h0;exact⟨_,_,hp,by simp[binOp_shl,Op.shift,Int.not_lt.2 h0],.int⟩
  ·simp only[arith]at hp
   replace hp:=ah.1 hp
   obtain⟨h0,hp⟩:=hp;simp only[decide_eq_true_eq]at h0;exact⟨_,_,hp,by simp[binOp_shr,Op.shift,Int.not_lt.2 h0],.int⟩
 have hkk:kk=k':=by
  cases op<;>first|exact absurd (.inl rfl) hsh|exact absurd (.inr rfl) hsh|exact ou.1 (ah.1 hp).1
 subst hkk;cases op<;>first|exact absurd (.inl rfl) hsh|exact absurd (.inr rfl) hsh|skip
 all_goals (simp only[arith]at hp;replace hp:=(ah.1 hp).2)
 case quo=>
  replace hp:=ah.1 hp
  obtain⟨h0,hp⟩:=hp;simp only[Bool.not_eq_true',decide_eq_false_iff_not]at h0;exact⟨_,_,hp,by simp[binOp_quo,Op.intDiv,h0],.int⟩
 case rem=>
  replace hp:=ah.1 hp
  obtain⟨h0,hp⟩:=hp;simp only[Bool.not_eq_true',decide_eq_false_iff_not]at h0;exact⟨_,_,hp,by simp[binOp_rem,Op.intDiv,h0],.int⟩
 case add=>exact⟨_,_,hp,by simp[binOp_add,Op.intArith],.int⟩
 case sub=>exact⟨_,_,hp,by simp[binOp_sub,Op.intArith],.int⟩
 case mul=>exact⟨_,_,hp,by simp[binOp_mul,Op.intArith],.int⟩
 case and=>exact⟨_,_,hp,by simp[binOp_and,Op.intBits,kV],.int⟩
 case or=>exact⟨_,_,hp,by simp[binOp_or,Op.intBits,kV],.int⟩
 case xor=>exact⟨_,_,hp,by simp[binOp_xor,Op.intBits,kV],.int⟩
 case andNot=>exact⟨_,_,hp,by simp[binOp_andNot,Op.intBits,kV],.int⟩
 case eql=>exact⟨_,_,hp,by simp[binOp_eql],.bool⟩
 case neq=>exact⟨_,_,hp,by simp[binOp_neq],.bool⟩
 case lss=>exact⟨_,_,hp,by simp[binOp_lss],.bool⟩
 case leq=>exact⟨_,_,hp,by simp[binOp_leq],.bool⟩
 case gtr=>exact⟨_,_,hp,by simp[binOp_gtr],.bool⟩
 case geq=>exact⟨_,_,hp,by simp[binOp_geq],.bool⟩
theorem HN(op:BinOp)(t:TypeId){m n:List UInt8}{K:SV->Prop}(hp:yX op m n K):
  ∃v x,K v/\(binOp op t (.string ⟨m.toArray⟩) (.string ⟨n.toArray⟩)).run P w= .ok x w/\VR c h w v x:=by
 cases op<;>simp only[yX]at hp<;>try exact hp.elim
 case add=>
  obtain⟨h0,hp⟩:=ah.1 hp;simp only[decide_eq_true_eq]at h0;refine⟨_,_,hp,?_,.str⟩;have hs:(ByteArray.mk m.toArray).size=m.length:=by simp[ByteArray.size]
  have hs':(ByteArray.mk n.toArray).size=n.length:=by simp[ByteArray.size]
  have: ¬((m.length+n.length:Nat):Int)>IntKind.i64.max:=by simp;omega
  simp only[binOp,Op.stringOp,hs,hs',this,if_false]
  have hap:(ByteArray.mk m.toArray++ByteArray.mk n.toArray)=ByteArray.mk (m++n).toArray:=by
   apply ByteArray.ext
   simp
  rw[hap];rfl
 case eql=>exact⟨_,_,hp,by simp[binOp_string_eql],.bool⟩
 case neq=>exact⟨_,_,hp,by simp[binOp_string_neq],.bool⟩
 case lss=>exact⟨_,_,hp,by simp[binOp_string_lss,mo],.bool⟩
 case leq=>exact⟨_,_,hp,by simp[binOp_string_leq,mo],.bool⟩
 case gtr=>exact⟨_,_,hp,by simp[binOp_string_gtr,mo],.bool⟩
 case geq=>exact⟨_,_,hp,by simp[binOp_string_geq,mo],.bool⟩
theorem uC(d:Nat)(xs ys:Array Value): ∀(fs:List Field) (off:Nat) (l m:List SV) (p:Bool) (ks:List FZ),kY P off fs=some ks->
  (∀ (i:Nat) (v:SV) (x:Value),l[i]? =some v->xs[off+i]? =some x->VR c h w v x)->(∀ (i:Nat) (v:SV) (x:Value),m[i]? =some v->ys[off+i]? =some x->VR c h w v x)->
  off+l.length<=xs.size->off+m.length<=ys.size->
  cK ks l m=some p->(Op.eqFields (d+1) xs ys fs).run P w= .ok p w
 | [],off,l,m,p,ks,hk,_,_,_,_,hq=>by
   simp only[kY,Option.some.injEq]at hk;subst hk;simp only[cK,Option.some.injEq]at hq;subst hq;rfl
 |f::fs,off,l,m,p,ks,hk,hl,hm,hxl,Xe,hq=>by
  simp only[kY]at hk;cases aJ:(f.name != "_" &&Nat.beq f.offset off)
  ·rw[aJ]at hk;cases hk
  rw[aJ]at hk;simp only[cond_true]at hk;simp only[Bool.and_eq_true]at aJ;obtain⟨hn,ho⟩:=aJ;have Wy:=Nat.eq_of_beq_eq_true ho
  have hty: ∃ek es,ks=ek::es/\kY P (off+1) fs=some es/\kO P f.type=some false/\
    (match ek with| .int=> ∃k,P.underlying f.type=some (.int k)| .str=>P.underlying f.type=some .string| .bool=>P.underlying f.type=some .bool):=by
   unfold kO;split at hk
   ·rename_i k hu
    obtain⟨es,h1,h2⟩:=Option.map_eq_some_iff.1 hk;exact⟨_,es,h2.symm,h1,by simp[hu],⟨k,hu⟩⟩
   ·rename_i hu
    obtain⟨es,h1,h2⟩:=Option.map_eq_some_iff.1 hk;exact⟨_,es,h2.symm,h1,by simp[hu],hu⟩
   ·rename_i hu
    obtain⟨es,h1,h2⟩:=Option.map_eq_some_iff.1 hk;exact⟨_,es,h2.symm,h1,by simp[hu],hu⟩
   ·cases hk
  obtain⟨ek,es,rfl,hks,hag,hu⟩:=hty;cases l with
  |nil=>simp[cK]at hq
  |cons x l=>
  cases m with
  |nil=>simp[cK]at hq
  |cons y m=>
  simp only[List.length_cons]at hxl Xe;have Xf:off<xs.size:=by omega
  have Xg:off<ys.size:=by omega
  have Tt:xs[off]? =some xs[off]:=Array.getElem?_eq_getElem Xf;have Tv:ys[off]? =some ys[off]:=Array.getElem?_eq_getElem Xg;have hx0:=hl 0 x xs[off] rfl Tt;have hy0:=hm 0 y ys[off] rfl Tv
  have hpart: ∀(zs:Array Value) z,zs[off]? =some z->(part f.type zs f.offset).run P w= .ok z w:=by
   intro zs z hz;simp[part,hO hag,Wy,hz]
  unfold cK at hq;generalize yq:vW ek x y=hd at hq
  have BO: ∀q,hd=some q->(Op.equalIn (d+1) f.type xs[off] ys[off]).run P w= .ok q w:=by
   intro q ZP;subst ZP;unfold vW at yq;split at yq
   ·rename_i k a k' b
    split at yq
    ·rename_i hkk
     cases yq
     obtain⟨kk,hu⟩:=hu;rw[hx0.bQ,hy0.bQ,ou.1 hkk];exact run_equalIn_int w d f.type k' kk a b hu
    ·cases yq
   ·cases yq
    rw[hx0.eJ,hy0.eJ,run_equalIn_string w d f.type _ _ hu];simp
   ·cases yq
    rw[hx0.dm,hy0.dm];exact run_equalIn_bool' w d f.type _ _ hu
   ·cases yq
  have hn':f.name≠ "_" :=by simpa using hn
  cases hd with
  |none=>exact absurd hq (by simp)
  |some q=>
  dsimp only at hq;have hrun:=BO q rfl;simp only[Op.eqFields,hn',ne_eq,not_false_eq_true,if_true,Sem.run_bind,hpart xs _ Tt,hpart ys _ Tv,Result.andThen_ok,hrun]
  have yZ: ∀q',cK es l m=some q'->(Op.eqFields (d+1) xs ys fs).run P w= .ok q' w:=fun q' JT=>
   uC d xs ys fs (off+1) l m q' es hks (fun i v z hv hz=>hl (i+1) v z (by simpa using hv) (by simpa[Nat.add_assoc,Nat.add_comm 1 i]using hz))
    (fun i v z hv hz=>hm (i+1) v z (by simpa using hv) (by simpa[Nat.add_assoc,Nat.add_comm 1 i]using hz)) (by omega) (by omega) JT
  split at hq
  ·cases hq
   have:=yZ true (by simp[cK]);cases p<;>simp[this]
  ·obtain⟨q',JT,rfl⟩:=Option.map_eq_some_iff.1 hq
   cases q
   ·simp
   ·simp[yZ q' JT]
theorem ov{e:FZ}{es:List FZ}{l m:List SV}{p:Bool}(hq:cK (e::es) l m=some p): ∃x l' y m' q0 q,l=x::l'/\m=y::m'/\vW e x y=some q0/\cK es l' m'=some q/\p=(q0&&q):=by
 cases l with
 |nil=>simp[cK]at hq
 |cons x l=>
 cases m with
 |nil=>simp[cK]at hq
 |cons y m=>
 unfold cK at hq;cases h1:vW e x y with
 |none=>rw[h1]at hq;simp at hq
 |some q0=>
  rw[h1]at hq;dsimp only at hq;split at hq
  ·cases hq
   exact⟨x,l,y,m,p,true,rfl,rfl,h1,by simp[cK],by simp⟩
  ·obtain⟨q,JT,rfl⟩:=Option.map_eq_some_iff.1 hq
   exact⟨x,l,y,m,q0,q,rfl,rfl,h1,JT,rfl⟩
theorem Eh{e:FZ}{es:List FZ}{x y:SV}{l m:List SV}{q0 q:Bool}(h0:vW e x y=some q0)(h1:cK es l m=some q):cK (e::es) (x::l) (y::m)=some (q0&&q):=by
 unfold cK;rw[h0];cases es with
 |nil=>simp only[cK,Option.some.injEq]at h1;subst h1;simp
 |cons e' es=>simp[h1]
theorem pK: ∀ {k1 k2:List FZ} {l m:List SV} {p:Bool},cK (k1++k2) l m=some p->
  ∃q1 q2,cK k1 (l.take k1.length) (m.take k1.length)=some q1/\cK k2 (l.drop k1.length) (m.drop k1.length)=some q2/\p=(q1&&q2)
 | [],k2,l,m,p,hq=>⟨true,p,by simp[cK],hq,by simp⟩
 |e::k1,k2,l,m,p,hq=>by
  obtain⟨x,l',y,m',q0,q,rfl,rfl,h1,h2,rfl⟩:=ov hq;obtain⟨q1,q2,h3,h4,rfl⟩:=pK h2;exact⟨q0&&q1,q2,by simpa using Eh h1 h3,by simpa using h4,by simp[Bool.and_assoc]⟩
theorem pL: ∀ {k1:List FZ} {l m:List SV} {p:Bool},cK k1 l m=some p->k1.length<=l.length/\k1.length<=m.length
 | [],l,m,p,_=>⟨Nat.zero_le _,Nat.zero_le _⟩
 |e::k1,l,m,p,hq=>by
  obtain⟨x,l',y,m',q0,q,rfl,rfl,h1,h2,rfl⟩:=ov hq;have:=pL h2;simp only[List.length_cons];omega
theorem ow(d:Nat)(xs ys:Array Value): ∀(fs:List Field) (off:Nat) (l m:List SV) (p:Bool) (ks:List FZ),gG P off fs=some ks->
  (∀ (i:Nat) (v:SV) (x:Value),l[i]? =some v->xs[off+i]? =some x->VR c h w v x)->(∀ (i:Nat) (v:SV) (x:Value),m[i]? =some v->ys[off+i]? =some x->VR c h w v x)->
  off+l.length<=xs.size->off+m.length<=ys.size->
  cK ks l m=some p->(Op.eqFields (d+2) xs ys fs).run P w= .ok p w
 | [],off,l,m,p,ks,hk,_,_,_,_,hq=>by
   simp only[gG,Option.some.injEq]at hk;subst hk;simp only[cK,Option.some.injEq]at hq;subst hq;rfl
 |f::fs,off,l,m,p,ks,hk,hl,hm,hxl,Xe,hq=>by
  simp only[gG]at hk;cases aJ:(f.name != "_" &&Nat.beq f.offset off)
  ·rw[aJ]at hk;cases hk
  rw[aJ]at hk;simp only[cond_true]at hk;simp only[Bool.and_eq_true]at aJ;obtain⟨hn,ho⟩:=aJ;have Wy:=Nat.eq_of_beq_eq_true ho;have hn':f.name≠ "_" :=by simpa using hn
  have hty:(∃ ek es,ks=ek::es/\gG P (off+1) fs=some es/\kO P f.type=some false/\
    (match ek with| .int=> ∃k,P.underlying f.type=some (.int k)| .str=>P.underlying f.type=some .string| .bool=>P.underlying f.type=some .bool))\/
    (∃ k1 es gs i,ks=k1++es/\gG P (off+k1.length) fs=some es/\kO P f.type=some true/\P.underlying f.type=some (.struct gs)/\P.stoodInHeld f.type=false/\kY P 0 gs.toList=some k1/\P.info? f.type=some i/\i.size=k1.length):=by
   unfold kO;split at hk
   ·rename_i k hu
    obtain⟨es,h1,h2⟩:=Option.map_eq_some_iff.1 hk;exact .inl ⟨_,es,h2.symm,h1,by simp[hu],⟨k,hu⟩⟩
   ·rename_i hu
    obtain⟨es,h1,h2⟩:=Option.map_eq_some_iff.1 hk;exact .inl ⟨_,es,h2.symm,h1,by simp[hu],hu⟩
   ·rename_i hu
    obtain⟨es,h1,h2⟩:=Option.map_eq_some_iff.1 hk;exact .inl ⟨_,es,h2.symm,h1,by simp[hu],hu⟩
   ·rename_i gs hu
    cases hst:P.stoodInHeld f.type
    ·rw[hst]at hk
     simp only[cond_false]at hk;split at hk
     ·rename_i k1 i Ql hi
      cases hsz:Nat.beq i.size k1.length
      ·rw[hsz]at hk;cases hk
      ·rw[hsz]at hk
       simp only[cond_true]at hk;obtain⟨es,h1,h2⟩:=Option.map_eq_some_iff.1 hk;exact .inr ⟨k1,es,gs,i,h2.symm,h1,by simp[hu],hu,rfl,Ql,hi,Nat.eq_of_beq_eq_true hsz⟩
     ·cases hk
    ·rw[hst]at hk;cases hk
   ·cases hk
  rcases hty with⟨ek,es,rfl,hks,hag,hu⟩|⟨k1,es,gs,i,rfl,hks,hag,hu,hst,Ql,hi,hsz⟩
  ·obtain⟨x,l',y,m',q,q',rfl,rfl,yq,JT,rfl⟩:=ov hq
   simp only[List.length_cons]at hxl Xe;have Xf:off<xs.size:=by omega
   have Xg:off<ys.size:=by omega
   have Tt:xs[off]? =some xs[off]:=Array.getElem?_eq_getElem Xf;have Tv:ys[off]? =some ys[off]:=Array.getElem?_eq_getElem Xg;have hx0:=hl 0 x xs[off] rfl Tt;have hy0:=hm 0 y ys[off] rfl Tv
   have hpart: ∀(zs:Array Value) z,zs[off]? =some z->(part f.type zs f.offset).run P w= .ok z w:=by
    intro zs z hz;simp[part,hO hag,Wy,hz]
   have hrun:(Op.equalIn (d+2) f.type xs[off] ys[off]).run P w= .ok q w:=by
    unfold vW at yq;split at yq
    ·rename_i k a k' b
     split at yq
     ·rename_i hkk
      cases yq
      obtain⟨kk,hu⟩:=hu;rw[hx0.bQ,hy0.bQ,ou.1 hkk];exact run_equalIn_int w (d+1) f.type k' kk a b hu
     ·cases yq
    ·cases yq
     rw[hx0.eJ,hy0.eJ,run_equalIn_string w (d+1) f.type _ _ hu];simp
    ·cases yq
     rw[hx0.dm,hy0.dm];exact run_equalIn_bool' w (d+1) f.type _ _ hu
    ·cases yq
   simp only[Op.eqFields,hn',ne_eq,not_false_eq_true,if_true,Sem.run_bind,hpart xs _ Tt,hpart ys _ Tv,Result.andThen_ok,hrun]
   have yZ:=ow d xs ys fs (off+1) l' m' q' es hks (fun i v z hv hz=>hl (i+1) v z (by simpa using hv) (by simpa[Nat.add_assoc,Nat.add_comm 1 i]using hz))
    (fun i v z hv hz=>hm (i+1) v z (by simpa using hv) (by simpa[Nat.add_assoc,Nat.add_comm 1 i]using hz)) (by omega) (by omega) JT
   cases q
   ·simp
   ·simp[yZ]
  ·obtain⟨q,q',yq,JT,rfl⟩:=pK hq
   have hfo:P.fieldsOf f.type=gs:=by simp[Program.fieldsOf,hu]
   have hpart: ∀(zs:Array Value),(part f.type zs f.offset).run P w= .ok (.agg (zs.extract off (off+k1.length))) w:=by
    intro zs;simp[part,hO hag,Wy,dy hi,hsz]
   have hrun:(Op.equalIn (d+2) f.type (.agg (xs.extract off (off+k1.length))) (.agg (ys.extract off (off+k1.length)))).run P w= .ok q w:=by
    rw[run_equalIn_struct (P:=P) w (d+1) f.type _ _ (by rw[hfo];exact hu) hst,hfo];refine uC (c:=c) (h:=h) d _ _ gs.toList 0 (l.take k1.length) (m.take k1.length) q k1 Ql (fun j v z hv hz=> ?_) (fun j v z hv hz=> ?_) (by simp;omega) (by simp;omega) yq
    ·rw[List.getElem?_take]at hv
     split at hv
     ·rw[Array.getElem?_extract]at hz
      split at hz
      ·exact hl j v z hv (by simpa using hz)
      ·cases hz
     ·cases hv
    ·rw[List.getElem?_take]at hv
     split at hv
     ·rw[Array.getElem?_extract]at hz
      split at hz
      ·exact hm j v z hv (by simpa using hz)
      ·cases hz
     ·cases hv
   simp only[Op.eqFields,hn',ne_eq,not_false_eq_true,if_true,Sem.run_bind,hpart xs,hpart ys,Result.andThen_ok,hrun]
   have yZ:=ow d xs ys fs (off+k1.length) (l.drop k1.length) (m.drop k1.length) q' es hks
    (fun j v z hv hz=>hl (k1.length+j) v z (by rw[List.getElem?_drop]at hv;exact hv) (by rw[Nat.add_assoc]at hz;exact hz))
    (fun j v z hv hz=>hm (k1.length+j) v z (by rw[List.getElem?_drop]at hv;exact hv) (by rw[Nat.add_assoc]at hz;exact hz)) (by
     have hlen:=pL yq;simp at hlen ⊢;omega) (by
     have hlen:=pL yq;simp at hlen ⊢;omega) JT
   cases q
   ·simp
   ·simp[yZ]
theorem BP(he:ER c h w e a.tmps){op:BinOp}{t yt:TypeId}{x y:Operand}(ho:o.op= .binOp op t x y yt)(hp:bF P Γ (.bin op (aD x) (aD y)) e h k kp):dW P c h w a o k:=by
 simp only[bF,aE]at hp;have hx:=he.ev x;have hy:=he.ev y;split at hp
 ·rename_i h1 h2
  rw[h1]at hx;rw[h2]at hy
  obtain⟨v,z,hk,hr,hv⟩:=HM (P:=P) (c:=c) (h:=h) (w:=w) op t hp;refine .of v z hk ?_ hv;simp[execOp,ho,hx.bQ,hy.bQ,eqGuard_at_int,hr]
 ·rename_i h1 h2
  rw[h1]at hx;rw[h2]at hy
  obtain⟨v,z,hk,hr,hv⟩:=HN (P:=P) (c:=c) (h:=h) (w:=w) op t hp;refine .of v z hk ?_ hv;simp[execOp,ho,hx.eJ,hy.eJ,eqGuard_at_string,hr]
 ·exact hp.elim
theorem BQ(he:ER c h w e a.tmps){neg:Bool}{t yt:TypeId}{x y:Operand}(ho:o.op= .binOp (if neg then .neq else .eql) t x y yt)(hu:P.underlying t=some .bool)
  (hp:bF P Γ (.F0 neg (aD x) (aD y)) e h k kp):dW P c h w a o k:=by
 simp only[bF,aE]at hp;have hx:=he.ev x;have hy:=he.ev y;split at hp
 ·rename_i p q h1 h2
  rw[h1]at hx;rw[h2]at hy
  have hq:(Op.equal t (.bool p) (.bool q)).run P w= .ok (p==q) w:=run_equalIn_bool' w 9999 t p q hu;cases neg
  ·refine .of _ _ hp ?_ .bool
   simp[execOp,ho,hx.dm,hy.dm,eqGuard_at_bool,binOp,hq]
  ·refine .of _ _ hp ?_ .bool
   simp[execOp,ho,hx.dm,hy.dm,eqGuard_at_bool,binOp,hq]
 ·exact hp.elim
theorem BR(he:ER c h w e a.tmps){neg:Bool}{t yt:TypeId}{x y:Operand}{fs:Array Field}{ks:List FZ}(ho:o.op= .binOp (if neg then .neq else .eql) t x y yt)(hu:P.underlying t=some (.struct fs))
  (hs:P.stoodInHeld t=false)(hg:P.eqGuardType P.depth t=false)(hks:gG P 0 fs.toList=some ks)
  (hp:bF P Γ (.r7 neg ks (aD x) (aD y)) e h k kp):dW P c h w a o k:=by
 simp only[bF,aE]at hp;have hx:=he.ev x;have hy:=he.ev y;split at hp
 ·rename_i l m h1 h2
  rw[h1]at hx;rw[h2]at hy
  obtain⟨xs,dA,hxl,ZQ⟩:=hx.iJ;obtain⟨ys,HO,hyl,Wz⟩:=hy.iJ;split at hp
  ·rename_i p hq
   have hfo:P.fieldsOf t=fs:=by simp[Program.fieldsOf,hu]
   have hrun:=ow (P:=P) (c:=c) (h:=h) (w:=w) 9997 xs ys fs.toList 0 l m p ks hks (fun i v x hv hx=>ZQ i v x hv (by simpa using hx)) (fun i v x hv hx=>Wz i v x hv (by simpa using hx)) (by omega) (by omega) hq;have he:=run_equalIn_struct (P:=P) w 9999 t xs ys (by rw[hfo];exact hu) hs;rw[hfo,hrun]at he;cases neg
   ·refine .of _ _ hp ?_ .bool
    simp[execOp,ho,dA,HO,run_eqGuard_agg w _ t x y xs ys hg,run_eql_struct,he]
   ·refine .of _ _ hp ?_ .bool
    simp[execOp,ho,dA,HO,run_eqGuard_agg w _ t x y xs ys hg,run_neq_struct,he]
  ·exact hp.elim
 ·exact hp.elim
theorem M9(he:ER c h w e a.tmps){u:UnOp}{t:TypeId}{x:Operand}(ho:o.op= .unOp u t x)(hp:bF P Γ (.un u (aD x)) e h k kp):dW P c h w a o k:=by
 simp only[bF,aE]at hp;have hx:=he.ev x;split at hp
 ·rename_i h1
  rw[h1]at hx;refine .of _ _ hp ?_ .bool;simp[execOp,ho,hx.dm,Op.unary]
 ·rename_i h1
  rw[h1]at hx;refine .of _ _ hp ?_ .int;simp[execOp,ho,hx.bQ,Op.unary,Op.intArith]
 ·rename_i h1
  rw[h1]at hx;refine .of _ _ hp ?_ .int;simp[execOp,ho,hx.bQ,Op.unary,Op.intBits,kV]
 ·exact hp.elim
theorem HP(he:ER c h w e a.tmps){s d:TypeId}{x:Operand}{kd ks:IntKind}(ho:o.op= .convert s d x)(hs:P.underlying s=some (.int ks))(hd:P.underlying d=some (.int kd))
  (hp:bF P Γ (.conv kd (aD x)) e h k kp):dW P c h w a o k:=by
 simp only[bF,aE]at hp;have hx:=he.ev x;split at hp
 ·rename_i h1
  rw[h1]at hx;refine .of _ _ hp ?_ .int;simp[execOp,ho,hx.bQ,convert,run_underlying hs,run_underlying hd,Conv.intToInt]
 ·exact hp.elim
theorem Aq(he:ER c h w e a.tmps){s d:TypeId}{x:Operand}(ho:o.op= .convert s d x)(hs:P.underlying s=some .string)(hd:P.underlying d=some .string)
  (hp:bF P Γ (.rA (aD x)) e h k kp):dW P c h w a o k:=by
 simp only[bF,aE]at hp;have hx:=he.ev x;split at hp
 ·rename_i h1
  rw[h1]at hx;refine .of _ _ hp ?_ .str;simp[execOp,ho,hx.eJ,convert,run_underlying hs,run_underlying hd]
 ·exact hp.elim
theorem sg(he:ER c h w e a.tmps)(xs:Array Operand)(i:Nat)(v:SV)(y:Value)(hv:((xs.toList.map aD).map (aY.ev e))[i]? =some v)(hy:(xs.map a.eval)[i]? =some y):VR c h w v y:=by
 simp only[List.map_map,List.getElem?_map,Option.map_eq_some_iff,Array.getElem?_toList]at hv;obtain⟨x,hx,rfl⟩:=hv;rw[Array.getElem?_map,hx]at hy;cases hy
 exact he.ev x
theorem BS(he:ER c h w e a.tmps){fn:Fn}{xs ys:Array Operand}(ho:o.op= .makeFunc fn xs ys)(hp:bF P Γ (.cX fn (xs.toList.map aD) (ys.toList.map aD)) e h k kp):dW P c h w a o k:=by
 simp only[bF,kZ]at hp;refine .of _ (.func fn (xs.map a.eval) (ys.map a.eval)) hp (by simp[execOp,ho,Instr.makeFunc]) (.func _ _ _ _ _ (by simp) (by simp) (sg he xs) (sg he ys))
theorem Ar(he:ER c h w e a.tmps){t:TypeId}{x:Operand}{d:TypeDesc}(ho:o.op= .makeInterface t x)(hu:P.underlying t=some d)(hd: ∀ms,d≠ .interface ms)
  (hp:bF P Γ (.eL t (aD x)) e h k kp):dW P c h w a o k:=by
 simp only[bF,aE]at hp;refine .of _ _ hp ?_ (.iface _ _ _ (he.ev x));simp only[execOp,ho,Instr.makeInterface,Sem.run_bind,run_underlying hu,Result.andThen_ok];cases d<;>first|exact absurd rfl (hd _)|rfl
theorem y4{i g:Nat}{p:Prop}(hp:vV h i g p):p/\ ∃o,h.obj i=some o/\o.gen=g:=by
 obtain⟨n,l⟩:=h;unfold vV at hp;simp only[bg]at hp;split at hp
 ·rename_i ob bZ
  split at hp
  ·replace hp:=ah.1 hp
   exact⟨hp.2,_,bZ,Nat.eq_of_beq_eq_true hp.1⟩
  ·replace hp:=ah.1 hp
   exact⟨hp.2,_,bZ,Nat.eq_of_beq_eq_true hp.1⟩
  ·exact hp.elim
 ·exact hp.elim
theorem y5{i g:Nat}{p:Prop}(hp:vV h i g p):p/\ ∀q:Prop,q->vV h i g q:=by
 obtain⟨n,l⟩:=h;unfold vV at hp ⊢;simp only[bg]at hp ⊢;split at hp
 ·rename_i ob bZ
  split at hp
  ·replace hp:=ah.1 hp;exact⟨hp.2,fun q hq=>ah.2 ⟨hp.1,hq⟩⟩
  ·replace hp:=ah.1 hp;exact⟨hp.2,fun q hq=>ah.2 ⟨hp.1,hq⟩⟩
  ·exact hp.elim
 ·exact hp.elim
theorem eR{i g:Nat}{p:Prop}(hp:gF h i g p):p/\ ∃sz elems sk,h.obj i=some (.vec g sz elems sk):=by
 obtain⟨n,l⟩:=h;unfold gF at hp;simp only[bg]at hp;split at hp
 ·rename_i ob bZ
  split at hp
  ·replace hp:=ah.1 hp
   obtain⟨hg,hp⟩:=hp;have hg:=Nat.eq_of_beq_eq_true hg;exact⟨hp,_,_,_,by rw[<- hg];exact bZ⟩
  ·exact hp.elim
 ·exact hp.elim
theorem JU{i g idx sub:Nat}{x:Value}(hx:VR c h w (.ref i g idx sub) x){p:Prop}(hp:gF h i g p):
  p/\ ∃q,x= .pointer (some ⟨c.β i,q+sub,none⟩)/\ ∀sub',VR c h w (.ref i g idx sub') (.pointer (some ⟨c.β i,q+sub',none⟩)):=by
 obtain⟨hp,sz,elems,sk,bZ⟩:=eR hp;refine⟨hp,idx*sz,hx.eK bZ rfl,fun sub'=> ?_⟩;cases hx with
 |pure hx=>cases hx
 |ref _ _ _ _ _ _ hi hg _=>
  refine .ref _ _ _ _ _ ⟨_,rfl⟩ hi hg fun o' ho' _=> ?_
  rw[bZ]at ho';cases ho';rfl
theorem we(he:ER c h w e a.tmps){s:TypeId}{x:Operand}{f:Nat}{fs:Array Field}{fd:Field}{i:TypeInfo}(ho:o.op= .fieldAddr s x f)(hu:P.underlying s=some (.struct fs))(hf:fs[f]? =some fd)
  (hi:P.info? fd.type=some i)(hz:i.size≠0)(hp:bF P Γ (.fieldAddr fd.offset (aD x)) e h k kp):dW P c h w a o k:=by
 simp only[bF,aE]at hp;have hx:=he.ev x
 have hrun: ∀b q,a.eval x= .pointer (some ⟨b,q,none⟩)->(execOp a.eval o).run P w= .ok (.value (.pointer (some ⟨b,q+fd.offset,none⟩))) w:=by
  intro b q hq;simp[execOp,ho,hq,Instr.fieldAt,run_underlying hu,hf,Instr.sureAddr,fieldPlace,dy hi,hz,add_eq]
 split at hp
 ·rename_i h1
  rw[h1]at hx;obtain⟨hp,q,hq,hv⟩:=JU hx hp;refine .of _ _ hp (hrun _ _ hq) ?_;rw[Nat.add_assoc];exact hv _
 ·rename_i v sub h1
  rw[h1]at hx;obtain⟨b,q,C,ty,fz,hq,hb,hw,hn,hc⟩:=hx.vt;refine .of _ _ hp (hrun _ _ hq) ?_;rw[Nat.add_assoc];exact .pure (.kK _ _ _ _ _ _ _ hb hw hn hc)
 ·exact hp.elim
theorem wg(he:ER c h w e a.tmps){t:TypeId}{x:Operand}{f:Nat}{fs:Array Field}{fd:Field}(ho:o.op= .field t x f)(hu:P.underlying t=some (.struct fs))(hf:fs[f]? =some fd):
  (kO P fd.type=some false->bF P Γ (.om fd.offset (aD x)) e h k kp->dW P c h w a o k)/\
  (∀ i,kO P fd.type=some true->P.info? fd.type=some i->bF P Γ (.rB fd.offset i.size (aD x)) e h k kp->dW P c h w a o k):=by
 have hx:=he.ev x;refine⟨fun hag hp=> ?_,fun i hag hi hp=> ?_⟩
 ·simp only[bF,aE]at hp
  split at hp
  ·rename_i l h1
   rw[h1]at hx;obtain⟨cs,hcs,hl,hc⟩:=hx.iJ;rw[cM]at hp;split at hp
   ·rename_i v hv
    have hlt:fd.offset<l.length:=by
     rcases Nat.lt_or_ge fd.offset l.length with h|h
     ·exact h
     ·rw[List.getElem?_eq_none h]at hv;cases hv
    have hy:cs[fd.offset]? =some cs[fd.offset]:=Array.getElem?_eq_getElem (by omega);refine .of v cs[fd.offset] hp ?_ (hc _ v _ hv hy);simp[execOp,ho,hcs,Instr.field,run_underlying hu,hf,asAgg,part,hO hag,hy]
   ·exact hp.elim
  ·exact hp.elim
 ·simp only[bF,aE]at hp
  split at hp
  ·rename_i l h1
   rw[h1]at hx;obtain⟨cs,hcs,hl,hc⟩:=hx.iJ;obtain⟨h2,hp⟩:=dQ.1 hp;obtain⟨h3,hp⟩:=cU.1 hp;simp only[List.length_drop]at h3;refine .of _ (.agg (cs.extract fd.offset (fd.offset+i.size))) hp ?_ (.agg _ _ ?_ fun j v y hv hy=> ?_)
   ·simp[execOp,ho,hcs,Instr.field,run_underlying hu,hf,asAgg,part,hO hag,dy hi]
   ·simp;omega
   ·simp only[List.getElem?_take,List.getElem?_drop]at hv
    split at hv
    ·rename_i hj
     rw[Array.getElem?_extract]at hy;split at hy
     ·exact hc (fd.offset+j) v y hv hy
     ·cases hy
    ·cases hv
  ·exact hp.elim
theorem Ei(he:ER c h w e a.tmps){t:TypeId}{x i:Operand}(ho:o.op= .index t x i)(hu:P.underlying t=some .string)(hp:bF P Γ (.index (aD x) (aD i)) e h k kp):dW P c h w a o k:=by
 simp only[bF,aE]at hp;have hx:=he.ev x;have hi:=he.ev i;split at hp
 ·rename_i s kk j h1 h2
  rw[h1]at hx;rw[h2]at hi
  replace hp:=ah.1 hp
  obtain⟨hb,hp⟩:=hp;simp only[Bool.and_eq_true,decide_eq_true_eq]at hb;refine .of _ _ hp ?_ .int;have hlt:j.toNat<s.length:=by omega
  have hU:(ByteArray.mk s.toArray)[j.toNat]? =some s[j.toNat]:=by
   have:j.toNat<(ByteArray.mk s.toArray).size:=by simpa[ByteArray.size]using hlt
   rw[getElem?_pos (ByteArray.mk s.toArray) j.toNat this];rfl
  simp[execOp,ho,hx.eJ,hi.bQ,Instr.index,run_underlying hu,asIntOf,hb.1,hU,hlt]
 ·exact hp.elim
theorem As(he:ER c h w e a.tmps){x:Operand}{i:Nat}(ho:o.op= .extract x i)(hp:bF P Γ (.extract (aD x) i) e h k kp):dW P c h w a o k:=by
 simp only[bF,aE]at hp;have hx:=he.ev x;split at hp
 ·rename_i l h1
  rw[h1]at hx;obtain⟨cs,hcs,hl,hc⟩:=hx.mh;rw[cM]at hp;split at hp
  ·rename_i v hv
   have hlt:i<l.length:=by
    rcases Nat.lt_or_ge i l.length with h|h
    ·exact h
    ·rw[List.getElem?_eq_none h]at hv;cases hv
   have hy:cs[i]? =some cs[i]:=Array.getElem?_eq_getElem (by omega);refine .of v cs[i] hp ?_ (hc _ v _ hv hy);simp[execOp,ho,hcs,Instr.extract,hy]
  ·exact hp.elim
 ·exact hp.elim
end
end
end Ab
