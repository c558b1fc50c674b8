/- Parts of the proof of PParserDepth, one behind the other, with short names. -/
import Derived.Test.YtbjifmbemdhndaaGreatDoorY3
import Derived.Laws.StructEq
import Derived.Laws.Strings
import Derived.Laws.Cover1
set_option linter.unusedVariables false
set_option linter.unusedSimpArgs false
namespace Ab
open Go
section
section
variable {P:Program} {Γ:bH} {c:Cx} {h:Heap} {w:World} {e:Env} {a:Act} {o:Oper} {k kp:SV->Heap->Prop}
theorem dM.of(v:SV)(x:Value)(hk:k v h)(hrun:(execOp a.eval o).run P w= .ok (.value x) w)(hv:VR c h w v x):dM P c h w a o k:=⟨v,x,hk,hrun,hv⟩
theorem yU(he:ER c h w e a.tmps){x:Operand}(ho:o.op= .move x\/o.op= .assign x)(hp:bw P Γ (.aS (aC x)) e h k kp):dM P c h w a o k:=by
 simp only[bw,aE]at hp;refine .of _ (a.eval x) hp ?_ (he.ev x);rcases ho with ho|ho<;>simp[execOp,ho]
theorem EI(he:ER c h w e a.tmps){x y z:Operand}(ho:o.op= .pick x y z)(hp:bw P Γ (.pick (aC x) (aC y) (aC z)) e h k kp):dM P c h w a o k:=by
 simp only[bw,aE]at hp;have hx:=he.ev x;have hy:=he.ev y;have hz:=he.ev z;split at hp
 ·rename_i b hb
  rw[hb]at hx;have hx:=hx.cP;have hrun:(execOp a.eval o).run P w= .ok (.value (if b then a.eval y else a.eval z)) w:=by simp[execOp,ho,hx,asBool]
  cases b
  ·exact .of _ _ hp hrun hz
  ·exact .of _ _ hp hrun hy
 ·exact hp.elim
theorem mo{k k':IntKind}:J2 k k'=true<->k=k':=by cases k<;>cases k'<;>simp[J2]
theorem EJ(op:BinOp)(t:TypeId){kk k':IntKind}{m n:Int}{K:SV->Prop}(hp:arith op kk k' m n K):
  ∃v x,K v/\(binOp op t (.int kk m) (.int k' n)).run P w= .ok x w/\VR c h w v x:=by
 by_cases hsh:op= .shl\/op= .shr
 ·rcases hsh with rfl|rfl
  ·simp only[arith]at hp
   replace hp:=ah.1 hp
   obtain⟨h0,hp⟩:=hp;simp only[decide_eq_true_eq]at h0;exact⟨_,_,hp,by simp[binOp_shl,Op.shift,Int.not_lt.2 h0],.int⟩
  ·simp only[arith]at hp
   replace hp:=ah.1 hp
   obtain⟨h0,hp⟩:=hp;simp only[decide_eq_true_eq]at h0;exact⟨_,_,hp,by simp[binOp_shr,Op.shift,Int.not_lt.2 h0],.int⟩
 have hkk:kk=k':=by
  cases op<;>first|exact absurd (.inl rfl) hsh|exact absurd (.inr rfl) hsh|exact mo.1 (ah.1 hp).1
 subst hkk;cases op<;>first|exact absurd (.inl rfl) hsh|exact absurd (.inr rfl) hsh|skip
 all_goals (simp only[arith]at hp;replace hp:=(ah.1 hp).2)
 case quo=>
  replace hp:=ah.1 hp
  obtain⟨h0,hp⟩:=hp;simp only[Bool.not_eq_true',decide_eq_false_iff_not]at h0;exact⟨_,_,hp,by simp[binOp_quo,Op.intDiv,h0],.int⟩
 case rem=>
  replace hp:=ah.1 hp
  obtain⟨h0,hp⟩:=hp;simp only[Bool.not_eq_true',decide_eq_false_iff_not]at h0;exact⟨_,_,hp,by simp[binOp_rem,Op.intDiv,h0],.int⟩
 case add=>exact⟨_,_,hp,by simp[binOp_add,Op.intArith],.int⟩
 case sub=>exact⟨_,_,hp,by simp[binOp_sub,Op.intArith],.int⟩
 case mul=>exact⟨_,_,hp,by simp[binOp_mul,Op.intArith],.int⟩
 case and=>exact⟨_,_,hp,by simp[binOp_and,Op.intBits,jc],.int⟩
 case or=>exact⟨_,_,hp,by simp[binOp_or,Op.intBits,jc],.int⟩
 case xor=>exact⟨_,_,hp,by simp[binOp_xor,Op.intBits,jc],.int⟩
 case andNot=>exact⟨_,_,hp,by simp[binOp_andNot,Op.intBits,jc],.int⟩
 case eql=>exact⟨_,_,hp,by simp[binOp_eql],.bool⟩
 case neq=>exact⟨_,_,hp,by simp[binOp_neq],.bool⟩
 case lss=>exact⟨_,_,hp,by simp[binOp_lss],.bool⟩
 case leq=>exact⟨_,_,hp,by simp[binOp_leq],.bool⟩
 case gtr=>exact⟨_,_,hp,by simp[binOp_gtr],.bool⟩
 case geq=>exact⟨_,_,hp,by simp[binOp_geq],.bool⟩
theorem EK(op:BinOp)(t:TypeId){m n:List UInt8}{K:SV->Prop}(hp:vM op m n K):
  ∃v x,K v/\(binOp op t (.string ⟨m.toArray⟩) (.string ⟨n.toArray⟩)).run P w= .ok x w/\VR c h w v x:=by
 cases op<;>simp only[vM]at hp<;>try exact hp.elim
 case add=>
  obtain⟨h0,hp⟩:=ah.1 hp;simp only[decide_eq_true_eq]at h0;refine⟨_,_,hp,?_,.str⟩;have hs:(ByteArray.mk m.toArray).size=m.length:=by simp[ByteArray.size]
  have hs':(ByteArray.mk n.toArray).size=n.length:=by simp[ByteArray.size]
  have: ¬((m.length+n.length:Nat):Int)>IntKind.i64.max:=by simp;omega
  simp only[binOp,Op.stringOp,hs,hs',this,if_false]
  have hap:(ByteArray.mk m.toArray++ByteArray.mk n.toArray)=ByteArray.mk (m++n).toArray:=by
   apply ByteArray.ext
   simp
  rw[hap];rfl
 case eql=>exact⟨_,_,hp,by simp[binOp_string_eql],.bool⟩
 case neq=>exact⟨_,_,hp,by simp[binOp_string_neq],.bool⟩
 case lss=>exact⟨_,_,hp,by simp[binOp_string_lss,kD],.bool⟩
 case leq=>exact⟨_,_,hp,by simp[binOp_string_leq,kD],.bool⟩
 case gtr=>exact⟨_,_,hp,by simp[binOp_string_gtr,kD],.bool⟩
 case geq=>exact⟨_,_,hp,by simp[binOp_string_geq,kD],.bool⟩
theorem sj(d:Nat)(xs ys:Array Value): ∀(fs:List Field) (off:Nat) (l m:List SV) (p:Bool) (ks:List Dv),jg P off fs=some ks->
  (∀ (i:Nat) (v:SV) (x:Value),l[i]? =some v->xs[off+i]? =some x->VR c h w v x)->(∀ (i:Nat) (v:SV) (x:Value),m[i]? =some v->ys[off+i]? =some x->VR c h w v x)->
  off+l.length<=xs.size->off+m.length<=ys.size->
  cF ks l m=some p->(Op.eqFields (d+1) xs ys fs).run P w= .ok p w
 | [],off,l,m,p,ks,hk,_,_,_,_,hq=>by
   simp only[jg,Option.some.injEq]at hk;subst hk;simp only[cF,Option.some.injEq]at hq;subst hq;rfl
 |f::fs,off,l,m,p,ks,hk,hl,hm,hxl,RK,hq=>by
  simp only[jg]at hk;cases aJ:(f.name != "_" &&Nat.beq f.offset off)
  ·rw[aJ]at hk;cases hk
  rw[aJ]at hk;simp only[cond_true]at hk;simp only[Bool.and_eq_true]at aJ;obtain⟨hn,ho⟩:=aJ;have Rl:=Nat.eq_of_beq_eq_true ho
  have hty: ∃ek es,ks=ek::es/\jg P (off+1) fs=some es/\ja P f.type=some false/\
    (match ek with| .int=> ∃k,P.underlying f.type=some (.int k)| .str=>P.underlying f.type=some .string| .bool=>P.underlying f.type=some .bool):=by
   unfold ja;split at hk
   ·rename_i k hu
    obtain⟨es,h1,h2⟩:=Option.map_eq_some_iff.1 hk;exact⟨_,es,h2.symm,h1,by simp[hu],⟨k,hu⟩⟩
   ·rename_i hu
    obtain⟨es,h1,h2⟩:=Option.map_eq_some_iff.1 hk;exact⟨_,es,h2.symm,h1,by simp[hu],hu⟩
   ·rename_i hu
    obtain⟨es,h1,h2⟩:=Option.map_eq_some_iff.1 hk;exact⟨_,es,h2.symm,h1,by simp[hu],hu⟩
   ·cases hk
  obtain⟨ek,es,rfl,hks,hag,hu⟩:=hty;cases l with
  |nil=>simp[cF]at hq
  |cons x l=>
  cases m with
  |nil=>simp[cF]at hq
  |cons y m=>
  simp only[List.length_cons]at hxl RK;have RL:off<xs.size:=by omega
  have RM:off<ys.size:=by omega
  have OW:xs[off]? =some xs[off]:=Array.getElem?_eq_getElem RL;have OX:ys[off]? =some ys[off]:=Array.getElem?_eq_getElem RM;have hx0:=hl 0 x xs[off] rfl OW;have hy0:=hm 0 y ys[off] rfl OX
  have hpart: ∀(zs:Array Value) z,zs[off]? =some z->(part f.type zs f.offset).run P w= .ok z w:=by
   intro zs z hz;simp[part,fT hag,Rl,hz]
  unfold cF at hq;generalize vh:tH ek x y=hd at hq
  have yV: ∀q,hd=some q->(Op.equalIn (d+1) f.type xs[off] ys[off]).run P w= .ok q w:=by
   intro q Vc;subst Vc;unfold tH at vh;split at vh
   ·rename_i k a k' b
    split at vh
    ·rename_i hkk
     cases vh
     obtain⟨kk,hu⟩:=hu;rw[hx0.bF,hy0.bF,mo.1 hkk];exact run_equalIn_int w d f.type k' kk a b hu
    ·cases vh
   ·cases vh
    rw[hx0.eu,hy0.eu,run_equalIn_string w d f.type _ _ hu];simp
   ·cases vh
    rw[hx0.cP,hy0.cP];exact run_equalIn_bool' w d f.type _ _ hu
   ·cases vh
  have hn':f.name≠ "_" :=by simpa using hn
  cases hd with
  |none=>exact absurd hq (by simp)
  |some q=>
  dsimp only at hq;have hrun:=yV q rfl;simp only[Op.eqFields,hn',ne_eq,not_false_eq_true,if_true,Sem.run_bind,hpart xs _ OW,hpart ys _ OX,Result.andThen_ok,hrun]
  have vP: ∀q',cF es l m=some q'->(Op.eqFields (d+1) xs ys fs).run P w= .ok q' w:=fun q' Iv=>
   sj d xs ys fs (off+1) l m q' es hks (fun i v z hv hz=>hl (i+1) v z (by simpa using hv) (by simpa[Nat.add_assoc,Nat.add_comm 1 i]using hz))
    (fun i v z hv hz=>hm (i+1) v z (by simpa using hv) (by simpa[Nat.add_assoc,Nat.add_comm 1 i]using hz)) (by omega) (by omega) Iv
  split at hq
  ·cases hq
   have:=vP true (by simp[cF]);cases p<;>simp[this]
  ·obtain⟨q',Iv,rfl⟩:=Option.map_eq_some_iff.1 hq
   cases q
   ·simp
   ·simp[vP q' Iv]
theorem mq{e:Dv}{es:List Dv}{l m:List SV}{p:Bool}(hq:cF (e::es) l m=some p): ∃x l' y m' q0 q,l=x::l'/\m=y::m'/\tH e x y=some q0/\cF es l' m'=some q/\p=(q0&&q):=by
 cases l with
 |nil=>simp[cF]at hq
 |cons x l=>
 cases m with
 |nil=>simp[cF]at hq
 |cons y m=>
 unfold cF at hq;cases h1:tH e x y with
 |none=>rw[h1]at hq;simp at hq
 |some q0=>
  rw[h1]at hq;dsimp only at hq;split at hq
  ·cases hq
   exact⟨x,l,y,m,p,true,rfl,rfl,h1,by simp[cF],by simp⟩
  ·obtain⟨q,Iv,rfl⟩:=Option.map_eq_some_iff.1 hq
   exact⟨x,l,y,m,q0,q,rfl,rfl,h1,Iv,rfl⟩
theorem Bm{e:Dv}{es:List Dv}{x y:SV}{l m:List SV}{q0 q:Bool}(h0:tH e x y=some q0)(h1:cF es l m=some q):cF (e::es) (x::l) (y::m)=some (q0&&q):=by
 unfold cF;rw[h0];cases es with
 |nil=>simp only[cF,Option.some.injEq]at h1;subst h1;simp
 |cons e' es=>simp[h1]
theorem nE: ∀ {k1 k2:List Dv} {l m:List SV} {p:Bool},cF (k1++k2) l m=some p->
  ∃q1 q2,cF k1 (l.take k1.length) (m.take k1.length)=some q1/\cF k2 (l.drop k1.length) (m.drop k1.length)=some q2/\p=(q1&&q2)
 | [],k2,l,m,p,hq=>⟨true,p,by simp[cF],hq,by simp⟩
 |e::k1,k2,l,m,p,hq=>by
  obtain⟨x,l',y,m',q0,q,rfl,rfl,h1,h2,rfl⟩:=mq hq;obtain⟨q1,q2,h3,h4,rfl⟩:=nE h2;exact⟨q0&&q1,q2,by simpa using Bm h1 h3,by simpa using h4,by simp[Bool.and_assoc]⟩
theorem nF: ∀ {k1:List Dv} {l m:List SV} {p:Bool},cF k1 l m=some p->k1.length<=l.length/\k1.length<=m.length
 | [],l,m,p,_=>⟨Nat.zero_le _,Nat.zero_le _⟩
 |e::k1,l,m,p,hq=>by
  obtain⟨x,l',y,m',q0,q,rfl,rfl,h1,h2,rfl⟩:=mq hq;have:=nF h2;simp only[List.length_cons];omega
theorem mw(d:Nat)(xs ys:Array Value): ∀(fs:List Field) (off:Nat) (l m:List SV) (p:Bool) (ks:List Dv),fK P off fs=some ks->
  (∀ (i:Nat) (v:SV) (x:Value),l[i]? =some v->xs[off+i]? =some x->VR c h w v x)->(∀ (i:Nat) (v:SV) (x:Value),m[i]? =some v->ys[off+i]? =some x->VR c h w v x)->
  off+l.length<=xs.size->off+m.length<=ys.size->
  cF ks l m=some p->(Op.eqFields (d+2) xs ys fs).run P w= .ok p w
 | [],off,l,m,p,ks,hk,_,_,_,_,hq=>by
   simp only[fK,Option.some.injEq]at hk;subst hk;simp only[cF,Option.some.injEq]at hq;subst hq;rfl
 |f::fs,off,l,m,p,ks,hk,hl,hm,hxl,RK,hq=>by
  simp only[fK]at hk;cases aJ:(f.name != "_" &&Nat.beq f.offset off)
  ·rw[aJ]at hk;cases hk
  rw[aJ]at hk;simp only[cond_true]at hk;simp only[Bool.and_eq_true]at aJ;obtain⟨hn,ho⟩:=aJ;have Rl:=Nat.eq_of_beq_eq_true ho;have hn':f.name≠ "_" :=by simpa using hn
  have hty:(∃ ek es,ks=ek::es/\fK P (off+1) fs=some es/\ja P f.type=some false/\
    (match ek with| .int=> ∃k,P.underlying f.type=some (.int k)| .str=>P.underlying f.type=some .string| .bool=>P.underlying f.type=some .bool))\/
    (∃ k1 es gs i,ks=k1++es/\fK P (off+k1.length) fs=some es/\ja P f.type=some true/\P.underlying f.type=some (.struct gs)/\P.stoodInHeld f.type=false/\jg P 0 gs.toList=some k1/\P.info? f.type=some i/\i.size=k1.length):=by
   unfold ja;split at hk
   ·rename_i k hu
    obtain⟨es,h1,h2⟩:=Option.map_eq_some_iff.1 hk;exact .inl ⟨_,es,h2.symm,h1,by simp[hu],⟨k,hu⟩⟩
   ·rename_i hu
    obtain⟨es,h1,h2⟩:=Option.map_eq_some_iff.1 hk;exact .inl ⟨_,es,h2.symm,h1,by simp[hu],hu⟩
   ·rename_i hu
    obtain⟨es,h1,h2⟩:=Option.map_eq_some_iff.1 hk;exact .inl ⟨_,es,h2.symm,h1,by simp[hu],hu⟩
   ·rename_i gs hu
    cases hst:P.stoodInHeld f.type
    ·rw[hst]at hk
     simp only[cond_false]at hk;split at hk
     ·rename_i k1 i Iw hi
      cases hsz:Nat.beq i.size k1.length
      ·rw[hsz]at hk;cases hk
      ·rw[hsz]at hk
       simp only[cond_true]at hk;obtain⟨es,h1,h2⟩:=Option.map_eq_some_iff.1 hk;exact .inr ⟨k1,es,gs,i,h2.symm,h1,by simp[hu],hu,rfl,Iw,hi,Nat.eq_of_beq_eq_true hsz⟩
     ·cases hk
    ·rw[hst]at hk;cases hk
   ·cases hk
  rcases hty with⟨ek,es,rfl,hks,hag,hu⟩|⟨k1,es,gs,i,rfl,hks,hag,hu,hst,Iw,hi,hsz⟩
  ·obtain⟨x,l',y,m',q,q',rfl,rfl,vh,Iv,rfl⟩:=mq hq
   simp only[List.length_cons]at hxl RK;have RL:off<xs.size:=by omega
   have RM:off<ys.size:=by omega
   have OW:xs[off]? =some xs[off]:=Array.getElem?_eq_getElem RL;have OX:ys[off]? =some ys[off]:=Array.getElem?_eq_getElem RM;have hx0:=hl 0 x xs[off] rfl OW;have hy0:=hm 0 y ys[off] rfl OX
   have hpart: ∀(zs:Array Value) z,zs[off]? =some z->(part f.type zs f.offset).run P w= .ok z w:=by
    intro zs z hz;simp[part,fT hag,Rl,hz]
   have hrun:(Op.equalIn (d+2) f.type xs[off] ys[off]).run P w= .ok q w:=by
    unfold tH at vh;split at vh
    ·rename_i k a k' b
     split at vh
     ·rename_i hkk
      cases vh
      obtain⟨kk,hu⟩:=hu;rw[hx0.bF,hy0.bF,mo.1 hkk];exact run_equalIn_int w (d+1) f.type k' kk a b hu
     ·cases vh
    ·cases vh
     rw[hx0.eu,hy0.eu,run_equalIn_string w (d+1) f.type _ _ hu];simp
    ·cases vh
     rw[hx0.cP,hy0.cP];exact run_equalIn_bool' w (d+1) f.type _ _ hu
    ·cases vh
   simp only[Op.eqFields,hn',ne_eq,not_false_eq_true,if_true,Sem.run_bind,hpart xs _ OW,hpart ys _ OX,Result.andThen_ok,hrun]
   have vP:=mw d xs ys fs (off+1) l' m' q' es hks (fun i v z hv hz=>hl (i+1) v z (by simpa using hv) (by simpa[Nat.add_assoc,Nat.add_comm 1 i]using hz))
    (fun i v z hv hz=>hm (i+1) v z (by simpa using hv) (by simpa[Nat.add_assoc,Nat.add_comm 1 i]using hz)) (by omega) (by omega) Iv
   cases q
   ·simp
   ·simp[vP]
  ·obtain⟨q,q',vh,Iv,rfl⟩:=nE hq
   have hfo:P.fieldsOf f.type=gs:=by simp[Program.fieldsOf,hu]
   have hpart: ∀(zs:Array Value),(part f.type zs f.offset).run P w= .ok (.agg (zs.extract off (off+k1.length))) w:=by
    intro zs;simp[part,fT hag,Rl,cS hi,hsz]
   have hrun:(Op.equalIn (d+2) f.type (.agg (xs.extract off (off+k1.length))) (.agg (ys.extract off (off+k1.length)))).run P w= .ok q w:=by
    rw[run_equalIn_struct (P:=P) w (d+1) f.type _ _ (by rw[hfo];exact hu) hst,hfo];refine sj (c:=c) (h:=h) d _ _ gs.toList 0 (l.take k1.length) (m.take k1.length) q k1 Iw (fun j v z hv hz=> ?_) (fun j v z hv hz=> ?_) (by simp;omega) (by simp;omega) vh
    ·rw[List.getElem?_take]at hv
     split at hv
     ·rw[Array.getElem?_extract]at hz
      split at hz
      ·exact hl j v z hv (by simpa using hz)
      ·cases hz
     ·cases hv
    ·rw[List.getElem?_take]at hv
     split at hv
     ·rw[Array.getElem?_extract]at hz
      split at hz
      ·exact hm j v z hv (by simpa using hz)
      ·cases hz
     ·cases hv
   simp only[Op.eqFields,hn',ne_eq,not_false_eq_true,if_true,Sem.run_bind,hpart xs,hpart ys,Result.andThen_ok,hrun]
   have vP:=mw d xs ys fs (off+k1.length) (l.drop k1.length) (m.drop k1.length) q' es hks
    (fun j v z hv hz=>hl (k1.length+j) v z (by rw[List.getElem?_drop]at hv;exact hv) (by rw[Nat.add_assoc]at hz;exact hz))
    (fun j v z hv hz=>hm (k1.length+j) v z (by rw[List.getElem?_drop]at hv;exact hv) (by rw[Nat.add_assoc]at hz;exact hz)) (by
     have hlen:=nF vh;simp at hlen ⊢;omega) (by
     have hlen:=nF vh;simp at hlen ⊢;omega) Iv
   cases q
   ·simp
   ·simp[vP]
theorem yW(he:ER c h w e a.tmps){op:BinOp}{t yt:TypeId}{x y:Operand}(ho:o.op= .binOp op t x y yt)(hp:bw P Γ (.bin op (aC x) (aC y)) e h k kp):dM P c h w a o k:=by
 simp only[bw,aE]at hp;have hx:=he.ev x;have hy:=he.ev y;split at hp
 ·rename_i h1 h2
  rw[h1]at hx;rw[h2]at hy
  obtain⟨v,z,hk,hr,hv⟩:=EJ (P:=P) (c:=c) (h:=h) (w:=w) op t hp;refine .of v z hk ?_ hv;simp[execOp,ho,hx.bF,hy.bF,eqGuard_at_int,hr]
 ·rename_i h1 h2
  rw[h1]at hx;rw[h2]at hy
  obtain⟨v,z,hk,hr,hv⟩:=EK (P:=P) (c:=c) (h:=h) (w:=w) op t hp;refine .of v z hk ?_ hv;simp[execOp,ho,hx.eu,hy.eu,eqGuard_at_string,hr]
 ·exact hp.elim
theorem yX(he:ER c h w e a.tmps){neg:Bool}{t yt:TypeId}{x y:Operand}(ho:o.op= .binOp (if neg then .neq else .eql) t x y yt)(hu:P.underlying t=some .bool)
  (hp:bw P Γ (.Ez neg (aC x) (aC y)) e h k kp):dM P c h w a o k:=by
 simp only[bw,aE]at hp;have hx:=he.ev x;have hy:=he.ev y;split at hp
 ·rename_i p q h1 h2
  rw[h1]at hx;rw[h2]at hy
  have hq:(Op.equal t (.bool p) (.bool q)).run P w= .ok (p==q) w:=run_equalIn_bool' w 9999 t p q hu;cases neg
  ·refine .of _ _ hp ?_ .bool
   simp[execOp,ho,hx.cP,hy.cP,eqGuard_at_bool,binOp,hq]
  ·refine .of _ _ hp ?_ .bool
   simp[execOp,ho,hx.cP,hy.cP,eqGuard_at_bool,binOp,hq]
 ·exact hp.elim
theorem yY(he:ER c h w e a.tmps){neg:Bool}{t yt:TypeId}{x y:Operand}{fs:Array Field}{ks:List Dv}(ho:o.op= .binOp (if neg then .neq else .eql) t x y yt)(hu:P.underlying t=some (.struct fs))
  (hs:P.stoodInHeld t=false)(hg:P.eqGuardType P.depth t=false)(hks:fK P 0 fs.toList=some ks)
  (hp:bw P Γ (.s8 neg ks (aC x) (aC y)) e h k kp):dM P c h w a o k:=by
 simp only[bw,aE]at hp;have hx:=he.ev x;have hy:=he.ev y;split at hp
 ·rename_i l m h1 h2
  rw[h1]at hx;rw[h2]at hy
  obtain⟨xs,cX,hxl,Vd⟩:=hx.gu;obtain⟨ys,EL,X2,Rm⟩:=hy.gu;split at hp
  ·rename_i p hq
   have hfo:P.fieldsOf t=fs:=by simp[Program.fieldsOf,hu]
   have hrun:=mw (P:=P) (c:=c) (h:=h) (w:=w) 9997 xs ys fs.toList 0 l m p ks hks (fun i v x hv hx=>Vd i v x hv (by simpa using hx)) (fun i v x hv hx=>Rm i v x hv (by simpa using hx)) (by omega) (by omega) hq;have he:=run_equalIn_struct (P:=P) w 9999 t xs ys (by rw[hfo];exact hu) hs;rw[hfo,hrun]at he;cases neg
   ·refine .of _ _ hp ?_ .bool
    simp[execOp,ho,cX,EL,run_eqGuard_agg w _ t x y xs ys hg,run_eql_struct,he]
   ·refine .of _ _ hp ?_ .bool
    simp[execOp,ho,cX,EL,run_eqGuard_agg w _ t x y xs ys hg,run_neq_struct,he]
  ·exact hp.elim
 ·exact hp.elim
theorem Ix(he:ER c h w e a.tmps){u:UnOp}{t:TypeId}{x:Operand}(ho:o.op= .unOp u t x)(hp:bw P Γ (.un u (aC x)) e h k kp):dM P c h w a o k:=by
 simp only[bw,aE]at hp;have hx:=he.ev x;split at hp
 ·rename_i h1
  rw[h1]at hx;refine .of _ _ hp ?_ .bool;simp[execOp,ho,hx.cP,Op.unary]
 ·rename_i h1
  rw[h1]at hx;refine .of _ _ hp ?_ .int;simp[execOp,ho,hx.bF,Op.unary,Op.intArith]
 ·rename_i h1
  rw[h1]at hx;refine .of _ _ hp ?_ .int;simp[execOp,ho,hx.bF,Op.unary,Op.intBits,jc]
 ·exact hp.elim
theorem EM(he:ER c h w e a.tmps){s d:TypeId}{x:Operand}{kd ks:IntKind}(ho:o.op= .convert s d x)(hs:P.underlying s=some (.int ks))(hd:P.underlying d=some (.int kd))
  (hp:bw P Γ (.conv kd (aC x)) e h k kp):dM P c h w a o k:=by
 simp only[bw,aE]at hp;have hx:=he.ev x;split at hp
 ·rename_i h1
  rw[h1]at hx;refine .of _ _ hp ?_ .int;simp[execOp,ho,hx.bF,convert,run_underlying hs,run_underlying hd,Conv.intToInt]
 ·exact hp.elim
theorem xC(he:ER c h w e a.tmps){s d:TypeId}{x:Operand}(ho:o.op= .convert s d x)(hs:P.underlying s=some .string)(hd:P.underlying d=some .string)
  (hp:bw P Γ (.o4 (aC x)) e h k kp):dM P c h w a o k:=by
 simp only[bw,aE]at hp;have hx:=he.ev x;split at hp
 ·rename_i h1
  rw[h1]at hx;refine .of _ _ hp ?_ .str;simp[execOp,ho,hx.eu,convert,run_underlying hs,run_underlying hd]
 ·exact hp.elim
theorem qk(he:ER c h w e a.tmps)(xs:Array Operand)(i:Nat)(v:SV)(y:Value)(hv:((xs.toList.map aC).map (aR.ev e))[i]? =some v)(hy:(xs.map a.eval)[i]? =some y):VR c h w v y:=by
 simp only[List.map_map,List.getElem?_map,Option.map_eq_some_iff,Array.getElem?_toList]at hv;obtain⟨x,hx,rfl⟩:=hv;rw[Array.getElem?_map,hx]at hy;cases hy
 exact he.ev x
theorem yZ(he:ER c h w e a.tmps){fn:Fn}{xs ys:Array Operand}(ho:o.op= .makeFunc fn xs ys)(hp:bw P Γ (.dB fn (xs.toList.map aC) (ys.toList.map aC)) e h k kp):dM P c h w a o k:=by
 simp only[bw,jh]at hp;refine .of _ (.func fn (xs.map a.eval) (ys.map a.eval)) hp (by simp[execOp,ho,Instr.makeFunc]) (.func _ _ _ _ _ (by simp) (by simp) (qk he xs) (qk he ys))
theorem xD(he:ER c h w e a.tmps){t:TypeId}{x:Operand}{d:TypeDesc}(ho:o.op= .makeInterface t x)(hu:P.underlying t=some d)(hd: ∀ms,d≠ .interface ms)
  (hp:bw P Γ (.dJ t (aC x)) e h k kp):dM P c h w a o k:=by
 simp only[bw,aE]at hp;refine .of _ _ hp ?_ (.iface _ _ _ (he.ev x));simp only[execOp,ho,Instr.makeInterface,Sem.run_bind,run_underlying hu,Result.andThen_ok];cases d<;>first|exact absurd rfl (hd _)|rfl
theorem vQ{i g:Nat}{p:Prop}(hp:tG h i g p):p/\ ∃o,h.obj i=some o/\o.gen=g:=by
 obtain⟨n,l⟩:=h;unfold tG at hp;simp only[aW]at hp;split at hp
 ·rename_i ob bS
  split at hp
  ·replace hp:=ah.1 hp
   exact⟨hp.2,_,bS,Nat.eq_of_beq_eq_true hp.1⟩
  ·replace hp:=ah.1 hp
   exact⟨hp.2,_,bS,Nat.eq_of_beq_eq_true hp.1⟩
  ·exact hp.elim
 ·exact hp.elim
theorem vR{i g:Nat}{p:Prop}(hp:tG h i g p):p/\ ∀q:Prop,q->tG h i g q:=by
 obtain⟨n,l⟩:=h;unfold tG at hp ⊢;simp only[aW]at hp ⊢;split at hp
 ·rename_i ob bS
  split at hp
  ·replace hp:=ah.1 hp;exact⟨hp.2,fun q hq=>ah.2 ⟨hp.1,hq⟩⟩
  ·replace hp:=ah.1 hp;exact⟨hp.2,fun q hq=>ah.2 ⟨hp.1,hq⟩⟩
  ·exact hp.elim
 ·exact hp.elim
theorem eC{i g:Nat}{p:Prop}(hp:fJ h i g p):p/\ ∃sz elems sk,h.obj i=some (.vec g sz elems sk):=by
 obtain⟨n,l⟩:=h;unfold fJ at hp;simp only[aW]at hp;split at hp
 ·rename_i ob bS
  split at hp
  ·replace hp:=ah.1 hp
   obtain⟨hg,hp⟩:=hp;have hg:=Nat.eq_of_beq_eq_true hg;exact⟨hp,_,_,_,by rw[<- hg];exact bS⟩
  ·exact hp.elim
 ·exact hp.elim
theorem F6{i g idx sub:Nat}{x:Value}(hx:VR c h w (.ref i g idx sub) x){p:Prop}(hp:fJ h i g p):
  p/\ ∃q,x= .pointer (some ⟨c.β i,q+sub,none⟩)/\ ∀sub',VR c h w (.ref i g idx sub') (.pointer (some ⟨c.β i,q+sub',none⟩)):=by
 obtain⟨hp,sz,elems,sk,bS⟩:=eC hp;refine⟨hp,idx*sz,hx.ey bS rfl,fun sub'=> ?_⟩;cases hx with
 |pure hx=>cases hx
 |ref _ _ _ _ _ _ hi hg _=>
  refine .ref _ _ _ _ _ ⟨_,rfl⟩ hi hg fun o' ho' _=> ?_
  rw[bS]at ho';cases ho';rfl
theorem tK(he:ER c h w e a.tmps){s:TypeId}{x:Operand}{f:Nat}{fs:Array Field}{fd:Field}{i:TypeInfo}(ho:o.op= .fieldAddr s x f)(hu:P.underlying s=some (.struct fs))(hf:fs[f]? =some fd)
  (hi:P.info? fd.type=some i)(hz:i.size≠0)(hp:bw P Γ (.fieldAddr fd.offset (aC x)) e h k kp):dM P c h w a o k:=by
 simp only[bw,aE]at hp;have hx:=he.ev x
 have hrun: ∀b q,a.eval x= .pointer (some ⟨b,q,none⟩)->(execOp a.eval o).run P w= .ok (.value (.pointer (some ⟨b,q+fd.offset,none⟩))) w:=by
  intro b q hq;simp[execOp,ho,hq,Instr.fieldAt,run_underlying hu,hf,Instr.sureAddr,fieldPlace,cS hi,hz,add_eq]
 split at hp
 ·rename_i h1
  rw[h1]at hx;obtain⟨hp,q,hq,hv⟩:=F6 hx hp;refine .of _ _ hp (hrun _ _ hq) ?_;rw[Nat.add_assoc];exact hv _
 ·rename_i v sub h1
  rw[h1]at hx;obtain⟨b,q,C,ty,fz,hq,hb,hw,hn,hc⟩:=hx.s7;refine .of _ _ hp (hrun _ _ hq) ?_;rw[Nat.add_assoc];exact .pure (.lB _ _ _ _ _ _ _ hb hw hn hc)
 ·exact hp.elim
theorem tL(he:ER c h w e a.tmps){t:TypeId}{x:Operand}{f:Nat}{fs:Array Field}{fd:Field}(ho:o.op= .field t x f)(hu:P.underlying t=some (.struct fs))(hf:fs[f]? =some fd):
  (ja P fd.type=some false->bw P Γ (.o5 fd.offset (aC x)) e h k kp->dM P c h w a o k)/\
  (∀ i,ja P fd.type=some true->P.info? fd.type=some i->bw P Γ (.o6 fd.offset i.size (aC x)) e h k kp->dM P c h w a o k):=by
 have hx:=he.ev x;refine⟨fun hag hp=> ?_,fun i hag hi hp=> ?_⟩
 ·simp only[bw,aE]at hp
  split at hp
  ·rename_i l h1
   rw[h1]at hx;obtain⟨cs,hcs,hl,hc⟩:=hx.gu;rw[dV]at hp;split at hp
   ·rename_i v hv
    have hlt:fd.offset<l.length:=by
     rcases Nat.lt_or_ge fd.offset l.length with h|h
     ·exact h
     ·rw[List.getElem?_eq_none h]at hv;cases hv
    have hy:cs[fd.offset]? =some cs[fd.offset]:=Array.getElem?_eq_getElem (by omega);refine .of v cs[fd.offset] hp ?_ (hc _ v _ hv hy);simp[execOp,ho,hcs,Instr.field,run_underlying hu,hf,asAgg,part,fT hag,hy]
   ·exact hp.elim
  ·exact hp.elim
 ·simp only[bw,aE]at hp
  split at hp
  ·rename_i l h1
   rw[h1]at hx;obtain⟨cs,hcs,hl,hc⟩:=hx.gu;obtain⟨h2,hp⟩:=dY.1 hp;obtain⟨h3,hp⟩:=cT.1 hp;simp only[List.length_drop]at h3;refine .of _ (.agg (cs.extract fd.offset (fd.offset+i.size))) hp ?_ (.agg _ _ ?_ fun j v y hv hy=> ?_)
   ·simp[execOp,ho,hcs,Instr.field,run_underlying hu,hf,asAgg,part,fT hag,cS hi]
   ·simp;omega
   ·simp only[List.getElem?_take,List.getElem?_drop]at hv
    split at hv
    ·rename_i hj
     rw[Array.getElem?_extract]at hy;split at hy
     ·exact hc (fd.offset+j) v y hv hy
     ·cases hy
    ·cases hv
  ·exact hp.elim
theorem Bn(he:ER c h w e a.tmps){t:TypeId}{x i:Operand}(ho:o.op= .index t x i)(hu:P.underlying t=some .string)(hp:bw P Γ (.index (aC x) (aC i)) e h k kp):dM P c h w a o k:=by
 simp only[bw,aE]at hp;have hx:=he.ev x;have hi:=he.ev i;split at hp
 ·rename_i s kk j h1 h2
  rw[h1]at hx;rw[h2]at hi
  replace hp:=ah.1 hp
  obtain⟨hb,hp⟩:=hp;simp only[Bool.and_eq_true,decide_eq_true_eq]at hb;refine .of _ _ hp ?_ .int;have hlt:j.toNat<s.length:=by omega
  have fU:(ByteArray.mk s.toArray)[j.toNat]? =some s[j.toNat]:=by
   have:j.toNat<(ByteArray.mk s.toArray).size:=by simpa[ByteArray.size]using hlt
   rw[getElem?_pos (ByteArray.mk s.toArray) j.toNat this];rfl
  simp[execOp,ho,hx.eu,hi.bF,Instr.index,run_underlying hu,asIntOf,hb.1,fU,hlt]
 ·exact hp.elim
theorem xE(he:ER c h w e a.tmps){x:Operand}{i:Nat}(ho:o.op= .extract x i)(hp:bw P Γ (.extract (aC x) i) e h k kp):dM P c h w a o k:=by
 simp only[bw,aE]at hp;have hx:=he.ev x;split at hp
 ·rename_i l h1
  rw[h1]at hx;obtain⟨cs,hcs,hl,hc⟩:=hx.kB;rw[dV]at hp;split at hp
  ·rename_i v hv
   have hlt:i<l.length:=by
    rcases Nat.lt_or_ge i l.length with h|h
    ·exact h
    ·rw[List.getElem?_eq_none h]at hv;cases hv
   have hy:cs[i]? =some cs[i]:=Array.getElem?_eq_getElem (by omega);refine .of v cs[i] hp ?_ (hc _ v _ hv hy);simp[execOp,ho,hcs,Instr.extract,hy]
  ·exact hp.elim
 ·exact hp.elim
end
end
end Ab
