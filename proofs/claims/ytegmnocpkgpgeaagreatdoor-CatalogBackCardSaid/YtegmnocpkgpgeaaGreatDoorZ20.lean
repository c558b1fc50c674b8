/- Parts of the proof of PCatalogBack, one behind the other, with short names. -/
import Derived.Test.YtegmnocpkgpgeaaGreatDoorZ19
import Derived.Lib.TrimUEq
import Derived.Lib.MapLaws
import Derived.Lib.ParseIntB
import Derived.KernelRfl
set_option linter.unusedVariables false
set_option linter.unusedSimpArgs false
namespace Go.Proofs.YtegmnocpkgpgeaaGreatDoor
open Go.Lib
theorem sC{p r r':List UInt8}(hp:p≠[]):decodeL (p++39::r)=decodeL (p++39::r'):=by
 rw[decodeL_N,decodeL_N];have q: ¬((39:UInt8).toNat/64=2):=by decide
 match p,hp with
 | [a],_=>
   simp only[List.cons_append,List.nil_append,List.length_cons,List.getD_cons_zero,List.getD_cons_succ];unfold decodeN;simp only[q,and_false,false_and,if_false]
 | [a,b],_=>
   simp only[List.cons_append,List.nil_append,List.length_cons,List.getD_cons_zero,List.getD_cons_succ];unfold decodeN;simp only[q,and_false,false_and,if_false,show 1<r.length+1+1+1 by omega,show 1<r'.length+1+1+1 by omega,true_and]
 | [a,b,c],_=>
   simp only[List.cons_append,List.nil_append,List.length_cons,List.getD_cons_zero,List.getD_cons_succ];unfold decodeN;simp only[q,and_false,false_and,if_false,show 1<r.length+1+1+1+1 by omega,show 1<r'.length+1+1+1+1 by omega,show 2<r.length+1+1+1+1 by omega,show 2<r'.length+1+1+1+1 by omega,true_and]
 |a::b::c::d::t,_=>
  simp only[List.cons_append,List.length_cons,List.length_append,List.getD_cons_zero,List.getD_cons_succ];unfold decodeN;simp only[show 1<t.length+(r.length+1)+1+1+1+1 by omega,show 1<t.length+(r'.length+1)+1+1+1+1 by omega,show 2<t.length+(r.length+1)+1+1+1+1 by omega,show 2<t.length+(r'.length+1)+1+1+1+1 by omega,show 3<t.length+(r.length+1)+1+1+1+1 by omega,show 3<t.length+(r'.length+1)+1+1+1+1 by omega,true_and]
theorem sD{p r:List UInt8}(hp:p≠[]):(decodeL (p++39::r)).2<=p.length:=by
 rw[decodeL_N];have q: ¬((39:UInt8).toNat/64=2):=by decide
 match p,hp with
 | [a],_=>
   simp only[List.cons_append,List.nil_append,List.length_cons,List.getD_cons_zero,List.getD_cons_succ];unfold decodeN;simp only[q,and_false,false_and,if_false];split<;>simp
 | [a,b],_=>
   simp only[List.cons_append,List.nil_append,List.length_cons,List.getD_cons_zero,List.getD_cons_succ];unfold decodeN;simp only[q,and_false,false_and,if_false]
   repeat' split
   all_goals simp
 | [a,b,c],_=>
   simp only[List.cons_append,List.nil_append,List.length_cons,List.getD_cons_zero,List.getD_cons_succ];unfold decodeN;simp only[q,and_false,false_and,if_false]
   repeat' split
   all_goals simp
 |a::b::c::d::t,_=>
  unfold decodeN
  repeat' split
  all_goals (simp only[List.length_cons];omega)
theorem CM{l:List UInt8}{k:Nat}(h:k<l.length)(hk:l.getD k 0=39):l=l.take k++39::l.drop (k+1):=by
 conv=>lhs;rw[<- List.take_append_drop k l]
 congr 1
 rw[List.drop_eq_getElem_cons h];congr 1
 simpa[List.getD,h]using hk
theorem lS: ∀(f:Nat) (l:List UInt8) (i:Nat) (bad:Bool) (buf:List UInt8) (x:Tk) (n:Nat),bX f l i bad buf= .ok x n->
  i<n/\n-1-i<l.length/\l.getD (n-1-i) 0=39/\ ∀f' m,n<=i+m->m<=f'->bX f' (l.take m) i bad buf= .ok x n
 |0,l,i,bad,buf,x,n,h=>by simp[bX]at h
 |f+1,[],i,bad,buf,x,n,h=>by simp[bX]at h
 |f+1,c::r,i,bad,buf,x,n,h=>by
  rw[bX]at h;by_cases hc:c≠39
  ·rw[if_pos hc]at h
   obtain⟨h1,h2,h3,h4⟩:=lS f _ _ _ _ x n h;generalize hd:decodeL (c::r)=d at h h1 h2 h3 h4;have hw:1<=d.2:=by rw[<- hd];exact decodeL_width _
   rw[List.length_drop]at h2;have e1:n-1-i=d.2+(n-1-(i+d.2)):=by omega
   have hq:(c::r).getD (n-1-i) 0=39:=by
    rw[e1];simpa[List.getD,List.getElem?_drop]using h3
   have hlt:n-1-i<(c::r).length:=by omega
   refine⟨by omega,hlt,hq,fun f' m hm hf=> ?_⟩;have hs:=CM hlt hq
   have hp:(c::r).take (n-1-i)≠[]:=by
    rw[show n-1-i=(n-2-i)+1 by omega];simp
   have ht:(c::r).take m=(c::r).take (n-1-i)++39::((c::r).drop (n-1-i+1)).take (m-(n-1-i)-1):=by
    conv=>lhs;rw[hs]
    rw[List.take_append,List.take_of_length_le (by rw[List.length_take];omega),List.length_take,Nat.min_eq_left (by omega),show m-(n-1-i)=(m-(n-1-i)-1)+1 by omega,List.take_succ_cons,Nat.add_sub_cancel]
   have hd':decodeL ((c::r).take m)=d:=by
    rw[ht,sC hp (r':=(c::r).drop (n-1-i+1)),<-hs,hd]
   obtain⟨f',rfl⟩: ∃g,f'=g+1:=⟨f'-1,by omega⟩;obtain⟨m,rfl⟩: ∃g,m=g+1:=⟨m-1,by omega⟩;rw[List.take_succ_cons,bX,if_pos hc];rw[List.take_succ_cons]at hd';rw[hd'];show bX f' ((c::r.take m).drop d.2) (i+d.2) _ (buf++(c::r.take m).take d.2)=_;have e2:c::r.take m=(c::r).take (m+1):=rfl;rw[e2,List.take_take,Nat.min_eq_left (by omega),List.drop_take];exact h4 f' (m+1-d.2) (by omega) (by omega)
  ·have hc:c=39:=by simpa using hc
   subst hc;rw[if_neg (by simp)]at h;by_cases hr:r.getD 0 0=39
   ·rw[if_pos hr]at h
    obtain⟨h1,h2,h3,h4⟩:=lS f _ _ _ _ x n h
    match r,hr,h2,h3,h4 with
    | [],hr,_,_,_=>exact absurd hr (by decide)
    |a::r',hr,h2,h3,h4=>
     obtain rfl:a=39:=hr;simp only[List.drop_succ_cons,List.drop_zero]at h2 h3 h4;refine⟨by omega,by simp only[List.length_cons];omega,?_,fun f' m hm hf=> ?_⟩
     ·rw[show n-1-i=(n-1-(i+2))+1+1 by omega]
      simpa using h3
     ·obtain⟨f',rfl⟩: ∃g,f'=g+1:=⟨f'-1,by omega⟩
      obtain⟨m,rfl⟩: ∃g,m=g+1+1:=⟨m-2,by omega⟩;rw[List.take_succ_cons,List.take_succ_cons,bX,if_neg (by simp),if_pos (by rfl)];simp only[List.drop_succ_cons,List.drop_zero];exact h4 f' m (by omega) (by omega)
   ·rw[if_neg hr]at h
    have hn:n=i+1:=by
     split at h
     ·cases h
     ·split at h
      ·cases h
      ·cases h;rfl
    subst hn;refine⟨by omega,by simp,by rw[show i+1-1-i=0 by omega];rfl,fun f' m hm hf=> ?_⟩;obtain⟨f',rfl⟩: ∃g,f'=g+1:=⟨f'-1,by omega⟩;obtain⟨m,rfl⟩: ∃g,m=g+1:=⟨m-1,by omega⟩
    have hr': ¬(r.take m).getD 0 0=39:=by
     cases m with
     |zero=>simp
     |succ m=>cases r with
      |nil=>simp
      |cons a r=>exact hr
    rw[List.take_succ_cons,bX,if_neg (by simp),if_neg hr'];exact h
theorem lT{p:UInt8->Bool}: ∀(s:List UInt8) (m:Nat),(s.takeWhile p).length<=m->(s.take m).takeWhile p=s.takeWhile p
 | [],m,_=>by simp
 |c::r,0,h=>by
  by_cases hc:p c=true
  ·simp[hc]at h
  ·simp[hc]
 |c::r,m+1,h=>by
  by_cases hc:p c=true
  ·simp only[List.take_succ_cons,List.takeWhile_cons,hc,if_true]at h ⊢
   rw[lT r m (by simpa using h)]
  ·simp[hc]
theorem ja{p:UInt8->Bool}: ∀(s:List UInt8),(s.takeWhile p).length<=s.length
 | []=>by simp
 |c::r=>by
  rw[List.takeWhile_cons];split
  ·have:=ja (p:=p) r
   simp only[List.length_cons];omega
  ·simp
theorem CN{x s:List UInt8}{m:Nat}(h:x.isPrefixOf (s.take m)=true):x.isPrefixOf s=true:=by
 rw[List.isPrefixOf_iff_prefix]at h ⊢;exact h.trans (List.take_prefix m s)
theorem take_prefix{x s:List UInt8}{m:Nat}(h:x.isPrefixOf s=true)(hm:x.length<=m):x.isPrefixOf (s.take m)=true:=by
 rw[List.isPrefixOf_iff_prefix]at h ⊢;obtain⟨t,rfl⟩:=h;rw[List.take_append,List.take_of_length_le hm];exact List.prefix_append _ _
theorem zq{s:List UInt8}: ∀(L:List (List UInt8)) (x:Tk) (n:Nat),(∀ y∈L,y≠[])->fT s L= .ok x n->1<=n/\n<=s.length/\ ∀m,n<=m->fT (s.take m) L= .ok x n
 | [],x,n,_,h=>by simp[fT]at h
 |y::L,x,n,hL,h=>by
  rw[fT]at h;split at h
  ·rename_i hy
   cases h
   refine⟨by have:=hL y (by simp);cases y with|nil=>exact absurd rfl this|cons a b=>simp,?_,fun m hm=> ?_⟩
   ·rw[List.isPrefixOf_iff_prefix]at hy
    exact hy.length_le
   ·rw[fT,if_pos (take_prefix hy hm)]
  ·rename_i hy
   obtain⟨h1,h2,h3⟩:=zq L x n (fun y hm=>hL y (by simp[hm])) h;refine⟨h1,h2,fun m hm=> ?_⟩;rw[fT,if_neg fun hp=>hy (CN hp)];exact h3 m hm
theorem Ik: ∀y∈eG,y≠[]:=by decide
theorem jb{s:List UInt8}{x:Tk}{n:Nat}(h:fG s= .ok x n):1<=n/\n<=s.length/\ ∀m,n<=m->fG (s.take m)= .ok x n:=by
 match s,h with
 | [],h=>simp[fG]at h
 |c::r,h=>
  have key:1<=n/\n<=(c::r).length/\ ∀m,n<=m+1->fG (c::r.take m)= .ok x n:=by
   unfold fG at h;dsimp only at h;unfold fG;dsimp only;split at h
   ·rename_i hl
    simp only[if_pos hl];unfold nV at h ⊢;dsimp only at h ⊢;split at h
    ·cases h
    ·rename_i hlen
     cases h
     refine⟨?_,ja _,fun m hm=> ?_⟩
     ·simp[hl]
     ·have:=lT (p:=fun c=>bL c||isDigit c) (c::r) (m+1) hm
      rw[List.take_succ_cons]at this;rw[this,if_neg hlen]
   ·rename_i hl
    simp only[if_neg hl];split at h
    ·rename_i hd
     simp only[if_pos hd];unfold iZ at h ⊢;dsimp only at h ⊢;split at h
     ·cases h
     ·rename_i hlen
      cases h
      refine⟨?_,ja _,fun m hm=> ?_⟩
      ·simp[hd]
      ·have:=lT (p:=isDigit) (c::r) (m+1) hm
       rw[List.take_succ_cons]at this;rw[this,if_neg hlen]
    ·rename_i hd
     simp only[if_neg hd];split at h
     ·rename_i hq
      simp only[if_pos hq];unfold nW at h ⊢;simp only[List.drop_succ_cons,List.drop_zero]at h ⊢;obtain⟨h1,h2,h3,h4⟩:=lS _ _ _ _ _ x n h;refine⟨by omega,by simp only[List.length_cons];omega,fun m hm=> ?_⟩;by_cases hmr:m<=r.length
      ·exact h4 _ m (by omega) (by rw[List.length_cons,List.length_take];omega)
      ·rw[List.take_of_length_le (by omega)]
       have:=h4 (r.length+1) r.length (by omega) (by omega);rw[List.take_length]at this;exact this
     ·rename_i hq
      simp only[if_neg hq];obtain⟨h1,h2,h3⟩:=zq eG x n Ik h;refine⟨h1,h2,fun m hm=> ?_⟩;have:=h3 (m+1) hm;rw[List.take_succ_cons]at this;exact this
  refine⟨key.1,key.2.1,fun m hm=> ?_⟩;obtain⟨m,rfl⟩: ∃g,m=g+1:=⟨m-1,by omega⟩;exact key.2.2 m hm
inductive uN:List UInt8->Nat->List (Tk×Nat)->Prop
 |none {s:List UInt8} {p:Nat} (h: ∀c∈s,bV c=true):uN s p []
 |some {b s:List UInt8} {p:Nat} {x:Tk} {n:Nat} {l:List (Tk×Nat)} (hb: ∀c∈b,bV c=true) (hc:bV (s.getD 0 0)=false) (ho:fG s= .ok x n) (h:uN (s.drop n) (p+b.length+n) l):uN (b++s) p ((x,p+b.length)::l)
theorem mE: ∀(f:Nat) (s:List UInt8) (p:Nat) (l:List (Tk×Nat)),s.length<=f->eN f s p= .ok l->uN s p l
 |0,s,p,l,hf,h=>by
  obtain rfl:s=[]:=by simpa using hf
  simp only[eN]at h;cases h
  exact .none (by simp)
 |f+1,[],p,l,hf,h=>by
  simp only[eN]at h;cases h
  exact .none (by simp)
 |f+1,c::r,p,l,hf,h=>by
  rw[eN]at h;simp only[List.length_cons]at hf;split at h
  ·rename_i hb
   match l,mE f r (p+1) l (by omega) h with
   |_,.none h=>exact .none (by simp only[List.mem_cons];rintro d (rfl|hd);exact hb;exact h d hd)
   |_,.some (b:=b) (s:=s) (x:=x) (n:=n) (l:=l) hb' hc ho h=>
    have:=uN.some (b:=c::b) (p:=p) (by simp only[List.mem_cons];rintro d (rfl|hd);exact hb;exact hb' d hd) hc ho (by rw[List.length_cons,show p+(b.length+1)+n=p+1+b.length+n by omega];exact h);rw[List.length_cons,show p+(b.length+1)=p+1+b.length by omega]at this;exact this
  ·rename_i hb
   split at h
   ·cases h
   ·rename_i x n ho
    split at h
    ·cases h
    ·rename_i l' hl
     cases h
     obtain⟨h1,h2,_⟩:=jb ho;have:=mE f _ _ _ (by rw[List.length_drop,List.length_cons];simp only[List.length_cons]at h2;omega) hl;exact uN.some (b:=[]) (by simp) (by simpa using hb) ho this
theorem kD: ∀(f:Nat) (s:List UInt8) (p:Nat),(∀ c∈s,bV c=true)->eN f s p= .ok []
 |0,_,_,_=>rfl
 |f+1,[],_,_=>rfl
 |f+1,c::r,p,h=>by
  rw[eN,if_pos (h c (by simp))];exact kD f r (p+1) fun d hd=>h d (by simp[hd])
theorem EW{s:List UInt8}{x:Tk}{n m:Nat}(hc:bV (s.getD 0 0)=false)(ho:fG s= .ok x n)(hm:n<=m)(hml:m<=s.length)(hb: ∀c∈(s.take m).drop n,bV c=true):lR (s.take m)= .ok [(x,0)]:=by
 obtain⟨h1,h2,h3⟩:=jb ho;have h4:=h3 m hm;have hl:(s.take m).length=m:=by rw[List.length_take];omega
 unfold lR;rw[hl]
 match s,hc,m,hm with
 | [],_,_,_=>simp at h2;omega
 |c::r,hc,0,hm=>omega
 |c::r,hc,m+1,hm=>
  rw[List.take_succ_cons]at h4 hb ⊢;rw[eN,if_neg (by simpa using hc),h4];dsimp only;rw[kD _ _ _ hb]
theorem CO: ∀(l:List UInt8) (acc:Nat),acc<=l.foldl (fun n c=>10*n+(c.toNat-48)) acc
 | [],_=>Nat.le_refl _
 |c::r,acc=>by
  rw[List.foldl_cons];exact Nat.le_trans (by omega) (CO r _)
theorem CP{c:UInt8}:isDigit c=true<->48<=c.toNat/\c.toNat<=57:=by
 unfold isDigit;simp only[Bool.and_eq_true,decide_eq_true_eq,UInt8.le_iff_toNat_le];exact Iff.rfl
theorem sE: ∀(l:List UInt8) (acc:Nat),(∀ c∈l,isDigit c=true)->acc<18446744073709551616->
  parseUintM 18446744073709551615 acc l=if l.foldl (fun n c=>10*n+(c.toNat-48)) acc<18446744073709551616 then .ok (l.foldl (fun n c=>10*n+(c.toNat-48)) acc)else .range
 | [],acc,_,ha=>by simp[parseUintM,ha]
 |c::r,acc,h,ha=>by
  have hc:=CP.1 (h c (by simp));rw[parseUintM,if_pos hc,List.foldl_cons];have hg:=CO r (10*acc+(c.toNat-48));split
  ·rw[if_neg (by omega)]
  ·split
   ·rw[if_neg (by omega)]
   ·rw[Nat.mul_comm acc 10]
    exact sE r _ (fun d hd=>h d (by simp[hd])) (by omega)
theorem Il{l:List UInt8}(hne:l≠[])(h: ∀c∈l,isDigit c=true):parseUintB 64 l=if numOf l<18446744073709551616 then .ok (numOf l)else .range:=by
 unfold parseUintB;rw[if_neg hne];exact sE l 0 h (by decide)
theorem j6{p:UInt8->Bool}: ∀ {l:List UInt8} {c:UInt8},c∈l.takeWhile p->p c=true
 | [],_,h=>by simp at h
 |a::r,c,h=>by
  rw[List.takeWhile_cons]at h;split at h
  ·rcases List.mem_cons.1 h with rfl|h
   ·assumption
   ·exact j6 h
  ·simp at h
theorem Ks{p:UInt8->Bool}: ∀ {l:List UInt8} {n:Nat},n<=(l.takeWhile p).length->n<l.length->(p (l.getD n 0)=true<->n<(l.takeWhile p).length)
 | [],n,_,h=>by simp at h
 |a::r,0,_,_=>by
  rw[List.takeWhile_cons];show p a=true<->_;split
  ·rename_i h;simp[h]
  ·rename_i h;simp[h]
 |a::r,n+1,h1,h2=>by
  rw[List.takeWhile_cons]at h1 ⊢;split
  ·rename_i h
   rw[if_pos h]at h1;have:=Ks (p:=p) (l:=r) (n:=n) (by simpa using h1) (by simpa using h2);simpa using this
  ·rename_i h
   rw[if_neg h]at h1;simp at h1
theorem AN{p:UInt8->Bool}: ∀(l:List UInt8),l.take (l.takeWhile p).length=l.takeWhile p
 | []=>by simp
 |a::r=>by
  rw[List.takeWhile_cons];split
  ·rw[List.length_cons,List.take_succ_cons,AN r]
  ·simp
end Go.Proofs.YtegmnocpkgpgeaaGreatDoor
namespace Ab
open Go
structure bI where
 nt:Nat
 code:bK
 rs:List RV
structure aB(P:Program)(f:Nat)(t:bI):Prop where
 ok: ∃fn code,P.funcs[f]? =some fn/\fn.body=some code/\fh t.code=true/\erase t.code=cB P fn.ntmps code/\pX P fn.results.toList=some t.rs/\t.nt=fn.ntmps
theorem T6{P:Program}{f:Nat}{fn:Func}{code:Code}{t:bI}(hf:P.funcs[f]? =some fn)(hb:fn.body=some code)(ho:fh t.code=true)(hc:erase t.code=cB P fn.ntmps code)(hr:pX P fn.results.toList=some t.rs)(hn:t.nt=fn.ntmps):aB P f t:=
 ⟨fn,code,hf,hb,ho,hc,hr,hn⟩
theorem tk{P:Program}{f:Nat}{fn:Func}{t:bI}(hf:P.funcs[f]? =some fn)(h:(fh t.code,erase t.code,pX P fn.results.toList,t.nt,fn.body.isSome)=(true,cB P fn.ntmps (fn.body.getD .skip),some t.rs,fn.ntmps,true)):aB P f t:=by
 simp only[Prod.mk.injEq]at h;obtain⟨h1,h2,h3,h4,h5⟩:=h;obtain⟨code,h6⟩:=Option.isSome_iff_exists.1 h5;rw[h6]at h2;exact T6 hf h6 h1 h2 h3 h4
theorem aB.call{P:Program}{f:Nat}{t:bI}{args:List SV}{h:Heap}{R:bu->Heap->Prop}(ht:aB P f t)(hm:P.follows .mixedOrders=true)(hn:Nat.ble args.length t.nt=true)(hp:D9 P t.code (wP t.rs R) (gh 0 args) h):aC P f args h R:=by
 obtain⟨fn,code,h1,h2,h3,h4,h5,h6⟩:=ht.ok;exact AJ hm h1 h2 h3 h4 h5 (by rw[<- h6];exact hn) hp
inductive jz(P:Program):List (Nat×bI)->Prop
 |nil:jz P []
 |cons {f:Nat} {t:bI} {r:List (Nat×bI)} (h:aB P f t) (hr:jz P r):jz P ((f,t)::r)
noncomputable section
def EX(l:List (Nat×bI))(f:Nat)(k:bI->Prop):Prop:=
 @List.rec (Nat×bI) (fun _=>Prop) False (fun x _ ih=> @Bool.rec (fun _=>Prop) ih (k x.2) (Nat.beq x.1 f)) l
def Kt(Q:bS->Env->Heap->Prop)(I:Env->Heap->Prop):bS->Env->Heap->Prop
 | .normal,e,h=>I e h
 |x,e,h=>Q x e h
def lvl(P:Program)(T:List (Nat×bI))(n:Nat):bR×kB:=
 @Nat.rec (fun _=>bR×kB) (⟨fun _ _ _ _=>False,fun v v' p=>cY (qJ 8 v v') p,fun b _ p=>cY b p⟩,fun _ _ _ _=>False)
  (fun _ ih=>(⟨fun f a h k=>EX T f fun t=>cY (Nat.ble a.length t.nt) (oZ P ih.1 ih.2 t.code (wP t.rs k) (gh 0 a) h),fun v v' p=>cY (qJ 8 v v') p,fun b _ p=>cY b p⟩,
   fun b Q e h=>oZ P ih.1 ih.2 b (Kt Q (ih.2 b Q)) e h)) n
end
theorem vz(b:Bool)(q p:Prop)(h:cY b p):(b=true\/q)/\p:=⟨.inl (ah.1 h).1,(ah.1 h).2⟩
theorem CQ{P:Program}{T:List (Nat×bI)}: ∀n v v' p,(lvl P T n).1.same v v' p->Lk v' v/\p
 |0,v,v',p,h=>by
  have h':=ah.1 (show cY (qJ 8 v v') p from h);exact⟨iW 8 _ _ h'.1▸ .refl _,h'.2⟩
 |n+1,v,v',p,h=>by
  have h':=ah.1 (show cY (qJ 8 v v') p from h);exact⟨iW 8 _ _ h'.1▸ .refl _,h'.2⟩
theorem sF{P:Program}: ∀ {l:List (Nat×bI)} {f:Nat} {k:bI->Prop},jz P l->EX l f k-> ∃t,aB P f t/\k t
 | [],f,k,_,h=>h.elim
 |(g,t)::r,f,k,.cons h1 h2,h=>by
  have h': @Bool.rec (fun _=>Prop) (EX r f k) (k t) (Nat.beq g f):=h;rcases Bw h' with⟨hb,hk⟩|⟨_,hk⟩
  ·obtain rfl:=Nat.eq_of_beq_eq_true hb
   exact⟨t,h1,hk⟩
  ·exact sF h2 hk
theorem dh.PB{P:Program}{Γ:bR}{Λ:kB}(gd:Γ.Ok P)(oT: ∀b Q e h,Λ b Q e h->dR P b Q e h){b:bK}{Q:bS->Env->Heap->Prop}{I:Env->Heap->Prop}{m:Nat}{e:Env}{h:Heap}
  (hI: ∀e h,I e h->dh P b Q m e h)(hp:oZ P Γ Λ b (Kt Q I) e h):dh P b Q (m+1) e h:=by
 refine⟨fun n code mc me hc c w a hr he hn=> ?_⟩;rw[rounds_succ];refine wp_mono (dX (n:=n) gd oT mc code b _ e h me hc hp c w a hr he hn) fun ex a2 w2 hpost=> ?_
 obtain⟨c2,h2,e2,xx,hq,gV,hx2,iL,hn2,iR,hex⟩:=hpost;cases ex with
 |normal=>
  cases xx<;>try exact hex.elim
  simp only[Exit.then];have:=(hI _ _ hq).run n code mc me hc c2 w2 a2 gV iL hn2;rw[iR]at this;exact mB (fun _ _ _ tE=>tE.of hr hx2) m this
 |exit i=>cases xx<;>first|exact hex.elim|exact⟨c2,h2,e2,_,hq,gV,hx2,iL,hn2,iR,hex⟩
 |goto l=>cases xx<;>exact hex.elim
 |ret=>cases xx<;>first|exact hex.elim|exact⟨c2,h2,e2,_,hq,gV,hx2,iL,hn2,iR,hex⟩
 |panic ch=>cases xx<;>first|exact hex.elim|exact⟨c2,h2,e2,_,hq,gV,hx2,iL,hn2,iR,hex⟩
 |outgrown=>cases xx<;>exact hex.elim
theorem qs{P:Program}{T:List (Nat×bI)}(hm:P.follows .mixedOrders=true)(hT:jz P T): ∀n,(lvl P T n).1.Ok P/\(∀ b Q e h,(lvl P T n).2 b Q e h->dh P b Q n e h)
 |0=>⟨⟨fun _ _ _ _ h=>h.elim,CQ 0,vz⟩,fun _ _ _ _ h=>h.elim⟩
 |n+1=>by
  obtain⟨ih1,ih2⟩:=qs hm hT n;have oT: ∀b Q e h,(lvl P T n).2 b Q e h->dR P b Q e h:=fun b Q e h hp=>cz n (ih2 b Q e h hp)
  refine⟨⟨fun f a h k hp=> ?_,CQ (n+1),vz⟩,fun b Q e h hp=>dh.PB ih1 oT (fun e h hp=>ih2 b Q e h hp) hp⟩;have hp':EX T f fun t=>cY (Nat.ble a.length t.nt) (oZ P (lvl P T n).1 (lvl P T n).2 t.code (wP t.rs k) (gh 0 a) h):=hp
  obtain⟨t,⟨fn,code,hf,hb,ho,hc,hr,hn⟩,hp'⟩:=sF hT hp'
  replace hp':=ah.1 hp'
  exact mT ih1 oT hm hf hb ho hc hr (by rw[<- hn];exact hp'.1) hp'.2
theorem Io{P:Program}{T:List (Nat×bI)}(hm:P.follows .mixedOrders=true)(hT:jz P T)(n:Nat){f:FuncId}{args:List SV}{v:SV}(ha: ∀a∈args,aL a)(hv:aL v)
  (hp:(lvl P T n).1.call f args ⟨0,[]⟩ (fun r _=>r= .ret v)):aj P f args v:=
 ⟨ha,((qs hm hT n).1.call _ _ _ _ hp).mono fun r h' hr=>⟨v,hr,.lit hv⟩⟩
end Ab
namespace Go.Proofs.YtegmnocpkgpgeaaGreatDoor
open Ab Go.RowKit
theorem CS{x:Int}(h: -9223372036854775808<=x)(h':x<=9223372036854775807):IntKind.i64.wrap x=x:=by rw[IntKind.wrap_i64];omega
theorem bf{n:Nat}(h':n<9223372036854775807):IntKind.i64.wrap ((n:Int)+1)=((n+1:Nat):Int):=by rw[CS (by omega) (by omega)];omega
end Go.Proofs.YtegmnocpkgpgeaaGreatDoor
namespace Ab
open Go
def sG(h:Heap)(sz:Nat)(x:SV)(xs:List SV):Prop:= ∀k:List SV->Prop,k xs->mN h sz x k
@[reducible] def tw (b:UInt8):SV:= .int .u8 b.toNat
theorem qt{h:Heap}(s:List UInt8):sG h 1 (.str s) (s.map tw):=fun k hk=>by
 show cY (Nat.beq 1 1) (HC s k);rw[ah,qo];exact⟨rfl,hk⟩
theorem Ip{h:Heap}{sz n:Nat}{get:Nat->SV}:sG h sz (.aW sz n get) ((List.range n).map get):=fun k hk=>by
 show cY (Nat.beq sz sz) (vX get n 0 k);rw[ah,nG,Nat.beq_refl];exact⟨rfl,by rw[<- List.range_eq_range'];exact hk⟩
theorem Ku{m:Nat}{l:List (Nat×ai)}{i g sz off len iK:Nat}{cap:Option Nat}{elems:List SV}{sk:Sk}(ho:ak l i=some (.vec g iK elems sk))(hle:off+len<=elems.length):
  sG ⟨m,l⟩ sz (.sl i g sz off len cap) ((elems.drop off).take len):=fun k hk=>by
 show cY (Nat.beq sz sz) (eC l i (fun o=>match o with
  | .vec g' _ elems _=>cY (Nat.beq g' g) (pF elems off fun l=>takeN l len k)
  |_=>False) False)
 rw[ah,bg,ho];refine⟨Nat.beq_refl _,?_⟩;dsimp only;rw[ah,dQ,cU];exact⟨Nat.beq_refl _,by omega,by rw[List.length_drop];omega,hk⟩
theorem iO{m:Nat}{l:List (Nat×ai)}{i g sz n iK:Nat}{cap:Option Nat}{elems:List SV}{sk:Sk}(ho:ak l i=some (.vec g iK elems sk))(hn:n=elems.length):
  sG ⟨m,l⟩ sz (.sl i g sz 0 n cap) elems:=fun k hk=>by
 refine Ku ho (by omega) k ?_;rw[List.drop_zero,List.take_of_length_le (by omega)];exact hk
theorem oJ: ∀s:List UInt8,allOnes (s.map tw)=true
 | []=>rfl
 |b::r=>by
  show(cZ (tw b).cells&&allOnes (r.map tw))=true;rw[oJ r];rfl
theorem AO{ty:TypeId}{sz bytes:Nat}{m:Nat}{l:List (Nat×ai)}{x:SV}{k:SV->Heap->Prop}{i g sz' off len iK:Nat}{cap:Option Nat}{elems:List SV}{sk:Sk}(hx:sG ⟨m,l⟩ sz x [])(ho:ak l i=some (.vec g iK elems sk))
  (hk:k (.sl i g sz' off len cap) ⟨m,l⟩):aS ty sz bytes ⟨m,l⟩ (.sl i g sz' off len cap) x k:=by
 unfold aS;refine hx _ ?_;show gF ⟨m,l⟩ i g _;unfold gF;dsimp only;rw[bg,ho];dsimp only;rw[ah];exact⟨Nat.beq_refl _,hk⟩
theorem lU{ty:TypeId}{sz bytes m:Nat}{l:List (Nat×ai)}{x:SV}{xs:List SV}{k:SV->Heap->Prop}(hx:sG ⟨m,l⟩ sz x xs)(h0:0<xs.length)(h1:allOnes xs=true)
  (hl:xs.length*bytes<=140737488355328)(hl':xs.length<=9223372036854775807)(hk:k (.sl m 0 sz 0 xs.length none) ⟨m+1,(m,.vec 0 sz xs ⟨true,some ty⟩)::l⟩):aS ty sz bytes ⟨m,l⟩ .af x k:=by
 unfold aS;refine hx _ ?_;cases xs with
 |nil=>simp at h0
 |cons x0 xr=>
  dsimp only;rw[ah,ah];exact⟨h1,by rw[decide_eq_true hl,decide_eq_true hl'];rfl,hk⟩
theorem nY{ty:TypeId}{sz bytes m:Nat}{l:List (Nat×ai)}{x:SV}{xs:List SV}{k:SV->Heap->Prop}{i g len iK:Nat}{elems:List SV}{sk:Sk}(hx:sG ⟨m,l⟩ sz x xs)(h0:0<xs.length)(h1:allOnes xs=true)
  (ho:ak l i=some (.vec g iK elems sk))(hn:len=elems.length)(hl:(len+xs.length)*bytes<=140737488355328)(hl':len+xs.length<=9223372036854775807)
  (hk:mM l i (.vec (g+1) iK (elems++xs) ⟨true,joinTy sk.ty ty⟩) fun l'=>k (.sl i (g+1) sz 0 (len+xs.length) none) ⟨m,l'⟩):aS ty sz bytes ⟨m,l⟩ (.sl i g sz 0 len none) x k:=by
 unfold aS;refine hx _ ?_;cases xs with
 |nil=>simp at h0
 |cons x0 xr=>
  dsimp only;rw[ah];refine⟨h1,?_⟩;show cY (Nat.beq sz sz) _;rw[ah];refine⟨Nat.beq_refl _,?_⟩;rw[bg,ho];dsimp only;rw[ah];refine⟨Nat.beq_refl _,?_⟩
  have hno:(Nat.blt 0 sz&&Nat.ble (0+len+(x0::xr).length) elems.length)=false:=by
   cases hb:Nat.ble (0+len+(x0::xr).length) elems.length with
   |false=>rw[Bool.and_false]
   |true=>
    have:=Nat.le_of_ble_eq_true hb;rw[hn]at this;simp only[List.length_cons]at this;omega
  rw[hno];show cY _ _;rw[ah];refine⟨?_,?_⟩
  ·rw[decide_eq_true hl,decide_eq_true hl',hn]
   simp only[Bool.and_true,Nat.beq_refl]
  ·rw[sn]
   exact hk
theorem rP{s:List UInt8}{k:List UInt8->Prop}(hk:k s):oo (s.map tw) k:=by
 have e:s.map tw=(s.map fun b=>(b.toNat:Int)).map (SV.int .u8):=by rw[List.map_map];rfl
 rw[e];refine tG ?_
 have e2:(s.map fun b=>(b.toNat:Int)).map (fun n=>UInt8.ofNat n.toNat)=s:=by
  rw[List.map_map]
  conv=>rhs;rw[<- List.map_id s]
  apply List.map_congr_left
  intro b _;simp
 rw[e2];exact hk
theorem tU{l:List SV}{n:Nat}{k:List SV->Prop}(h:n=l.length)(hk:k l):takeN l n k:=cU.2 ⟨by omega,by rw[List.take_of_length_le (by omega)];exact hk⟩
end Ab
