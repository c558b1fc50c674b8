/- Parts of the proof of PParserBlanks, one behind the other, with short names. -/
import Derived.Test.YtbjifmbemdhndaaGreatDoorZ19
import Derived.Lib.TrimUEq
import Derived.Lib.MapLaws
import Derived.Lib.ParseIntB
set_option linter.unusedVariables false
set_option linter.unusedSimpArgs false
namespace Go.Proofs.YtbjifmbemdhndaaGreatDoor
open Go.Lib
theorem rZ{p r r':List UInt8}(hp:p≠[]):decodeL (p++39::r)=decodeL (p++39::r'):=by
 rw[decodeL_N,decodeL_N];have q: ¬((39:UInt8).toNat/64=2):=by decide
 match p,hp with
 | [a],_=>
   simp only[List.cons_append,List.nil_append,List.length_cons,List.getD_cons_zero,List.getD_cons_succ];unfold decodeN;simp only[q,and_false,false_and,if_false]
 | [a,b],_=>
   simp only[List.cons_append,List.nil_append,List.length_cons,List.getD_cons_zero,List.getD_cons_succ];unfold decodeN;simp only[q,and_false,false_and,if_false,show 1<r.length+1+1+1 by omega,show 1<r'.length+1+1+1 by omega,true_and]
 | [a,b,c],_=>
   simp only[List.cons_append,List.nil_append,List.length_cons,List.getD_cons_zero,List.getD_cons_succ];unfold decodeN;simp only[q,and_false,false_and,if_false,show 1<r.length+1+1+1+1 by omega,show 1<r'.length+1+1+1+1 by omega,show 2<r.length+1+1+1+1 by omega,show 2<r'.length+1+1+1+1 by omega,true_and]
 |a::b::c::d::t,_=>
  simp only[List.cons_append,List.length_cons,List.length_append,List.getD_cons_zero,List.getD_cons_succ];unfold decodeN;simp only[show 1<t.length+(r.length+1)+1+1+1+1 by omega,show 1<t.length+(r'.length+1)+1+1+1+1 by omega,show 2<t.length+(r.length+1)+1+1+1+1 by omega,show 2<t.length+(r'.length+1)+1+1+1+1 by omega,show 3<t.length+(r.length+1)+1+1+1+1 by omega,show 3<t.length+(r'.length+1)+1+1+1+1 by omega,true_and]
theorem zA{p r:List UInt8}(hp:p≠[]):(decodeL (p++39::r)).2<=p.length:=by
 rw[decodeL_N];have q: ¬((39:UInt8).toNat/64=2):=by decide
 match p,hp with
 | [a],_=>
   simp only[List.cons_append,List.nil_append,List.length_cons,List.getD_cons_zero,List.getD_cons_succ];unfold decodeN;simp only[q,and_false,false_and,if_false];split<;>simp
 | [a,b],_=>
   simp only[List.cons_append,List.nil_append,List.length_cons,List.getD_cons_zero,List.getD_cons_succ];unfold decodeN;simp only[q,and_false,false_and,if_false]
   repeat' split
   all_goals simp
 | [a,b,c],_=>
   simp only[List.cons_append,List.nil_append,List.length_cons,List.getD_cons_zero,List.getD_cons_succ];unfold decodeN;simp only[q,and_false,false_and,if_false]
   repeat' split
   all_goals simp
 |a::b::c::d::t,_=>
  unfold decodeN
  repeat' split
  all_goals (simp only[List.length_cons];omega)
theorem Bs{l:List UInt8}{k:Nat}(h:k<l.length)(hk:l.getD k 0=39):l=l.take k++39::l.drop (k+1):=by
 conv=>lhs;rw[<- List.take_append_drop k l]
 congr 1
 rw[List.drop_eq_getElem_cons h];congr 1
 simpa[List.getD,h]using hk
theorem lO: ∀(f:Nat) (l:List UInt8) (i:Nat) (bad:Bool) (buf:List UInt8) (x:Tk) (n:Nat),cA f l i bad buf= .ok x n->
  i<n/\n-1-i<l.length/\l.getD (n-1-i) 0=39/\ ∀f' m,n<=i+m->m<=f'->cA f' (l.take m) i bad buf= .ok x n
 |0,l,i,bad,buf,x,n,h=>by simp[cA]at h
 |f+1,[],i,bad,buf,x,n,h=>by simp[cA]at h
 |f+1,c::r,i,bad,buf,x,n,h=>by
  rw[cA]at h;by_cases hc:c≠39
  ·rw[if_pos hc]at h
   obtain⟨h1,h2,h3,h4⟩:=lO f _ _ _ _ x n h;generalize hd:decodeL (c::r)=d at h h1 h2 h3 h4;have hw:1<=d.2:=by rw[<- hd];exact decodeL_width _
   rw[List.length_drop]at h2;have e1:n-1-i=d.2+(n-1-(i+d.2)):=by omega
   have hq:(c::r).getD (n-1-i) 0=39:=by
    rw[e1];simpa[List.getD,List.getElem?_drop]using h3
   have hlt:n-1-i<(c::r).length:=by omega
   refine⟨by omega,hlt,hq,fun f' m hm hf=> ?_⟩;have hs:=Bs hlt hq
   have hp:(c::r).take (n-1-i)≠[]:=by
    rw[show n-1-i=(n-2-i)+1 by omega];simp
   have ht:(c::r).take m=(c::r).take (n-1-i)++39::((c::r).drop (n-1-i+1)).take (m-(n-1-i)-1):=by
    conv=>lhs;rw[hs]
    rw[List.take_append,List.take_of_length_le (by rw[List.length_take];omega),List.length_take,Nat.min_eq_left (by omega),show m-(n-1-i)=(m-(n-1-i)-1)+1 by omega,List.take_succ_cons,Nat.add_sub_cancel]
   have hd':decodeL ((c::r).take m)=d:=by
    rw[ht,rZ hp (r':=(c::r).drop (n-1-i+1)),<-hs,hd]
   obtain⟨f',rfl⟩: ∃g,f'=g+1:=⟨f'-1,by omega⟩;obtain⟨m,rfl⟩: ∃g,m=g+1:=⟨m-1,by omega⟩;rw[List.take_succ_cons,cA,if_pos hc];rw[List.take_succ_cons]at hd';rw[hd'];show cA f' ((c::r.take m).drop d.2) (i+d.2) _ (buf++(c::r.take m).take d.2)=_;have e2:c::r.take m=(c::r).take (m+1):=rfl;rw[e2,List.take_take,Nat.min_eq_left (by omega),List.drop_take];exact h4 f' (m+1-d.2) (by omega) (by omega)
  ·have hc:c=39:=by simpa using hc
   subst hc;rw[if_neg (by simp)]at h;by_cases hr:r.getD 0 0=39
   ·rw[if_pos hr]at h
    obtain⟨h1,h2,h3,h4⟩:=lO f _ _ _ _ x n h
    match r,hr,h2,h3,h4 with
    | [],hr,_,_,_=>exact absurd hr (by decide)
    |a::r',hr,h2,h3,h4=>
     obtain rfl:a=39:=hr;simp only[List.drop_succ_cons,List.drop_zero]at h2 h3 h4;refine⟨by omega,by simp only[List.length_cons];omega,?_,fun f' m hm hf=> ?_⟩
     ·rw[show n-1-i=(n-1-(i+2))+1+1 by omega]
      simpa using h3
     ·obtain⟨f',rfl⟩: ∃g,f'=g+1:=⟨f'-1,by omega⟩
      obtain⟨m,rfl⟩: ∃g,m=g+1+1:=⟨m-2,by omega⟩;rw[List.take_succ_cons,List.take_succ_cons,cA,if_neg (by simp),if_pos (by rfl)];simp only[List.drop_succ_cons,List.drop_zero];exact h4 f' m (by omega) (by omega)
   ·rw[if_neg hr]at h
    have hn:n=i+1:=by
     split at h
     ·cases h
     ·split at h
      ·cases h
      ·cases h;rfl
    subst hn;refine⟨by omega,by simp,by rw[show i+1-1-i=0 by omega];rfl,fun f' m hm hf=> ?_⟩;obtain⟨f',rfl⟩: ∃g,f'=g+1:=⟨f'-1,by omega⟩;obtain⟨m,rfl⟩: ∃g,m=g+1:=⟨m-1,by omega⟩
    have hr': ¬(r.take m).getD 0 0=39:=by
     cases m with
     |zero=>simp
     |succ m=>cases r with
      |nil=>simp
      |cons a r=>exact hr
    rw[List.take_succ_cons,cA,if_neg (by simp),if_neg hr'];exact h
theorem lP{p:UInt8->Bool}: ∀(s:List UInt8) (m:Nat),(s.takeWhile p).length<=m->(s.take m).takeWhile p=s.takeWhile p
 | [],m,_=>by simp
 |c::r,0,h=>by
  by_cases hc:p c=true
  ·simp[hc]at h
  ·simp[hc]
 |c::r,m+1,h=>by
  by_cases hc:p c=true
  ·simp only[List.take_succ_cons,List.takeWhile_cons,hc,if_true]at h ⊢
   rw[lP r m (by simpa using h)]
  ·simp[hc]
theorem iR{p:UInt8->Bool}: ∀(s:List UInt8),(s.takeWhile p).length<=s.length
 | []=>by simp
 |c::r=>by
  rw[List.takeWhile_cons];split
  ·have:=iR (p:=p) r
   simp only[List.length_cons];omega
  ·simp
theorem Bt{x s:List UInt8}{m:Nat}(h:x.isPrefixOf (s.take m)=true):x.isPrefixOf s=true:=by
 rw[List.isPrefixOf_iff_prefix]at h ⊢;exact h.trans (List.take_prefix m s)
theorem take_prefix{x s:List UInt8}{m:Nat}(h:x.isPrefixOf s=true)(hm:x.length<=m):x.isPrefixOf (s.take m)=true:=by
 rw[List.isPrefixOf_iff_prefix]at h ⊢;obtain⟨t,rfl⟩:=h;rw[List.take_append,List.take_of_length_le hm];exact List.prefix_append _ _
theorem yw{s:List UInt8}: ∀(L:List (List UInt8)) (x:Tk) (n:Nat),(∀ y∈L,y≠[])->gQ s L= .ok x n->1<=n/\n<=s.length/\ ∀m,n<=m->gQ (s.take m) L= .ok x n
 | [],x,n,_,h=>by simp[gQ]at h
 |y::L,x,n,hL,h=>by
  rw[gQ]at h;split at h
  ·rename_i hy
   cases h
   refine⟨by have:=hL y (by simp);cases y with|nil=>exact absurd rfl this|cons a b=>simp,?_,fun m hm=> ?_⟩
   ·rw[List.isPrefixOf_iff_prefix]at hy
    exact hy.length_le
   ·rw[gQ,if_pos (take_prefix hy hm)]
  ·rename_i hy
   obtain⟨h1,h2,h3⟩:=yw L x n (fun y hm=>hL y (by simp[hm])) h;refine⟨h1,h2,fun m hm=> ?_⟩;rw[gQ,if_neg fun hp=>hy (Bt hp)];exact h3 m hm
theorem Gq: ∀y∈eY,y≠[]:=by decide
theorem lQ{s:List UInt8}{x:Tk}{n:Nat}(h:gN s= .ok x n):1<=n/\n<=s.length/\ ∀m,n<=m->gN (s.take m)= .ok x n:=by
 match s,h with
 | [],h=>simp[gN]at h
 |c::r,h=>
  have key:1<=n/\n<=(c::r).length/\ ∀m,n<=m+1->gN (c::r.take m)= .ok x n:=by
   unfold gN at h;dsimp only at h;unfold gN;dsimp only;split at h
   ·rename_i hl
    simp only[if_pos hl];unfold ov at h ⊢;dsimp only at h ⊢;split at h
    ·cases h
    ·rename_i hlen
     cases h
     refine⟨?_,iR _,fun m hm=> ?_⟩
     ·simp[hl]
     ·have:=lP (p:=fun c=>cL c||isDigit c) (c::r) (m+1) hm
      rw[List.take_succ_cons]at this;rw[this,if_neg hlen]
   ·rename_i hl
    simp only[if_neg hl];split at h
    ·rename_i hd
     simp only[if_pos hd];unfold jv at h ⊢;dsimp only at h ⊢;split at h
     ·cases h
     ·rename_i hlen
      cases h
      refine⟨?_,iR _,fun m hm=> ?_⟩
      ·simp[hd]
      ·have:=lP (p:=isDigit) (c::r) (m+1) hm
       rw[List.take_succ_cons]at this;rw[this,if_neg hlen]
    ·rename_i hd
     simp only[if_neg hd];split at h
     ·rename_i hq
      simp only[if_pos hq];unfold rY at h ⊢;simp only[List.drop_succ_cons,List.drop_zero]at h ⊢;obtain⟨h1,h2,h3,h4⟩:=lO _ _ _ _ _ x n h;refine⟨by omega,by simp only[List.length_cons];omega,fun m hm=> ?_⟩;by_cases hmr:m<=r.length
      ·exact h4 _ m (by omega) (by rw[List.length_cons,List.length_take];omega)
      ·rw[List.take_of_length_le (by omega)]
       have:=h4 (r.length+1) r.length (by omega) (by omega);rw[List.take_length]at this;exact this
     ·rename_i hq
      simp only[if_neg hq];obtain⟨h1,h2,h3⟩:=yw eY x n Gq h;refine⟨h1,h2,fun m hm=> ?_⟩;have:=h3 (m+1) hm;rw[List.take_succ_cons]at this;exact this
  refine⟨key.1,key.2.1,fun m hm=> ?_⟩;obtain⟨m,rfl⟩: ∃g,m=g+1:=⟨m-1,by omega⟩;exact key.2.2 m hm
inductive mE:List UInt8->Nat->List (Tk×Nat)->Prop
 |none {s:List UInt8} {p:Nat} (h: ∀c∈s,cD c=true):mE s p []
 |some {b s:List UInt8} {p:Nat} {x:Tk} {n:Nat} {l:List (Tk×Nat)} (hb: ∀c∈b,cD c=true) (hc:cD (s.getD 0 0)=false) (ho:gN s= .ok x n) (h:mE (s.drop n) (p+b.length+n) l):mE (b++s) p ((x,p+b.length)::l)
theorem mF: ∀(f:Nat) (s:List UInt8) (p:Nat) (l:List (Tk×Nat)),s.length<=f->ga f s p= .ok l->mE s p l
 |0,s,p,l,hf,h=>by
  obtain rfl:s=[]:=by simpa using hf
  simp only[ga]at h;cases h
  exact .none (by simp)
 |f+1,[],p,l,hf,h=>by
  simp only[ga]at h;cases h
  exact .none (by simp)
 |f+1,c::r,p,l,hf,h=>by
  rw[ga]at h;simp only[List.length_cons]at hf;split at h
  ·rename_i hb
   match l,mF f r (p+1) l (by omega) h with
   |_,.none h=>exact .none (by simp only[List.mem_cons];rintro d (rfl|hd);exact hb;exact h d hd)
   |_,.some (b:=b) (s:=s) (x:=x) (n:=n) (l:=l) hb' hc ho h=>
    have:=mE.some (b:=c::b) (p:=p) (by simp only[List.mem_cons];rintro d (rfl|hd);exact hb;exact hb' d hd) hc ho (by rw[List.length_cons,show p+(b.length+1)+n=p+1+b.length+n by omega];exact h);rw[List.length_cons,show p+(b.length+1)=p+1+b.length by omega]at this;exact this
  ·rename_i hb
   split at h
   ·cases h
   ·rename_i x n ho
    split at h
    ·cases h
    ·rename_i l' hl
     cases h
     obtain⟨h1,h2,_⟩:=lQ ho;have:=mF f _ _ _ (by rw[List.length_drop,List.length_cons];simp only[List.length_cons]at h2;omega) hl;exact mE.some (b:=[]) (by simp) (by simpa using hb) ho this
theorem uy: ∀(f:Nat) (s:List UInt8) (p:Nat),(∀ c∈s,cD c=true)->ga f s p= .ok []
 |0,_,_,_=>rfl
 |f+1,[],_,_=>rfl
 |f+1,c::r,p,h=>by
  rw[ga,if_pos (h c (by simp))];exact uy f r (p+1) fun d hd=>h d (by simp[hd])
def oA(l:List (Tk×Nat))(i e:Nat):Nat:=match l[i]? with
 |some x=>x.2
 |none=>e
theorem Bu(a:Tk×Nat)(l:List (Tk×Nat))(i e:Nat):oA (a::l) (i+1) e=oA l i e:=by unfold oA;rw[List.getElem?_cons_succ]
theorem Io(a:Tk×Nat)(l:List (Tk×Nat))(e:Nat):oA (a::l) 0 e=a.2:=rfl
theorem Kl(i e:Nat):oA [] i e=e:=by unfold oA;simp
theorem Dq: ∀ {s:List UInt8} {p:Nat} {l:List (Tk×Nat)},mE s p l->p<=oA l 0 (p+s.length)/\oA l 0 (p+s.length)<=p+s.length/\ ∀c∈s.take (oA l 0 (p+s.length)-p),cD c=true:=by
 intro s p l h;cases h with
 |none h=>
  rw[Kl];refine⟨by omega,by omega,fun c hc=>h c (List.mem_of_mem_take hc)⟩
 |some hb hc ho h=>
  rename_i b s x n l;rw[Io];refine⟨by simp,by simp only[List.length_append];omega,fun c hc=>hb c ?_⟩;dsimp only at hc;rw[Nat.add_sub_cancel_left,List.take_left' rfl]at hc;exact hc
theorem tC: ∀ {s:List UInt8} {p:Nat} {l:List (Tk×Nat)},mE s p l-> ∀j,j<l.length->
  ∃x q,l[j]? =some (x,q)/\p<=q/\q<oA l (j+1) (p+s.length)/\oA l (j+1) (p+s.length)<=p+s.length/\
   cD ((s.drop (q-p)).getD 0 0)=false/\ ∃n,gN (s.drop (q-p))= .ok x n/\n<=oA l (j+1) (p+s.length)-q/\ ∀c∈((s.drop (q-p)).take (oA l (j+1) (p+s.length)-q)).drop n,cD c=true:=by
 intro s p l h
 induction h with
 |none h=>intro j hj;simp at hj
 |some hb hc ho h ih=>
  rename_i b s p x n l;obtain⟨h1,h2,h3⟩:=lQ ho;have e:p+(b++s).length=p+b.length+n+(s.drop n).length:=by rw[List.length_append,List.length_drop];omega
  intro j hj;cases j with
  |zero=>
   obtain⟨a1,a2,a3⟩:=Dq h;rw[Bu,e];refine⟨x,p+b.length,rfl,by omega,by omega,a2,?_⟩;generalize oA l 0 (p+b.length+n+(s.drop n).length)=T at a1 a2 a3;rw[Nat.add_sub_cancel_left,List.drop_left' rfl];refine⟨hc,n,ho,by omega,?_⟩;rw[List.drop_take,show T-(p+b.length)-n=T-(p+b.length+n) by omega];exact a3
  |succ j=>
   obtain⟨y,q,b1,b2,b3,b4,b5⟩:=ih j (by simpa using hj);rw[Bu,e];refine⟨y,q,by simpa using b1,by omega,b3,b4,?_⟩;rw[List.drop_drop]at b5;rw[show q-p=b.length+(n+(q-(p+b.length+n))) by omega,<-List.drop_drop,List.drop_left' rfl];exact b5
def uz(c:UInt8):UInt8:=if 97<=c&&c<=122 then c-32 else c
theorem yx: ∀c:UInt8,cL (uz c)=cL c:=by
 intro c;have: ∀n:Fin 256,cL (uz (UInt8.ofNat n.val))=cL (UInt8.ofNat n.val):=by decide +kernel
 have h:=this ⟨c.toNat,UInt8.toNat_lt c⟩;simpa using h
theorem Ip: ∀c:UInt8,isDigit (uz c)=isDigit c:=by
 intro c;have: ∀n:Fin 256,isDigit (uz (UInt8.ofNat n.val))=isDigit (UInt8.ofNat n.val):=by decide +kernel
 have h:=this ⟨c.toNat,UInt8.toNat_lt c⟩;simpa using h
theorem NA: ∀c:UInt8,uR (uz c)=uR c:=by
 intro c;have: ∀n:Fin 256,uR (uz (UInt8.ofNat n.val))=uR (UInt8.ofNat n.val):=by decide +kernel
 have h:=this ⟨c.toNat,UInt8.toNat_lt c⟩;simpa using h
theorem Iq: ∀c:UInt8,cD c=true->uz c=c:=by
 intro c hc;have: ∀n:Fin 256,cD (UInt8.ofNat n.val)=true->uz (UInt8.ofNat n.val)=UInt8.ofNat n.val:=by decide +kernel
 have h:=this ⟨c.toNat,UInt8.toNat_lt c⟩;simp at h;exact h hc
theorem Ir: ∀c:UInt8,cD c=true->cL c=false/\isDigit c=false/\c≠39:=by
 intro c hc;have: ∀n:Fin 256,cD (UInt8.ofNat n.val)=true->cL (UInt8.ofNat n.val)=false/\isDigit (UInt8.ofNat n.val)=false/\UInt8.ofNat n.val≠39:=by decide +kernel
 have h:=this ⟨c.toNat,UInt8.toNat_lt c⟩;simp at h;simpa using h hc
theorem mR{p:UInt8->Bool}: ∀ {u:List UInt8} {c:UInt8} {r:List UInt8},(u.takeWhile p).length=u.length->p c=false->(u++c::r).takeWhile p=u.takeWhile p
 | [],c,r,_,hc=>by simp[hc]
 |a::u,c,r,h,hc=>by
  rw[List.cons_append,List.takeWhile_cons,List.takeWhile_cons];rw[List.takeWhile_cons]at h;split
  ·rename_i ha
   rw[if_pos ha]at h;rw[mR (u:=u) (by simpa using h) hc]
  ·rename_i ha
   simp[ha]at h
theorem q7: ∀(f:Nat) (u:List UInt8) (i:Nat) (bad:Bool) (buf:List UInt8) (x:Tk) (c:UInt8) (r:List UInt8) (f':Nat),c≠39->cA f u i bad buf= .ok x (i+u.length)->u.length<=f'->cA f' (u++c::r) i bad buf= .ok x (i+u.length)
 |0,_,_,_,_,_,_,_,_,_,h,_=>by simp[cA]at h
 |f+1,[],_,_,_,_,_,_,_,_,h,_=>by simp[cA]at h
 |f+1,a::u,i,bad,buf,x,c,r,f',hc,h,hf=>by
  have h0:=h;simp only[List.length_cons]at h hf ⊢;obtain⟨f',rfl⟩: ∃g,f'=g+1:=⟨f'-1,by omega⟩;rw[cA]at h;rw[List.cons_append,cA];by_cases ha:a≠39
  ·rw[if_pos ha]at h ⊢
   obtain⟨k1,k2,k3,_⟩:=lO _ _ _ _ _ x _ h0;simp only[List.length_cons]at k2 k3;have e0:i+(u.length+1)-1-i=u.length:=by omega
   rw[e0]at k2 k3;obtain⟨k1,_,_,_⟩:=lO _ _ _ _ _ x _ h;generalize hd:decodeL (a::u)=d at h k1;have hu:u≠[]:=by rintro rfl;exact ha k3
   have hl:a::u=(a::u).take u.length++39::[]:=by
    have:=Bs (l:=a::u) (k:=u.length) (by simp) k3;rw[List.drop_of_length_le (by simp)]at this;exact this
   have hp:(a::u).take u.length≠[]:=by
    cases u with
    |nil=>exact absurd rfl hu
    |cons b v=>simp
   have hd':decodeL (a::(u++c::r))=d:=by
    have e:a::(u++c::r)=(a::u).take u.length++39::(c::r):=by
     rw[<- List.cons_append]
     conv=>lhs;rw[hl]
     simp
    rw[e,rZ hp (r':=[]),<-hl,hd]
   have hw:=zA (p:=(a::u).take u.length) (r:=[]) hp;rw[<- hl,hd,List.length_take]at hw;simp only[List.length_cons]at hw;have hw1:1<=d.2:=by rw[<- hd];exact decodeL_width _
   rw[hd'];show cA f' ((a::(u++c::r)).drop d.2) (i+d.2) _ (buf++(a::(u++c::r)).take d.2)=_;rw[<- List.cons_append,List.drop_append_of_le_length (by simp only[List.length_cons];omega),List.take_append_of_le_length (by simp only[List.length_cons];omega)];have el:i+(u.length+1)=i+d.2+((a::u).drop d.2).length:=by rw[List.length_drop,List.length_cons];omega
   rw[el]at h ⊢;exact q7 f _ _ _ _ x c r f' hc h (by rw[List.length_drop,List.length_cons];omega)
  ·have ha:a=39:=by simpa using ha
   subst ha;rw[if_neg (by simp)]at h ⊢
   match u,h,hf with
   | [],h,hf=>
     rw[if_neg (by decide)]at h;rw[if_neg (by simpa using hc)];exact h
   |b::u,h,hf=>
    by_cases hb:b=39
    ·subst hb
     rw[if_pos (by rfl)]at h;rw[if_pos (by rfl)];simp only[List.cons_append,List.drop_succ_cons,List.drop_zero,List.length_cons]at h ⊢;rw[show i+(u.length+1+1)=i+2+u.length by omega]at h ⊢;exact q7 f u (i+2) bad _ x c r f' hc h (by simp only[List.length_cons]at hf;omega)
    ·rw[if_neg (by simpa using hb)]at h
     exfalso;split at h
     ·cases h
     ·split at h
      ·cases h
      ·cases h
theorem Km: ∀x∈eY,∀b∈x,cD b=false:=by decide
theorem yz{u:List UInt8}{c:UInt8}{r:List UInt8}(hc:cD c=true): ∀(L:List (List UInt8)) (x:Tk),(∀ y∈L,y∈eY)->gQ u L= .ok x u.length->gQ (u++c::r) L= .ok x u.length
 | [],x,_,h=>by simp[gQ]at h
 |y::L,x,hL,h=>by
  rw[gQ]at h ⊢;split at h
  ·rename_i hy
   rw[if_pos]
   ·exact h
   ·rw[List.isPrefixOf_iff_prefix]at hy ⊢
    exact hy.trans (List.prefix_append _ _)
  ·rename_i hy
   rw[if_neg]
   ·exact yz hc L x (fun y hm=>hL y (by simp[hm])) h
   ·intro hp
    rw[List.isPrefixOf_iff_prefix]at hy hp;rcases Nat.lt_or_ge u.length y.length with hlt|hge
    ·obtain⟨t,ht⟩:=hp
     have:(y++t)[u.length]? =some c:=by rw[ht];simp
     rw[List.getElem?_append_left hlt]at this;have hm:=List.mem_of_getElem? this;have:=Km y (hL y (by simp)) c hm;rw[hc]at this;cases this
    ·exact hy (List.prefix_of_prefix_length_le hp (List.prefix_append _ _) hge)
theorem Is{u:List UInt8}{x:Tk}{c:UInt8}{r:List UInt8}(h:gN u= .ok x u.length)(hc:cD c=true):gN (u++c::r)= .ok x u.length:=by
 obtain⟨n1,n2,n3⟩:=Ir c hc
 match u,h with
 | [],h=>simp[gN]at h
 |a::v,h=>
  unfold gN at h ⊢;rw[List.cons_append];dsimp only at h ⊢;split at h
  ·rename_i hl
   rw[if_pos hl];unfold ov at h ⊢;dsimp only at h ⊢;split at h
   ·cases h
   ·rename_i hlen
    have hw:((a::v).takeWhile fun c=>cL c||isDigit c).length=(a::v).length:=by injection h
    have:=mR (p:=fun c=>cL c||isDigit c) (r:=r) hw (by simp[n1,n2]:(cL c||isDigit c)=false);rw[List.cons_append]at this;rw[this,if_neg hlen];exact h
  ·rename_i hl
   rw[if_neg hl];split at h
   ·rename_i hd
    rw[if_pos hd];unfold jv at h ⊢;dsimp only at h ⊢;split at h
    ·cases h
    ·rename_i hlen
     have hw:((a::v).takeWhile isDigit).length=(a::v).length:=by injection h
     have:=mR (p:=isDigit) (r:=r) hw n2;rw[List.cons_append]at this;rw[this,if_neg hlen];exact h
   ·rename_i hd
    rw[if_neg hd];split at h
    ·rename_i hq
     rw[if_pos hq];unfold rY at h ⊢;simp only[List.drop_succ_cons,List.drop_zero,List.length_cons]at h ⊢;rw[show v.length+1=1+v.length by omega]at h ⊢;exact q7 _ v 1 false [] x c r _ n3 h (by simp only[List.length_append];omega)
    ·rename_i hq
     rw[if_neg hq];exact yz hc eY x (fun _ h=>h) h
theorem mG: ∀(f:Nat) (u:List UInt8) (i:Nat) (bad:Bool) (buf:List UInt8) (x:Tk) (n:Nat),cA f u i bad buf= .ok x n->x.k=3
 |0,_,_,_,_,_,_,h=>by simp[cA]at h
 |f+1,[],_,_,_,_,_,h=>by simp[cA]at h
 |f+1,a::u,i,bad,buf,x,n,h=>by
  rw[cA]at h;split at h
  ·exact mG f _ _ _ _ x n h
  ·split at h
   ·exact mG f _ _ _ _ x n h
   ·split at h
    ·cases h
    ·split at h
     ·cases h
     ·cases h;rfl
theorem q8{u:List UInt8}: ∀(L:List (List UInt8)) (x:Tk) (n:Nat),gQ u L= .ok x n->x.k=4
 | [],_,_,h=>by simp[gQ]at h
 |y::L,x,n,h=>by
  rw[gQ]at h;split at h
  ·cases h;rfl
  ·exact q8 L x n h
theorem Kn{u:List UInt8}{x:Tk}(h:gN u= .ok x u.length)(hk:x.k=1):gN (u.map uz)= .ok x u.length:=by
 match u,h with
 | [],h=>simp[gN]at h
 |a::v,h=>
  unfold gN at h ⊢;rw[List.map_cons];dsimp only at h ⊢;split at h
  ·rename_i hl
   rw[if_pos (by rw[yx];exact hl)];unfold ov at h ⊢;dsimp only at h ⊢
   have e:(uz a::v.map uz).takeWhile (fun c=>cL c||isDigit c)=((a::v).takeWhile fun c=>cL c||isDigit c).map uz:=by
    rw[<- List.map_cons,List.takeWhile_map];congr 2
    funext c;simp only[Function.comp,yx,Ip]
   rw[e,List.length_map,List.map_map,show(uR∘uz)=uR from funext NA];exact h
  ·split at h
   ·exfalso
    unfold jv at h;dsimp only at h;split at h
    ·cases h
    ·have:x.k=2:=by injection h with h1 h2;rw[<- h1]
     omega
   ·split at h
    ·have:=mG _ _ _ _ _ _ _ h
     omega
    ·have:=q8 _ _ _ h
     omega
theorem wm: ∀(bl:List UInt8) (f p:Nat) (r:List UInt8),(∀ c∈bl,cD c=true)->bl.length<=f->ga f (bl++r) p=ga (f-bl.length) r (p+bl.length)
 | [],f,p,r,_,_=>rfl
 |b::bl,f,p,r,h,hf=>by
  obtain⟨f,rfl⟩: ∃g,f=g+1:=⟨f-1,by simp only[List.length_cons]at hf;omega⟩;rw[List.cons_append,ga,if_pos (h b (by simp)),wm bl f (p+1) r (fun c hc=>h c (by simp[hc])) (by simpa using hf)];simp only[List.length_cons];congr 1<;>omega
structure Piece where
 u:List UInt8
 bl:List UInt8
 x:Tk
structure Piece.Ok(q:Piece):Prop where
 one:gN q.u= .ok q.x q.u.length
 first:cD (q.u.getD 0 0)=false
 ne:q.bl≠[]
 blank: ∀c∈q.bl,cD c=true
def flat(ps:List Piece):List UInt8:=ps.flatMap fun q=>q.u++q.bl
theorem wo: ∀(ps:List Piece) (f p:Nat),(∀ q∈ps,q.Ok)->(flat ps).length<=f-> ∃l,ga f (flat ps) p= .ok l/\l.map (·.1)=ps.map (·.x)
 | [],f,p,_,_=>⟨[],uy f [] p (by simp),rfl⟩
 |q::ps,f,p,h,hf=>by
  have hq:=h q (by simp);have e:flat (q::ps)=q.u++(q.bl++flat ps):=by simp[flat]
  rw[e]at hf ⊢;simp only[List.length_append]at hf;obtain⟨h1,h2,_⟩:=lQ hq.one;obtain⟨l,hl,hm⟩:=wo ps (f-1-q.bl.length) (p+q.u.length+q.bl.length) (fun q' HC=>h q' (by simp[HC])) (by omega);refine⟨(q.x,p)::l,?_,by simp[hm]⟩;obtain⟨f,rfl⟩: ∃g,f=g+1:=⟨f-1,by omega⟩
  match hu:q.u,HN:q.bl with
  | [],_=>rw[hu]at h1;simp at h1
  |_,[]=>exact absurd HN hq.ne
  |a::v,b::bl=>
   have ho:gN ((a::v)++b::(bl++flat ps))= .ok q.x (a::v).length:=by
    rw[<- hu];exact Is hq.one (hq.blank b (by rw[HN];simp))
   have VS:=hq.first
   rw[hu]at VS;rw[List.cons_append,ga,if_neg (by simpa using VS)];rw[List.cons_append]at ho;rw[List.cons_append,ho];dsimp only;rw[<- List.cons_append,List.drop_left' rfl,<-List.cons_append,<-HN];rw[hu,HN]at hl hf;have hs:=wm q.bl f (p+(a::v).length) (flat ps) hq.blank (by rw[HN];simp only[List.length_cons]at hf ⊢;omega);rw[hs];rw[HN];rw[show f+1-1-(b::bl).length=f-(b::bl).length by omega]at hl;rw[hl]
theorem Gr{ps:List Piece}(h: ∀q∈ps,q.Ok): ∃l,xC (flat ps)= .ok l/\l.map (·.1)=ps.map (·.x):=wo ps _ 0 h (Nat.le_refl _)
theorem Bv: ∀(l:List UInt8) (acc:Nat),acc<=l.foldl (fun n c=>10*n+(c.toNat-48)) acc
 | [],_=>Nat.le_refl _
 |c::r,acc=>by
  rw[List.foldl_cons];exact Nat.le_trans (by omega) (Bv r _)
theorem Bw{c:UInt8}:isDigit c=true<->48<=c.toNat/\c.toNat<=57:=by
 unfold isDigit;simp only[Bool.and_eq_true,decide_eq_true_eq,UInt8.le_iff_toNat_le];exact Iff.rfl
theorem sg: ∀(l:List UInt8) (acc:Nat),(∀ c∈l,isDigit c=true)->acc<18446744073709551616->
  parseUintM 18446744073709551615 acc l=if l.foldl (fun n c=>10*n+(c.toNat-48)) acc<18446744073709551616 then .ok (l.foldl (fun n c=>10*n+(c.toNat-48)) acc)else .range
 | [],acc,_,ha=>by simp[parseUintM,ha]
 |c::r,acc,h,ha=>by
  have hc:=Bw.1 (h c (by simp));rw[parseUintM,if_pos hc,List.foldl_cons];have hg:=Bv r (10*acc+(c.toNat-48));split
  ·rw[if_neg (by omega)]
  ·split
   ·rw[if_neg (by omega)]
   ·rw[Nat.mul_comm acc 10]
    exact sg r _ (fun d hd=>h d (by simp[hd])) (by omega)
theorem Gs{l:List UInt8}(hne:l≠[])(h: ∀c∈l,isDigit c=true):parseUintB 64 l=if numOf l<18446744073709551616 then .ok (numOf l)else .range:=by
 unfold parseUintB;rw[if_neg hne];exact sg l 0 h (by decide)
theorem jw{p:UInt8->Bool}: ∀ {l:List UInt8} {c:UInt8},c∈l.takeWhile p->p c=true
 | [],_,h=>by simp at h
 |a::r,c,h=>by
  rw[List.takeWhile_cons]at h;split at h
  ·rcases List.mem_cons.1 h with rfl|h
   ·assumption
   ·exact jw h
  ·simp at h
theorem It{p:UInt8->Bool}: ∀ {l:List UInt8} {n:Nat},n<=(l.takeWhile p).length->n<l.length->(p (l.getD n 0)=true<->n<(l.takeWhile p).length)
 | [],n,_,h=>by simp at h
 |a::r,0,_,_=>by
  rw[List.takeWhile_cons];show p a=true<->_;split
  ·rename_i h;simp[h]
  ·rename_i h;simp[h]
 |a::r,n+1,h1,h2=>by
  rw[List.takeWhile_cons]at h1 ⊢;split
  ·rename_i h
   rw[if_pos h]at h1;have:=It (p:=p) (l:=r) (n:=n) (by simpa using h1) (by simpa using h2);simpa using this
  ·rename_i h
   rw[if_neg h]at h1;simp at h1
theorem ve{p:UInt8->Bool}: ∀(l:List UInt8),l.take (l.takeWhile p).length=l.takeWhile p
 | []=>by simp
 |a::r=>by
  rw[List.takeWhile_cons];split
  ·rw[List.length_cons,List.take_succ_cons,ve r]
  ·simp
end Go.Proofs.YtbjifmbemdhndaaGreatDoor
