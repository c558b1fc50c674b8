/- Parts of the proof of PParserDepth, one behind the other, with short names. -/
import Derived.Test.YtbjifmbemdhndaaGreatDoorY19
import Derived.Lib.TrimUEq
import Derived.Lib.MapLaws
import Derived.Lib.ParseIntB
import Derived.Lib.TrimAscii
set_option linter.unusedVariables false
set_option linter.unusedSimpArgs false
namespace Go.Proofs.YtbjifmbemdhndaaGreatDoor
open Go.Lib
theorem qz{p r r':List UInt8}(hp:p≠[]):decodeL (p++39::r)=decodeL (p++39::r'):=by
 rw[decodeL_N,decodeL_N];have q: ¬((39:UInt8).toNat/64=2):=by decide
 match p,hp with
 | [a],_=>
   simp only[List.cons_append,List.nil_append,List.length_cons,List.getD_cons_zero,List.getD_cons_succ];unfold decodeN;simp only[q,and_false,false_and,if_false]
 | [a,b],_=>
   simp only[List.cons_append,List.nil_append,List.length_cons,List.getD_cons_zero,List.getD_cons_succ];unfold decodeN;simp only[q,and_false,false_and,if_false,show 1<r.length+1+1+1 by omega,show 1<r'.length+1+1+1 by omega,true_and]
 | [a,b,c],_=>
   simp only[List.cons_append,List.nil_append,List.length_cons,List.getD_cons_zero,List.getD_cons_succ];unfold decodeN;simp only[q,and_false,false_and,if_false,show 1<r.length+1+1+1+1 by omega,show 1<r'.length+1+1+1+1 by omega,show 2<r.length+1+1+1+1 by omega,show 2<r'.length+1+1+1+1 by omega,true_and]
 |a::b::c::d::t,_=>
  simp only[List.cons_append,List.length_cons,List.length_append,List.getD_cons_zero,List.getD_cons_succ];unfold decodeN;simp only[show 1<t.length+(r.length+1)+1+1+1+1 by omega,show 1<t.length+(r'.length+1)+1+1+1+1 by omega,show 2<t.length+(r.length+1)+1+1+1+1 by omega,show 2<t.length+(r'.length+1)+1+1+1+1 by omega,show 3<t.length+(r.length+1)+1+1+1+1 by omega,show 3<t.length+(r'.length+1)+1+1+1+1 by omega,true_and]
theorem qA{p r:List UInt8}(hp:p≠[]):(decodeL (p++39::r)).2<=p.length:=by
 rw[decodeL_N];have q: ¬((39:UInt8).toNat/64=2):=by decide
 match p,hp with
 | [a],_=>
   simp only[List.cons_append,List.nil_append,List.length_cons,List.getD_cons_zero,List.getD_cons_succ];unfold decodeN;simp only[q,and_false,false_and,if_false];split<;>simp
 | [a,b],_=>
   simp only[List.cons_append,List.nil_append,List.length_cons,List.getD_cons_zero,List.getD_cons_succ];unfold decodeN;simp only[q,and_false,false_and,if_false]
   repeat' split
   all_goals simp
 | [a,b,c],_=>
   simp only[List.cons_append,List.nil_append,List.length_cons,List.getD_cons_zero,List.getD_cons_succ];unfold decodeN;simp only[q,and_false,false_and,if_false]
   repeat' split
   all_goals simp
 |a::b::c::d::t,_=>
  unfold decodeN
  repeat' split
  all_goals (simp only[List.length_cons];omega)
theorem zR{l:List UInt8}{k:Nat}(h:k<l.length)(hk:l.getD k 0=39):l=l.take k++39::l.drop (k+1):=by
 conv=>lhs;rw[<- List.take_append_drop k l]
 congr 1
 rw[List.drop_eq_getElem_cons h];congr 1
 simpa[List.getD,h]using hk
theorem j6: ∀(f:Nat) (l:List UInt8) (i:Nat) (bad:Bool) (buf:List UInt8) (x:Tk) (n:Nat),bN f l i bad buf= .ok x n->
  i<n/\n-1-i<l.length/\l.getD (n-1-i) 0=39/\ ∀f' m,n<=i+m->m<=f'->bN f' (l.take m) i bad buf= .ok x n
 |0,l,i,bad,buf,x,n,h=>by simp[bN]at h
 |f+1,[],i,bad,buf,x,n,h=>by simp[bN]at h
 |f+1,c::r,i,bad,buf,x,n,h=>by
  rw[bN]at h;by_cases hc:c≠39
  ·rw[if_pos hc]at h
   obtain⟨h1,h2,h3,h4⟩:=j6 f _ _ _ _ x n h;generalize hd:decodeL (c::r)=d at h h1 h2 h3 h4;have hw:1<=d.2:=by rw[<- hd];exact decodeL_width _
   rw[List.length_drop]at h2;have e1:n-1-i=d.2+(n-1-(i+d.2)):=by omega
   have hq:(c::r).getD (n-1-i) 0=39:=by
    rw[e1];simpa[List.getD,List.getElem?_drop]using h3
   have hlt:n-1-i<(c::r).length:=by omega
   refine⟨by omega,hlt,hq,fun f' m hm hf=> ?_⟩;have hs:=zR hlt hq
   have hp:(c::r).take (n-1-i)≠[]:=by
    rw[show n-1-i=(n-2-i)+1 by omega];simp
   have ht:(c::r).take m=(c::r).take (n-1-i)++39::((c::r).drop (n-1-i+1)).take (m-(n-1-i)-1):=by
    conv=>lhs;rw[hs]
    rw[List.take_append,List.take_of_length_le (by rw[List.length_take];omega),List.length_take,Nat.min_eq_left (by omega),show m-(n-1-i)=(m-(n-1-i)-1)+1 by omega,List.take_succ_cons,Nat.add_sub_cancel]
   have hd':decodeL ((c::r).take m)=d:=by
    rw[ht,qz hp (r':=(c::r).drop (n-1-i+1)),<-hs,hd]
   obtain⟨f',rfl⟩: ∃g,f'=g+1:=⟨f'-1,by omega⟩;obtain⟨m,rfl⟩: ∃g,m=g+1:=⟨m-1,by omega⟩;rw[List.take_succ_cons,bN,if_pos hc];rw[List.take_succ_cons]at hd';rw[hd'];show bN f' ((c::r.take m).drop d.2) (i+d.2) _ (buf++(c::r.take m).take d.2)=_;have e2:c::r.take m=(c::r).take (m+1):=rfl;rw[e2,List.take_take,Nat.min_eq_left (by omega),List.drop_take];exact h4 f' (m+1-d.2) (by omega) (by omega)
  ·have hc:c=39:=by simpa using hc
   subst hc;rw[if_neg (by simp)]at h;by_cases hr:r.getD 0 0=39
   ·rw[if_pos hr]at h
    obtain⟨h1,h2,h3,h4⟩:=j6 f _ _ _ _ x n h
    match r,hr,h2,h3,h4 with
    | [],hr,_,_,_=>exact absurd hr (by decide)
    |a::r',hr,h2,h3,h4=>
     obtain rfl:a=39:=hr;simp only[List.drop_succ_cons,List.drop_zero]at h2 h3 h4;refine⟨by omega,by simp only[List.length_cons];omega,?_,fun f' m hm hf=> ?_⟩
     ·rw[show n-1-i=(n-1-(i+2))+1+1 by omega]
      simpa using h3
     ·obtain⟨f',rfl⟩: ∃g,f'=g+1:=⟨f'-1,by omega⟩
      obtain⟨m,rfl⟩: ∃g,m=g+1+1:=⟨m-2,by omega⟩;rw[List.take_succ_cons,List.take_succ_cons,bN,if_neg (by simp),if_pos (by rfl)];simp only[List.drop_succ_cons,List.drop_zero];exact h4 f' m (by omega) (by omega)
   ·rw[if_neg hr]at h
    have hn:n=i+1:=by
     split at h
     ·cases h
     ·split at h
      ·cases h
      ·cases h;rfl
    subst hn;refine⟨by omega,by simp,by rw[show i+1-1-i=0 by omega];rfl,fun f' m hm hf=> ?_⟩;obtain⟨f',rfl⟩: ∃g,f'=g+1:=⟨f'-1,by omega⟩;obtain⟨m,rfl⟩: ∃g,m=g+1:=⟨m-1,by omega⟩
    have hr': ¬(r.take m).getD 0 0=39:=by
     cases m with
     |zero=>simp
     |succ m=>cases r with
      |nil=>simp
      |cons a r=>exact hr
    rw[List.take_succ_cons,bN,if_neg (by simp),if_neg hr'];exact h
theorem j7{p:UInt8->Bool}: ∀(s:List UInt8) (m:Nat),(s.takeWhile p).length<=m->(s.take m).takeWhile p=s.takeWhile p
 | [],m,_=>by simp
 |c::r,0,h=>by
  by_cases hc:p c=true
  ·simp[hc]at h
  ·simp[hc]
 |c::r,m+1,h=>by
  by_cases hc:p c=true
  ·simp only[List.take_succ_cons,List.takeWhile_cons,hc,if_true]at h ⊢
   rw[j7 r m (by simpa using h)]
  ·simp[hc]
theorem gO{p:UInt8->Bool}: ∀(s:List UInt8),(s.takeWhile p).length<=s.length
 | []=>by simp
 |c::r=>by
  rw[List.takeWhile_cons];split
  ·have:=gO (p:=p) r
   simp only[List.length_cons];omega
  ·simp
theorem zS{x s:List UInt8}{m:Nat}(h:x.isPrefixOf (s.take m)=true):x.isPrefixOf s=true:=by
 rw[List.isPrefixOf_iff_prefix]at h ⊢;exact h.trans (List.take_prefix m s)
theorem take_prefix{x s:List UInt8}{m:Nat}(h:x.isPrefixOf s=true)(hm:x.length<=m):x.isPrefixOf (s.take m)=true:=by
 rw[List.isPrefixOf_iff_prefix]at h ⊢;obtain⟨t,rfl⟩:=h;rw[List.take_append,List.take_of_length_le hm];exact List.prefix_append _ _
theorem wB{s:List UInt8}: ∀(L:List (List UInt8)) (x:Tk) (n:Nat),(∀ y∈L,y≠[])->fZ s L= .ok x n->1<=n/\n<=s.length/\ ∀m,n<=m->fZ (s.take m) L= .ok x n
 | [],x,n,_,h=>by simp[fZ]at h
 |y::L,x,n,hL,h=>by
  rw[fZ]at h;split at h
  ·rename_i hy
   cases h
   refine⟨by have:=hL y (by simp);cases y with|nil=>exact absurd rfl this|cons a b=>simp,?_,fun m hm=> ?_⟩
   ·rw[List.isPrefixOf_iff_prefix]at hy
    exact hy.length_le
   ·rw[fZ,if_pos (take_prefix hy hm)]
  ·rename_i hy
   obtain⟨h1,h2,h3⟩:=wB L x n (fun y hm=>hL y (by simp[hm])) h;refine⟨h1,h2,fun m hm=> ?_⟩;rw[fZ,if_neg fun hp=>hy (zS hp)];exact h3 m hm
theorem Fb: ∀y∈eg,y≠[]:=by decide
theorem iS{s:List UInt8}{x:Tk}{n:Nat}(h:fH s= .ok x n):1<=n/\n<=s.length/\ ∀m,n<=m->fH (s.take m)= .ok x n:=by
 match s,h with
 | [],h=>simp[fH]at h
 |c::r,h=>
  have key:1<=n/\n<=(c::r).length/\ ∀m,n<=m+1->fH (c::r.take m)= .ok x n:=by
   unfold fH at h;dsimp only at h;unfold fH;dsimp only;split at h
   ·rename_i hl
    simp only[if_pos hl];unfold mV at h ⊢;dsimp only at h ⊢;split at h
    ·cases h
    ·rename_i hlen
     cases h
     refine⟨?_,gO _,fun m hm=> ?_⟩
     ·simp[hl]
     ·have:=j7 (p:=fun c=>bG c||isDigit c) (c::r) (m+1) hm
      rw[List.take_succ_cons]at this;rw[this,if_neg hlen]
   ·rename_i hl
    simp only[if_neg hl];split at h
    ·rename_i hd
     simp only[if_pos hd];unfold iy at h ⊢;dsimp only at h ⊢;split at h
     ·cases h
     ·rename_i hlen
      cases h
      refine⟨?_,gO _,fun m hm=> ?_⟩
      ·simp[hd]
      ·have:=j7 (p:=isDigit) (c::r) (m+1) hm
       rw[List.take_succ_cons]at this;rw[this,if_neg hlen]
    ·rename_i hd
     simp only[if_neg hd];split at h
     ·rename_i hq
      simp only[if_pos hq];unfold lV at h ⊢;simp only[List.drop_succ_cons,List.drop_zero]at h ⊢;obtain⟨h1,h2,h3,h4⟩:=j6 _ _ _ _ _ x n h;refine⟨by omega,by simp only[List.length_cons];omega,fun m hm=> ?_⟩;by_cases hmr:m<=r.length
      ·exact h4 _ m (by omega) (by rw[List.length_cons,List.length_take];omega)
      ·rw[List.take_of_length_le (by omega)]
       have:=h4 (r.length+1) r.length (by omega) (by omega);rw[List.take_length]at this;exact this
     ·rename_i hq
      simp only[if_neg hq];obtain⟨h1,h2,h3⟩:=wB eg x n Fb h;refine⟨h1,h2,fun m hm=> ?_⟩;have:=h3 (m+1) hm;rw[List.take_succ_cons]at this;exact this
  refine⟨key.1,key.2.1,fun m hm=> ?_⟩;obtain⟨m,rfl⟩: ∃g,m=g+1:=⟨m-1,by omega⟩;exact key.2.2 m hm
inductive um:List UInt8->Nat->List (Tk×Nat)->Prop
 |none {s:List UInt8} {p:Nat} (h: ∀c∈s,bT c=true):um s p []
 |some {b s:List UInt8} {p:Nat} {x:Tk} {n:Nat} {l:List (Tk×Nat)} (hb: ∀c∈b,bT c=true) (hc:bT (s.getD 0 0)=false) (ho:fH s= .ok x n) (h:um (s.drop n) (p+b.length+n) l):um (b++s) p ((x,p+b.length)::l)
theorem kK: ∀(f:Nat) (s:List UInt8) (p:Nat) (l:List (Tk×Nat)),s.length<=f->fy f s p= .ok l->um s p l
 |0,s,p,l,hf,h=>by
  obtain rfl:s=[]:=by simpa using hf
  simp only[fy]at h;cases h
  exact .none (by simp)
 |f+1,[],p,l,hf,h=>by
  simp only[fy]at h;cases h
  exact .none (by simp)
 |f+1,c::r,p,l,hf,h=>by
  rw[fy]at h;simp only[List.length_cons]at hf;split at h
  ·rename_i hb
   match l,kK f r (p+1) l (by omega) h with
   |_,.none h=>exact .none (by simp only[List.mem_cons];rintro d (rfl|hd);exact hb;exact h d hd)
   |_,.some (b:=b) (s:=s) (x:=x) (n:=n) (l:=l) hb' hc ho h=>
    have:=um.some (b:=c::b) (p:=p) (by simp only[List.mem_cons];rintro d (rfl|hd);exact hb;exact hb' d hd) hc ho (by rw[List.length_cons,show p+(b.length+1)+n=p+1+b.length+n by omega];exact h);rw[List.length_cons,show p+(b.length+1)=p+1+b.length by omega]at this;exact this
  ·rename_i hb
   split at h
   ·cases h
   ·rename_i x n ho
    split at h
    ·cases h
    ·rename_i l' hl
     cases h
     obtain⟨h1,h2,_⟩:=iS ho;have:=kK f _ _ _ (by rw[List.length_drop,List.length_cons];simp only[List.length_cons]at h2;omega) hl;exact um.some (b:=[]) (by simp) (by simpa using hb) ho this
theorem kL: ∀(f:Nat) (s:List UInt8) (p:Nat),(∀ c∈s,bT c=true)->fy f s p= .ok []
 |0,_,_,_=>rfl
 |f+1,[],_,_=>rfl
 |f+1,c::r,p,h=>by
  rw[fy,if_pos (h c (by simp))];exact kL f r (p+1) fun d hd=>h d (by simp[hd])
theorem BW{s:List UInt8}{x:Tk}{n m:Nat}(hc:bT (s.getD 0 0)=false)(ho:fH s= .ok x n)(hm:n<=m)(hml:m<=s.length)(hb: ∀c∈(s.take m).drop n,bT c=true):mI (s.take m)= .ok [(x,0)]:=by
 obtain⟨h1,h2,h3⟩:=iS ho;have h4:=h3 m hm;have hl:(s.take m).length=m:=by rw[List.length_take];omega
 unfold mI;rw[hl]
 match s,hc,m,hm with
 | [],_,_,_=>simp at h2;omega
 |c::r,hc,0,hm=>omega
 |c::r,hc,m+1,hm=>
  rw[List.take_succ_cons]at h4 hb ⊢;rw[fy,if_neg (by simpa using hc),h4];dsimp only;rw[kL _ _ _ hb]
theorem GG: ∀c:UInt8,bT c=true->bG c=false/\isDigit c=false/\c≠39:=by
 intro c hc;have: ∀n:Fin 256,bT (UInt8.ofNat n.val)=true->bG (UInt8.ofNat n.val)=false/\isDigit (UInt8.ofNat n.val)=false/\UInt8.ofNat n.val≠39:=by decide +kernel
 have h:=this ⟨c.toNat,UInt8.toNat_lt c⟩;simp at h;simpa using h hc
theorem lf{p:UInt8->Bool}: ∀ {u:List UInt8} {c:UInt8} {r:List UInt8},(u.takeWhile p).length=u.length->p c=false->(u++c::r).takeWhile p=u.takeWhile p
 | [],c,r,_,hc=>by simp[hc]
 |a::u,c,r,h,hc=>by
  rw[List.cons_append,List.takeWhile_cons,List.takeWhile_cons];rw[List.takeWhile_cons]at h;split
  ·rename_i ha
   rw[if_pos ha]at h;rw[lf (u:=u) (by simpa using h) hc]
  ·rename_i ha
   simp[ha]at h
theorem pJ: ∀(f:Nat) (u:List UInt8) (i:Nat) (bad:Bool) (buf:List UInt8) (x:Tk) (c:UInt8) (r:List UInt8) (f':Nat),c≠39->bN f u i bad buf= .ok x (i+u.length)->u.length<=f'->bN f' (u++c::r) i bad buf= .ok x (i+u.length)
 |0,_,_,_,_,_,_,_,_,_,h,_=>by simp[bN]at h
 |f+1,[],_,_,_,_,_,_,_,_,h,_=>by simp[bN]at h
 |f+1,a::u,i,bad,buf,x,c,r,f',hc,h,hf=>by
  have h0:=h;simp only[List.length_cons]at h hf ⊢;obtain⟨f',rfl⟩: ∃g,f'=g+1:=⟨f'-1,by omega⟩;rw[bN]at h;rw[List.cons_append,bN];by_cases ha:a≠39
  ·rw[if_pos ha]at h ⊢
   obtain⟨k1,k2,k3,_⟩:=j6 _ _ _ _ _ x _ h0;simp only[List.length_cons]at k2 k3;have e0:i+(u.length+1)-1-i=u.length:=by omega
   rw[e0]at k2 k3;obtain⟨k1,_,_,_⟩:=j6 _ _ _ _ _ x _ h;generalize hd:decodeL (a::u)=d at h k1;have hu:u≠[]:=by rintro rfl;exact ha k3
   have hl:a::u=(a::u).take u.length++39::[]:=by
    have:=zR (l:=a::u) (k:=u.length) (by simp) k3;rw[List.drop_of_length_le (by simp)]at this;exact this
   have hp:(a::u).take u.length≠[]:=by
    cases u with
    |nil=>exact absurd rfl hu
    |cons b v=>simp
   have hd':decodeL (a::(u++c::r))=d:=by
    have e:a::(u++c::r)=(a::u).take u.length++39::(c::r):=by
     rw[<- List.cons_append]
     conv=>lhs;rw[hl]
     simp
    rw[e,qz hp (r':=[]),<-hl,hd]
   have hw:=qA (p:=(a::u).take u.length) (r:=[]) hp;rw[<- hl,hd,List.length_take]at hw;simp only[List.length_cons]at hw;have hw1:1<=d.2:=by rw[<- hd];exact decodeL_width _
   rw[hd'];show bN f' ((a::(u++c::r)).drop d.2) (i+d.2) _ (buf++(a::(u++c::r)).take d.2)=_;rw[<- List.cons_append,List.drop_append_of_le_length (by simp only[List.length_cons];omega),List.take_append_of_le_length (by simp only[List.length_cons];omega)];have el:i+(u.length+1)=i+d.2+((a::u).drop d.2).length:=by rw[List.length_drop,List.length_cons];omega
   rw[el]at h ⊢;exact pJ f _ _ _ _ x c r f' hc h (by rw[List.length_drop,List.length_cons];omega)
  ·have ha:a=39:=by simpa using ha
   subst ha;rw[if_neg (by simp)]at h ⊢
   match u,h,hf with
   | [],h,hf=>
     rw[if_neg (by decide)]at h;rw[if_neg (by simpa using hc)];exact h
   |b::u,h,hf=>
    by_cases hb:b=39
    ·subst hb
     rw[if_pos (by rfl)]at h;rw[if_pos (by rfl)];simp only[List.cons_append,List.drop_succ_cons,List.drop_zero,List.length_cons]at h ⊢;rw[show i+(u.length+1+1)=i+2+u.length by omega]at h ⊢;exact pJ f u (i+2) bad _ x c r f' hc h (by simp only[List.length_cons]at hf;omega)
    ·rw[if_neg (by simpa using hb)]at h
     exfalso;split at h
     ·cases h
     ·split at h
      ·cases h
      ·cases h
theorem IV: ∀x∈eg,∀b∈x,bT b=false:=by decide
theorem wC{u:List UInt8}{c:UInt8}{r:List UInt8}(hc:bT c=true): ∀(L:List (List UInt8)) (x:Tk),(∀ y∈L,y∈eg)->fZ u L= .ok x u.length->fZ (u++c::r) L= .ok x u.length
 | [],x,_,h=>by simp[fZ]at h
 |y::L,x,hL,h=>by
  rw[fZ]at h ⊢;split at h
  ·rename_i hy
   rw[if_pos]
   ·exact h
   ·rw[List.isPrefixOf_iff_prefix]at hy ⊢
    exact hy.trans (List.prefix_append _ _)
  ·rename_i hy
   rw[if_neg]
   ·exact wC hc L x (fun y hm=>hL y (by simp[hm])) h
   ·intro hp
    rw[List.isPrefixOf_iff_prefix]at hy hp;rcases Nat.lt_or_ge u.length y.length with hlt|hge
    ·obtain⟨t,ht⟩:=hp
     have:(y++t)[u.length]? =some c:=by rw[ht];simp
     rw[List.getElem?_append_left hlt]at this;have hm:=List.mem_of_getElem? this;have:=IV y (hL y (by simp)) c hm;rw[hc]at this;cases this
    ·exact hy (List.prefix_of_prefix_length_le hp (List.prefix_append _ _) hge)
theorem GH{u:List UInt8}{x:Tk}{c:UInt8}{r:List UInt8}(h:fH u= .ok x u.length)(hc:bT c=true):fH (u++c::r)= .ok x u.length:=by
 obtain⟨n1,n2,n3⟩:=GG c hc
 match u,h with
 | [],h=>simp[fH]at h
 |a::v,h=>
  unfold fH at h ⊢;rw[List.cons_append];dsimp only at h ⊢;split at h
  ·rename_i hl
   rw[if_pos hl];unfold mV at h ⊢;dsimp only at h ⊢;split at h
   ·cases h
   ·rename_i hlen
    have hw:((a::v).takeWhile fun c=>bG c||isDigit c).length=(a::v).length:=by injection h
    have:=lf (p:=fun c=>bG c||isDigit c) (r:=r) hw (by simp[n1,n2]:(bG c||isDigit c)=false);rw[List.cons_append]at this;rw[this,if_neg hlen];exact h
  ·rename_i hl
   rw[if_neg hl];split at h
   ·rename_i hd
    rw[if_pos hd];unfold iy at h ⊢;dsimp only at h ⊢;split at h
    ·cases h
    ·rename_i hlen
     have hw:((a::v).takeWhile isDigit).length=(a::v).length:=by injection h
     have:=lf (p:=isDigit) (r:=r) hw n2;rw[List.cons_append]at this;rw[this,if_neg hlen];exact h
   ·rename_i hd
    rw[if_neg hd];split at h
    ·rename_i hq
     rw[if_pos hq];unfold lV at h ⊢;simp only[List.drop_succ_cons,List.drop_zero,List.length_cons]at h ⊢;rw[show v.length+1=1+v.length by omega]at h ⊢;exact pJ _ v 1 false [] x c r _ n3 h (by simp only[List.length_append];omega)
    ·rename_i hq
     rw[if_neg hq];exact wC hc eg x (fun _ h=>h) h
structure Piece where
 u:List UInt8
 bl:List UInt8
 x:Tk
structure Piece.Ok(q:Piece):Prop where
 one:fH q.u= .ok q.x q.u.length
 first:bT (q.u.getD 0 0)=false
 ne:q.bl≠[]
 blank: ∀c∈q.bl,bT c=true
theorem zU: ∀(l:List UInt8) (acc:Nat),acc<=l.foldl (fun n c=>10*n+(c.toNat-48)) acc
 | [],_=>Nat.le_refl _
 |c::r,acc=>by
  rw[List.foldl_cons];exact Nat.le_trans (by omega) (zU r _)
theorem zV{c:UInt8}:isDigit c=true<->48<=c.toNat/\c.toNat<=57:=by
 unfold isDigit;simp only[Bool.and_eq_true,decide_eq_true_eq,UInt8.le_iff_toNat_le];exact Iff.rfl
theorem qB: ∀(l:List UInt8) (acc:Nat),(∀ c∈l,isDigit c=true)->acc<18446744073709551616->
  parseUintM 18446744073709551615 acc l=if l.foldl (fun n c=>10*n+(c.toNat-48)) acc<18446744073709551616 then .ok (l.foldl (fun n c=>10*n+(c.toNat-48)) acc)else .range
 | [],acc,_,ha=>by simp[parseUintM,ha]
 |c::r,acc,h,ha=>by
  have hc:=zV.1 (h c (by simp));rw[parseUintM,if_pos hc,List.foldl_cons];have hg:=zU r (10*acc+(c.toNat-48));split
  ·rw[if_neg (by omega)]
  ·split
   ·rw[if_neg (by omega)]
   ·rw[Nat.mul_comm acc 10]
    exact qB r _ (fun d hd=>h d (by simp[hd])) (by omega)
theorem Fc{l:List UInt8}(hne:l≠[])(h: ∀c∈l,isDigit c=true):parseUintB 64 l=if numOf l<18446744073709551616 then .ok (numOf l)else .range:=by
 unfold parseUintB;rw[if_neg hne];exact qB l 0 h (by decide)
theorem iz{p:UInt8->Bool}: ∀ {l:List UInt8} {c:UInt8},c∈l.takeWhile p->p c=true
 | [],_,h=>by simp at h
 |a::r,c,h=>by
  rw[List.takeWhile_cons]at h;split at h
  ·rcases List.mem_cons.1 h with rfl|h
   ·assumption
   ·exact iz h
  ·simp at h
theorem GI{p:UInt8->Bool}: ∀ {l:List UInt8} {n:Nat},n<=(l.takeWhile p).length->n<l.length->(p (l.getD n 0)=true<->n<(l.takeWhile p).length)
 | [],n,_,h=>by simp at h
 |a::r,0,_,_=>by
  rw[List.takeWhile_cons];show p a=true<->_;split
  ·rename_i h;simp[h]
  ·rename_i h;simp[h]
 |a::r,n+1,h1,h2=>by
  rw[List.takeWhile_cons]at h1 ⊢;split
  ·rename_i h
   rw[if_pos h]at h1;have:=GI (p:=p) (l:=r) (n:=n) (by simpa using h1) (by simpa using h2);simpa using this
  ·rename_i h
   rw[if_neg h]at h1;simp at h1
theorem xS{p:UInt8->Bool}: ∀(l:List UInt8),l.take (l.takeWhile p).length=l.takeWhile p
 | []=>by simp
 |a::r=>by
  rw[List.takeWhile_cons];split
  ·rw[List.length_cons,List.take_succ_cons,xS r]
  ·simp
theorem oo(r:List UInt8):decodeL (39::r)=(39,1):=decodeL_ascii 39 r (by decide)
theorem zW{c:UInt8}{r:List UInt8}(h:c≠39):(decodeL (c::r)).1≠39:=by
 by_cases hc:c.toNat<128
 ·rw[decodeL_ascii c r hc]
  intro e;exact h (UInt8.toNat_inj.1 e)
 ·rw[decodeL_N]
  simp only[List.getD_cons_zero];unfold decodeN
  repeat' split
  all_goals (dsimp only;omega)
theorem j8(s:List UInt8)(pos:Nat):Utf8.decode ⟨s.toArray⟩ pos=decodeL (s.drop pos):=by
 have:=decodeL_drop ⟨s.toArray⟩ pos;rw[<- this]
theorem drop_cons{s:List UInt8}{pos:Nat}(h:pos<s.length):s.drop pos=s.getD pos 0::s.drop (pos+1):=by
 rw[List.drop_eq_getElem_cons h];simp[List.getD,h]
theorem sD{f i:Nat}{l buf:List UInt8}{bad:Bool}(hne:l≠[])(h:l.getD 0 0≠39):
  bN (f+1) l i bad buf=bN f (l.drop (decodeL l).2) (i+(decodeL l).2) (bad||((decodeL l).1==65533&&(decodeL l).2==1)) (buf++l.take (decodeL l).2):=by
 cases l with
 |nil=>exact absurd rfl hne
 |cons c r=>rw[bN,if_pos (show c≠39 from h)]
theorem uo{f i:Nat}{l buf:List UInt8}{bad:Bool}(h0:l.getD 0 0=39)(h1:l.getD 1 0=39):bN (f+1) l i bad buf=bN f (l.drop 2) (i+2) bad (buf++[39]):=by
 cases l with
 |nil=>exact absurd h0 (by decide)
 |cons c r=>
  rw[bN,if_neg (by simpa using h0),if_pos (show r.getD 0 0=39 from h1)];rfl
theorem uq{f i:Nat}{l buf:List UInt8}{bad:Bool}(h0:l.getD 0 0=39)(h1:l.getD 1 0≠39):bN (f+1) l i bad buf=if bad then .err 232 else if 64<buf.length then .err 3 else .ok ⟨3,buf,0⟩ (i+1):=by
 cases l with
 |nil=>exact absurd h0 (by decide)
 |cons c r=>rw[bN,if_neg (by simpa using h0),if_neg (show ¬r.getD 0 0=39 from h1)]
theorem BX(f i:Nat)(bad:Bool)(buf:List UInt8):bN f [] i bad buf= .err 231:=by cases f<;>rfl
theorem xT{l:List UInt8}:([39,39]:List UInt8).isPrefixOf l=true<->l.getD 0 0=39/\l.getD 1 0=39:=by
 match l with
 | []=>simp[List.isPrefixOf]
 | [a]=>simp[List.isPrefixOf]
 |a::b::r=>
  show((39:UInt8)==a&&((39:UInt8)==b&&true))=true<->a=39/\b=39;simp only[Bool.and_eq_true,beq_iff_eq,and_true];exact⟨fun h=>⟨h.1.symm,h.2.symm⟩,fun h=>⟨h.1.symm,h.2.symm⟩⟩
theorem bY(s:List UInt8)(p j:Nat):(s.drop p).getD j 0=s.getD (p+j) 0:=by
 simp[List.getD,List.getElem?_drop]
theorem iA(a b:Nat):((a:Int)==(b:Int))=(a==b):=by
 rw[Bool.eq_iff_iff];simp;omega
end Go.Proofs.YtbjifmbemdhndaaGreatDoor
