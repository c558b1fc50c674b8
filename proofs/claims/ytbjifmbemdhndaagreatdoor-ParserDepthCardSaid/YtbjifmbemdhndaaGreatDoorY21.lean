/- Parts of the proof of PParserDepth, one behind the other, with short names. -/
import Derived.Test.YtbjifmbemdhndaaGreatDoorY20
import Derived.Lib.ValidLaws
import Derived.Lib.ItoaNum
set_option linter.unusedVariables false
set_option linter.unusedSimpArgs false
namespace Go.Proofs.YtbjifmbemdhndaaGreatDoor
open Go.Lib
def rL:List UInt8->Option (List UInt8×Nat)
 | []=>none
 | [c]=>if c=39 then some ([],1)else none
 |c::d::r=>if c=39 then(if d=39 then(rL r).map (fun x=>(39::x.1,x.2+2))else some ([],1))else(rL (d::r)).map (fun x=>(c::x.1,x.2+1))
theorem zX{c:UInt8}{r:List UInt8}(h:c≠39):rL (c::r)=(rL r).map fun x=>(c::x.1,x.2+1):=by
 cases r with
 |nil=>simp[rL,h]
 |cons d r=>rw[rL,if_neg h]
theorem xU{r:List UInt8}:rL (39::39::r)=(rL r).map fun x=>(39::x.1,x.2+2):=by rw[rL,if_pos rfl,if_pos rfl]
theorem D1{r:List UInt8}(h:r.getD 0 0≠39):rL (39::r)=some ([],1):=by
 cases r with
 |nil=>simp[rL]
 |cons d r=>rw[rL,if_pos rfl,if_neg (show d≠39 from h)]
theorem qC: ∀(p r:List UInt8),(∀ c∈p,c≠39)->rL (p++r)=(rL r).map fun x=>(p++x.1,x.2+p.length)
 | [],r,_=>by simp
 |c::p,r,h=>by
  rw[List.cons_append,zX (h c (by simp)),qC p r fun d hd=>h d (by simp[hd]),Option.map_map];congr 1
theorem mJ{p r:List UInt8}(hp:p≠[]):decodeL (p++39::r)=decodeL p:=by
 rw[decodeL_N,decodeL_N];have q: ¬((39:UInt8).toNat/64=2):=by decide
 match p,hp with
 | [a],_=>
   simp only[List.cons_append,List.nil_append,List.length_cons,List.getD_cons_zero,List.getD_cons_succ,List.length_nil];unfold decodeN;simp only[q,and_false,false_and,if_false,show ¬(1<0+1) by omega]
 | [a,b],_=>
   simp only[List.cons_append,List.nil_append,List.length_cons,List.getD_cons_zero,List.getD_cons_succ,List.length_nil];unfold decodeN;simp only[q,and_false,false_and,if_false,show 1<r.length+1+1+1 by omega,show 1<0+1+1 by omega,show ¬(2<0+1+1) by omega,true_and]
 | [a,b,c],_=>
   simp only[List.cons_append,List.nil_append,List.length_cons,List.getD_cons_zero,List.getD_cons_succ,List.length_nil];unfold decodeN;simp only[q,and_false,false_and,if_false,show 1<r.length+1+1+1+1 by omega,show 2<r.length+1+1+1+1 by omega,show 1<0+1+1+1 by omega,show 2<0+1+1+1 by omega,show ¬(3<0+1+1+1) by omega,true_and]
 |a::b::c::d::t,_=>
  simp only[List.cons_append,List.length_cons,List.length_append,List.getD_cons_zero,List.getD_cons_succ];unfold decodeN;simp only[show 1<t.length+(r.length+1)+1+1+1+1 by omega,show 2<t.length+(r.length+1)+1+1+1+1 by omega,show 3<t.length+(r.length+1)+1+1+1+1 by omega,show 1<t.length+1+1+1+1 by omega,show 2<t.length+1+1+1+1 by omega,show 3<t.length+1+1+1+1 by omega,true_and]
theorem Kq: ∀l:List UInt8,(∀ c∈l,c≠39)\/ ∃p r,l=p++39::r/\ ∀c∈p,c≠39
 | []=> .inl (by simp)
 |c::r=>by
  by_cases hc:c=39
  ·subst hc;exact .inr ⟨[],r,rfl,by simp⟩
  ·rcases Kq r with h|⟨p,r',rfl,h⟩
   ·exact .inl (by simp only[List.mem_cons];rintro d (rfl|hd);exact hc;exact h d hd)
   ·exact .inr ⟨c::p,r',rfl,by simp only[List.mem_cons];rintro d (rfl|hd);exact hc;exact h d hd⟩
theorem zZ{l:List UInt8}(h: ∀c∈l,c≠39):rL l=none:=by
 have:=qC l [] h;rw[List.append_nil]at this;rw[this];rfl
theorem Fe{r:List UInt8}{b:List UInt8}{n:Nat}(h:rL (39::r)=some (b,n)):b=[]\/ ∃b',b=39::b':=by
 by_cases hr:r.getD 0 0=39
 ·cases r with
  |nil=>exact absurd hr (by decide)
  |cons d r=>
   obtain rfl:d=39:=hr;rw[xU]at h;obtain⟨x,_,hx⟩:=Option.map_eq_some_iff.1 h;cases hx
   exact .inr ⟨_,rfl⟩
 ·rw[D1 hr]at h
  cases h
  exact .inl rfl
theorem xV: ∀(l b:List UInt8) (n:Nat),rL l=some (b,n)->1<=n/\n<=l.length/\l.getD (n-1) 0=39
 | [],b,n,h=>by simp[rL]at h
 | [c],b,n,h=>by
   rw[rL]at h;split at h
   ·rename_i hc
    cases h
    exact⟨Nat.le_refl _,by simp,hc⟩
   ·cases h
 |c::d::r,b,n,h=>by
  rw[rL]at h;split at h
  ·rename_i hc
   split at h
   ·obtain⟨x,h1,h2⟩:=Option.map_eq_some_iff.1 h
    obtain⟨k1,k2,k3⟩:=xV r x.1 x.2 h1;cases h2
    refine⟨by omega,by simp only[List.length_cons];omega,?_⟩;rw[show x.2+2-1=(x.2-1)+1+1 by omega];simpa using k3
   ·cases h
    exact⟨Nat.le_refl _,by simp,hc⟩
  ·obtain⟨x,h1,h2⟩:=Option.map_eq_some_iff.1 h
   obtain⟨k1,k2,k3⟩:=xV (d::r) x.1 x.2 h1;cases h2
   refine⟨by omega,by simp only[List.length_cons]at k2 ⊢;omega,?_⟩;rw[show x.2+1-1=(x.2-1)+1 by omega];simpa using k3
def IW(bad:Bool)(buf:List UInt8)(i:Nat):Option (List UInt8×Nat)->One
 |none=> .err 231
 |some (b,n)=>if(bad|| !validD b)=true then .err 232 else if 64<(buf++b).length then .err 3 else .ok ⟨3,buf++b,0⟩ (i+n)
theorem z6(bad PC:Bool)(buf ch:List UInt8)(i k:Nat)(o:Option (List UInt8×Nat))(h: ∀b n,o=some (b,n)->(PC|| !validD b)=(bad|| !validD (ch++b))):
  IW PC (buf++ch) (i+k) o=IW bad buf i (o.map fun x=>(ch++x.1,x.2+k)):=by
 cases o with
 |none=>rfl
 |some x=>
  obtain⟨b,n⟩:=x;show(if _ then _ else _)=(if _ then _ else _);rw[h b n rfl];simp only[List.append_assoc];rw[show i+k+n=i+(n+k) by omega]
theorem pK: ∀(f:Nat) (l:List UInt8) (i:Nat) (bad:Bool) (buf:List UInt8),l.length<=f->bN f l i bad buf=IW bad buf i (rL l)
 |0,l,i,bad,buf,h=>by
  obtain rfl:l=[]:=by simpa using h
  rfl
 |f+1,[],i,bad,buf,h=>rfl
 |f+1,c::r,i,bad,buf,h=>by
  simp only[List.length_cons]at h;by_cases hc:c≠39
  ·rw[bN,if_pos hc]
   dsimp only;have hw:=decodeL_width (c::r);generalize hd:decodeL (c::r)=d at hw;rw[pK f _ _ _ _ (by rw[List.length_drop,List.length_cons];omega)];rcases Kq (c::r)with hn|⟨p,r',hp,hn⟩
   ·rw[zZ hn,zZ fun x hx=>hn x (List.mem_of_mem_drop hx)]
    rfl
   ·have IX:p≠[]:=by
     rintro rfl;simp only[List.nil_append,List.cons.injEq]at hp;exact hc hp.1
    have hfit:=qA (r:=r') IX;rw[<- hp,hd]at hfit;have e1:(c::r).drop d.2=p.drop d.2++39::r':=by rw[hp,List.drop_append_of_le_length hfit]
    have e2:(c::r).take d.2=p.take d.2:=by rw[hp,List.take_append_of_le_length hfit]
    have hlen:(p.take d.2).length=d.2:=by rw[List.length_take];omega
    rw[e1,e2]
    have e3:rL (c::r)=(rL (p.drop d.2++39::r')).map fun x=>(p.take d.2++x.1,x.2+d.2):=by
     have:=qC (p.take d.2) (p.drop d.2++39::r') fun x hx=>hn x (List.mem_of_mem_take hx)
     rw[<- List.append_assoc,List.take_append_drop,<-hp,hlen]at this;exact this
    rw[e3];refine z6 _ _ _ _ _ _ _ fun b n hb=> ?_
    rw[qC _ _ fun x hx=>hn x (List.mem_of_mem_drop hx)]at hb;obtain⟨⟨b',n'⟩,VZ,LB⟩:=Option.map_eq_some_iff.1 hb
    have hbd:decodeL (p.take d.2++b)=d:=by
     cases LB
     rw[<- List.append_assoc,List.take_append_drop];rcases Fe VZ with rfl|⟨b'',rfl⟩
     ·rw[List.append_nil,<-mJ IX (r:=r'),<-hp,hd]
     ·rw[mJ IX,<-mJ IX (r:=r'),<-hp,hd]
    have hne:p.take d.2++b≠[]:=by
     intro e;have:=congrArg List.length e;rw[List.length_append,hlen,List.length_nil]at this;omega
    rw[validD_step _ hne,hbd,List.drop_left' hlen];by_cases hq:d.1=65533/\d.2=1
    ·rw[if_pos hq,hq.1,hq.2];simp
    ·rw[if_neg hq]
     have:(d.1==65533&&d.2==1)=false:=by
      rw[Bool.eq_false_iff];intro h;simp only[Bool.and_eq_true,beq_iff_eq]at h;exact hq h
     rw[this,Bool.or_false]
  ·have hc:c=39:=by simpa using hc
   subst hc;rw[bN,if_neg (by simp)];by_cases hr:r.getD 0 0=39
   ·rw[if_pos hr]
    cases r with
    |nil=>exact absurd hr (by decide)
    |cons d r=>
     obtain rfl:d=39:=hr;simp only[List.length_cons]at h;rw[List.drop_succ_cons,List.drop_zero,pK f r _ _ _ (by omega),xU];have:=z6 bad bad buf [39] i 2 (rL r) fun b n _=>by rw[List.cons_append,List.nil_append,validD_cons 39 b (by decide)]
     rw[this];rfl
   ·rw[if_neg hr,D1 hr]
    show _=(if _ then _ else _);rw[validD_nil,Bool.not_true,Bool.or_false,List.append_nil]
theorem z7(r:List UInt8):lV (39::r)=IW false [] 1 (rL r):=by
 unfold lV;rw[List.drop_succ_cons,List.drop_zero,pK _ _ _ _ _ (by simp)]
def quot:List UInt8->List UInt8
 | []=>[]
 |c::r=>if c=39 then 39::39::quot r else c::quot r
theorem ur: ∀t:List UInt8,rL (quot t++[39])=some (t,(quot t).length+1)
 | []=>rfl
 |c::r=>by
  rw[quot];split
  ·rename_i hc
   subst hc;rw[List.cons_append,List.cons_append,xU,ur r];rfl
  ·rename_i hc
   rw[List.cons_append,zX hc,ur r];rfl
theorem Ff{t:List UInt8}(hv:validD t=true)(hl:t.length<=64):fH (39::(quot t++[39]))= .ok ⟨3,t,0⟩ (39::(quot t++[39])).length:=by
 have:fH (39::(quot t++[39]))=lV (39::(quot t++[39])):=rfl;rw[this,z7,ur];show(if _ then _ else _)=_;rw[hv,if_neg (by decide),if_neg (by simpa using hl)];simp only[List.nil_append,List.length_cons,List.length_append,List.length_nil];rw[show 1+((quot t).length+1)=(quot t).length+(0+1)+1 by omega]
theorem GJ{r:List UInt8}{x:Tk}{n:Nat}(h:lV (39::r)= .ok x n):x.k=3/\x.n=0/\validD x.t=true/\x.t.length<=64/\(39::r).getD (n-1) 0=39:=by
 rw[z7]at h;cases hu:rL r with
 |none=>rw[hu]at h;cases h
 |some q=>
  obtain⟨b,m⟩:=q;rw[hu]at h
  replace h:(if(false|| !validD b)=true then One.err 232 else if 64<([]++b).length then .err 3 else .ok ⟨3,[]++b,0⟩ (1+m))= .ok x n:=h
  split at h
  ·cases h
  ·rename_i h1
   split at h
   ·cases h
   ·rename_i h2
    cases h
    obtain⟨k1,k2,k3⟩:=xV r b m hu;refine⟨rfl,rfl,by simpa using h1,by simpa using h2,?_⟩;rw[show 1+m-1=(m-1)+1 by omega];simpa using k3
def cu(x:Tk):List UInt8:=if x.k=2 then decDigits x.n else if x.k=3 then 39::(quot x.t++[39])else x.t
def dh(x:Tk):Bool:=
 if(x.k≠2/\x.n≠0)\/x.k=0\/4<x.k then false
 else if x.k=2 then x.t==[]&&decide (x.n<=9223372036854775808)
 else if x.k=3/\(64<x.t.length\/validD x.t=false)then false
 else if 65536<(cu x).length then false
 else match mI (cu x)with
  | .ok [(y,0)]=>y.k==x.k&&y.t==x.t&&y.n==x.n
  |_=>false
theorem z8{d:Nat}(h:d<10):isDigit (UInt8.ofNat (48+d))=true/\(UInt8.ofNat (48+d)).toNat-48=d:=by
 have: ∀d:Fin 10,isDigit (UInt8.ofNat (48+d.val))=true/\(UInt8.ofNat (48+d.val)).toNat-48=d.val:=by decide +kernel
 exact this ⟨d,h⟩
theorem IY(n:Nat):(∀ c∈decDigits n,isDigit c=true)/\decDigits n≠[]/\numOf (decDigits n)=n:=by
 induction n using Nat.strongRecOn with
 |_ n ih=>
  by_cases h:n<10
  ·rw[decDigits,dif_pos h]
   obtain⟨h1,h2⟩:=z8 h;refine⟨by simpa using h1,by simp,?_⟩;unfold numOf;simp only[List.foldl_cons,List.foldl_nil];omega
  ·rw[decDigits,dif_neg h]
   obtain⟨i1,i2,i3⟩:=ih (n/10) (by omega);obtain⟨h1,h2⟩:=z8 (Nat.mod_lt n (by decide:10>0));refine⟨?_,by simp,?_⟩
   ·intro c hc
    rcases List.mem_append.1 hc with hc|hc
    ·exact i1 c hc
    ·simp only[List.mem_singleton]at hc;subst hc;exact h1
   ·unfold numOf at i3 ⊢
    rw[List.foldl_append,i3];simp only[List.foldl_cons,List.foldl_nil];omega
theorem lg{p:UInt8->Bool}: ∀ {l:List UInt8},(∀ c∈l,p c=true)->l.takeWhile p=l
 | [],_=>rfl
 |c::r,h=>by rw[List.takeWhile_cons,if_pos (h c (by simp)),lg fun d hd=>h d (by simp[hd])]
theorem xW: ∀c:UInt8,isDigit c=true->bG c=false/\bT c=false:=by
 intro c hc;have: ∀n:Fin 256,isDigit (UInt8.ofNat n.val)=true->bG (UInt8.ofNat n.val)=false/\bT (UInt8.ofNat n.val)=false:=by decide +kernel
 have h:=this ⟨c.toNat,UInt8.toNat_lt c⟩;simp only[UInt8.ofNat_toNat]at h;exact h hc
theorem xX: ∀c:UInt8,bG c=true->bT c=false:=by
 intro c hc;have: ∀n:Fin 256,bG (UInt8.ofNat n.val)=true->bT (UInt8.ofNat n.val)=false:=by decide +kernel
 have h:=this ⟨c.toNat,UInt8.toNat_lt c⟩;simp only[UInt8.ofNat_toNat]at h;exact h hc
theorem j9: ∀c:UInt8,bG (iR c)=bG c/\isDigit (iR c)=isDigit c/\iR (iR c)=iR c:=by
 intro c;have: ∀n:Fin 256,bG (iR (UInt8.ofNat n.val))=bG (UInt8.ofNat n.val)/\isDigit (iR (UInt8.ofNat n.val))=isDigit (UInt8.ofNat n.val)/\iR (iR (UInt8.ofNat n.val))=iR (UInt8.ofNat n.val):=by decide +kernel
 have h:=this ⟨c.toNat,UInt8.toNat_lt c⟩;simp only[UInt8.ofNat_toNat]at h;exact h
theorem GK{n:Nat}(h:n<=9223372036854775808):fH (decDigits n)= .ok ⟨2,[],n⟩ (decDigits n).length/\bT ((decDigits n).getD 0 0)=false:=by
 obtain⟨h1,h2,h3⟩:=IY n;have ht:=lg h1
 match hd:decDigits n,h2 with
 |c::r,_=>
  rw[hd]at h1 h3 ht;obtain⟨l1,l2⟩:=xW c (h1 c (by simp));refine⟨?_,l2⟩;unfold fH;dsimp only;rw[if_neg (by rw[l1];decide),if_pos (h1 c (by simp))];unfold iy;dsimp only;rw[ht,h3,if_neg (by omega)]
theorem wD{s:List UInt8}{x:Tk}(h:fH s= .ok x s.length)(hb:bT (s.getD 0 0)=false):mI s= .ok [(x,0)]:=by
 have:=BW (m:=s.length) hb h (Nat.le_refl _) (Nat.le_refl _) (by rw[List.take_length,List.drop_length];simp);rw[List.take_length]at this;exact this
theorem Fg{s:List UInt8}{x:Tk}(h:mI s= .ok [(x,0)]):bT (s.getD 0 0)=false/\ ∃n,fH s= .ok x n/\ ∀c∈s.drop n,bT c=true:=by
 have hx:=kK s.length s 0 _ (Nat.le_refl _) h;generalize hl:[(x,0)]=l at hx;generalize hp:0=p at hx;cases hx with
 |none h=>cases hl
 |some hb hc ho h'=>
  rename_i b s x' n l;subst hp;simp only[List.cons.injEq,Prod.mk.injEq,Nat.zero_add]at hl;obtain⟨⟨rfl,Gg⟩,rfl⟩:=hl;obtain rfl:b=[]:=List.eq_nil_of_length_eq_zero Gg.symm;refine⟨hc,n,ho,?_⟩;generalize hd:s.drop n=d at h';generalize hn:([]:List (Tk×Nat))=e at h';cases h' with
  |none h=>rw[List.nil_append,hd];exact h
  |some=>cases hn
theorem uu: ∀t:List UInt8,(quot t).length<=2*t.length
 | []=>by simp[quot]
 |a::t=>by
  have:=uu t;rw[quot];split
  ·simp only[List.length_cons];omega
  ·simp only[List.length_cons];omega
theorem Fh{s:List UInt8}{x:Tk}{n:Nat}(h:fH s= .ok x n):(x.k=1/\x.n=0/\x.t.length=n/\dh x=true)\/(x.k=2/\dh x=true)\/(x.k=3/\x.n=0/\s.getD (n-1) 0=39/\dh x=true)\/(x.k=4/\x.n=0/\x.t.length=n/\dh x=true):=by
 match s,h with
 | [],h=>simp[fH]at h
 |c::r,h=>
  unfold fH at h;dsimp only at h;split at h
  ·rename_i hl
   unfold mV at h;dsimp only at h;split at h
   ·cases h
   ·rename_i hlen
    cases h
    refine .inl ⟨rfl,rfl,by simp,?_⟩;have hw: ∀d∈(c::r).takeWhile (fun c=>bG c||isDigit c),(bG d||isDigit d)=true:=fun d hd=>iz (p:=fun c=>bG c||isDigit c) hd
    have hc0: ∃w,(c::r).takeWhile (fun c=>bG c||isDigit c)=c::w:=by rw[List.takeWhile_cons,if_pos (by rw[hl];rfl)];exact⟨_,rfl⟩
    generalize (c::r).takeWhile (fun c=>bG c||isDigit c)=w at hw hc0 hlen;obtain⟨w,rfl⟩:=hc0;have hl':bG (iR c)=true:=by rw[(j9 c).1];exact hl
    have ht:(iR c::w.map iR).takeWhile (fun c=>bG c||isDigit c)=iR c::w.map iR:=by
     refine lg fun d hd=> ?_
     rw[<- List.map_cons]at hd;obtain⟨e,he,rfl⟩:=List.mem_map.1 hd;rw[(j9 e).1,(j9 e).2.1];exact hw e he
    have ho:fH ((c::w).map iR)= .ok ⟨1,(c::w).map iR,0⟩ ((c::w).map iR).length:=by
     rw[List.map_cons];unfold fH;dsimp only;rw[if_pos hl'];unfold mV;dsimp only;rw[ht,if_neg (by simpa using hlen)];congr 2
     rw[List.map_cons,(j9 c).2.2,List.map_map];congr 2
     funext d;exact(j9 d).2.2
    have hx:=wD ho (xX _ hl');unfold dh;rw[if_neg (by simp),if_neg (by simp),if_neg (by simp),if_neg]
    ·show(match mI ((c::w).map iR)with| .ok [(y,0)]=>_|_=>false)=true
     rw[hx];simp
    ·show ¬65536<((c::w).map iR).length
     rw[List.length_map];omega
  ·split at h
   ·unfold iy at h
    dsimp only at h;split at h
    ·cases h
    ·rename_i hlen
     cases h
     refine .inr (.inl ⟨rfl,?_⟩);unfold dh;rw[if_neg (by simp),if_pos rfl];simp;omega
   ·split at h
    ·rename_i hq
     have hq:c=39:=by simpa using hq
     subst hq;obtain⟨k1,k2,k3,k4,k5⟩:=GJ h;refine .inr (.inr (.inl ⟨k1,k2,k5,?_⟩));have ho:=Ff k3 k4;have hx:=wD ho rfl;obtain⟨k,t,m⟩:=x;dsimp only at k1 k2 k3 k4 ho hx;subst k1 k2;have Ut:=uu t;unfold dh;rw[if_neg (by simp),if_neg (by simp),if_neg (by rintro⟨_,h|h⟩;exact absurd h (by show ¬64<t.length;omega);rw[show validD t=false from h]at k3;cases k3),if_neg]
     ·show(match mI (39::(quot t++[39]))with| .ok [(y,0)]=>_|_=>false)=true
      rw[hx];simp
     ·show ¬65536<(39::(quot t++[39])).length
      simp only[List.length_cons,List.length_append,List.length_nil];omega
    ·refine .inr (.inr (.inr ?_))
     have key: ∀L:List (List UInt8),fZ (c::r) L= .ok x n-> ∃y∈L,x=⟨4,y,0⟩/\n=y.length:=by
      intro L
      induction L with
      |nil=>intro h;simp[fZ]at h
      |cons y L ih=>
       intro h;rw[fZ]at h;split at h
       ·cases h;exact⟨y,by simp,rfl,rfl⟩
       ·obtain⟨z,hz,e⟩:=ih h
        exact⟨z,by simp[hz],e⟩
     obtain⟨y,hy,rfl,rfl⟩:=key _ h;have: ∀y∈eg,dh ⟨4,y,0⟩=true:=by decide +kernel
     exact⟨rfl,rfl,rfl,this y hy⟩
theorem Fi(t:List UInt8):(39::(quot t++[39])).getD ((39::(quot t++[39])).length-1) 0=39:=by
 simp[List.getD]
theorem Aa{x:Tk}(h:dh x=true):fH (cu x)= .ok x (cu x).length/\bT ((cu x).getD 0 0)=false:=by
 unfold dh at h;split at h
 ·cases h
 ·rename_i h1
  split at h
  ·rename_i h2
   simp only[Bool.and_eq_true,beq_iff_eq,decide_eq_true_eq]at h;have hs:cu x=decDigits x.n:=by unfold cu;rw[if_pos h2]
   obtain⟨k,t,n⟩:=x;obtain⟨h3,h4⟩:=h;dsimp only at h2 h3 h4 hs;subst h2 h3;rw[hs];exact GK h4
  ·rename_i h2
   split at h
   ·cases h
   ·rename_i h3
    split at h
    ·cases h
    ·split at h
     ·rename_i y hL
      simp only[Bool.and_eq_true,beq_iff_eq]at h
      have hy:y=x:=by
       obtain⟨a,b,c⟩:=y;obtain⟨a',b',c'⟩:=x;obtain⟨⟨rfl,rfl⟩,rfl⟩:=h;rfl
      subst hy;obtain⟨hb,n,ho,hd⟩:=Fg hL;refine⟨?_,hb⟩
      have hn:n=(cu y).length:=by
       obtain⟨c1,c2,_⟩:=iS ho;rcases Fh ho with k|k|k|k
       ·have:cu y=y.t:=by unfold cu;rw[if_neg (by omega),if_neg (by omega)]
        rw[this];exact k.2.2.1.symm
       ·exact absurd k.1 h2
       ·have e:cu y=39::(quot y.t++[39]):=by unfold cu;rw[if_neg h2,if_pos k.1]
        rw[e]at c2 hd ⊢;rcases Nat.lt_or_ge n (39::(quot y.t++[39])).length with hlt|hge
        ·exfalso
         have hm:(39:UInt8)∈(39::(quot y.t++[39])).drop n:=by
          have hq:=Fi y.t;generalize 39::(quot y.t++[39])=z at hlt hq;rw[List.mem_iff_getElem];refine⟨z.length-1-n,by rw[List.length_drop];omega,?_⟩;rw[List.getElem_drop];have e2:n+(z.length-1-n)=z.length-1:=by omega
          simp only[e2];rw[show z.getD (z.length-1) 0=z[z.length-1]'(by omega) by simp[List.getD,show z.length-1<z.length by omega]]at hq;exact hq
         have:=hd 39 hm;exact absurd this (by decide)
        ·omega
       ·have:cu y=y.t:=by unfold cu;rw[if_neg (by omega),if_neg (by omega)]
        rw[this];exact k.2.2.1.symm
      rw[<- hn];exact ho
     ·cases h
def di:List Tk->List UInt8
 | []=>[]
 | [x]=>cu x
 |x::y::r=>cu x++32::di (y::r)
theorem wE{k:Nat}: ∀ {l:List Tk},(∀ x∈l,(cu x).length<=k)->(di l).length<=l.length*(k+1)
 | [],_=>by simp[di]
 | [x],h=>by
   have:=h x (by simp);rw[di,List.length_singleton];omega
 |x::y::r,h=>by
  have h1:=h x (by simp);have h2:=wE (l:=y::r) fun z hz=>h z (by simp[hz])
  rw[di,List.length_append,List.length_cons];rw[List.length_cons,Nat.add_mul];simp only[List.length_cons]at h2 ⊢;omega
end Go.Proofs.YtbjifmbemdhndaaGreatDoor
namespace Go.Proofs.YtbjifmbemdhndaaGreatDoor
def bI:Nat->List Tk->List (Tk×Nat)
 |_,[]=>[]
 |p,x::r=>(x,p)::bI (p+(cu x).length+1) r
theorem uv: ∀(l:List Tk) (f p:Nat),(∀ x∈l,dh x=true)->(di l).length<=f->fy f (di l) p= .ok (bI p l)
 | [],f,p,_,_=>kL f [] p (by simp)
 | [x],f,p,h,hf=>by
   have hz:=Aa (h x (by simp));obtain⟨c1,c2,_⟩:=iS hz.1;rw[di]at hf ⊢;obtain⟨f,rfl⟩: ∃g,f=g+1:=⟨f-1,by omega⟩;obtain⟨ho,hb⟩:=hz
   match hs:cu x with
   | []=>rw[hs]at c1;simp at c1
   |c::w=>
    rw[hs]at ho hb;rw[fy,if_neg (by simpa using hb),ho];dsimp only;rw[List.drop_length,kL f [] _ (by simp)];rfl
 |x::y::r,f,p,h,hf=>by
  obtain⟨ho,hb⟩:=Aa (h x (by simp));obtain⟨c1,c2,_⟩:=iS ho;have hR:(di (x::y::r))=cu x++32::di (y::r):=rfl;rw[hR]at hf ⊢;simp only[List.length_append,List.length_cons]at hf;have ih:=uv (y::r) (f-2) (p+(cu x).length+1) (fun z hz=>h z (by simp[hz])) (by omega);obtain⟨f,rfl⟩: ∃g,f=g+2:=⟨f-2,by omega⟩;rw[Nat.add_sub_cancel]at ih
  match hs:cu x with
  | []=>rw[hs]at c1;simp at c1
  |c::w=>
   have he:=GH (r:=di (y::r)) ho (c:=32) (by decide);rw[hs]at he hb ih;rw[List.cons_append]at he;rw[List.cons_append,fy,if_neg (by simpa using hb),he];dsimp only;rw[<- List.cons_append,List.drop_left' rfl,fy,if_pos (by decide),ih];rw[bI,bI,bI,hs]
theorem uw{l:List Tk}(h: ∀x∈l,dh x=true):mI (di l)= .ok (bI 0 l):=uv l _ 0 h (Nat.le_refl _)
theorem iT: ∀(l:List Tk) (p:Nat),(bI p l).map (·.1)=l
 | [],_=>rfl
 |x::r,p=>by rw[bI,List.map_cons,iT r]
structure Va where
 k:Int
 i:Int
 s:List UInt8
inductive Ex where
 |mk (op:Int) (v:Va) (tb nm:List UInt8) (slot kd:Int) (args:List Ex)
def Ma:Va:=⟨0,0,[]⟩
def lp(v:Va):Ex:= .mk 1 v [] [] 0 0 []
def kz(op:Int)(args:List Ex):Ex:= .mk op Ma [] [] 0 0 args
def IZ(tb nm:List UInt8):Ex:= .mk 2 Ma tb nm 0 0 []
def xY:Ex:= .mk 0 Ma [] [] 0 0 []
inductive cH(α:Type) where
 |ok (x:α) (i:Nat)
 |bad (e:Int) (i:Nat)
def cH.then{α β:Type}(r:cH α)(f:α->Nat->cH β):cH β:=match r with
 | .ok x i=>f x i
 | .bad e i=> .bad e i
abbrev ke:=Nat->Tk
def fM(T:ke)(s:List UInt8)(i:Nat):Bool:=((T i).k==1||(T i).k==4)&&(T i).t==s
def dX(T:ke)(s:List UInt8)(i:Nat):cH Unit:=if fM T s i then .ok () (i+1)else .bad 240 i
def kM(T:ke)(bB:List UInt8->Bool)(i:Nat):cH (List UInt8):=if(T i).k==1&& !bB (T i).t then .ok (T i).t (i+1)else .bad 240 i
abbrev D2:=List (List UInt8×Int)
def find? (ops:D2)(t:List UInt8):Option Int:=match ops with
 | []=>none
 |(w,op)::r=>if t==w then some op else find? r t
def ie(ops:D2)(t:Tk):Option Int:=if t.k==1||t.k==4 then find? ops t.t else none
def cB(T:ke)(ops:D2)(part:Nat->cH Ex):Nat->Ex->Nat->cH Ex
 |0,x,i=> .ok x i
 |f+1,x,i=>match ie ops (T i)with
  |none=> .ok x i
  |some op=>(part (i+1)).then fun y j=>cB T ops part f (kz op [x,y]) j
def eV(T:ke)(n:Nat)(ops:D2)(part:Nat->cH Ex)(i:Nat):cH Ex:=(part i).then fun x j=>cB T ops part n x j
def kN:D2:=[([111,114],16)]
def gh:D2:=[([97,110,100],15)]
def eA:D2:=[([43],3),([45],4),([124,124],8)]
def eW:D2:=[([42],5),([47],6),([37],7)]
def BY:D2:=[([61],9),([60,62],10),([60],11),([60,61],12),([62],13),([62,61],14)]
def GL:D2:=[([99,111,117,110,116],22),([115,117,109],23),([109,105,110],24),([109,97,120],25)]
structure Lv where
 expr:Nat->cH Ex
 GM:Nat->cH Ex
 iU:Nat->cH Ex
 cmp:Nat->cH Ex
 sum:Nat->cH Ex
 prod:Nat->cH Ex
 unary:Nat->cH Ex
 lW:Nat->cH Ex
def BZ(T:ke)(bB:List UInt8->Bool)(i:Nat):cH Ex:=(kM T bB i).then fun s j=>
 if fM T [46] j then(kM T bB (j+1)).then fun t k=> .ok (IZ s t) k else .ok (IZ [] s) j
def je{α:Type}(dn:Option Lv)(i:Nat)(f:Lv->cH α):cH α:=match dn with
 |none=> .bad 241 i
 |some L=>f L
def sU(T:ke)(L:Lv)(op:Int)(i:Nat):cH Ex:=
 if fM T [40] (i+1)then
  if op==22&&fM T [42] (i+2)then(dX T [41] (i+3)).then fun _ j=> .ok (kz 21 []) j
  else(L.expr (i+2)).then fun x j=>(dX T [41] j).then fun _ k=> .ok (kz op [x]) k
 else .bad 240 (i+1)
def D3(t:List UInt8):Option Va:=if t==[116,114,117,101]then some ⟨1,1,[]⟩else if t==[102,97,108,115,101]then some ⟨1,0,[]⟩else if t==[110,117,108,108]then some Ma else none
def fN(T:ke)(bB:List UInt8->Bool)(dn:Option Lv)(i:Nat):cH Ex:=
 if(T i).k==2 then(if 9223372036854775807<(T i).n then .bad 233 i else .ok (lp ⟨2,((T i).n:Nat),[]⟩) (i+1))
 else if(T i).k==3 then .ok (lp ⟨3,0,(T i).t⟩) (i+1)
 else if(T i).k==1 then(match D3 (T i).t with
  |some v=> .ok (lp v) (i+1)
  |none=>match find? GL (T i).t with
   |some op=>je dn i fun L=>sU T L op i
   |none=>lq i)
 else lq i
where lq (i:Nat):cH Ex:=
 if fM T [40] i then je dn i fun L=>(L.expr (i+1)).then fun x j=>(dX T [41] j).then fun _ k=> .ok x k
 else BZ T bB i
def mK(T:ke)(dn:Option Lv)(lW:Nat->cH Ex)(i:Nat):cH Ex:=
 if fM T [45] i then
  if(T (i+1)).k==2 then .ok (lp ⟨2,Go.IntKind.i64.wrap (Go.IntKind.u64.wrap (0-((T (i+1)).n:Int))),[]⟩) (i+2)
  else je dn i fun L=>(L.unary (i+1)).then fun y j=> .ok (kz 18 [y]) j
 else lW i
def pL(T:ke)(dn:Option Lv)(cmp:Nat->cH Ex)(i:Nat):cH Ex:=
 if fM T [110,111,116] i then je dn i fun L=>(L.iU (i+1)).then fun y j=> .ok (kz 17 [y]) j
 else cmp i
def xZ(T:ke)(sum:Nat->cH Ex)(i:Nat):cH Ex:=(sum i).then fun x j=>
 if fM T [105,115] j then
  if fM T [110,111,116] (j+1)then(dX T [110,117,108,108] (j+2)).then fun _ k=> .ok (kz 20 [x]) k
  else(dX T [110,117,108,108] (j+1)).then fun _ k=> .ok (kz 19 [x]) k
 else match find? BY (T j).t with
  |none=> .ok x j
  |some op=>if(T j).k==4 then(sum (j+1)).then fun y k=> .ok (kz op [x,y]) k else .ok x j
def pM(T:ke)(bB:List UInt8->Bool)(n:Nat)(dn:Option Lv):Lv:=
 let lW:=fN T bB dn
 let unary:=mK T dn lW
 let prod:=eV T n eW unary
 let sum:=eV T n eA prod
 let cmp:=xZ T sum
 let nt:=pL T dn cmp
 let an:=eV T n gh nt
 ⟨eV T n kN an,an,nt,cmp,sum,prod,unary,lW⟩
def lu(T:ke)(bB:List UInt8->Bool)(n:Nat):Nat->Lv
 |0=>pM T bB n none
 |d+1=>pM T bB n (some (lu T bB n d))
def ux(T:ke)(bB:List UInt8->Bool)(n:Nat):Nat->Option Lv
 |0=>none
 |d+1=>some (lu T bB n d)
theorem B4(T:ke)(bB:List UInt8->Bool)(n d:Nat):lu T bB n d=pM T bB n (ux T bB n d):=by cases d<;>rfl
end Go.Proofs.YtbjifmbemdhndaaGreatDoor
