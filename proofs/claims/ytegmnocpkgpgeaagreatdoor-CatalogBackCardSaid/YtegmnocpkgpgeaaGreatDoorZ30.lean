/- Parts of the proof of PCatalogBack, one behind the other, with short names. -/
import Derived.Test.YtegmnocpkgpgeaaGreatDoorZ29
import Derived.Test.YtegmnocpkgpgeaaGreatDoorZ27
import Derived.Lib.ValidLaws
import Derived.Lib.ItoaNum
import Derived.Test.YtegmnocpkgpgeaaGreatDoorZ24
import Derived.Shelf.Strconv.Itoa1
import Derived.Shelf.Strconv.Itoa2
import Derived.Lib.Walk
import Derived.Lib.ItoaMem
import Derived.WalkKit
import Derived.BigCall
import Derived.BigGuard
set_option linter.unusedVariables false
set_option linter.unusedSimpArgs false
namespace Go.Proofs.YtegmnocpkgpgeaaGreatDoor
open Go.Lib
def tX:List UInt8->Option (List UInt8×Nat)
 | []=>none
 | [c]=>if c=39 then some ([],1)else none
 |c::d::r=>if c=39 then(if d=39 then(tX r).map (fun x=>(39::x.1,x.2+2))else some ([],1))else(tX (d::r)).map (fun x=>(c::x.1,x.2+1))
theorem De{c:UInt8}{r:List UInt8}(h:c≠39):tX (c::r)=(tX r).map fun x=>(c::x.1,x.2+1):=by
 cases r with
 |nil=>simp[tX,h]
 |cons d r=>rw[tX,if_neg h]
theorem A6{r:List UInt8}:tX (39::39::r)=(tX r).map fun x=>(39::x.1,x.2+2):=by rw[tX,if_pos rfl,if_pos rfl]
theorem GG{r:List UInt8}(h:r.getD 0 0≠39):tX (39::r)=some ([],1):=by
 cases r with
 |nil=>simp[tX]
 |cons d r=>rw[tX,if_pos rfl,if_neg (show d≠39 from h)]
theorem sR: ∀(p r:List UInt8),(∀ c∈p,c≠39)->tX (p++r)=(tX r).map fun x=>(p++x.1,x.2+p.length)
 | [],r,_=>by simp
 |c::p,r,h=>by
  rw[List.cons_append,De (h c (by simp)),sR p r fun d hd=>h d (by simp[hd]),Option.map_map];congr 1
theorem oL{p r:List UInt8}(hp:p≠[]):decodeL (p++39::r)=decodeL p:=by
 rw[decodeL_N,decodeL_N];have q: ¬((39:UInt8).toNat/64=2):=by decide
 match p,hp with
 | [a],_=>
   simp only[List.cons_append,List.nil_append,List.length_cons,List.getD_cons_zero,List.getD_cons_succ,List.length_nil];unfold decodeN;simp only[q,and_false,false_and,if_false,show ¬(1<0+1) by omega]
 | [a,b],_=>
   simp only[List.cons_append,List.nil_append,List.length_cons,List.getD_cons_zero,List.getD_cons_succ,List.length_nil];unfold decodeN;simp only[q,and_false,false_and,if_false,show 1<r.length+1+1+1 by omega,show 1<0+1+1 by omega,show ¬(2<0+1+1) by omega,true_and]
 | [a,b,c],_=>
   simp only[List.cons_append,List.nil_append,List.length_cons,List.getD_cons_zero,List.getD_cons_succ,List.length_nil];unfold decodeN;simp only[q,and_false,false_and,if_false,show 1<r.length+1+1+1+1 by omega,show 2<r.length+1+1+1+1 by omega,show 1<0+1+1+1 by omega,show 2<0+1+1+1 by omega,show ¬(3<0+1+1+1) by omega,true_and]
 |a::b::c::d::t,_=>
  simp only[List.cons_append,List.length_cons,List.length_append,List.getD_cons_zero,List.getD_cons_succ];unfold decodeN;simp only[show 1<t.length+(r.length+1)+1+1+1+1 by omega,show 2<t.length+(r.length+1)+1+1+1+1 by omega,show 3<t.length+(r.length+1)+1+1+1+1 by omega,show 1<t.length+1+1+1+1 by omega,show 2<t.length+1+1+1+1 by omega,show 3<t.length+1+1+1+1 by omega,true_and]
theorem PO: ∀l:List UInt8,(∀ c∈l,c≠39)\/ ∃p r,l=p++39::r/\ ∀c∈p,c≠39
 | []=> .inl (by simp)
 |c::r=>by
  by_cases hc:c=39
  ·subst hc;exact .inr ⟨[],r,rfl,by simp⟩
  ·rcases PO r with h|⟨p,r',rfl,h⟩
   ·exact .inl (by simp only[List.mem_cons];rintro d (rfl|hd);exact hc;exact h d hd)
   ·exact .inr ⟨c::p,r',rfl,by simp only[List.mem_cons];rintro d (rfl|hd);exact hc;exact h d hd⟩
theorem Df{l:List UInt8}(h: ∀c∈l,c≠39):tX l=none:=by
 have:=sR l [] h;rw[List.append_nil]at this;rw[this];rfl
theorem IC{r:List UInt8}{b:List UInt8}{n:Nat}(h:tX (39::r)=some (b,n)):b=[]\/ ∃b',b=39::b':=by
 by_cases hr:r.getD 0 0=39
 ·cases r with
  |nil=>exact absurd hr (by decide)
  |cons d r=>
   obtain rfl:d=39:=hr;rw[A6]at h;obtain⟨x,_,hx⟩:=Option.map_eq_some_iff.1 h;cases hx
   exact .inr ⟨_,rfl⟩
 ·rw[GG hr]at h
  cases h
  exact .inl rfl
theorem A7: ∀(l b:List UInt8) (n:Nat),tX l=some (b,n)->1<=n/\n<=l.length/\l.getD (n-1) 0=39
 | [],b,n,h=>by simp[tX]at h
 | [c],b,n,h=>by
   rw[tX]at h;split at h
   ·rename_i hc
    cases h
    exact⟨Nat.le_refl _,by simp,hc⟩
   ·cases h
 |c::d::r,b,n,h=>by
  rw[tX]at h;split at h
  ·rename_i hc
   split at h
   ·obtain⟨x,h1,h2⟩:=Option.map_eq_some_iff.1 h
    obtain⟨k1,k2,k3⟩:=A7 r x.1 x.2 h1;cases h2
    refine⟨by omega,by simp only[List.length_cons];omega,?_⟩;rw[show x.2+2-1=(x.2-1)+1+1 by omega];simpa using k3
   ·cases h
    exact⟨Nat.le_refl _,by simp,hc⟩
  ·obtain⟨x,h1,h2⟩:=Option.map_eq_some_iff.1 h
   obtain⟨k1,k2,k3⟩:=A7 (d::r) x.1 x.2 h1;cases h2
   refine⟨by omega,by simp only[List.length_cons]at k2 ⊢;omega,?_⟩;rw[show x.2+1-1=(x.2-1)+1 by omega];simpa using k3
def N1(bad:Bool)(buf:List UInt8)(i:Nat):Option (List UInt8×Nat)->One
 |none=> .err 231
 |some (b,n)=>if(bad|| !validD b)=true then .err 232 else if 64<(buf++b).length then .err 3 else .ok ⟨3,buf++b,0⟩ (i+n)
theorem Dg(bad Vx:Bool)(buf ch:List UInt8)(i k:Nat)(o:Option (List UInt8×Nat))(h: ∀b n,o=some (b,n)->(Vx|| !validD b)=(bad|| !validD (ch++b))):
  N1 Vx (buf++ch) (i+k) o=N1 bad buf i (o.map fun x=>(ch++x.1,x.2+k)):=by
 cases o with
 |none=>rfl
 |some x=>
  obtain⟨b,n⟩:=x;show(if _ then _ else _)=(if _ then _ else _);rw[h b n rfl];simp only[List.append_assoc];rw[show i+k+n=i+(n+k) by omega]
theorem rT: ∀(f:Nat) (l:List UInt8) (i:Nat) (bad:Bool) (buf:List UInt8),l.length<=f->bX f l i bad buf=N1 bad buf i (tX l)
 |0,l,i,bad,buf,h=>by
  obtain rfl:l=[]:=by simpa using h
  rfl
 |f+1,[],i,bad,buf,h=>rfl
 |f+1,c::r,i,bad,buf,h=>by
  simp only[List.length_cons]at h;by_cases hc:c≠39
  ·rw[bX,if_pos hc]
   dsimp only;have hw:=decodeL_width (c::r);generalize hd:decodeL (c::r)=d at hw;rw[rT f _ _ _ _ (by rw[List.length_drop,List.length_cons];omega)];rcases PO (c::r)with hn|⟨p,r',hp,hn⟩
   ·rw[Df hn,Df fun x hx=>hn x (List.mem_of_mem_drop hx)]
    rfl
   ·have N3:p≠[]:=by
     rintro rfl;simp only[List.nil_append,List.cons.injEq]at hp;exact hc hp.1
    have hfit:=sD (r:=r') N3;rw[<- hp,hd]at hfit;have e1:(c::r).drop d.2=p.drop d.2++39::r':=by rw[hp,List.drop_append_of_le_length hfit]
    have e2:(c::r).take d.2=p.take d.2:=by rw[hp,List.take_append_of_le_length hfit]
    have hlen:(p.take d.2).length=d.2:=by rw[List.length_take];omega
    rw[e1,e2]
    have e3:tX (c::r)=(tX (p.drop d.2++39::r')).map fun x=>(p.take d.2++x.1,x.2+d.2):=by
     have:=sR (p.take d.2) (p.drop d.2++39::r') fun x hx=>hn x (List.mem_of_mem_take hx)
     rw[<- List.append_assoc,List.take_append_drop,<-hp,hlen]at this;exact this
    rw[e3];refine Dg _ _ _ _ _ _ _ fun b n hb=> ?_
    rw[sR _ _ fun x hx=>hn x (List.mem_of_mem_drop hx)]at hb;obtain⟨⟨b',n'⟩,WZ,D7⟩:=Option.map_eq_some_iff.1 hb
    have hbd:decodeL (p.take d.2++b)=d:=by
     cases D7
     rw[<- List.append_assoc,List.take_append_drop];rcases IC WZ with rfl|⟨b'',rfl⟩
     ·rw[List.append_nil,<-oL N3 (r:=r'),<-hp,hd]
     ·rw[oL N3,<-oL N3 (r:=r'),<-hp,hd]
    have hne:p.take d.2++b≠[]:=by
     intro e;have:=congrArg List.length e;rw[List.length_append,hlen,List.length_nil]at this;omega
    rw[validD_step _ hne,hbd,List.drop_left' hlen];by_cases hq:d.1=65533/\d.2=1
    ·rw[if_pos hq,hq.1,hq.2];simp
    ·rw[if_neg hq]
     have:(d.1==65533&&d.2==1)=false:=by
      rw[Bool.eq_false_iff];intro h;simp only[Bool.and_eq_true,beq_iff_eq]at h;exact hq h
     rw[this,Bool.or_false]
  ·have hc:c=39:=by simpa using hc
   subst hc;rw[bX,if_neg (by simp)];by_cases hr:r.getD 0 0=39
   ·rw[if_pos hr]
    cases r with
    |nil=>exact absurd hr (by decide)
    |cons d r=>
     obtain rfl:d=39:=hr;simp only[List.length_cons]at h;rw[List.drop_succ_cons,List.drop_zero,rT f r _ _ _ (by omega),A6];have:=Dg bad bad buf [39] i 2 (tX r) fun b n _=>by rw[List.cons_append,List.nil_append,validD_cons 39 b (by decide)]
     rw[this];rfl
   ·rw[if_neg hr,GG hr]
    show _=(if _ then _ else _);rw[validD_nil,Bool.not_true,Bool.or_false,List.append_nil]
theorem Dh(r:List UInt8):nW (39::r)=N1 false [] 1 (tX r):=by
 unfold nW;rw[List.drop_succ_cons,List.drop_zero,rT _ _ _ _ _ (by simp)]
def quot:List UInt8->List UInt8
 | []=>[]
 |c::r=>if c=39 then 39::39::quot r else c::quot r
theorem xj: ∀t:List UInt8,tX (quot t++[39])=some (t,(quot t).length+1)
 | []=>rfl
 |c::r=>by
  rw[quot];split
  ·rename_i hc
   subst hc;rw[List.cons_append,List.cons_append,A6,xj r];rfl
  ·rename_i hc
   rw[List.cons_append,De hc,xj r];rfl
theorem ID{t:List UInt8}(hv:validD t=true)(hl:t.length<=64):fG (39::(quot t++[39]))= .ok ⟨3,t,0⟩ (39::(quot t++[39])).length:=by
 have:fG (39::(quot t++[39]))=nW (39::(quot t++[39])):=rfl;rw[this,Dh,xj];show(if _ then _ else _)=_;rw[hv,if_neg (by decide),if_neg (by simpa using hl)];simp only[List.nil_append,List.length_cons,List.length_append,List.length_nil];rw[show 1+((quot t).length+1)=(quot t).length+(0+1)+1 by omega]
theorem Di{r:List UInt8}{x:Tk}{n:Nat}(h:nW (39::r)= .ok x n):x.k=3/\x.n=0/\validD x.t=true/\x.t.length<=64/\(39::r).getD (n-1) 0=39:=by
 rw[Dh]at h;cases hu:tX r with
 |none=>rw[hu]at h;cases h
 |some q=>
  obtain⟨b,m⟩:=q;rw[hu]at h
  replace h:(if(false|| !validD b)=true then One.err 232 else if 64<([]++b).length then .err 3 else .ok ⟨3,[]++b,0⟩ (1+m))= .ok x n:=h
  split at h
  ·cases h
  ·rename_i h1
   split at h
   ·cases h
   ·rename_i h2
    cases h
    obtain⟨k1,k2,k3⟩:=A7 r b m hu;refine⟨rfl,rfl,by simpa using h1,by simpa using h2,?_⟩;rw[show 1+m-1=(m-1)+1 by omega];simpa using k3
def cA(x:Tk):List UInt8:=if x.k=2 then decDigits x.n else if x.k=3 then 39::(quot x.t++[39])else x.t
def cS(x:Tk):Bool:=
 if(x.k≠2/\x.n≠0)\/x.k=0\/4<x.k then false
 else if x.k=2 then x.t==[]&&decide (x.n<=9223372036854775808)
 else if x.k=3/\(64<x.t.length\/validD x.t=false)then false
 else if 65536<(cA x).length then false
 else match lR (cA x)with
  | .ok [(y,0)]=>y.k==x.k&&y.t==x.t&&y.n==x.n
  |_=>false
theorem Dj{d:Nat}(h:d<10):isDigit (UInt8.ofNat (48+d))=true/\(UInt8.ofNat (48+d)).toNat-48=d:=by
 have: ∀d:Fin 10,isDigit (UInt8.ofNat (48+d.val))=true/\(UInt8.ofNat (48+d.val)).toNat-48=d.val:=by decide +kernel
 exact this ⟨d,h⟩
theorem N4(n:Nat):(∀ c∈decDigits n,isDigit c=true)/\decDigits n≠[]/\numOf (decDigits n)=n:=by
 induction n using Nat.strongRecOn with
 |_ n ih=>
  by_cases h:n<10
  ·rw[decDigits,dif_pos h]
   obtain⟨h1,h2⟩:=Dj h;refine⟨by simpa using h1,by simp,?_⟩;unfold numOf;simp only[List.foldl_cons,List.foldl_nil];omega
  ·rw[decDigits,dif_neg h]
   obtain⟨i1,i2,i3⟩:=ih (n/10) (by omega);obtain⟨h1,h2⟩:=Dj (Nat.mod_lt n (by decide:10>0));refine⟨?_,by simp,?_⟩
   ·intro c hc
    rcases List.mem_append.1 hc with hc|hc
    ·exact i1 c hc
    ·simp only[List.mem_singleton]at hc;subst hc;exact h1
   ·unfold numOf at i3 ⊢
    rw[List.foldl_append,i3];simp only[List.foldl_cons,List.foldl_nil];omega
theorem nc{p:UInt8->Bool}: ∀ {l:List UInt8},(∀ c∈l,p c=true)->l.takeWhile p=l
 | [],_=>rfl
 |c::r,h=>by rw[List.takeWhile_cons,if_pos (h c (by simp)),nc fun d hd=>h d (by simp[hd])]
theorem A8: ∀c:UInt8,isDigit c=true->bL c=false/\bV c=false:=by
 intro c hc;have: ∀n:Fin 256,isDigit (UInt8.ofNat n.val)=true->bL (UInt8.ofNat n.val)=false/\bV (UInt8.ofNat n.val)=false:=by decide +kernel
 have h:=this ⟨c.toNat,UInt8.toNat_lt c⟩;simp only[UInt8.ofNat_toNat]at h;exact h hc
theorem A9: ∀c:UInt8,bL c=true->bV c=false:=by
 intro c hc;have: ∀n:Fin 256,bL (UInt8.ofNat n.val)=true->bV (UInt8.ofNat n.val)=false:=by decide +kernel
 have h:=this ⟨c.toNat,UInt8.toNat_lt c⟩;simp only[UInt8.ofNat_toNat]at h;exact h hc
theorem lY: ∀c:UInt8,bL (iY c)=bL c/\isDigit (iY c)=isDigit c/\iY (iY c)=iY c:=by
 intro c;have: ∀n:Fin 256,bL (iY (UInt8.ofNat n.val))=bL (UInt8.ofNat n.val)/\isDigit (iY (UInt8.ofNat n.val))=isDigit (UInt8.ofNat n.val)/\iY (iY (UInt8.ofNat n.val))=iY (UInt8.ofNat n.val):=by decide +kernel
 have h:=this ⟨c.toNat,UInt8.toNat_lt c⟩;simp only[UInt8.ofNat_toNat]at h;exact h
theorem K7{n:Nat}(h:n<=9223372036854775808):fG (decDigits n)= .ok ⟨2,[],n⟩ (decDigits n).length/\bV ((decDigits n).getD 0 0)=false:=by
 obtain⟨h1,h2,h3⟩:=N4 n;have ht:=nc h1
 match hd:decDigits n,h2 with
 |c::r,_=>
  rw[hd]at h1 h3 ht;obtain⟨l1,l2⟩:=A8 c (h1 c (by simp));refine⟨?_,l2⟩;unfold fG;dsimp only;rw[if_neg (by rw[l1];decide),if_pos (h1 c (by simp))];unfold iZ;dsimp only;rw[ht,h3,if_neg (by omega)]
theorem zB{s:List UInt8}{x:Tk}(h:fG s= .ok x s.length)(hb:bV (s.getD 0 0)=false):lR s= .ok [(x,0)]:=by
 have:=EW (m:=s.length) hb h (Nat.le_refl _) (Nat.le_refl _) (by rw[List.take_length,List.drop_length];simp);rw[List.take_length]at this;exact this
theorem IE{s:List UInt8}{x:Tk}(h:lR s= .ok [(x,0)]):bV (s.getD 0 0)=false/\ ∃n,fG s= .ok x n/\ ∀c∈s.drop n,bV c=true:=by
 have hx:=mE s.length s 0 _ (Nat.le_refl _) h;generalize hl:[(x,0)]=l at hx;generalize hp:0=p at hx;cases hx with
 |none h=>cases hl
 |some hb hc ho h'=>
  rename_i b s x' n l;subst hp;simp only[List.cons.injEq,Prod.mk.injEq,Nat.zero_add]at hl;obtain⟨⟨rfl,H6⟩,rfl⟩:=hl;obtain rfl:b=[]:=List.eq_nil_of_length_eq_zero H6.symm;refine⟨hc,n,ho,?_⟩;generalize hd:s.drop n=d at h';generalize hn:([]:List (Tk×Nat))=e at h';cases h' with
  |none h=>rw[List.nil_append,hd];exact h
  |some=>cases hn
theorem xm: ∀t:List UInt8,(quot t).length<=2*t.length
 | []=>by simp[quot]
 |a::t=>by
  have:=xm t;rw[quot];split
  ·simp only[List.length_cons];omega
  ·simp only[List.length_cons];omega
theorem tY{s:List UInt8}{x:Tk}{n:Nat}(h:fG s= .ok x n):(x.k=1/\x.n=0/\x.t.length=n/\cS x=true)\/(x.k=2/\cS x=true)\/(x.k=3/\x.n=0/\s.getD (n-1) 0=39/\cS x=true)\/(x.k=4/\x.n=0/\x.t.length=n/\cS x=true):=by
 match s,h with
 | [],h=>simp[fG]at h
 |c::r,h=>
  unfold fG at h;dsimp only at h;split at h
  ·rename_i hl
   unfold nV at h;dsimp only at h;split at h
   ·cases h
   ·rename_i hlen
    cases h
    refine .inl ⟨rfl,rfl,by simp,?_⟩;have hw: ∀d∈(c::r).takeWhile (fun c=>bL c||isDigit c),(bL d||isDigit d)=true:=fun d hd=>j6 (p:=fun c=>bL c||isDigit c) hd
    have hc0: ∃w,(c::r).takeWhile (fun c=>bL c||isDigit c)=c::w:=by rw[List.takeWhile_cons,if_pos (by rw[hl];rfl)];exact⟨_,rfl⟩
    generalize (c::r).takeWhile (fun c=>bL c||isDigit c)=w at hw hc0 hlen;obtain⟨w,rfl⟩:=hc0;have hl':bL (iY c)=true:=by rw[(lY c).1];exact hl
    have ht:(iY c::w.map iY).takeWhile (fun c=>bL c||isDigit c)=iY c::w.map iY:=by
     refine nc fun d hd=> ?_
     rw[<- List.map_cons]at hd;obtain⟨e,he,rfl⟩:=List.mem_map.1 hd;rw[(lY e).1,(lY e).2.1];exact hw e he
    have ho:fG ((c::w).map iY)= .ok ⟨1,(c::w).map iY,0⟩ ((c::w).map iY).length:=by
     rw[List.map_cons];unfold fG;dsimp only;rw[if_pos hl'];unfold nV;dsimp only;rw[ht,if_neg (by simpa using hlen)];congr 2
     rw[List.map_cons,(lY c).2.2,List.map_map];congr 2
     funext d;exact(lY d).2.2
    have hx:=zB ho (A9 _ hl');unfold cS;rw[if_neg (by simp),if_neg (by simp),if_neg (by simp),if_neg]
    ·show(match lR ((c::w).map iY)with| .ok [(y,0)]=>_|_=>false)=true
     rw[hx];simp
    ·show ¬65536<((c::w).map iY).length
     rw[List.length_map];omega
  ·split at h
   ·unfold iZ at h
    dsimp only at h;split at h
    ·cases h
    ·rename_i hlen
     cases h
     refine .inr (.inl ⟨rfl,?_⟩);unfold cS;rw[if_neg (by simp),if_pos rfl];simp;omega
   ·split at h
    ·rename_i hq
     have hq:c=39:=by simpa using hq
     subst hq;obtain⟨k1,k2,k3,k4,k5⟩:=Di h;refine .inr (.inr (.inl ⟨k1,k2,k5,?_⟩));have ho:=ID k3 k4;have hx:=zB ho rfl;obtain⟨k,t,m⟩:=x;dsimp only at k1 k2 k3 k4 ho hx;subst k1 k2;have Zi:=xm t;unfold cS;rw[if_neg (by simp),if_neg (by simp),if_neg (by rintro⟨_,h|h⟩;exact absurd h (by show ¬64<t.length;omega);rw[show validD t=false from h]at k3;cases k3),if_neg]
     ·show(match lR (39::(quot t++[39]))with| .ok [(y,0)]=>_|_=>false)=true
      rw[hx];simp
     ·show ¬65536<(39::(quot t++[39])).length
      simp only[List.length_cons,List.length_append,List.length_nil];omega
    ·refine .inr (.inr (.inr ?_))
     have key: ∀L:List (List UInt8),fT (c::r) L= .ok x n-> ∃y∈L,x=⟨4,y,0⟩/\n=y.length:=by
      intro L
      induction L with
      |nil=>intro h;simp[fT]at h
      |cons y L ih=>
       intro h;rw[fT]at h;split at h
       ·cases h;exact⟨y,by simp,rfl,rfl⟩
       ·obtain⟨z,hz,e⟩:=ih h
        exact⟨z,by simp[hz],e⟩
     obtain⟨y,hy,rfl,rfl⟩:=key _ h;have: ∀y∈eG,cS ⟨4,y,0⟩=true:=by decide +kernel
     exact⟨rfl,rfl,rfl,this y hy⟩
theorem IF(t:List UInt8):(39::(quot t++[39])).getD ((39::(quot t++[39])).length-1) 0=39:=by
 simp[List.getD]
theorem p6{x:Tk}(h:cS x=true):fG (cA x)= .ok x (cA x).length/\bV ((cA x).getD 0 0)=false:=by
 unfold cS at h;split at h
 ·cases h
 ·rename_i h1
  split at h
  ·rename_i h2
   simp only[Bool.and_eq_true,beq_iff_eq,decide_eq_true_eq]at h;have hs:cA x=decDigits x.n:=by unfold cA;rw[if_pos h2]
   obtain⟨k,t,n⟩:=x;obtain⟨h3,h4⟩:=h;dsimp only at h2 h3 h4 hs;subst h2 h3;rw[hs];exact K7 h4
  ·rename_i h2
   split at h
   ·cases h
   ·rename_i h3
    split at h
    ·cases h
    ·split at h
     ·rename_i y hL
      simp only[Bool.and_eq_true,beq_iff_eq]at h
      have hy:y=x:=by
       obtain⟨a,b,c⟩:=y;obtain⟨a',b',c'⟩:=x;obtain⟨⟨rfl,rfl⟩,rfl⟩:=h;rfl
      subst hy;obtain⟨hb,n,ho,hd⟩:=IE hL;refine⟨?_,hb⟩
      have hn:n=(cA y).length:=by
       obtain⟨c1,c2,_⟩:=jb ho;rcases tY ho with k|k|k|k
       ·have:cA y=y.t:=by unfold cA;rw[if_neg (by omega),if_neg (by omega)]
        rw[this];exact k.2.2.1.symm
       ·exact absurd k.1 h2
       ·have e:cA y=39::(quot y.t++[39]):=by unfold cA;rw[if_neg h2,if_pos k.1]
        rw[e]at c2 hd ⊢;rcases Nat.lt_or_ge n (39::(quot y.t++[39])).length with hlt|hge
        ·exfalso
         have hm:(39:UInt8)∈(39::(quot y.t++[39])).drop n:=by
          have hq:=IF y.t;generalize 39::(quot y.t++[39])=z at hlt hq;rw[List.mem_iff_getElem];refine⟨z.length-1-n,by rw[List.length_drop];omega,?_⟩;rw[List.getElem_drop];have e2:n+(z.length-1-n)=z.length-1:=by omega
          simp only[e2];rw[show z.getD (z.length-1) 0=z[z.length-1]'(by omega) by simp[List.getD,show z.length-1<z.length by omega]]at hq;exact hq
         have:=hd 39 hm;exact absurd this (by decide)
        ·omega
       ·have:cA y=y.t:=by unfold cA;rw[if_neg (by omega),if_neg (by omega)]
        rw[this];exact k.2.2.1.symm
      rw[<- hn];exact ho
     ·cases h
theorem Fg{x:Tk}(h:cS x=true):(Piece.mk (cA x) [32] x).Ok:=
 ⟨(p6 h).1,(p6 h).2,by simp,by simp only[List.mem_singleton];rintro c rfl;rfl⟩
def fV:List Tk->List UInt8
 | []=>[]
 | [x]=>cA x
 |x::y::r=>cA x++32::fV (y::r)
theorem zC{k:Nat}: ∀ {l:List Tk},(∀ x∈l,(cA x).length<=k)->(fV l).length<=l.length*(k+1)
 | [],_=>by simp[fV]
 | [x],h=>by
   have:=h x (by simp);rw[fV,List.length_singleton];omega
 |x::y::r,h=>by
  have h1:=h x (by simp);have h2:=zC (l:=y::r) fun z hz=>h z (by simp[hz])
  rw[fV,List.length_append,List.length_cons];rw[List.length_cons,Nat.add_mul];simp only[List.length_cons]at h2 ⊢;omega
end Go.Proofs.YtegmnocpkgpgeaaGreatDoor
namespace Go.Proofs.YtegmnocpkgpgeaaGreatDoor
open Ab Go.RowKit
set_option maxRecDepth 100000
set_option maxHeartbeats 4000000
theorem lB{m:Nat}{l:List (Nat×ai)}{i g idx sub sz:Nat}{elems:List SV}{sk:Sk}{v:SV}{k:List SV->Nat->Prop}(ho:ak l i=some (.vec g sz elems sk))(hv:elems[idx]? =some v)(hk:v.gE fun cs=>k cs sub):nB ⟨m,l⟩ (.ref i g idx sub) k:=by
 show eC l i (fun o=>match o with
  | .vec g' _ elems _=>cY (Nat.beq g' g) (match fm elems idx with
   |some v=>v.gE fun cs=>k cs sub
   |none=>False)
  |_=>False) False
 rw[bg,ho];dsimp only;rw[ah,cM,hv];exact⟨cC g,hk⟩
theorem Fh{m:Nat}{l:List (Nat×ai)}{i g idx sz:Nat}{elems:List SV}{sk:Sk}{v w:SV}{k:Heap->Prop}(ho:ak l i=some (.vec g sz elems sk))(hi:elems[idx]? =some w)(hw: ∀cs,w≠ .agg cs)(hv:v.one=true)
  (hk:k ⟨m,bt l i (.vec g sz (elems.set idx v) sk)⟩):rF 1 ⟨m,l⟩ (.ref i g idx 0) v k:=by
 have hlt:idx<elems.length:=(List.getElem?_eq_some_iff.1 hi).1
 have key: ∀v:SV,v.one=true->k ⟨m,bt l i (.vec g sz (elems.set idx v) sk)⟩->v.gE fun vs=>cY (Nat.beq vs.length 1&&cZ vs) (eC l i (fun o=>match o with
   | .vec g' sz elems sk=>cY (Nat.beq g' g) (match fm elems idx with
     |some w=>pG w v 0 fun w'=>rE elems idx w' fun elems'=>mM l i (.vec g' sz elems' sk) fun l'=>k ⟨m,l'⟩
     |none=>False)
   |_=>False) False):=by
  intro v hv hk
  have inner:eC l i (fun o=>match o with
   | .vec g' sz elems sk=>cY (Nat.beq g' g) (match fm elems idx with
     |some w=>pG w v 0 fun w'=>rE elems idx w' fun elems'=>mM l i (.vec g' sz elems' sk) fun l'=>k ⟨m,l'⟩
     |none=>False)
   |_=>False) False:=by
   rw[bg,ho];dsimp only;rw[ah,cM,hi];refine⟨cC g,?_⟩
   have:rE elems idx v fun elems'=>mM l i (.vec g sz elems' sk) fun l'=>k ⟨m,l'⟩:=by
    rw[fy];exact⟨hlt,by rw[cL];exact hk⟩
   cases w<;>first|exact absurd rfl (hw _)|(cases v<;>first|exact this|(simp[SV.one]at hv))
  cases v<;>first|(simp[SV.one]at hv;done)|exact ah.2 ⟨rfl,inner⟩
 exact key v hv hk
def Sy(n:Nat)(h:Heap)(p v:SV)(k:Heap->Prop):Prop:=
 v.gE fun vs=>cY (Nat.beq vs.length n&&cZ vs) (match p,h with
 | .ref i g idx sub,⟨m,hl⟩=>eC hl i (fun o=>match o with
  | .vec g' sz elems sk=>cY (Nat.beq g' g) (match fm elems idx with
    |some w=>pG w v sub fun w'=>rE elems idx w' fun elems'=>mM hl i (.vec g' sz elems' sk) fun l'=>k ⟨m,l'⟩
    |none=>False)
  |_=>False) False
 |_,_=>False)
theorem qv{n:Nat}{h:Heap}{p v:SV}{k:Heap->Prop}(hq:Sy n h p v k):rF n h p v k:=hq
abbrev TI:=Tk×Int
@[reducible] def N5 (x:TI):SV:= .agg [.int .u8 x.1.k,.str x.1.t,.int .u64 x.1.n,.int .i64 x.2]
def n6:TI:=(⟨0,[],0⟩,0)
@[reducible] def Fi (l:List TI):SV:= .aW 4 l.length fun i=>N5 (l.getD i n6)
def Yj(x:TP):TI:=(x.1,(x.2:Int))
theorem N6(l:List TP):wU l=Fi (l.map Yj):=by
 unfold wU Fi;rw[List.length_map];congr 1
 funext i
 have:(l.map Yj).getD i n6=Yj (l.getD i bG):=by
  simp only[List.getD,List.getElem?_map];cases l[i]? <;>rfl
 rw[this];rfl
def Nv(l:List Tk):List TP:=l.map fun x=>(x,0)
end Go.Proofs.YtegmnocpkgpgeaaGreatDoor
namespace Go.Proofs.YtegmnocpkgpgeaaGreatDoor
open Ab Go.RowKit
set_option maxRecDepth 100000
set_option maxHeartbeats 4000000
attribute [local irreducible] aS bH
theorem oM: ∀(f:Nat) (s:List UInt8) (p:Nat) (e:Int) (a:Nat),eN f s p= .error (e,a)->e≠0
 |0,_,_,_,_,h=>by simp[eN]at h
 |f+1,[],_,_,_,h=>by simp[eN]at h
 |f+1,c::r,p,e,a,h=>by
  rw[eN]at h;split at h
  ·exact oM f r (p+1) e a h
  ·split at h
   ·rename_i ho
    cases h
    exact w9 ho
   ·split at h
    ·rename_i hl
     cases h
     exact oM f _ _ e a hl
    ·cases h
theorem IG: ∀ {s:List UInt8} {p:Nat} {l:List TP},uN s p l->l.length<=s.length:=by
 intro s p l h
 induction h with
 |none h=>simp
 |some hb hc ho h ih=>
  obtain⟨h1,h2,_⟩:=jb ho;rw[List.length_drop]at ih;simp only[List.length_cons,List.length_append];omega
end Go.Proofs.YtegmnocpkgpgeaaGreatDoor
namespace Go.Proofs.YtegmnocpkgpgeaaGreatDoor
open Go.Shelf Go.RowKit Go.Sort Go.Lib
section
theorem Dk(w:World)(T:TypeId)(nd:Nat)(hs:nd<=24):Holds (fun(b:UInt8)=>Value.int .u8 (b.toNat:Int)) (w.alloc (.cells Lib.zeros24 T)) w.heap.size 0 (Array.replicate nd (0:UInt8)):=fun j hj=>by
 have hj':j<nd:=by simpa using hj
 refine⟨?_,World.frozen?_alloc_new _ _ _ _⟩;rw[World.cell?_alloc_new,zeros24_at _ (by omega),getElem!_pos _ j hj];simp
theorem K8(w:World)(o:Obj)(dk:Array UInt8)(k:Nat): ∃os,(putRow (fun(b:UInt8)=>Value.int .u8 (b.toNat:Int)) (w.alloc o) w.heap.size 0 dk).drewN k=grow (w.drewN k) os:=by
 rw[alloc_eq_grow];obtain⟨os',_,e⟩:=putRow_grow_new (fun(b:UInt8)=>Value.int .u8 (b.toNat:Int)) w #[o] w.heap.size 0 dk (Nat.le_refl _);exact⟨os',by rw[e];rfl⟩
set_option maxHeartbeats 6400000 in
set_option maxRecDepth 100000 in
theorem yM (u:Nat) (hu64:u<18446744073709551616) (w:World) (htab:Lib.TabIs Tryz.prog w "internal/strconv.uint64pow10" .u64 Lib.pow10Tab):
  Calls Tryz.prog 195 #[.int .u64 u,.int .i64 10] w fun e w'=>e= .returned (.string ⟨(Lib.decDigits u).toArray⟩)/\ ∃k os,w'=grow (w.drewN k) os:=by
 have aag: ∀args w,(callFunc 209 args).run Tryz.prog w= .ok (.enter 209 args) w:=enters_of Tryz.func209 (by kernel_rfl) rfl;have aah: ∀args w,(callFunc 210 args).run Tryz.prog w= .ok (.enter 210 args) w:=enters_of Tryz.func210 (by kernel_rfl) rfl;have aai: ∀args w,(callFunc 211 args).run Tryz.prog w= .ok (.enter 211 args) w:=enters_of Tryz.func211 (by kernel_rfl) rfl;by_cases hs:u<100
 ·go_enter Tryz.func195,Tryz.ntmps195
  go_wp2_with (go_at_fn (209);refine(Any.internal_strconv_small Tryz.NB u hs _).mono ?_;rintro e w' ⟨rfl,rfl⟩)
  go_ret
  exact⟨rfl,0,#[],by simp[World.drewN_zero]⟩
 ·have WT:1<=u:=by omega
  have Zj:Lib.nDigits u<=20:=by have:=Lib.numDigits_eq u WT hu64;split at this<;>omega
  have Zk:Lib.nDigits u<=24:=by omega
  have L:=Tryz.NC;have hal:Tryz.prog.arrayLen 264=24:=by kernel_rfl
  have t171:=Tryz.underlying264
  have aaj: ∀W,(Instr.sliceAt 264 (.pointer (some ⟨w.heap.size,0,none⟩)) none (some (.int .i64 (Lib.nDigits u:Int))) none).run Tryz.prog W= .ok (.slice (some ⟨w.heap.size,0,none⟩) (Lib.nDigits u) 24) W:=fun W=>by
   rw[run_sliceAt_array_h W 264 ⟨w.heap.size,0,none⟩ (by kernel_rfl) .i64 (Lib.nDigits u:Int) (by omega) (by rw[hal];omega)]
   go_simp
  have Yk:=Dk w 264 (Lib.nDigits u) (by omega);have hfmt:=Any.internal_strconv_formatBase10 L w.heap.size 0 24 u (Array.replicate (Lib.nDigits u) 0) (w.alloc (.cells Lib.zeros24 264)) Yk (by rw[Array.size_replicate];exact Lib.lt_pow_nDigits u) hu64 (by rw[Array.size_replicate];omega);rw[Array.size_replicate]at hfmt;have HH0:=Lib.hid Yk;clear Yk hal
  go_enter Tryz.func195,Tryz.ntmps195
  go_wp2_with (first
   |(go_at_fn (210);refine(Any.internal_strconv_numDigits Tryz.Kz u WT hu64 _ (Lib.tabIs_alloc htab _)).mono ?_;rintro e w' ⟨rfl,rfl⟩))
  go_at_fn (211)
  refine hfmt.mono ?_;rintro e w' ⟨rfl,k,v',dk,rfl,hF⟩
  have hcv:(convert 97 9 (.slice (some ⟨w.heap.size,0,none⟩) (Lib.nDigits u) 24)).run Tryz.prog ((putRow (fun(b:UInt8)=>Value.int .u8 (b.toNat:Int)) (w.alloc (.cells Lib.zeros24 264)) w.heap.size 0 dk).drewN k)= .ok (.string ⟨(Lib.decDigits u).toArray⟩) ((putRow (fun(b:UInt8)=>Value.int .u8 (b.toNat:Int)) (w.alloc (.cells Lib.zeros24 264)) w.heap.size 0 dk).drewN k):=by
   have h:=run_convert_bytes_back (P:=Tryz.prog) ((putRow (fun(b:UInt8)=>Value.int .u8 (b.toNat:Int)) (w.alloc (.cells Lib.zeros24 264)) w.heap.size 0 dk).drewN k) 97 9 5 ⟨w.heap.size,0,none⟩ 24 (Lib.decDigits u) Tryz.underlying97 Tryz.underlying5 Tryz.underlying9 (fun j hj=>by
    rw[Lib.row_is_numeral hF j hj,Lib.add_plain,World.cell?_drewN];exact cell?_putRow (fun(b:UInt8)=>Value.int .u8 (b.toNat:Int)) _ w.heap.size 0 _ dk HH0.out (by rw[hF.size,Array.size_replicate]) j (by rw[hF.size];rw[Lib.decDigits_length]at hj;exact hj))
   rw[Lib.decDigits_length]at h;exact h
  go_wp2
  go_ret
  obtain⟨os,eo⟩:=K8 w (.cells Lib.zeros24 264) dk k;exact⟨rfl,k,os,eo⟩
end
end Go.Proofs.YtegmnocpkgpgeaaGreatDoor
