/- Parts of the proof of PCatalogBack, one behind the other, with short names. -/
import Derived.Test.YtegmnocpkgpgeaaGreatDoorZ30
import Derived.Test.YtegmnocpkgpgeaaGreatDoorZ31
set_option linter.unusedVariables false
set_option linter.unusedSimpArgs false
namespace Go.Proofs.YtegmnocpkgpgeaaGreatDoor
open Ab Go.RowKit
set_option maxRecDepth 100000
set_option maxHeartbeats 4000000
theorem Dn{B:Nat}{a w:World}(h:Below B a w)(q:Nat):Below B a (w.drewN q):=⟨h.os,h.tape,h.output,h.size,h.block⟩
theorem xp{n:Nat}(h:n<18446744073709551616):aj Tryz.prog 178 [.int .u64 n,.int .i64 10] (.str (Lib.decDigits n)):=by
 have key:aj Tryz.prog 195 [.int .u64 n,.int .i64 10] (.str (Lib.decDigits n)):=by
  refine gH (cP (.int _ _) (.int _ _)) (.str _) fun Im w xs hg tv hs hv=> ?_
  obtain rfl:=args2 hs hv (fun _ h=>h.lW) (fun _ h=>h.lW);have htab:Lib.TabIs Tryz.prog w "internal/strconv.uint64pow10" .u64 Lib.pow10Tab:=hg.var (g:=5) (by decide) (by kernel_rfl);refine(yM n h w htab).mono fun e w' h=> ?_
  obtain⟨rfl,k,os,rfl⟩:=h;have hb:=Dn (Below.refl w.heap.size w) k;exact⟨⟨_,rfl,.str _⟩,EZ os hb hb.size⟩
 refine aG (cP (.int _ _) (.int _ _)) (RO.call mixed rfl ?_);iterate 6 all_goals ((try conv=>whnf);try first|(with_reducible first|refine zY ?_|refine zN ?_|refine zT ?_|refine br (fun _=> ?_) (fun _=> ?_)|refine⟨rfl,?_⟩|refine aj.call (key) ?_))
 exact leaf rfl (.str _)
theorem oV{s:List UInt8}(hs:s.length<=9223372036854775807):aj Tryz.prog 177 [.str s] (.bool (Lib.validD s)):=by
 refine gH (di (.str _)) (.bool _) fun Im w xs hg tv hz hv=> ?_
 obtain rfl:=args1 hz hv (fun _ h=>h.lV);refine(Any.utf8_ValidString Tryz.Nz ⟨s.toArray⟩ w (by simpa[ByteArray.size]using hs) (zw hg)).mono fun e w' h=> ?_
 obtain⟨rfl,hb⟩:=h;exact⟨⟨_,rfl,.bool _⟩,hb⟩
theorem Dp: ∀t:List UInt8,lf 39 [39,39] t=quot t
 | []=>rfl
 |c::r=>by
  rw[lf,quot,Dp r];split<;>rfl
@[reducible] def o5 (l:List (List UInt8)):SV:= .aW 1 l.length fun i=> .str (l.getD i [])
theorem La{l:List (List UInt8)}{sep:List UInt8}(hn:l.length<=100000)(hl:(Lib.join l sep).length<=140737488355328):aj Tryz.prog 122 [o5 l,.str sep] (.str (Lib.join l sep)):=by
 refine gH (cP (.aW _ _ _) (.str _)) (.str _) fun Im w xs hg tv hz hv=> ?_
 obtain⟨x0,h0⟩: ∃x0,xs[0]? =some x0:=⟨xs[0]'(by rw[hz];show 0<2;decide),by simp⟩;obtain⟨x1,h1⟩: ∃x1,xs[1]? =some x1:=⟨xs[1]'(by rw[hz];show 1<2;decide),by simp⟩
 have hx:xs= #[x0,x1]:=by
  apply Array.ext'
  apply List.ext_getElem?
  intro i;rcases i with _|_|i
  ·simpa using h0
  ·simpa using h1
  ·simp[hz]
 have v0:=hv 0 _ x0 rfl h0;have v1:=(hv 1 _ x1 rfl h1).lV;subst hx v1
 have em:(l.map fun s=>(⟨s.toArray⟩:ByteArray)).map (·.data.toList)=l:=by
  rw[List.map_map]
  conv=>rhs;rw[<- List.map_id l]
  rfl
 have fin: ∀(a:Option Addr) (c:Nat),x0= .slice a 0 c->l=[]->Calls Tryz.prog 122 #[x0,.string ⟨sep.toArray⟩] w fun e w'=>(∃ x,e= .returned x/\VP Im w' (.str (Lib.join l sep)) x)/\Below w.heap.size w w':=by
  rintro a c rfl rfl;refine(Any.strings_Join_none Tryz.Gw Tryz.oU a c _ w).mono fun e w' h=> ?_
  obtain⟨rfl,rfl⟩:=h;exact⟨⟨_,rfl,.str _⟩,Below.refl _ _⟩
 generalize hq:o5 l=q at v0;cases v0<;>first|(cases hq;done)|skip
 ·rename_i sz get a c
  refine fin a c rfl (List.eq_nil_of_length_eq_zero ?_);injection hq
 ·rename_i sz n get b off cap C ty fz hb hw hn hcap hc h
  have e1:n=l.length:=by injection hq with _ h2 _;exact h2.symm
  have e2:get=fun i=>SV.str (l.getD i []):=by injection hq with _ _ h3;exact h3.symm
  have e3:sz=1:=by injection hq with h1 _ _;exact h1.symm
  subst e1 e2 e3
  have hcells: ∀(j:Nat) x,(l.map fun s=>(⟨s.toArray⟩:ByteArray))[j]? =some x->w.cell? ⟨b,off+j,none⟩=some (.string x):=by
   intro j x hx;rw[List.getElem?_map]at hx;obtain⟨t,ht,rfl⟩:=Option.map_eq_some_iff.1 hx;have hj:j<l.length:=(List.getElem?_eq_some_iff.1 ht).1;obtain⟨y,hy⟩: ∃y,C[off+j]? =some y:=⟨C[off+j]'(by omega),by simp⟩;have:=h j 0 (.str t) y hj (by show[SV.str (l.getD j [])][0]? =_;simp[List.getD,ht]) (by rw[Nat.mul_one,Nat.add_zero];exact hy);rw[this.lV]at hy;unfold World.cell?;rw[hw];exact hy
  have hJ:=Any.strings_Join Tryz.Gw Tryz.oU b off cap (l.map fun s=>(⟨s.toArray⟩:ByteArray)) ⟨sep.toArray⟩ w hcells (tv b hb) (by rw[List.length_map];omega) (by rw[List.length_map];exact hcap) (by rw[em];exact hl);rw[em,List.length_map]at hJ;refine hJ.mono fun e w' h=> ?_
  obtain⟨rfl,hb⟩:=h;exact⟨⟨_,rfl,.str _⟩,hb⟩
theorem Dq{x:TI}(h3:x.1.k=3->x.1.t.length<=1000)(hn:x.1.n<18446744073709551616):aj Tryz.prog 121 [N5 x] (.str (cA x.1)):=by
 obtain⟨⟨k,t,n⟩,a⟩:=x;dsimp only at h3 hn;refine aG (di (.agg (by simp only[List.mem_cons,List.not_mem_nil,or_false];rintro _ (rfl|rfl|rfl|rfl)<;>constructor))) (Rc.call mixed rfl ?_);by_cases k2:k=2
 ·subst k2
  have cf:=xp hn;iterate 20 all_goals ((try conv=>whnf);try first|(with_reducible first|refine zY ?_|refine zN ?_|refine zT ?_|refine br (fun _=> ?_) (fun _=> ?_)|refine⟨rfl,?_⟩|refine aj.call (cf) ?_))
  exact leaf rfl (.str _)
 by_cases k3:k=3
 ·subst k3
  have h3:=h3 rfl;have cr:=xo (b:=39) (nw:=[39,39]) (s:=t) (by decide) (by decide) (by decide) (by omega);rw[Dp]at cr;have Zi:=xm t;have q1:decide (([39]:List UInt8).length+(quot t).length<=9223372036854775807)=true:=decide_eq_true (by simp only[List.length_singleton];omega);have q2:decide (([39]++quot t:List UInt8).length+([39]:List UInt8).length<=9223372036854775807)=true:=decide_eq_true (by simp only[List.length_append,List.length_singleton];omega);iterate 20 all_goals ((try conv=>whnf);try first|(with_reducible first|refine zY ?_|refine zN ?_|refine zT ?_|refine br (fun _=> ?_) (fun _=> ?_)|refine⟨rfl,?_⟩|refine aj.call (cr) ?_))
  exact leaf rfl (.str _)
 ·have q2:(k==2)=false:=by rw[beq_eq_false_iff_ne];exact k2
  have q3:(k==3)=false:=by rw[beq_eq_false_iff_ne];exact k3
  iterate 20 all_goals ((try conv=>whnf);try first|(with_reducible first|refine zY ?_|refine zN ?_|refine zT ?_|refine br (fun _=> ?_) (fun _=> ?_)|refine⟨rfl,?_⟩))
  exact leaf (by unfold cA;rw[if_neg k2,if_neg k3]) (.str _)
theorem Lb{s:List UInt8}(hs:65536<s.length):aj Tryz.prog 55 [.str s] (.bn [.af,gO 3 (-1)]):=by
 refine aG (di (.str _)) (PD.call mixed rfl ?_);have h0:decide ((65536:Int)<(s.length:Int))=true:=decide_eq_true (by omega);iterate 10 all_goals ((try conv=>whnf);try first|(with_reducible first|refine zY ?_|refine zN ?_|refine zT ?_|refine br (fun _=> ?_) (fun _=> ?_)|refine⟨rfl,?_⟩))
 exact leaf rfl (tT .af (.agg (by simp only[List.mem_cons,List.not_mem_nil,or_false];rintro _ (rfl|rfl)<;>constructor)))
theorem Lc(x:TI):aL (N5 x):= .agg (by simp only[List.mem_cons,List.not_mem_nil,or_false];rintro _ (rfl|rfl|rfl|rfl)<;>constructor)
theorem Vy(y:Tk)(k:Int)(t:List UInt8)(n:Nat):SV.bool ((fun q=>y.k==k&&q) ((fun q=>y.t==t&&q) ((fun q=>(y.n:Int)==(n:Int)&&q) (((0:Nat):Int)==0))))=SV.bool (y.k==k&&y.t==t&&y.n==n):=by
 have:(((0:Nat):Int)==0)=true:=rfl;rw[this];simp only[j8,Bool.and_true,Bool.and_assoc]
theorem Vz(y:Tk)(k:Int)(t:List UInt8)(p:Nat):SV.bool ((fun q=>y.k==k&&q) ((fun q=>y.t==t&&q) ((fun q=>(y.n:Int)==((0:Nat):Int)&&q) (((p+1:Nat):Int)==0))))=SV.bool false:=by
 have:(((p+1:Nat):Int)==0)=false:=by rw[beq_eq_false_iff_ne];omega
 rw[this];simp
def kH(x:TI):Bool:=decide (x.2=0)&&cS x.1
theorem Ld{x:TI}(hn:x.1.n<18446744073709551616)(ht:x.1.t.length<=9223372036854775807):aj Tryz.prog 120 [N5 x] (.bool (kH x)):=by
 have PR:=Dq (x:=x);obtain⟨⟨k,t,n⟩,a⟩:=x;dsimp only at hn ht PR;refine aG (di (Lc _)) (Rb.call mixed rfl ?_);by_cases ha:a=0
 case neg=>
  have q1:(a !=0)=true:=by rw[bne_iff_ne];exact ha
  iterate 30 all_goals ((try conv=>whnf);try first|(with_reducible first|refine zY ?_|refine zN ?_|refine zT ?_|refine br (fun _=> ?_) (fun _=> ?_)|refine⟨rfl,?_⟩))
  all_goals exact leaf (by unfold kH;rw[decide_eq_false (show ¬(a=0) from ha)];rfl) (.bool _)
 subst ha;have hI:kH (⟨k,t,n⟩,0)=cS ⟨k,t,n⟩:=by unfold kH;simp
 rw[hI];by_cases c1:(k≠2/\n≠0)\/k=0\/4<k
 ·have hf:cS ⟨k,t,n⟩=false:=by unfold cS;rw[if_pos c1]
  rw[hf];by_cases k2:k=2
  ·subst k2;exfalso;omega
  ·have q2:(k !=2)=true:=by rw[bne_iff_ne];exact k2
   have q4:((n:Int)!=0)= !(decide (n=0)):=by by_cases h:n=0<;>simp[h]
   by_cases n0:n=0
   ·subst n0
    by_cases k0:k=0
    ·subst k0
     iterate 40 all_goals ((try conv=>whnf);try first|(with_reducible first|refine zY ?_|refine zN ?_|refine zT ?_|refine br (fun _=> ?_) (fun _=> ?_)|refine⟨rfl,?_⟩))
     all_goals exact leaf rfl (.bool _)
    ·have q5:(k==0)=false:=by rw[beq_eq_false_iff_ne];exact k0
     have q6:decide (4<k)=true:=decide_eq_true (by omega);iterate 40 all_goals ((try conv=>whnf);try first|(with_reducible first|refine zY ?_|refine zN ?_|refine zT ?_|refine br (fun _=> ?_) (fun _=> ?_)|refine⟨rfl,?_⟩))
     all_goals exact leaf rfl (.bool _)
   ·have q5:((n:Int)!=0)=true:=by rw[bne_iff_ne];omega
    iterate 40 all_goals ((try conv=>whnf);try first|(with_reducible first|refine zY ?_|refine zN ?_|refine zT ?_|refine br (fun _=> ?_) (fun _=> ?_)|refine⟨rfl,?_⟩))
    all_goals exact leaf rfl (.bool _)
 ·have q5:(k==0)=false:=by rw[beq_eq_false_iff_ne];omega
  have q6:decide (4<k)=false:=decide_eq_false (by omega);by_cases k2:k=2
  ·subst k2
   have hf:cS ⟨2,t,n⟩=(t==[]&&decide (n<=9223372036854775808)):=by unfold cS;rw[if_neg c1,if_pos rfl]
   rw[hf];have e9:decide ((n:Int)<=9223372036854775808)=decide (n<=9223372036854775808):=by by_cases h:n<=9223372036854775808<;>simp[h]<;>omega
   by_cases t0:t=[]
   ·subst t0
    iterate 60 all_goals ((try conv=>whnf);try first|(with_reducible first|refine zY ?_|refine zN ?_|refine zT ?_|refine br (fun _=> ?_) (fun _=> ?_)|refine⟨rfl,?_⟩))
    exact leaf (by show SV.bool (decide ((n:Int)<=9223372036854775808))=_;rw[e9];rfl) (.bool _)
   ·have q7:(t==[])=false:=by rw[beq_eq_false_iff_ne];exact t0
    iterate 60 all_goals ((try conv=>whnf);try first|(with_reducible first|refine zY ?_|refine zN ?_|refine zT ?_|refine br (fun _=> ?_) (fun _=> ?_)|refine⟨rfl,?_⟩))
    exact leaf (by rw[q7];rfl) (.bool _)
  ·have q2:(k !=2)=true:=by rw[bne_iff_ne];exact k2
   have q3:(k==2)=false:=by rw[beq_eq_false_iff_ne];exact k2
   obtain rfl:n=0:=by omega
   have go: ∀(b53:Bool),True:=fun _=>trivial
   by_cases c3:k=3/\(64<t.length\/Lib.validD t=false)
   ·have hf:cS ⟨k,t,0⟩=false:=by unfold cS;rw[if_neg c1,if_neg k2,if_pos c3]
    rw[hf];obtain⟨rfl,c3⟩:=c3;by_cases yp:64<t.length
    ·have q7:decide ((64:Int)<(t.length:Int))=true:=decide_eq_true (by omega)
     iterate 60 all_goals ((try conv=>whnf);try first|(with_reducible first|refine zY ?_|refine zN ?_|refine zT ?_|refine br (fun _=> ?_) (fun _=> ?_)|refine⟨rfl,?_⟩))
     exact leaf rfl (.bool _)
    ·have q7:decide ((64:Int)<(t.length:Int))=false:=decide_eq_false (by omega)
     have cv:=oV ht;have hv:=c3.resolve_left yp;rw[hv]at cv;iterate 60 all_goals ((try conv=>whnf);try first|(with_reducible first|refine zY ?_|refine zN ?_|refine zT ?_|refine br (fun _=> ?_) (fun _=> ?_)|refine⟨rfl,?_⟩|refine aj.call (cv) ?_))
     exact leaf rfl (.bool _)
   ·have cs:=PR (fun h=>by have: ¬64<t.length:=fun h'=>c3 ⟨h,.inl h'⟩;omega) hn
    have hf:cS ⟨k,t,0⟩=(if 65536<(cA ⟨k,t,0⟩).length then false else match lR (cA ⟨k,t,0⟩)with
     | .ok [(y,0)]=>y.k==k&&y.t==t&&y.n==0
     |_=>false):=by unfold cS;rw[if_neg c1,if_neg k2,if_neg c3];rfl
    rw[hf];generalize cA ⟨k,t,0⟩=w at cs ⊢;have cv:=oV ht;have cond:(k=3->decide ((64:Int)<(t.length:Int))=false/\Lib.validD t=true):=fun h=>⟨decide_eq_false (by have: ¬64<t.length:=fun h'=>c3 ⟨h,.inl h'⟩;omega),by cases hv:Lib.validD t with|true=>rfl|false=>exact absurd ⟨h,.inr hv⟩ c3⟩
    by_cases hw:65536<w.length
    ·rw[if_pos hw]
     have cl:=Lb hw;by_cases k3:k=3
     ·subst k3
      obtain⟨q7,q8⟩:=cond rfl;rw[q8]at cv;iterate 90 all_goals ((try conv=>whnf);try first|(with_reducible first|refine zY ?_|refine zN ?_|refine zT ?_|refine br (fun _=> ?_) (fun _=> ?_)|refine⟨rfl,?_⟩|refine aj.call (cv) ?_|refine aj.call (cs) ?_|refine aj.call (cl) ?_))
      exact leaf rfl (.bool _)
     ·have q7:(k==3)=false:=by rw[beq_eq_false_iff_ne];exact k3
      iterate 90 all_goals ((try conv=>whnf);try first|(with_reducible first|refine zY ?_|refine zN ?_|refine zT ?_|refine br (fun _=> ?_) (fun _=> ?_)|refine⟨rfl,?_⟩|refine aj.call (cs) ?_|refine aj.call (cl) ?_))
      exact leaf rfl (.bool _)
    ·rw[if_neg hw]
     have cl:=GF (s:=w) (by omega);cases hL:lR w with
     |error e=>
      obtain⟨e,p⟩:=e;rw[hL]at cl;have he:=oM w.length w 0 e p hL
      have q9:(fun q=>e==0&&q) ((p:Int)==0)=false:=by
       have:(e==0)=false:=by rw[beq_eq_false_iff_ne];exact he
       simp[this]
      by_cases k3:k=3
      ·subst k3
       obtain⟨q7,q8⟩:=cond rfl;rw[q8]at cv;iterate 90 all_goals ((try conv=>whnf);try first|(with_reducible first|refine zY ?_|refine zN ?_|refine zT ?_|refine br (fun _=> ?_) (fun _=> ?_)|refine⟨rfl,?_⟩|refine aj.call (cv) ?_|refine aj.call (cs) ?_|refine aj.call (cl) ?_))
       exact leaf rfl (.bool _)
      ·have q7:(k==3)=false:=by rw[beq_eq_false_iff_ne];exact k3
       iterate 90 all_goals ((try conv=>whnf);try first|(with_reducible first|refine zY ?_|refine zN ?_|refine zT ?_|refine br (fun _=> ?_) (fun _=> ?_)|refine⟨rfl,?_⟩|refine aj.call (cs) ?_|refine aj.call (cl) ?_))
       exact leaf rfl (.bool _)
     |ok l=>
      rw[hL]at cl;cases l with
      |nil=>
       by_cases k3:k=3
       ·subst k3
        obtain⟨q7,q8⟩:=cond rfl;rw[q8]at cv;iterate 110 all_goals ((try conv=>whnf);try first|(with_reducible first|refine zY ?_|refine zN ?_|refine zT ?_|refine br (fun _=> ?_) (fun _=> ?_)|refine⟨rfl,?_⟩|refine aj.call (cv) ?_|refine aj.call (cs) ?_|refine aj.call (cl) ?_))
        exact leaf rfl (.bool _)
       ·have q7:(k==3)=false:=by rw[beq_eq_false_iff_ne];exact k3
        iterate 110 all_goals ((try conv=>whnf);try first|(with_reducible first|refine zY ?_|refine zN ?_|refine zT ?_|refine br (fun _=> ?_) (fun _=> ?_)|refine⟨rfl,?_⟩|refine aj.call (cs) ?_|refine aj.call (cl) ?_))
        exact leaf rfl (.bool _)
      |cons y r=>
       cases r with
       |nil=>
        obtain⟨y,p⟩:=y;cases p with
        |zero=>
         by_cases k3:k=3
         ·subst k3
          obtain⟨q7,q8⟩:=cond rfl;rw[q8]at cv;iterate 110 all_goals ((try conv=>whnf);try first|(with_reducible first|refine zY ?_|refine zN ?_|refine zT ?_|refine br (fun _=> ?_) (fun _=> ?_)|refine⟨rfl,?_⟩|refine aj.call (cv) ?_|refine aj.call (cs) ?_|refine aj.call (cl) ?_))
          exact leaf (Vy y _ t 0) (.bool _)
         ·have q7:(k==3)=false:=by rw[beq_eq_false_iff_ne];exact k3
          iterate 110 all_goals ((try conv=>whnf);try first|(with_reducible first|refine zY ?_|refine zN ?_|refine zT ?_|refine br (fun _=> ?_) (fun _=> ?_)|refine⟨rfl,?_⟩|refine aj.call (cs) ?_|refine aj.call (cl) ?_))
          exact leaf (Vy y k t 0) (.bool _)
        |succ p=>
         by_cases k3:k=3
         ·subst k3
          obtain⟨q7,q8⟩:=cond rfl;rw[q8]at cv;iterate 110 all_goals ((try conv=>whnf);try first|(with_reducible first|refine zY ?_|refine zN ?_|refine zT ?_|refine br (fun _=> ?_) (fun _=> ?_)|refine⟨rfl,?_⟩|refine aj.call (cv) ?_|refine aj.call (cs) ?_|refine aj.call (cl) ?_))
          exact leaf (Vz y _ t p) (.bool _)
         ·have q7:(k==3)=false:=by rw[beq_eq_false_iff_ne];exact k3
          iterate 110 all_goals ((try conv=>whnf);try first|(with_reducible first|refine zY ?_|refine zN ?_|refine zT ?_|refine br (fun _=> ?_) (fun _=> ?_)|refine⟨rfl,?_⟩|refine aj.call (cs) ?_|refine aj.call (cl) ?_))
          exact leaf (Vz y k t p) (.bool _)
       |cons z r=>
        have q10:(((y::z::r).length:Int)==1)=false:=by rw[beq_eq_false_iff_ne];simp only[List.length_cons];omega
        by_cases k3:k=3
        ·subst k3
         obtain⟨q7,q8⟩:=cond rfl;rw[q8]at cv;iterate 110 all_goals ((try conv=>whnf);try first|(with_reducible first|refine zY ?_|refine zN ?_|refine zT ?_|refine br (fun _=> ?_) (fun _=> ?_)|refine⟨rfl,?_⟩|refine aj.call (cv) ?_|refine aj.call (cs) ?_|refine aj.call (cl) ?_))
         exact leaf (by obtain⟨a,b⟩:=y;cases b<;>rfl) (.bool _)
        ·have q7:(k==3)=false:=by rw[beq_eq_false_iff_ne];exact k3
         iterate 110 all_goals ((try conv=>whnf);try first|(with_reducible first|refine zY ?_|refine zN ?_|refine zT ?_|refine br (fun _=> ?_) (fun _=> ?_)|refine⟨rfl,?_⟩|refine aj.call (cs) ?_|refine aj.call (cl) ?_))
         exact leaf (by obtain⟨a,b⟩:=y;cases b<;>rfl) (.bool _)
section
def yO:List TI->Nat->Option Nat
 | [],_=>none
 |x::r,i=>if kH x then yO r (i+1)else some i
theorem zE: ∀ {l:List TI} {i:Nat},yO l i=none-> ∀x∈l,kH x=true
 | [],_,_=>by simp
 |x::r,i,h=>by
  rw[yO]at h;split at h
  ·rename_i hx
   simp only[List.mem_cons];rintro y (rfl|hy)
   ·exact hx
   ·exact zE h y hy
  ·cases h
theorem GH: ∀(l:List TI) (k i:Nat),i<l.length->(∀ j,j<i->kH (l.getD j n6)=true)->kH (l.getD i n6)=false->yO l k=some (k+i)
 | [],_,_,h,_,_=>by simp at h
 |x::r,k,0,_,_,h=>by
  rw[yO,if_neg (by rw[show kH x=false from h];decide)];rfl
 |x::r,k,i+1,hi,h1,h2=>by
  rw[yO,if_pos (show kH x=true from h1 0 (by omega)),GH r (k+1) i (by simpa using hi) (fun j hj=>h1 (j+1) (by omega)) h2];congr 1
  omega
theorem xq: ∀(l:List TI) (k:Nat),(∀ j,j<l.length->kH (l.getD j n6)=true)->yO l k=none
 | [],_,_=>rfl
 |x::r,k,h=>by
  rw[yO,if_pos (show kH x=true from h 0 (by simp)),xq r (k+1) fun j hj=>h (j+1) (by simpa using hj)]
def xu(l:List TI):SV:=match yO l 0 with
 |some i=> .bn [.str [],gO 2 i]
 |none=> .bn [.str (fV (l.map (·.1))),gO 0 0]
theorem zF(l:List TI):aL (xu l):=by
 have hf: ∀e a:Int,aL (gO e a):=fun e a=> .agg (by simp only[List.mem_cons,List.not_mem_nil,or_false];rintro _ (rfl|rfl)<;>constructor)
 unfold xu;split<;>exact tT (.str _) (hf _ _)
theorem rU: ∀l:List Tk,Lib.join (l.map cA) [32]=fV l
 | []=>rfl
 | [x]=>by simp[Lib.join,fV,List.intercalate]
 |x::y::r=>by
  rw[fV,<-rU (y::r)];simp[Lib.join,List.intercalate]
theorem GI: ∀(k n:Nat),n<10^(k+1)->(Lib.decDigits n).length<=k+1
 |0,n,h=>by rw[Lib.decDigits,dif_pos (by simpa using h)];simp
 |k+1,n,h=>by
  rw[Lib.decDigits];split
  ·simp
  ·have:=GI k (n/10) (by rw[Nat.pow_succ]at h;omega)
   simp only[List.length_append,List.length_cons,List.length_nil];omega
theorem xw{x:Tk}(h:cS x=true):(cA x).length<=65536/\x.t.length<=65536/\(x.k=3->x.t.length<=64):=by
 unfold cS at h;split at h
 ·cases h
 ·split at h
  ·rename_i h2
   simp only[Bool.and_eq_true,beq_iff_eq,decide_eq_true_eq]at h;have hs:cA x=Lib.decDigits x.n:=by unfold cA;rw[if_pos h2]
   have:=GI 19 x.n (by omega);refine⟨by rw[hs];omega,by rw[h.1];simp,fun h3=>by omega⟩
  ·rename_i h2
   split at h
   ·cases h
   ·rename_i h3
    split at h
    ·cases h
    ·rename_i h4
     refine⟨by omega,?_,fun hk=>by have: ¬64<x.t.length:=fun h'=>h3 ⟨hk,.inl h'⟩;omega⟩;by_cases hk:x.k=3
     ·have: ¬64<x.t.length:=fun h'=>h3 ⟨hk,.inl h'⟩
      omega
     ·have:cA x=x.t:=by unfold cA;rw[if_neg h2,if_neg hk]
      rw[<- this];omega
theorem N7{x:Tk}(h:cS x=true):x.n<18446744073709551616/\x.t.length<=9223372036854775807:=by
 have hl:=(xw h).2.1;refine⟨?_,by omega⟩;unfold cS at h;split at h
 ·cases h
 ·rename_i h1
  split at h
  ·simp only[Bool.and_eq_true,beq_iff_eq,decide_eq_true_eq]at h;omega
  ·rename_i h2
   have:x.n=0:=by
    rcases Nat.eq_zero_or_pos x.n with h0|h0
    ·exact h0
    ·exact absurd (.inl ⟨h2,by omega⟩) h1
   omega
attribute [local irreducible] aS bH rF
@[reducible] def ng (l:List TI) (i:Nat):List SV:=((l.take i).map fun x=>SV.str (cA x.1))++List.replicate (l.length-i) (SV.str [])
theorem IJ{l:List TI}{i:Nat}(h:i<l.length):(ng l i)[0+i]? =some (SV.str []):=by
 have h1:((l.take i).map fun x=>SV.str (cA x.1)).length=i:=by simp;omega
 rw[Nat.zero_add];unfold ng;rw[List.getElem?_append_right (by omega),h1,Nat.sub_self,List.getElem?_replicate,if_pos (by omega)]
theorem zG{l:List TI}{i:Nat}(h:i<l.length):(ng l i).set (0+i) (SV.str (cA (l.getD i n6).1))=ng l (i+1):=by
 have h1:((l.take i).map fun x=>SV.str (cA x.1)).length=i:=by simp;omega
 rw[Nat.zero_add];unfold ng;have e:List.replicate (l.length-i) (SV.str [])=SV.str []::List.replicate (l.length-(i+1)) (SV.str []):=by rw[show l.length-i=(l.length-(i+1))+1 by omega];rfl
 have e2:l.take (i+1)=l.take i++[l.getD i n6]:=by rw[List.take_add_one];simp[List.getD,h]
 rw[List.set_append_right _ _ (by omega),h1,Nat.sub_self,e,List.set_cons_zero,e2,List.map_append,List.append_assoc];rfl
theorem Dr: ∀(s:List (List UInt8)) (k:Nat) (get:Nat->SV),(∀ j,j<s.length->get (k+j)=SV.str (s.getD j []))->agree (s.map SV.str) k get
 | [],_,_,_=>trivial
 |b::r,k,get,h=>by
  refine⟨?_,.str _,Dr r (k+1) get fun j hj=> ?_⟩
  ·have:=h 0 (by simp)
   simpa using this.symm
  ·have:=h (j+1) (by simp;omega)
   rw[show k+1+j=k+(j+1) by omega,this];simp[List.getD]
theorem qx{A:Heap}{i g:Nat}{cap:Option Nat}{s:List (List UInt8)}{n:Nat}{sk:Sk}(ho:A.obj i=some (.vec g 1 (s.map SV.str) sk))(hn:n=s.length):bA A (.sl i g 1 0 n cap) (o5 s):=by
 subst hn;have:=wQ (cap:=cap) (get:=fun i=>SV.str (s.getD i [])) ho (Dr s 0 _ fun j _=>by rw[Nat.zero_add]);rw[List.length_map]at this;exact this
theorem VA{n:Nat}{l:List TI}{i:Nat}: ∀v∈ng l i,SV.lt 8 n v=true:=by
 intro v hv;rcases List.mem_append.1 hv with h|h
 ·obtain⟨b,_,rfl⟩:=List.mem_map.1 h;rfl
 ·rw[List.eq_of_mem_replicate h];rfl
theorem Ds{x:TI}(h:kH x=true):cS x.1=true:=by
 unfold kH at h;simp only[Bool.and_eq_true]at h;exact h.2
theorem Le{l:List TI}(hl:l.length<=5000)(hin: ∀x∈l,x.1.n<18446744073709551616/\x.1.t.length<=9223372036854775807):aj Tryz.prog 70 [Fi l] (xu l):=by
 refine aG (di (.aW _ _ _)) (U1.call mixed rfl ?_)
 have q1:(decide (0<=(l.length:Int))&&decide ((l.length:Int)<=(l.length:Int))&&decide (((16:Nat):Int)*(l.length:Int)<=140737488355328)&&decide ((l.length:Int)<=9223372036854775807))=true:=by
  simp only[Bool.and_eq_true,decide_eq_true_eq];omega
 iterate 10 all_goals ((try conv=>whnf);try first|(with_reducible first|refine zY ?_|refine zN ?_|refine zT ?_|refine br (fun _=> ?_) (fun _=> ?_)|refine⟨rfl,?_⟩)|(refine qv ?_))
 refine nU (σ:={i:Nat // i<=l.length/\ ∀j,j<i->kH (l.getD j n6)=true}) (fun y=>[(0,Fi l),(2,SV.str []),(3,SV.ref 0 0 0 0),(4,SV.sl 1 0 1 0 l.length (some l.length)),(10,Fi l),(11,SV.int IntKind.i64 l.length),(12,SV.int IntKind.i64 y.1)])
  (fun y=>⟨2,[(1,.vec 0 1 (ng l y.1) ⟨false,some 9⟩),(0,.vec 0 2 [gO 0 0] ⟨false,some 28⟩)]⟩) (fun y=>l.length-y.1) ?_ ⟨0,by omega,fun j hj=>by omega⟩
 rintro⟨i,hi,hf⟩;dsimp only;have e7:IntKind.i64.wrap ((i:Int)+1)=((i+1:Nat):Int):=bf (by omega);have et:=Int.toNat_natCast i;by_cases hil:i<l.length
 ·have hd:decide ((i:Int)<(l.length:Int))=true:=decide_eq_true (by omega)
  have hb:(decide (0<=(i:Int))&&decide ((i:Int)<(l.length:Int)))=true:=by simp only[Bool.and_eq_true,decide_eq_true_eq];omega
  have hm:l.getD i n6∈l:=by
   rw[show l.getD i n6=l[i] by simp[List.getD,hil]];exact List.getElem_mem _
  obtain⟨hn,ht⟩:=hin _ hm;have cf:=Ld hn ht;rw[<- et]at cf;cases N8:kH (l.getD i n6)with
  |false=>
   rw[<- et]at N8;rw[N8]at cf;rw[et]at N8;have eO:=GH l 0 i hil hf N8;rw[Nat.zero_add]at eO;iterate 40 all_goals ((try conv=>whnf);try first|(with_reducible first|refine zY ?_|refine zN ?_|refine zT ?_|refine br (fun _=> ?_) (fun _=> ?_)|refine⟨rfl,?_⟩|refine aj.call (cf) ?_)|(refine qv ?_))
   exact leaf (by unfold xu;rw[eO]) (zF l)
  |true=>
   obtain⟨fl1,fl2,fl3⟩:=xw (Ds N8);have cs:=Dq (x:=l.getD i n6) (fun h=>Nat.le_trans (fl3 h) (by decide)) hn;rw[<- et]at cs;rw[<- et]at N8;rw[N8]at cf;rw[et]at N8;iterate 60 all_goals ((try conv=>whnf);try first|(with_reducible first|refine zY ?_|refine zN ?_|refine zT ?_|refine br (fun _=> ?_) (fun _=> ?_)|refine⟨rfl,?_⟩|refine aj.call (cf) ?_|refine aj.call (cs) ?_)|(refine Fh (elems:=ng l i) (w:=SV.str []) rfl (by rw[et];exact IJ hil) (by intro cs h;cases h) rfl ?_)|(refine qv ?_)|(refine au (by rw[et,zG hil];exact VA) ?_)|(refine au (fN rfl) ?_))
   refine⟨⟨i+1,hil,fun j hj=> ?_⟩,by dsimp only;omega,by rw[e7],?_⟩
   ·rcases(by omega:j<i\/j=i)with h|rfl
    ·exact hf j h
    ·exact N8
   ·dsimp only
    rw[<- zG hil];rfl
 ·have hd:decide ((i:Int)<(l.length:Int))=false:=decide_eq_false (by omega)
  obtain rfl:i=l.length:=by omega
  have hnone:=xq l 0 hf;have hall:=zE hnone;have ej:(l.map fun x=>cA x.1)=(l.map (·.1)).map cA:=by rw[List.map_map];rfl
  have hjl:=zC (k:=65536) (l:=l.map (·.1)) fun x hx=>by
   obtain⟨y,hy,rfl⟩:=List.mem_map.1 hx;exact(xw (Ds (hall y hy))).1
  rw[List.length_map]at hjl
  have cj:=La (l:=l.map fun x=>cA x.1) (sep:=[32]) (by rw[List.length_map];omega) (by
   rw[ej,rU];have:l.length*(65536+1)<=5000*(65536+1):=Nat.mul_le_mul_right _ hl;omega)
  have ew:ng l l.length=(l.map fun x=>cA x.1).map SV.str:=by
   unfold ng;rw[List.take_length,Nat.sub_self,List.map_map];simp
  rw[ew];iterate 40 all_goals ((try conv=>whnf);try first|(with_reducible first|refine zY ?_|refine zN ?_|refine zT ?_|refine br (fun _=> ?_) (fun _=> ?_)|refine⟨rfl,?_⟩)|(refine aj.Ns cj (fun j=>Nat.beq j 1) (.cons (qx rfl (by rw[List.length_map])) (.cons (.lit (.str _)) .nil)) (.str _) ?_)|(refine qv ?_))
  exact leaf (by unfold xu;rw[hnone,ej,rU]) (zF l)
end
end Go.Proofs.YtegmnocpkgpgeaaGreatDoor
