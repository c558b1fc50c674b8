/- Parts of the proof of PCatalogBack, one behind the other, with short names. -/
import Derived.Test.YtegmnocpkgpgeaaGreatDoorZ43
import Derived.Test.YtegmnocpkgpgeaaGreatDoorZ33
import Derived.Test.YtegmnocpkgpgeaaGreatDoorZ26
set_option linter.unusedVariables false
set_option linter.unusedSimpArgs false
namespace Go.Proofs.YtegmnocpkgpgeaaGreatDoor
section
theorem l7{l:List fH}: ∀ {ns:List (List UInt8)} {xs:List Nat},dJ l ns=some xs->xs.length=ns.length
 | [],xs,h=>by cases h;rfl
 |m::r,xs,h=>by
  simp only[dJ]at h;cases h1:fW l m with
  |none=>rw[h1]at h;cases h
  |some i=>
   cases h2:dJ l r with
   |none=>rw[h1,h2]at h;cases h
   |some is=>rw[h1,h2]at h;cases h;simp[l7 h2]
theorem qD{l:List fH}: ∀ {ns:List (List UInt8)} {xs:List Nat},dJ l ns=some xs-> ∀x∈xs,x<l.length
 | [],xs,h=>by cases h;simp
 |m::r,xs,h=>by
  simp only[dJ]at h;cases h1:fW l m with
  |none=>rw[h1]at h;cases h
  |some i=>
   cases h2:dJ l r with
   |none=>rw[h1,h2]at h;cases h
   |some is=>
    rw[h1,h2]at h;cases h
    intro x hx;rcases List.mem_cons.1 hx with rfl|hx
    ·unfold fW at h1
     rw[List.findIdx?_eq_some_iff_getElem]at h1;exact h1.1
    ·exact qD h2 x hx
theorem r3{l:List fH}{ns:List (List UInt8)}{xs:List Nat}(h:bY l ns= .ok xs):dJ l ns=some xs/\xs.Nodup:=by
 unfold bY at h;cases hc:dJ l ns with
 |none=>rw[hc]at h;cases h
 |some ys=>
  rw[hc]at h;dsimp only at h;split at h
  ·cases h;exact⟨rfl,by assumption⟩
  ·cases h
section
variable {aX:List UInt8->Bool}
theorem LK{l:List Ix}{n:List UInt8}(h:n9 l n=false):n∉l.map (·.nm):=fun hm=>by
 obtain⟨x,hx,e⟩:=List.mem_map.1 hm;unfold n9 at h;rw[Option.isSome_eq_false_iff,Option.isNone_iff_eq_none,List.findIdx?_eq_none_iff]at h;have:=h x hx;rw[e,beq_self_eq_true]at this;cases this
theorem LM{c:List Tb}{n:List UInt8}(h:iu c n=none):n∉c.map (·.nm):=fun hm=>by
 obtain⟨x,hx,e⟩:=List.mem_map.1 hm;unfold iu at h;rw[List.findIdx?_eq_none_iff]at h;have:=h x hx;rw[e,beq_self_eq_true]at this;cases this
theorem FI{ts:List Tb}{n:List UInt8}{aq:List fH}{key:List (List UInt8)}{t:Tb}(g:o6 aX ts)(h1:GN aX n)(h2: ∀c∈aq,GC aX c)(h3:0<aq.length/\aq.length<=12)(h5:0<key.length/\key.length<=4)
  (h:eX ts n aq key= .ok t):o6 aX (ts++[t])/\t.idx=[]:=by
 unfold eX at h;split at h
 ·cases h
 rename_i hl;split at h
 ·cases h
 rename_i ht;split at h
 ·cases h
 rename_i hnd;cases hp:bY aq key with
 |error e=>rw[hp]at h;cases h
 |ok xs=>
  rw[hp]at h;cases h
  obtain⟨hc,hx⟩:=r3 hp;have hlen:=l7 hc;have hlt:=qD hc
  have ht:iu ts n=none:=by
   cases h:iu ts n with
   |none=>rfl
   |some i=>rw[h]at ht;exact absurd rfl ht
  have hno:=LM ht;refine⟨⟨fun u hu=> ?_,?_,?_,by rw[List.length_append,List.length_singleton];omega⟩,rfl⟩
  ·rcases List.mem_append.1 hu with hu|hu
   ·exact g.tb u hu
   ·obtain rfl:=List.mem_singleton.1 hu
    have hnn: ∀i∈xs,∀c,(xs.foldl (kQ true) aq)[i]? =some c->c.nn=true:=fun i hi c hci=>by
     rw[lD,if_pos hi]at hci;cases hd:aq[i]? with
     |none=>rw[hd]at hci;cases hci
     |some d=>rw[hd]at hci;cases hci;rfl
    exact⟨h1,zR h2,(by dsimp only;rw[xP];exact Classical.not_not.1 hnd),(by dsimp only;rw[j0];exact h3.1),(by dsimp only;rw[j0];exact h3.2),(by dsimp only;omega),(by dsimp only;omega),hx,(by dsimp only;rw[j0];exact hlt),hnn,(fun x hx=>by simp at hx),Nat.zero_le _⟩
  ·rw[List.map_append,List.nodup_append]
   exact⟨g.nd,by simp,fun a ha b hb=>by rw[List.map_singleton]at hb;rw[List.mem_singleton.1 hb];exact fun e=>hno (by rw[<- show a=n from e];exact ha)⟩
  ·rw[List.flatMap_append]
   simpa using g.xd
theorem LN{a b:List Tb}{t:Tb}{x:Ix}:xK (a++t::b) a.length x=a++{t with idx:=t.idx++[x]}::b:=by
 unfold xK;rw[show (a++t::b)[a.length]? =some t by simp];dsimp only;rw[List.set_append_right _ _ (Nat.le_refl _),Nat.sub_self];rfl
theorem FJ{ts ts':List Tb}{tb n:List UInt8}{u:Bool}{names:List (List UInt8)}(g:o6 aX ts)(h1:GN aX n)(h5:0<names.length/\names.length<=4)
  (h:jh ts tb n names u= .ok ts'):o6 aX ts'/\ ∃a t b x,ts=a++t::b/\ts'=a++{t with idx:=t.idx++[x]}::b:=by
 unfold jh at h;cases ha:iu ts tb with
 |none=>rw[ha]at h;cases h
 |some i=>
  rw[ha]at h;dsimp only at h;cases hi:ts[i]? with
  |none=>rw[hi]at h;cases h
  |some t=>
   rw[hi]at h;dsimp only at h;split at h
   ·cases h
   rename_i h8;split at h
   ·cases h
   rename_i hh;cases hp:bY t.aq names with
   |error e=>rw[hp]at h;cases h
   |ok xs=>
    rw[hp]at h;cases h
    obtain⟨hc,hx⟩:=r3 hp;have hlen:=l7 hc;have hlt:=qD hc;obtain⟨hil,rfl⟩:=List.getElem?_eq_some_iff.1 hi;have hsp:ts=ts.take i++ts[i]::ts.drop (i+1):=by rw[<- List.drop_eq_getElem_cons hil,List.take_append_drop]
    have Aw:(ts.take i).length=i:=by rw[List.length_take];omega
    generalize ts.take i=a at hsp Aw;generalize ts.drop (i+1)=b at hsp;generalize ts[i]=t at*;subst Aw;subst hsp;rw[LN]
    have hno:n∉(a++t::b).flatMap fun t=>t.idx.map (·.nm):=fun hm=>by
     obtain⟨v,hv,hm⟩:=List.mem_flatMap.1 hm;rw[Bool.not_eq_true,List.any_eq_false]at hh;exact LK (Bool.not_eq_true _▸hh v hv) hm
    refine⟨⟨fun v hv=> ?_,?_,?_,?_⟩,a,t,b,_,rfl,rfl⟩
    ·rcases List.mem_append.1 hv with hv|hv
     ·exact g.tb v (List.mem_append_left _ hv)
     ·rcases List.mem_cons.1 hv with rfl|hv
      ·have gt:=g.tb t (by simp)
       refine⟨gt.nm,gt.aq,gt.nd,gt.pos,gt.le,gt.kpos,gt.VU,gt.Zy,gt.VV,gt.nn,fun y hy=> ?_,by simp;omega⟩;rcases List.mem_append.1 hy with hy|hy
       ·exact gt.idx y hy
       ·obtain rfl:=List.mem_singleton.1 hy
        exact⟨h1,by dsimp only;omega,by dsimp only;omega,hx,hlt⟩
      ·exact g.tb v (List.mem_append_right _ (List.mem_cons_of_mem _ hv))
    ·have:=g.nd
     simpa using this
    ·have:=g.xd
     rw[List.flatMap_append,List.flatMap_cons]at this hno ⊢;dsimp only;rw[List.map_append,List.append_assoc,<-List.append_assoc];rw[<- List.append_assoc]at this hno;exact(List.perm_middle.nodup_iff).2 (List.nodup_cons.2 ⟨hno,this⟩)
    ·have:=g.le
     simpa using this
theorem zS{ts ts':List Tb}{s:Sm}(g:o6 aX ts)(hg:s.kind=5\/s.kind=6->GS aX s)(h:gu ts s= .ok ts'):o6 aX ts'/\(ts'.flatMap cV).length=(ts.flatMap cV).length+1:=by
 unfold gu at h;split at h
 ·rename_i h5
  cases hg (.inl h5)with
  | @table n aq key h1 h2 h3 h4 h6=>
    cases ht:eX ts n aq key with
    |error e=>dsimp only at h;rw[ht]at h;cases h
    |ok t=>
     dsimp only at h;rw[ht]at h;cases h
     obtain⟨h9,h7⟩:=FI g h1 h2 h3 h6 ht;refine⟨h9,?_⟩;rw[List.flatMap_append,List.length_append];simp[cV,h7]
  |index=>exact absurd h5 (by show ¬(6:Int)=5;decide)
 ·split at h
  ·rename_i h5 h6
   cases hg (.inr h6)with
   |table=>exact absurd rfl h5
   |index h1 h2 h3 h4=>
    obtain⟨h7,a,t,b,x,rfl,rfl⟩:=FJ g h1 h4 h;refine⟨h7,?_⟩;rw[List.flatMap_append,List.flatMap_cons,List.flatMap_append,List.flatMap_cons];simp only[List.length_append,cV,List.length_cons,List.length_map,List.length_nil];omega
  ·cases h
theorem G6: ∀ {ss:List Sm} {i:Nat} {ts c:List Tb},o6 aX ts->(∀ s∈ss,s.kind=5\/s.kind=6->GS aX s)->qe ss i ts= .ok c->o6 aX c/\(c.flatMap cV).length=(ts.flatMap cV).length+ss.length
 | [],i,ts,c,g,_,h=>by
   cases h
   exact⟨g,rfl⟩
 |s::r,i,ts,c,g,hg,h=>by
  rw[qe]at h;cases hs:gu ts s with
  |error e=>rw[hs]at h;cases h
  |ok ts'=>
   rw[hs]at h;obtain⟨g',hl⟩:=zS g (hg s (by simp)) hs;obtain⟨g2,u7⟩:=G6 g' (fun s hs=>hg s (by simp[hs])) h;refine⟨g2,?_⟩;rw[u7,hl,List.length_cons];omega
theorem o6.nil:o6 aX []:=⟨fun _ h=>by simp at h,by simp,by simp,by simp⟩
end
def pg(s:Sm):List UInt8:=fV (pz s)
def gy(ss:List Sm):List UInt8:=ss.flatMap fun s=>pg s++[32,59,10]
theorem zU: ∀(x:Tk) (r:List Tk),fV (x::r)++[32]=flat ((x::r).map fun y=>⟨cA y,[32],y⟩)
 |x,[]=>by simp[fV,flat]
 |x,y::r=>by
  have:=zU y r;rw[fV,List.append_assoc,List.cons_append,this];simp[flat]
def VW(s:Sm):List Piece:=(pz s).map (fun y=>⟨cA y,[32],y⟩)++[⟨[59],[10],aZ [59]⟩]
theorem LP(s:Sm):pg s++[32,59,10]=flat (VW s):=by
 obtain⟨r,hr⟩:=xN s;unfold pg VW;rw[hr,show([32,59,10]:List UInt8)=[32]++[59,10] from rfl,<-List.append_assoc,zU];unfold flat;rw[List.flatMap_append];rfl
theorem Ja(ss:List Sm):gy ss=flat (ss.flatMap VW):=by
 induction ss with
 |nil=>rfl
 |cons s r ih=>
  unfold gy at ih ⊢;rw[List.flatMap_cons,ih,LP];unfold flat;rw[List.flatMap_cons,List.flatMap_append]
section
variable {aX:List UInt8->Bool}
theorem oc{n:List UInt8}(g:GN aX n):cS (aZ n)=true:=by rw[DH g.1];exact g.1
theorem Jb(k:Int):cS (aZ (zO k))=true:=by
 have: ∀w∈([[105,110,116],[116,101,120,116],[98,111,111,108]]:List (List UInt8)),cS (aZ w)=true:=by decide +kernel
 refine this _ ?_;unfold zO;split
 ·simp
 ·split<;>simp
theorem cT: ∀w∈([[99,114,101,97,116,101],[116,97,98,108,101],[40],[41],[44],[59],[112,114,105,109,97,114,121],[107,101,121],[110,111,116],[110,117,108,108],[117,110,105,113,117,101],[105,110,100,101,120],[111,110]]:List (List UInt8)),cS (aZ w)=true:=by decide +kernel
theorem xR{ns:List (List UInt8)}(g: ∀m∈ns,GN aX m): ∀x∈fR ns,cS x=true:=by
 intro x hx;rcases List.mem_cons.1 hx with rfl|hx
 ·exact cT _ (by simp)
 rcases List.mem_append.1 hx with hx|hx
 ·cases ns with
  |nil=>cases hx
  |cons n r=>
   rcases List.mem_cons.1 hx with rfl|hx
   ·exact oc (g n (by simp))
   ·obtain⟨m,hm,hx⟩:=List.mem_flatMap.1 hx
    simp only[List.mem_cons,List.not_mem_nil,or_false]at hx;rcases hx with rfl|rfl
    ·exact cT _ (by simp)
    ·exact oc (g m (by simp[hm]))
 ·obtain rfl:=List.mem_singleton.1 hx
  exact cT _ (by simp)
theorem LQ{c:fH}(g:GC aX c): ∀x∈kR c,cS x=true:=by
 intro x hx;rcases List.mem_cons.1 hx with rfl|hx
 ·exact oc g.1
 rcases List.mem_cons.1 hx with rfl|hx
 ·exact Jb _
 rcases List.mem_append.1 hx with hx|hx
 ·unfold P5 at hx
  split at hx
  ·simp only[List.mem_cons,List.not_mem_nil,or_false]at hx
   rcases hx with rfl|rfl<;>exact cT _ (by simp)
  ·cases hx
 ·obtain rfl:=List.mem_singleton.1 hx
  exact cT _ (by simp)
theorem xS{s:Sm}(g:GS aX s): ∀x∈pz s,cS x=true:=by
 intro x hx;cases g with
 | @table n aq key h1 h2 h3 h4 h5=>
   rw[pz,if_pos rfl]at hx;simp only[List.mem_cons,List.mem_append,List.mem_flatMap,List.not_mem_nil,or_false]at hx;rcases hx with rfl|rfl|rfl|rfl|⟨c,hc,hx⟩|rfl|rfl|hx|rfl
   ·exact cT _ (by simp)
   ·exact cT _ (by simp)
   ·exact oc h1
   ·exact cT _ (by simp)
   ·exact LQ (h2 c hc) x hx
   ·exact cT _ (by simp)
   ·exact cT _ (by simp)
   ·exact xR h4 x hx
   ·exact cT _ (by simp)
 | @index n tb u names h1 h2 h4 h5=>
   rw[pz,if_neg (by show ¬(6:Int)=5;decide)]at hx;simp only[List.mem_cons,List.mem_append]at hx;rcases hx with rfl|hx|rfl|rfl|rfl|rfl|hx
   ·exact cT _ (by simp)
   ·split at hx
    ·obtain rfl:=List.mem_singleton.1 hx
     exact cT _ (by simp)
    ·cases hx
   ·exact cT _ (by simp)
   ·exact oc h1
   ·exact cT _ (by simp)
   ·exact oc h2
   ·exact xR h4 x hx
theorem LS{s:Sm}(g:GS aX s): ∃l,lR (pg s)= .ok l/\l.map (·.1)=pz s:=
 ⟨_,FB (xS g),uW _ _⟩
theorem LU{ss:List Sm}(g: ∀s∈ss,GS aX s): ∃l,lR (gy ss)= .ok l/\l.map (·.1)=LD ss:=by
 obtain⟨l,h1,h2⟩:=IB (ps:=ss.flatMap VW) (fun q hq=>by
  obtain⟨s,hs,hq⟩:=List.mem_flatMap.1 hq;rcases List.mem_append.1 hq with hq|hq
  ·obtain⟨x,hx,rfl⟩:=List.mem_map.1 hq
   exact Fg (xS (g s hs) x hx)
  ·obtain rfl:=List.mem_singleton.1 hq
   exact⟨by rfl,by rfl,by simp,by simp[bV]⟩)
 refine⟨l,by rw[Ja];exact h1,?_⟩;rw[h2,List.map_flatMap];unfold LD;congr 1
 funext s;unfold VW;rw[List.map_append,List.map_map];congr 1
 exact List.map_id _
theorem Jc{s:Sm}{l:List (Tk×Nat)}{d:Tk×Nat}{len:Nat}{expr:Nat->bB Ex}(g:GS aX s)(hp:aX [112,114,105,109,97,114,121]=true)(hl:l.map (·.1)=pz s):n7 (fun i=>(l.getD i d).1) len aX expr 0= .ok s l.length:=by
 have ha:At (fun i=>(l.getD i d).1) 0 (pz s):=by
  rw[<- hl];exact FC (pre:=[]) rfl
 rw[G5 g hp ha,Nat.zero_add,<-hl,List.length_map]
theorem Jd{ss:List Sm}{l:List (Tk×Nat)}{d:Tk×Nat}{expr:Nat->bB Ex}(g: ∀s∈ss,GS aX s)(hp:aX [112,114,105,109,97,114,121]=true)(yp:ss.length<=64)(hl:l.map (·.1)=LD ss):
  bM (fun i=>(l.getD i d).1) l.length (n7 (fun i=>(l.getD i d).1) l.length aX expr) l.length [] 0= .ok ss l.length:=by
 have ha:At (fun i=>(l.getD i d).1) 0 (LD ss):=by
  rw[<- hl];exact FC (pre:=[]) rfl
 have hlen:l.length=(LD ss).length:=by rw[<- hl,List.length_map]
 refine zP hp g ha (by omega) (by simpa using yp) ?_;rw[hlen];clear hl ha hlen yp g
 induction ss with
 |nil=>exact Nat.zero_le _
 |cons s r ih=>
  unfold LD at ih ⊢;rw[List.flatMap_cons,List.length_append,List.length_append,List.length_cons,List.length_singleton];omega
def yU(l:List Tk):Nat:=(l.map fun x=>(cA x).length+1).sum
theorem qE(a b:List Tk):yU (a++b)=yU a+yU b:=by unfold yU;rw[List.map_append,List.sum_append]
theorem fX(a:Tk)(b:List Tk):yU (a::b)=(cA a).length+1+yU b:=by unfold yU;rw[List.map_cons,List.sum_cons]
theorem vH: ∀l:List Tk,(fV l).length<=yU l
 | []=>Nat.zero_le _
 | [x]=>by rw[fV,fX];omega
 |x::y::r=>by
  have:=vH (y::r);rw[fV,List.length_append,List.length_cons,fX];omega
theorem iI(n:List UInt8):cA (aZ n)=n:=by
 unfold cA aZ SX;dsimp only;split<;>rfl
theorem DJ{ns:List (List UInt8)}(g: ∀m∈ns,GN aX m):yU (fR ns)<=4+35*ns.length:=by
 have hm: ∀r:List (List UInt8),(∀ m∈r,GN aX m)->yU (r.flatMap fun m=>[aZ [44],aZ m])<=35*r.length:=by
  intro r
  induction r with
  |nil=>intro _;exact Nat.zero_le _
  |cons m r ih=>
   intro h;have:=ih fun m hm=>h m (by simp[hm])
   have hl:=(l6 (h m (by simp)).1).2.2;rw[List.flatMap_cons,qE,fX,fX,iI,iI];simp only[yU,List.map_nil,List.sum_nil,List.length_cons,List.length_nil]at this ⊢;omega
 unfold fR;rw[fX,qE,fX,iI,iI];cases ns with
 |nil=>simp[yU,kJ]
 |cons n r=>
  have:=hm r fun m hm=>g m (by simp[hm])
  have hl:=(l6 (g n (by simp)).1).2.2;unfold kJ;rw[fX,iI];simp only[yU,List.map_nil,List.sum_nil,List.length_cons,List.length_nil]at this ⊢;omega
theorem S0{c:fH}(g:GC aX c):yU (kR c)<=49:=by
 have hl:=(l6 g.1.1).2.2;have hk:(zO c.kd).length<=4:=by unfold zO;split;decide;split<;>decide
 have hn:yU (P5 c.nn)<=9:=by cases c.nn<;>decide
 unfold kR;rw[fX,fX,qE,iI,iI,fX,iI];simp only[yU,List.map_nil,List.sum_nil,List.length_cons,List.length_nil]at hn ⊢;omega
theorem FK{s:Sm}(g:GS aX s):yU (pz s)<=(if s.kind=5 then 810 else 240):=by
 cases g with
 | @table n aq key h1 h2 h3 h4 h5=>
   have hn:=DJ h4;have hl:=(l6 h1.1).2.2
   have hc: ∀r:List fH,(∀ c∈r,GC aX c)->yU (r.flatMap kR)<=49*r.length:=by
    intro r
    induction r with
    |nil=>intro _;exact Nat.zero_le _
    |cons m r ih=>
     intro h;have:=ih fun m hm=>h m (by simp[hm])
     have:=S0 (h m (by simp));rw[List.flatMap_cons,qE,List.length_cons];omega
   have hc:=hc aq h2;rw[pz,if_pos rfl,if_pos rfl];dsimp only;simp only[fX,qE,iI];simp only[yU,List.map_nil,List.sum_nil,List.length_cons,List.length_nil]at hn hc ⊢;omega
 | @index n tb u names h1 h2 h4 h5=>
   have hn:=DJ h4;have hl:=(l6 h1.1).2.2;have ht:=(l6 h2.1).2.2;have hu:yU (if u then[aZ [117,110,105,113,117,101]]else[])<=7:=by cases u<;>decide
   rw[show (if({kind:=6,name:=n,eH:=tb,uniq:=u,names:=names}:Sm).kind=5 then 810 else 240)=240 from rfl,pz,if_neg (by show ¬(6:Int)=5;decide)];dsimp only;simp only[fX,qE,iI];simp only[yU,List.map_nil,List.sum_nil,List.length_cons,List.length_nil]at hn hu ⊢;omega
theorem LV{s:Sm}(g:GS aX s):(pg s).length<=810:=by
 have:=FK g;have:=vH (pz s);unfold pg;split at* <;>omega
theorem LX{t:Tb}(g:LF aX t):(gy (cV t)).length<=813+243*t.idx.length:=by
 have gg:=uo g
 have hi: ∀r:List Ix,(∀ x∈r,GS aX (mI t x))->(gy (r.map (mI t))).length<=243*r.length:=by
  intro r
  induction r with
  |nil=>intro _;exact Nat.zero_le _
  |cons x r ih=>
   intro h;have:=ih fun x hx=>h x (by simp[hx])
   have h2:=FK (h x (by simp));rw[if_neg (show ¬(mI t x).kind=5 by show ¬(6:Int)=5;decide)]at h2;have h3:=vH (pz (mI t x));unfold gy at this ⊢;rw[List.map_cons,List.flatMap_cons,List.length_append,List.length_append,List.length_cons];unfold pg at this ⊢;simp only[List.length_cons,List.length_nil]at this ⊢;omega
 have hi:=hi t.idx fun x hx=>gg _ (List.mem_cons_of_mem _ (List.mem_map_of_mem hx))
 have h2:=FK (gg (qO t) List.mem_cons_self);rw[if_pos (show(qO t).kind=5 from rfl)]at h2;have h3:=vH (pz (qO t));unfold cV gy at*;rw[List.flatMap_cons,List.length_append,List.length_append];unfold pg at hi ⊢;simp only[List.length_cons,List.length_nil]at hi ⊢;omega
theorem G7{c:List Tb}(g:o6 aX c):(gy (c.flatMap cV)).length<=65536:=by
 have h: ∀r:List Tb,(∀ t∈r,LF aX t)->(gy (r.flatMap cV)).length<=2757*r.length:=by
  intro r
  induction r with
  |nil=>intro _;exact Nat.zero_le _
  |cons t r ih=>
   intro h;have:=ih fun x hx=>h x (by simp[hx])
   have h2:=LX (h t (by simp));have h3:=(h t (by simp)).Ou;unfold gy at this h2 ⊢;rw[List.flatMap_cons,List.flatMap_append,List.length_append,List.length_cons];omega
 have:=h c g.tb;have:=g.le;omega
end
end
end Go.Proofs.YtegmnocpkgpgeaaGreatDoor
namespace Ab
open Go
structure PQ(P:Program)(f:FuncId)(args:List SV)(Q:SV->Prop):Prop where
 lits: ∀a∈args,aL a
 C7:aC P f args ⟨0,[]⟩ fun r h'=> ∃v v',r= .ret v'/\bA h' v' v/\Q v
theorem PQ.run{P:Program}{f:FuncId}{args:List SV}{Q:SV->Prop}(XV:PQ P f args Q)(h:Heap):aC P f args h fun r h'=> ∃v,Q v/\r= .ret v/\h'=h:=by
 obtain⟨hargs,hp⟩:=XV;refine⟨fun c w xs hr hs hv=> ?_⟩;have zh:bT c ⟨0,[]⟩ w:=⟨(fun i o ho=>by cases ho),(fun i o ho=>by cases ho),(fun i j o p ho=>by cases ho),(fun i o ho=>by cases ho),hr.im,hr.dj⟩;refine(hp.calls c w xs zh hs fun i u x hu hx=> .pure ((hargs u (List.mem_of_getElem? hu)).vp (hv i u x hu hx))).mono fun en w' hpost=> ?_
 obtain⟨c',h',r,⟨v,v',rfl,lQ,hq⟩,hr',hx',x,rfl,mQ⟩:=hpost;have hfr: ∀b,b<w.heap.size->w'.heap[b]? =w.heap[b]? :=fun b hb=>hx'.frame b hb fun i o ho=>by cases ho
 have hnew: ∀i o,h'.obj i=some o->w.heap.size<=c'.β i:=fun i o ho=>by
  rcases hx'.new i o ho with h|⟨o',ho',_⟩
  ·exact h
  ·cases ho'
 let c2:Cx:=⟨c.β,fun b=>c'.Im b\/ ∃i o,h'.obj i=some o/\c'.β i=b⟩
 have tv: ∀b,c2.Im b->c.Im b\/w.heap.size<=b:=by
  rintro b (hb|⟨i,o,ho,rfl⟩)
  ·rcases hx'.im' b hb with hb|hb|⟨i,o,ho,_⟩
   ·exact .inl hb
   ·exact .inr hb
   ·cases ho
  ·exact .inr (hnew i o ho)
 have kA:Ext c h w c2 h w':=⟨hx'.os,hx'.tape,hx'.output,hx'.size,fun b hb _=>hfr b hb,hx'.shape,fun b hb=> .inl (hx'.im b hb),fun b hb=>(tv b hb).imp id .inl,Nat.le_refl _,
  fun i o _ ho=>⟨o,ho,Nat.le_refl _,rfl,fun _=>rfl⟩,fun i o ho=> .inr ⟨o,ho,rfl⟩⟩
 refine⟨c2,h,.ret v,⟨v,hq,rfl,rfl⟩,⟨hr.lt,fun i o ho=>(hr.obj i o ho).mono hr kA (hfr _ (hr.obj i o ho).lt),hr.inj,fun i o ho hb=> ?_,fun b hb=> ?_,hr.nj kA⟩,kA,x,rfl,.pure (lQ.vp hr' (fun b hb=> .inl hb) (fun i o ho=> .inr ⟨i,o,ho,rfl⟩) mQ)⟩
 ·rcases tv _ hb with h1|h1
  ·exact hr.apart i o ho h1
  ·have:=(hr.obj i o ho).lt
   have e:c2.β i=c.β i:=rfl;omega
 ·rcases hb with hb|⟨i,o,ho,rfl⟩
  ·exact hr'.im b hb
  ·exact(hr'.obj i o ho).lt
theorem PQ.go{P:Program}{f:FuncId}{args:List SV}{Q:SV->Prop}(hp:PQ P f args Q){h:Heap}{R:bu->Heap->Prop}(hR: ∀v,Q v->R (.ret v) h):aC P f args h R:=
 (hp.run h).mono fun r h' ⟨v,hq,h1,h2⟩=>by subst h1;subst h2;exact hR v hq
def P6(b:Bool)(ks:List Nat)(m:Nat)(Q:bS->Env->Heap->Prop)(I:Env->Heap->Prop):bS->Env->Heap->Prop
 | .normal,e,h=> ∃(S:Nat->Bool) (e1:Env) (l1:List (Nat×ai)) (n:Nat),m<=n/\wX ⟨h.cI,kL S h.l⟩ e e1/\k9 ⟨h.cI,kL S h.l⟩ (cE S h.l) l1/\CG ks n e1 ⟨h.cI,l1⟩ I
 | .exit i,e,h=>match b with
   |false=>Q (.exit i) e h
   |true=> ∃(S:Nat->Bool) (e1:Env) (l1:List (Nat×ai)),wX ⟨h.cI,kL S h.l⟩ e e1/\k9 ⟨h.cI,kL S h.l⟩ (cE S h.l) l1/\Q (.exit i) e1 ⟨h.cI,l1⟩
 |x,e,h=>Q x e h
theorem LY{P:Program}(bx:Bool){b:bK}{Q:bS->Env->Heap->Prop}(J:Nat->Env->Heap->Prop)
  (hJ: ∀m e h,J m e h-> ∃K,(∀ e' h',K e' h'-> ∃m',m'<m/\J m' e' h')/\D9 P b (P6 bx (Env.keys e) h.cI Q K) e h){m:Nat}{e:Env}{h:Heap}(h0:J m e h):dR P b Q e h:=by
 refine⟨fun n code mc me hc c w a hr he hn=> ?_⟩
 let I:Nat->Act->World->Prop:=fun m' a' w'=> ∃c' e' h',J m' e' h'/\bT c' h' w'/\Ext c h w c' h' w'/\ER c' h' w' e' a'.tmps/\a'.tmps.size=n/\a'.defers=a.defers
 have eF: ∀a' w',(∃ m',I m' a' w')-> ∃m',I m' a' w'/\ ∀k6,I k6 a' w'->m'<=k6:=by
  intro a' w' ⟨m',hm'⟩;refine Classical.byContradiction fun hno=> ?_
  have: ∀k,∀k6,k6<=k-> ¬I k6 a' w':=by
   intro k
   induction k with
   |zero=>intro k6 hk hI;exact hno ⟨k6,hI,fun m3 _=>by omega⟩
   |succ k ih=>
    intro k6 hk hI;refine hno ⟨k6,hI,fun m3 h3=> ?_⟩;rcases Nat.lt_or_ge k m3 with h|h
    ·omega
    ·exact absurd h3 (ih m3 h)
  exact this m' m' (Nat.le_refl _) hm'
 classical
 let μ:Act->World->Nat:=fun a' w'=>if hh: ∃m',I m' a' w' then Classical.choose (eF a' w' hh)else 0
 have Gt: ∀a' w' m',I m' a' w'->I (μ a' w') a' w'/\μ a' w'<=m':=by
  intro a' w' m' hm';have hh: ∃m',I m' a' w':=⟨m',hm'⟩;have hs:=Classical.choose_spec (eF a' w' hh);have e:μ a' w'=Classical.choose (eF a' w' hh):=by simp only[μ];rw[dif_pos hh]
  rw[e];exact⟨hs.1,hs.2 m' hm'⟩
 refine wp_loop (fun a' w'=> ∃m',I m' a' w') μ ⟨m,c,e,h,h0,hr,.refl,he,hn,rfl⟩ fun a1 w1 hI=> ?_
 obtain⟨m1,Nq⟩:=hI;obtain⟨⟨c1,e1,h1,hj,og,hx1,EG,wB,hd1⟩,_⟩:=Gt a1 w1 m1 Nq;obtain⟨K,hK,EU⟩:=hJ _ e1 h1 hj;have hb:=iN (n:=n) mc code b _ e1 h1 me hc EU c1 w1 a1 og EG wB;refine wp_mono hb fun ex a2 w2 hpost=> ?_
 obtain⟨c2,h2,e2,xx,hq,gV,hx2,iL,hn2,iR,hex⟩:=hpost;cases ex with
 |normal=>
  cases xx<;>try exact hex.elim
  obtain⟨S,e4,l4,N,hN,g1,g2,hq⟩:=hq;obtain⟨NO,NP,NQ⟩:=n5 gV iL g1 g2;obtain⟨e3,h3,Px,Kn,ET,hx3⟩:=nS (ks:=Env.keys e1) (k:=K) hq NO NP (hx2.trans og NQ) hN;obtain⟨m3,hlt,Ie⟩:=hK _ _ Px;simp only[Exit.then];have CI:I m3 a2 w2:=⟨_,e3,h3,Ie,Kn,hx1.trans hr hx3,ET,hn2,iR.trans hd1⟩;exact⟨⟨m3,CI⟩,Nat.lt_of_le_of_lt (Gt a2 w2 m3 CI).2 hlt⟩
 |exit i=>
  cases xx<;>try exact hex.elim
  cases bx with
  |false=>exact⟨c2,h2,e2,_,hq,gV,hx1.trans hr hx2,iL,hn2,iR.trans hd1,hex⟩
  |true=>
  obtain⟨S,e4,l4,g1,g2,hq⟩:=hq;obtain⟨NO,NP,NQ⟩:=n5 gV iL g1 g2;exact⟨_,_,e4,_,hq,NO,hx1.trans hr (hx2.trans og NQ),NP,hn2,iR.trans hd1,hex⟩
 |goto l=>cases xx<;>exact hex.elim
 |ret=>cases xx<;>first|exact hex.elim|exact⟨c2,h2,e2,_,hq,gV,hx1.trans hr hx2,iL,hn2,iR.trans hd1,hex⟩
 |panic ch=>cases xx<;>first|exact hex.elim|exact⟨c2,h2,e2,_,hq,gV,hx1.trans hr hx2,iL,hn2,iR.trans hd1,hex⟩
 |outgrown=>cases xx<;>exact hex.elim
theorem iq{P:Program}{c:bK}{Q:bS->Env->Heap->Prop}{σ:Type}(b:Bool)(env:σ->Env)(hp:σ->Heap)(μ:σ->Nat)
  (step: ∀s,D9 P c (P6 b (Env.keys (env s)) (hp s).cI Q (fun e' h'=> ∃s',μ s'<μ s/\e'=env s'/\h'=hp s')) (env s) (hp s))(s:σ):dR P c Q (env s) (hp s):=
 LY b (fun m e h=> ∃s,μ s=m/\e=env s/\h=hp s) (fun m e h ⟨s,hm,he,hh⟩=>by
  subst hm;subst he;subst hh
  exact⟨_,fun e' h' ⟨s',hlt,he,hh⟩=>⟨μ s',hlt,s',rfl,he,hh⟩,step s⟩) ⟨s,rfl,rfl,rfl⟩
theorem mJ{ks:List Nat}{e:Env}{m:Nat}{l:List (Nat×ai)}{k:Env->Heap->Prop}(h:wO ks e fun e'=>k e' ⟨m,l⟩):CG ks m e ⟨m,l⟩ k:=by
 unfold CG;simp only[Nat.beq_refl];exact h
end Ab
