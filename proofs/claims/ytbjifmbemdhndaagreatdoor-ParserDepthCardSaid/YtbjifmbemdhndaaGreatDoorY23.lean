/- Parts of the proof of PParserDepth, one behind the other, with short names. -/
import Derived.Test.YtbjifmbemdhndaaGreatDoorY22
import Derived.Below
import Derived.Sort.Grow
set_option linter.unusedVariables false
set_option linter.unusedSimpArgs false
namespace Ab
open Go
def wK(h:Heap)(sz:Nat)(x:SV)(xs:List SV):Prop:= ∀k:List SV->Prop,k xs->kT h sz x k
@[reducible] def sV (b:UInt8):SV:= .int .u8 b.toNat
theorem rP{h:Heap}(s:List UInt8):wK h 1 (.str s) (s.map sV):=fun k hk=>by
 show cQ (Nat.beq 1 1) (EB s k);rw[ah,og];exact⟨rfl,hk⟩
theorem G0{m:Nat}{l:List (Nat×aA)}{i g sz off len gy:Nat}{cap:Option Nat}{elems:List SV}{sk:Sk}(ho:aG l i=some (.vec g gy elems sk))(hle:off+len<=elems.length):
  wK ⟨m,l⟩ sz (.sl i g sz off len cap) ((elems.drop off).take len):=fun k hk=>by
 show cQ (Nat.beq sz sz) (dW l i (fun o=>match o with
  | .vec g' _ elems _=>cQ (Nat.beq g' g) (nA elems off fun l=>takeN l len k)
  |_=>False) False)
 rw[ah,aW,ho];refine⟨Nat.beq_refl _,?_⟩;dsimp only;rw[ah,dY,cT];exact⟨Nat.beq_refl _,by omega,by rw[List.length_drop];omega,hk⟩
theorem lX{m:Nat}{l:List (Nat×aA)}{i g sz n gy:Nat}{cap:Option Nat}{elems:List SV}{sk:Sk}(ho:aG l i=some (.vec g gy elems sk))(hn:n=elems.length):
  wK ⟨m,l⟩ sz (.sl i g sz 0 n cap) elems:=fun k hk=>by
 refine G0 ho (by omega) k ?_;rw[List.drop_zero,List.take_of_length_le (by omega)];exact hk
theorem pQ: ∀s:List UInt8,allOnes (s.map sV)=true
 | []=>rfl
 |b::r=>by
  show(ff (sV b).cells&&allOnes (r.map sV))=true;rw[pQ r];rfl
theorem x9{ty:TypeId}{sz bytes:Nat}{m:Nat}{l:List (Nat×aA)}{x:SV}{k:SV->Heap->Prop}{i g sz' off len gy:Nat}{cap:Option Nat}{elems:List SV}{sk:Sk}(hx:wK ⟨m,l⟩ sz x [])(ho:aG l i=some (.vec g gy elems sk))
  (hk:k (.sl i g sz' off len cap) ⟨m,l⟩):aO ty sz bytes ⟨m,l⟩ (.sl i g sz' off len cap) x k:=by
 unfold aO;refine hx _ ?_;show fJ ⟨m,l⟩ i g _;unfold fJ;dsimp only;rw[aW,ho];dsimp only;rw[ah];exact⟨Nat.beq_refl _,hk⟩
theorem pR{ty:TypeId}{sz bytes m:Nat}{l:List (Nat×aA)}{x:SV}{xs:List SV}{k:SV->Heap->Prop}(hx:wK ⟨m,l⟩ sz x xs)(h0:0<xs.length)(h1:allOnes xs=true)
  (hl:xs.length*bytes<=140737488355328)(hl':xs.length<=9223372036854775807)(hk:k (.sl m 0 sz 0 xs.length none) ⟨m+1,(m,.vec 0 sz xs ⟨true,some ty⟩)::l⟩):aO ty sz bytes ⟨m,l⟩ .ak x k:=by
 unfold aO;refine hx _ ?_;cases xs with
 |nil=>simp at h0
 |cons x0 xr=>
  dsimp only;rw[ah,ah];exact⟨h1,by rw[decide_eq_true hl,decide_eq_true hl'];rfl,hk⟩
theorem ov{ty:TypeId}{sz bytes m:Nat}{l:List (Nat×aA)}{x:SV}{xs:List SV}{k:SV->Heap->Prop}{i g len gy:Nat}{elems:List SV}{sk:Sk}(hx:wK ⟨m,l⟩ sz x xs)(h0:0<xs.length)(h1:allOnes xs=true)
  (ho:aG l i=some (.vec g gy elems sk))(hn:len=elems.length)(hl:(len+xs.length)*bytes<=140737488355328)(hl':len+xs.length<=9223372036854775807)
  (hk:kS l i (.vec (g+1) gy (elems++xs) ⟨true,joinTy sk.ty ty⟩) fun l'=>k (.sl i (g+1) sz 0 (len+xs.length) none) ⟨m,l'⟩):aO ty sz bytes ⟨m,l⟩ (.sl i g sz 0 len none) x k:=by
 unfold aO;refine hx _ ?_;cases xs with
 |nil=>simp at h0
 |cons x0 xr=>
  dsimp only;rw[ah];refine⟨h1,?_⟩;show cQ (Nat.beq sz sz) _;rw[ah];refine⟨Nat.beq_refl _,?_⟩;rw[aW,ho];dsimp only;rw[ah];refine⟨Nat.beq_refl _,?_⟩
  have hno:(Nat.blt 0 sz&&Nat.ble (0+len+(x0::xr).length) elems.length)=false:=by
   cases hb:Nat.ble (0+len+(x0::xr).length) elems.length with
   |false=>rw[Bool.and_false]
   |true=>
    have:=Nat.le_of_ble_eq_true hb;rw[hn]at this;simp only[List.length_cons]at this;omega
  rw[hno];show cQ _ _;rw[ah];refine⟨?_,?_⟩
  ·rw[decide_eq_true hl,decide_eq_true hl',hn]
   simp only[Bool.and_true,Nat.beq_refl]
  ·rw[tc]
   exact hk
theorem uC{s:List UInt8}{k:List UInt8->Prop}(hk:k s):mh (s.map sV) k:=by
 have e:s.map sV=(s.map fun b=>(b.toNat:Int)).map (SV.int .u8):=by rw[List.map_map];rfl
 rw[e];refine rz ?_
 have e2:(s.map fun b=>(b.toNat:Int)).map (fun n=>UInt8.ofNat n.toNat)=s:=by
  rw[List.map_map]
  conv=>rhs;rw[<- List.map_id s]
  apply List.map_congr_left
  intro b _;simp
 rw[e2];exact hk
theorem wL{l:List SV}{n:Nat}{k:List SV->Prop}(h:n=l.length)(hk:k l):takeN l n k:=cT.2 ⟨by omega,by rw[List.take_of_length_le (by omega)];exact hk⟩
theorem PE{a b:Nat}(h:a≠b):Nat.beq a b=false:=by
 cases hh:Nat.beq a b
 ·rfl
 ·exact absurd (Nat.eq_of_beq_eq_true hh) h
theorem iB{i:Nat}{o:aA}{l:List (Nat×aA)}:aG ((i,o)::l) i=some o:=by simp[aG]
theorem iC{i j:Nat}{o:aA}{l:List (Nat×aA)}(h:j≠i):aG ((j,o)::l) i=aG l i:=by simp[aG,h]
def Me(l:List (Nat×aA))(n:Nat):Prop:= ∀i o,aG l i=some o->i<n/\wu n o
def G1:bV->Prop
 | .ret v=>bA v
 | .cZ v=>bA v
theorem I3{c:Cx}{w:World}{h h':Heap}(hr:bP c h w)(hl: ∀i o,h'.obj i=some o->h.obj i=some o/\i<h'.dA/\wu h'.dA o):bP c h' w:=by
 have hsub: ∀i o,h'.obj i=some o->h.obj i=some o:=fun i o ho=>(hl i o ho).1
 refine⟨fun i o ho=>(hl i o ho).2.1,fun i o ho=> ?_,fun i j o p ho hp' heq=>hr.inj i j o p (hsub i o ho) (hsub j p hp') heq,fun i o ho=>hr.apart i o (hsub i o ho),hr.im,hr.cV⟩;have gS:=hr.obj i o (hsub i o ho);have Gx:=(hl i o ho).2.2;cases gS with
 |vec g sz elems eS C ty fz hw hle heq hty hc hf hcell=>
  refine .vec g sz elems eS C ty fz hw hle heq hty hc hf fun i j e v x h1 h2 h3=> ?_
  have hv:=hcell i j e v x h1 h2 h3;have Gy:=Gx e (List.mem_of_getElem? h1);by_cases kV: ∃l,e= .agg l
  ·obtain⟨l,rfl⟩:=kV
   exact hv.cut hsub 7 (List.all_eq_true.1 Gy v (List.mem_of_getElem? h2))
  ·have h1:e.cells=[e]:=by cases e<;>first|rfl|exact absurd ⟨_,rfl⟩ kV
   rw[h1]at h2;cases j with
   |zero=>simp at h2;subst h2;exact hv.cut hsub 8 Gy
   |succ j=>simp at h2
 |iter s pos hw=>exact .iter s pos hw
 |map es cl hw hs=>exact .map es cl hw hs
 |bU m since seen stepped r hw hm=>exact .bU m since seen stepped r hw (hm.cut hsub 8 Gx)
 |js g ty xs C fz hw hle hc=>exact .js g ty xs C fz hw hle hc
theorem aP.cut{P:Program}{f:FuncId}{args:List SV}{n N:Nat}{l:List (Nat×aA)}{R:bV->Heap->Prop}(hn:n<=N)
  (hc:aP P f args ⟨n,l⟩ fun r h'=> ∃l',(∀ i o,aG l' i=some o->h'.obj i=some o/\i<N/\wu N o)/\G1 r/\R r ⟨N,l'⟩):aP P f args ⟨n,l⟩ R:=
 ⟨fun c w xs hr hs hv=>(hc.calls c w xs hr hs hv).mono fun e w' ⟨c',h',r,⟨l',hl,cC,hR⟩,hr',hx',he⟩=>by
  refine⟨c',⟨N,l'⟩,r,hR,I3 hr' hl,⟨hx'.os,hx'.tape,hx'.output,hx'.size,hx'.frame,hx'.shape,hx'.im,hx'.im',hn,fun i o' hi ho'=>hx'.old i o' hi (hl i o' ho').1,fun i o' ho'=>hx'.new i o' (hl i o' ho').1⟩,?_⟩;cases r with
  |ret v=>obtain⟨x,he,hx⟩:=he;exact⟨x,he,.pure (cC.vp hx)⟩
  |cZ v=>obtain⟨x,he,hx⟩:=he;exact⟨x,he,.pure (cC.vp hx)⟩⟩
theorem eD{l:List (Nat×aA)}{i:Nat}{o:aA}{k:aA->Prop}{d:Prop}(h:aG l i=some o)(hk:k o):dW l i k d:=by
 rw[aW,h];exact hk
theorem nS{l:List (Nat×aA)}{i:Nat}{o:aA}{k:List (Nat×aA)->Prop}(hk:k (bC l i o)):kS l i o k:=by
 rw[dU];exact hk
theorem eM{l:List (Nat×aA)}{i:Nat}{o o':aA}(h:aG l i=some o):aG (bC l i o') i=some o':=ry l i o o' h
theorem cG{l:List (Nat×aA)}{i j:Nat}{o':aA}(h:j≠i):aG (bC l i o') j=aG l j:=by rw[dQ,if_neg h]
theorem dK(n:Nat):Nat.beq n n=true:=Nat.beq_refl n
theorem kP(t:TypeId):joinTy (some t) t=some t:=by show(bif Nat.beq t t then some t else none)=some t;rw[dK];rfl
theorem Ca{ty:TypeId}{m g i:Nat}{o:List UInt8}{c:SV}{sk:Sk}{l:List (Nat×aA)}{k:SV->Heap->Prop}(ho:aG l i=some (.vec g 1 (o.map sV) ⟨true,some ty⟩))(sC:i<m)(hc:ff c.cells=true)(hlen:o.length+1<=140737488355328)
  (hk:k (.sl i (g+1) 1 0 (o.length+1) none) ⟨m+1,(m,.vec 0 1 [c] sk)::bC l i (.vec (g+1) 1 (o.map sV++[c]) ⟨true,some ty⟩)⟩):
  aO ty 1 1 ⟨m+1,(m,.vec 0 1 [c] sk)::l⟩ (.sl i g 1 0 o.length none) (.sl m 0 1 0 1 (some 1)) k:=by
 refine ov (lX iB rfl) (by simp) (by simp[allOnes,hc]) (by rw[iC (by omega)];exact ho) (by simp) (by simp;omega) (by simp;omega) ?_;rw[dU];unfold bC;rw[if_neg (by omega),kP];exact hk
theorem Cb{ty:TypeId}{m g i:Nat}{o s:List UInt8}{l:List (Nat×aA)}{k:SV->Heap->Prop}(ho:aG l i=some (.vec g 1 (o.map sV) ⟨true,some ty⟩))(h0:0<s.length)(hlen:o.length+s.length<=140737488355328)
  (hk:k (.sl i (g+1) 1 0 (o.length+s.length) none) ⟨m,bC l i (.vec (g+1) 1 (o.map sV++s.map sV) ⟨true,some ty⟩)⟩):
  aO ty 1 1 ⟨m,l⟩ (.sl i g 1 0 o.length none) (.str s) k:=by
 refine ov (rP s) (by simpa using h0) (pQ s) ho (by simp) (by simp;omega) (by simp;omega) ?_;rw[dU,List.length_map,kP];exact hk
@[reducible] def lY (tb bi j g n:Nat):aA:= .vec 0 2 [.agg [.ref bi 0 0 0,.sl j g 1 0 n none]] ⟨false,some tb⟩
@[reducible] def mL (ty g:Nat) (o:List UInt8):aA:= .vec g 1 (o.map sV) ⟨true,some ty⟩
def ni(tb ty:Nat)(l:List (Nat×aA))(bi j g:Nat)(o:List UInt8):List (Nat×aA):=bC (bC l j (mL ty g o)) bi (lY tb bi j g o.length)
theorem G2{tb ty:Nat}{l:List (Nat×aA)}{bi j g:Nat}{o:List UInt8}{ob:aA}(hb:aG l bi=some ob)(hne:bi≠j):aG (ni tb ty l bi j g o) bi=some (lY tb bi j g o.length):=
 eM (o:=ob) (by rw[cG hne];exact hb)
theorem G3{tb ty:Nat}{l:List (Nat×aA)}{bi j g:Nat}{o:List UInt8}{oj:aA}(hj:aG l j=some oj)(hne:bi≠j):aG (ni tb ty l bi j g o) j=some (mL ty g o):=by
 unfold ni;rw[cG (fun h=>hne h.symm)];exact eM hj
theorem I4{tb ty:Nat}{l:List (Nat×aA)}{bi j g i:Nat}{o:List UInt8}(h1:i≠bi)(h2:i≠j):aG (ni tb ty l bi j g o) i=aG l i:=by
 unfold ni;rw[cG h1,cG h2]
theorem qG{n:Nat}{s:List UInt8}{g sz:Nat}{sk:Sk}:wu n (.vec g sz (s.map sV) sk):=by
 intro v hv;obtain⟨b,_,rfl⟩:=List.mem_map.1 hv;rfl
theorem wM: ∀ {l:List (Nat×aA)} {i:Nat} {o:aA},aG l i=some o->bC l i o=l
 | [],_,_,h=>rfl
 |(s,q)::r,i,o,h=>by
  unfold bC;unfold aG at h;by_cases hs:s=i
  ·rw[if_pos hs]at h ⊢;cases h;rfl
  ·rw[if_neg hs]at h ⊢;rw[wM h]
theorem G4{m i:Nat}{t ob:aA}{l:List (Nat×aA)}(hi:i<m)(h:aG l i=some ob):aG ((m,t)::l) i=some ob:=by rw[iC (by omega)];exact h
theorem qH{tb ty:Nat}{l:List (Nat×aA)}{m bi j g:Nat}{o:List UInt8}(hl:Me l m)(zI:bi<m)(BP:j<m)(hne:bi≠j):Me (ni tb ty l bi j g o) m:=by
 intro i ob h;by_cases h1:i=bi
 ·subst h1
  cases hq:aG l i with
  |none=>
   unfold ni at h;rw[dQ,if_pos rfl,cG hne,hq]at h;cases h
  |some q=>
   rw[G2 hq hne]at h;cases h
   refine⟨zI,fun v hv=> ?_⟩;simp only[List.mem_singleton]at hv;subst hv;simp[SV.lt,Nat.blt,zI,BP];omega
 ·by_cases h2:i=j
  ·subst h2
   cases hq:aG l i with
   |none=>
    unfold ni at h;rw[cG h1,dQ,if_pos rfl,hq]at h;cases h
   |some q=>
    rw[G3 hq hne]at h;cases h
    exact⟨BP,qG⟩
  ·rw[I4 h1 h2]at h
   exact hl i ob h
theorem nT{P:Program}{b:bD}{Q:ck->Env->Heap->Prop}{σ:Type}(env:σ->Env)(hp:σ->Heap)(μ:σ->Nat)(N:σ->Nat)(hN: ∀s,(hp s).dA<=N s)
  (step: ∀s,Gw P b (zO (Env.keys (env s)) (N s) Q (fun e' h'=> ∃s',μ s'<μ s/\e'=env s'/\h'=hp s')) (env s) (hp s))(s:σ):dx P b Q (env s) (hp s):=
 Gz (fun m e h=> ∃s,μ s=m/\e=env s/\h=hp s) (fun m e h ⟨s,hm,he,hh⟩=>by
  subst hm;subst he;subst hh
  exact⟨N s,_,hN s,fun e' h' ⟨s',hlt,he,hh⟩=>⟨μ s',hlt,s',rfl,he,hh⟩,step s⟩) ⟨s,rfl,rfl,rfl⟩
end Ab
namespace Ab
open Go Go.RowKit
theorem fO{P:Program}{f:FuncId}{args:List SV}{v:SV}(hargs: ∀a∈args,bA a)(hl:bA v)
  (hc: ∀(Im:Nat->Prop) (w:World) (xs:Array Value),fI Im w->(∀ b,Im b->b<w.heap.size)->xs.size=args.length->(∀ (i:Nat) (u:SV) (x:Value),args[i]? =some u->xs[i]? =some x->VP Im w u x)->
   Calls P f xs w fun e w'=>(∃ x,e= .returned x/\VP Im w' v x)/\Below w.heap.size w w'):au P f args v:=by
 refine bu hargs ⟨fun c w xs hr hs hv=> ?_⟩;refine(hc c.Im w xs hr.cV hr.im hs fun i u x a b=>(hargs _ (List.mem_of_getElem? a)).vp (hv i u x a b)).mono fun e w' ⟨⟨x,he,hx⟩,hb⟩=> ?_
 have hh: ∀b,c.Im b->w'.heap[b]? =w.heap[b]? :=fun b h=>hb.block b (hr.im b h)
 refine⟨c,⟨0,[]⟩,.ret v,⟨v,rfl,.lit hl⟩,⟨(fun i o ho=>by cases ho),(fun i o ho=>by cases ho),(fun i j o p ho=>by cases ho),(fun i o ho=>by cases ho),fun b h=>Nat.lt_of_lt_of_le (hr.im b h) hb.size,hr.cV.mono (fun _ h=>h) hh⟩,
  ⟨hb.os,hb.tape,hb.output,hb.size,fun b h _=>hb.block b h,fun b h=> ?_,fun _ h=>h,fun _ h=> .inl h,Nat.le_refl _,(fun i o' _ ho=>by cases ho),fun i o' ho=>by cases ho⟩,x,he,.pure hx⟩
 unfold World.shape?;rw[hb.block b h]
theorem VP.kf{Im:Nat->Prop}{w:World}{s:List UInt8}{x:Value}(h:VP Im w (.str s) x):x= .string ⟨s.toArray⟩:=by cases h;rfl
theorem VP.kg{Im:Nat->Prop}{w:World}{k:IntKind}{n:Int}{x:Value}(h:VP Im w (.int k n) x):x= .int k n:=by cases h;rfl
theorem fI.PF{Im:Nat->Prop}{w:World}(h:fI Im w){g:Nat}(hne:dz g≠[]): ∃C ty fz,w.heap[g]? =some (.cells C ty fz)/\C=((dz g).map fun p=>Value.int p.1 p.2).toArray:=by
 obtain⟨_,C,ty,fz,h1,h2,h3⟩:=h.1 g (.agg ((dz g).map fun p=> .int p.1 p.2)) (by unfold qZ;split;exact absurd (by assumption) hne;rfl);refine⟨C,ty,fz,h1,?_⟩;simp only[SV.cells,List.length_map]at h2;apply Array.ext
 ·simpa using h2.symm
 ·intro i a b
  have hi:i<(dz g).length:=by omega
  have:=h3 i (.int ((dz g)[i]).1 ((dz g)[i]).2) C[i] (by simp[SV.cells,hi]) (by simp);rw[VP.kg this];simp
theorem fI.var{Im:Nat->Prop}{w:World}(h:fI Im w){P:Program}{n:String}{g:Nat}(hne:dz g≠[])(hg:P.globalNamed n=some g):w.var? P n=some ((dz g).map fun p=>Value.int p.1 p.2).toArray:=by
 obtain⟨C,ty,fz,h1,rfl⟩:=h.PF hne;unfold World.var?;rw[hg,Option.bind_some,h1]
theorem fI.cell{Im:Nat->Prop}{w:World}(h:fI Im w){g j:Nat}{p:IntKind×Int}(hj:(dz g)[j]? =some p):w.cell? ⟨g,j,none⟩=some (.int p.1 p.2):=by
 obtain⟨C,ty,fz,h1,rfl⟩:=h.PF (g:=g) (by rintro h0;rw[h0]at hj;simp at hj);unfold World.cell?;rw[h1];simp[hj]
theorem args1{Im:Nat->Prop}{w:World}{xs:Array Value}{a:SV}{x:Value}(hs:xs.size=1)(hv: ∀(i:Nat) (u:SV) (y:Value),[a][i]? =some u->xs[i]? =some y->VP Im w u y)(ha: ∀y,VP Im w a y->y=x):xs= #[x]:=by
 apply Array.ext
 ·simpa using hs
 ·intro i h1 h2
  obtain rfl:i=0:=by simp at h2;omega
  exact ha _ (hv 0 a _ rfl (by simp[h1]))
theorem args2{Im:Nat->Prop}{w:World}{xs:Array Value}{a b:SV}{x y:Value}(hs:xs.size=2)(hv: ∀(i:Nat) (u:SV) (y:Value),[a,b][i]? =some u->xs[i]? =some y->VP Im w u y)(ha: ∀z,VP Im w a z->z=x)(hb: ∀z,VP Im w b z->z=y):xs= #[x,y]:=by
 apply Array.ext
 ·simpa using hs
 ·intro i h1 h2
  rcases i with _|_|i
  ·exact ha _ (hv 0 a _ rfl (by simp[h1]))
  ·exact hb _ (hv 1 b _ rfl (by simp[h1]))
  ·exfalso;simp at h2;omega
theorem Kv{Im:Nat->Prop}{w:World}{xs:Array Value}{a b c:SV}{x y z:Value}(hs:xs.size=3)(hv: ∀(i:Nat) (u:SV) (y:Value),[a,b,c][i]? =some u->xs[i]? =some y->VP Im w u y)(ha: ∀z,VP Im w a z->z=x)(hb: ∀z,VP Im w b z->z=y)(hc: ∀u,VP Im w c u->u=z):xs= #[x,y,z]:=by
 apply Array.ext
 ·simpa using hs
 ·intro i h1 h2
  rcases i with _|_|_|i
  ·exact ha _ (hv 0 a _ rfl (by simp[h1]))
  ·exact hb _ (hv 1 b _ rfl (by simp[h1]))
  ·exact hc _ (hv 2 c _ rfl (by simp[h1]))
  ·exfalso;simp at h2;omega
theorem Cc{B:Nat}{a w:World}(os:Array Obj)(h:Below B a w)(hB:B<=w.heap.size):Below B a (Sort.grow w os):=by
 refine⟨h.os,h.tape,h.output,?_,fun k hk=> ?_⟩
 ·show a.heap.size<=(w.heap++os).size
  have:=h.size;simp only[Array.size_append];omega
 ·show(w.heap++os)[k]? =_
  rw[Array.getElem?_append_left (by omega)];exact h.block k hk
end Ab
