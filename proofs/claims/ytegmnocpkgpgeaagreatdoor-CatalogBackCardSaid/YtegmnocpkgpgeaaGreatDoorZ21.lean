/- Parts of the proof of PCatalogBack, one behind the other, with short names. -/
import Derived.Test.YtegmnocpkgpgeaaGreatDoorZ20
import Derived.Below
import Derived.Sort.Grow
set_option linter.unusedVariables false
set_option linter.unusedSimpArgs false
namespace Ab
open Go
theorem T7{a b:Nat}(h:a≠b):Nat.beq a b=false:=by
 cases hh:Nat.beq a b
 ·rfl
 ·exact absurd (Nat.eq_of_beq_eq_true hh) h
theorem dD{i:Nat}{o:ai}{l:List (Nat×ai)}:ak ((i,o)::l) i=some o:=by simp[ak]
theorem aU{i j:Nat}{o:ai}{l:List (Nat×ai)}(h:j≠i):ak ((j,o)::l) i=ak l i:=by simp[ak,h]
def QH(l:List (Nat×ai))(n:Nat):Prop:= ∀i o,ak l i=some o->i<n/\zm n o
def Kv:bu->Prop
 | .ret v=>aL v
 | .eY v=>aL v
theorem Nw{c:Cx}{w:World}{h h':Heap}(hr:bT c h w)(hl: ∀i o,h'.obj i=some o->h.obj i=some o/\i<h'.cI/\zm h'.cI o):bT c h' w:=by
 have hsub: ∀i o,h'.obj i=some o->h.obj i=some o:=fun i o ho=>(hl i o ho).1
 refine⟨fun i o ho=>(hl i o ho).2.1,fun i o ho=> ?_,fun i j o p ho hp' heq=>hr.inj i j o p (hsub i o ho) (hsub j p hp') heq,fun i o ho=>hr.apart i o (hsub i o ho),hr.im,hr.dj⟩;have jn:=hr.obj i o (hsub i o ho);have Kl:=(hl i o ho).2.2;cases jn with
 |vec g sz elems fS C ty fz hw hle heq hty hc hf hcell=>
  refine .vec g sz elems fS C ty fz hw hle heq hty hc hf fun i j e v x h1 h2 h3=> ?_
  have hv:=hcell i j e v x h1 h2 h3;have Km:=Kl e (List.mem_of_getElem? h1);by_cases mP: ∃l,e= .agg l
  ·obtain⟨l,rfl⟩:=mP
   exact hv.cut hsub 7 (List.all_eq_true.1 Km v (List.mem_of_getElem? h2))
  ·have h1:e.cells=[e]:=by cases e<;>first|rfl|exact absurd ⟨_,rfl⟩ mP
   rw[h1]at h2;cases j with
   |zero=>simp at h2;subst h2;exact hv.cut hsub 8 Km
   |succ j=>simp at h2
 |iter s pos hw=>exact .iter s pos hw
 |map es cl hw hs=>exact .map es cl hw hs
 |cy m since seen stepped r hw hm=>exact .cy m since seen stepped r hw (hm.cut hsub 8 Kl)
 |kf g ty xs C fz hw hle hc=>exact .kf g ty xs C fz hw hle hc
theorem aC.cut{P:Program}{f:FuncId}{args:List SV}{n N:Nat}{l:List (Nat×ai)}{R:bu->Heap->Prop}(hn:n<=N)
  (hc:aC P f args ⟨n,l⟩ fun r h'=> ∃l',(∀ i o,ak l' i=some o->h'.obj i=some o/\i<N/\zm N o)/\Kv r/\R r ⟨N,l'⟩):aC P f args ⟨n,l⟩ R:=
 ⟨fun c w xs hr hs hv=>(hc.calls c w xs hr hs hv).mono fun e w' ⟨c',h',r,⟨l',hl,AP,hR⟩,hr',hx',he⟩=>by
  refine⟨c',⟨N,l'⟩,r,hR,Nw hr' hl,⟨hx'.os,hx'.tape,hx'.output,hx'.size,hx'.frame,hx'.shape,hx'.im,hx'.im',hn,fun i o' hi ho'=>hx'.old i o' hi (hl i o' ho').1,fun i o' ho'=>hx'.new i o' (hl i o' ho').1⟩,?_⟩;cases r with
  |ret v=>obtain⟨x,he,hx⟩:=he;exact⟨x,he,.pure (AP.vp hx)⟩
  |eY v=>obtain⟨x,he,hx⟩:=he;exact⟨x,he,.pure (AP.vp hx)⟩⟩
theorem aH{l:List (Nat×ai)}{i:Nat}{o:ai}{k:ai->Prop}{d:Prop}(h:ak l i=some o)(hk:k o):eC l i k d:=by
 rw[bg,h];exact hk
theorem kE{l:List (Nat×ai)}{i:Nat}{o:ai}{k:List (Nat×ai)->Prop}(hk:k (bt l i o)):mM l i o k:=by
 rw[cL];exact hk
theorem aV{l:List (Nat×ai)}{i:Nat}{o o':ai}(h:ak l i=some o):ak (bt l i o') i=some o':=tF l i o o' h
theorem aF{l:List (Nat×ai)}{i j:Nat}{o':ai}(h:j≠i):ak (bt l i o') j=ak l j:=by rw[ef,if_neg h]
theorem cC(n:Nat):Nat.beq n n=true:=Nat.beq_refl n
theorem kF(t:TypeId):joinTy (some t) t=some t:=by show(bif Nat.beq t t then some t else none)=some t;rw[cC];rfl
theorem EY{ty:TypeId}{m g i:Nat}{o:List UInt8}{c:SV}{sk:Sk}{l:List (Nat×ai)}{k:SV->Heap->Prop}(ho:ak l i=some (.vec g 1 (o.map tw) ⟨true,some ty⟩))(tv:i<m)(hc:cZ c.cells=true)(hlen:o.length+1<=140737488355328)
  (hk:k (.sl i (g+1) 1 0 (o.length+1) none) ⟨m+1,(m,.vec 0 1 [c] sk)::bt l i (.vec (g+1) 1 (o.map tw++[c]) ⟨true,some ty⟩)⟩):
  aS ty 1 1 ⟨m+1,(m,.vec 0 1 [c] sk)::l⟩ (.sl i g 1 0 o.length none) (.sl m 0 1 0 1 (some 1)) k:=by
 refine nY (iO dD rfl) (by simp) (by simp[allOnes,hc]) (by rw[aU (by omega)];exact ho) (by simp) (by simp;omega) (by simp;omega) ?_;rw[cL];unfold bt;rw[if_neg (by omega),kF];exact hk
theorem wR{ty:TypeId}{m g i:Nat}{o s:List UInt8}{l:List (Nat×ai)}{k:SV->Heap->Prop}(ho:ak l i=some (.vec g 1 (o.map tw) ⟨true,some ty⟩))(h0:0<s.length)(hlen:o.length+s.length<=140737488355328)
  (hk:k (.sl i (g+1) 1 0 (o.length+s.length) none) ⟨m,bt l i (.vec (g+1) 1 (o.map tw++s.map tw) ⟨true,some ty⟩)⟩):
  aS ty 1 1 ⟨m,l⟩ (.sl i g 1 0 o.length none) (.str s) k:=by
 refine nY (qt s) (by simpa using h0) (oJ s) ho (by simp) (by simp;omega) (by simp;omega) ?_;rw[cL,List.length_map,kF];exact hk
theorem wS{ty:TypeId}{sz bytes m:Nat}{l:List (Nat×ai)}{x:SV}{xs:List SV}{k:SV->Heap->Prop}{i g off len cp iK:Nat}{elems:List SV}{sk:Sk}(hx:sG ⟨m,l⟩ sz x xs)(h0:0<xs.length)(h1:allOnes xs=true)
  (ho:ak l i=some (.vec g iK elems sk))(hle:off+len<=elems.length)(ZS:cp<len+xs.length)(hl:(len+xs.length)*bytes<=140737488355328)(hl':len+xs.length<=9223372036854775807)
  (hk:k (.sl m 0 sz 0 (len+xs.length) none) ⟨m+1,(m,.vec 0 sz ((elems.drop off).take len++xs) ⟨true,some ty⟩)::l⟩):aS ty sz bytes ⟨m,l⟩ (.sl i g sz off len (some cp)) x k:=by
 unfold aS;refine hx _ ?_;cases xs with
 |nil=>simp at h0
 |cons x0 xr=>
  dsimp only;rw[ah];refine⟨h1,?_⟩;show cY (Nat.beq sz sz) _;rw[ah];refine⟨Nat.beq_refl _,?_⟩;rw[bg,ho];dsimp only;rw[ah];refine⟨Nat.beq_refl _,?_⟩
  have hb:Nat.ble (len+(x0::xr).length) cp=false:=by
   cases hh:Nat.ble (len+(x0::xr).length) cp
   ·rfl
   ·have:=Nat.le_of_ble_eq_true hh;omega
  rw[hb];show cY _ _;rw[ah];refine⟨by rw[decide_eq_true hl,decide_eq_true hl'];rfl,?_⟩;rw[dQ];refine⟨by omega,?_⟩;rw[cU];refine⟨by rw[List.length_drop];omega,?_⟩;rw[sn];exact hk
@[reducible] def mU (tb bi j g n:Nat):ai:= .vec 0 2 [.agg [.ref bi 0 0 0,.sl j g 1 0 n none]] ⟨false,some tb⟩
@[reducible] def mV (ty g:Nat) (o:List UInt8):ai:= .vec g 1 (o.map tw) ⟨true,some ty⟩
def o4(tb ty:Nat)(l:List (Nat×ai))(bi j g:Nat)(o:List UInt8):List (Nat×ai):=bt (bt l j (mV ty g o)) bi (mU tb bi j g o.length)
theorem Kw{tb ty:Nat}{l:List (Nat×ai)}{bi j g:Nat}{o:List UInt8}{ob:ai}(hb:ak l bi=some ob)(hne:bi≠j):ak (o4 tb ty l bi j g o) bi=some (mU tb bi j g o.length):=
 aV (o:=ob) (by rw[aF hne];exact hb)
theorem Kx{tb ty:Nat}{l:List (Nat×ai)}{bi j g:Nat}{o:List UInt8}{oj:ai}(hj:ak l j=some oj)(hne:bi≠j):ak (o4 tb ty l bi j g o) j=some (mV ty g o):=by
 unfold o4;rw[aF (fun h=>hne h.symm)];exact aV hj
theorem Nx{tb ty:Nat}{l:List (Nat×ai)}{bi j g i:Nat}{o:List UInt8}(h1:i≠bi)(h2:i≠j):ak (o4 tb ty l bi j g o) i=ak l i:=by
 unfold o4;rw[aF h1,aF h2]
theorem sH{n:Nat}{s:List UInt8}{g sz:Nat}{sk:Sk}:zm n (.vec g sz (s.map tw) sk):=by
 intro v hv;obtain⟨b,_,rfl⟩:=List.mem_map.1 hv;rfl
theorem zu: ∀ {l:List (Nat×ai)} {i:Nat} {o:ai},ak l i=some o->bt l i o=l
 | [],_,_,h=>rfl
 |(s,q)::r,i,o,h=>by
  unfold bt;unfold ak at h;by_cases hs:s=i
  ·rw[if_pos hs]at h ⊢;cases h;rfl
  ·rw[if_neg hs]at h ⊢;rw[zu h]
theorem Ky{m i:Nat}{t ob:ai}{l:List (Nat×ai)}(hi:i<m)(h:ak l i=some ob):ak ((m,t)::l) i=some ob:=by rw[aU (by omega)];exact h
theorem sI{tb ty:Nat}{l:List (Nat×ai)}{m bi j g:Nat}{o:List UInt8}(hl:QH l m)(AH:bi<m)(EM:j<m)(hne:bi≠j):QH (o4 tb ty l bi j g o) m:=by
 intro i ob h;by_cases h1:i=bi
 ·subst h1
  cases hq:ak l i with
  |none=>
   unfold o4 at h;rw[ef,if_pos rfl,aF hne,hq]at h;cases h
  |some q=>
   rw[Kw hq hne]at h;cases h
   refine⟨AH,fun v hv=> ?_⟩;simp only[List.mem_singleton]at hv;subst hv;simp[SV.lt,Nat.blt,AH,EM];omega
 ·by_cases h2:i=j
  ·subst h2
   cases hq:ak l i with
   |none=>
    unfold o4 at h;rw[aF h1,ef,if_pos rfl,hq]at h;cases h
   |some q=>
    rw[Kx hq hne]at h;cases h
    exact⟨EM,sH⟩
  ·rw[Nx h1 h2]at h
   exact hl i ob h
section
section
variable {α:Type}
theorem T8{b:Bool}{p:α->Prop}(h:b=true)(hp: ∃x,p x): ∃x,@Bool.rec (fun _=>Prop) False (p x) b:=by subst h;exact hp
end
theorem dz{P:Program}{b:bK}{Q:bS->Env->Heap->Prop}{σ:Type}(env:σ->Env)(hp:σ->Heap)(μ:σ->Nat)(N:σ->Nat)(hN: ∀s,(hp s).cI<=N s)
  (step: ∀s,D9 P b (CH (Env.keys (env s)) (N s) Q (fun e' h'=> ∃s',μ s'<μ s/\e'=env s'/\h'=hp s')) (env s) (hp s))(s:σ):dR P b Q (env s) (hp s):=
 Ko (fun m e h=> ∃s,μ s=m/\e=env s/\h=hp s) (fun m e h ⟨s,hm,he,hh⟩=>by
  subst hm;subst he;subst hh
  exact⟨N s,_,hN s,fun e' h' ⟨s',hlt,he,hh⟩=>⟨μ s',hlt,s',rfl,he,hh⟩,step s⟩) ⟨s,rfl,rfl,rfl⟩
end
end Ab
namespace Ab
open Go Go.RowKit
theorem gH{P:Program}{f:FuncId}{args:List SV}{v:SV}(hargs: ∀a∈args,aL a)(hl:aL v)
  (hc: ∀(Im:Nat->Prop) (w:World) (xs:Array Value),gB Im w->(∀ b,Im b->b<w.heap.size)->xs.size=args.length->(∀ (i:Nat) (u:SV) (x:Value),args[i]? =some u->xs[i]? =some x->VP Im w u x)->
   Calls P f xs w fun e w'=>(∃ x,e= .returned x/\VP Im w' v x)/\Below w.heap.size w w'):aj P f args v:=by
 refine aG hargs ⟨fun c w xs hr hs hv=> ?_⟩;refine(hc c.Im w xs hr.dj hr.im hs fun i u x a b=>(hargs _ (List.mem_of_getElem? a)).vp (hv i u x a b)).mono fun e w' ⟨⟨x,he,hx⟩,hb⟩=> ?_
 have hh: ∀b,c.Im b->w'.heap[b]? =w.heap[b]? :=fun b h=>hb.block b (hr.im b h)
 refine⟨c,⟨0,[]⟩,.ret v,⟨v,rfl,.lit hl⟩,⟨(fun i o ho=>by cases ho),(fun i o ho=>by cases ho),(fun i j o p ho=>by cases ho),(fun i o ho=>by cases ho),fun b h=>Nat.lt_of_lt_of_le (hr.im b h) hb.size,hr.dj.mono (fun _ h=>h) hh⟩,
  ⟨hb.os,hb.tape,hb.output,hb.size,fun b h _=>hb.block b h,fun b h=> ?_,fun _ h=>h,fun _ h=> .inl h,Nat.le_refl _,(fun i o' _ ho=>by cases ho),fun i o' ho=>by cases ho⟩,x,he,.pure hx⟩
 unfold World.shape?;rw[hb.block b h]
theorem VP.lV{Im:Nat->Prop}{w:World}{s:List UInt8}{x:Value}(h:VP Im w (.str s) x):x= .string ⟨s.toArray⟩:=by cases h;rfl
theorem VP.lW{Im:Nat->Prop}{w:World}{k:IntKind}{n:Int}{x:Value}(h:VP Im w (.int k n) x):x= .int k n:=by cases h;rfl
theorem gB.eH{Im:Nat->Prop}{w:World}(h:gB Im w){g:Nat}(hne:dK g≠[]): ∃C ty fz,w.heap[g]? =some (.cells C ty fz)/\C=((dK g).map fun p=>Value.int p.1 p.2).toArray:=by
 obtain⟨_,C,ty,fz,h1,h2,h3⟩:=h.1 g (.agg ((dK g).map fun p=> .int p.1 p.2)) (by unfold vS;split;exact absurd (by assumption) hne;rfl);refine⟨C,ty,fz,h1,?_⟩;simp only[SV.cells,List.length_map]at h2;apply Array.ext
 ·simpa using h2.symm
 ·intro i a b
  have hi:i<(dK g).length:=by omega
  have:=h3 i (.int ((dK g)[i]).1 ((dK g)[i]).2) C[i] (by simp[SV.cells,hi]) (by simp);rw[VP.lW this];simp
theorem gB.var{Im:Nat->Prop}{w:World}(h:gB Im w){P:Program}{n:String}{g:Nat}(hne:dK g≠[])(hg:P.globalNamed n=some g):w.var? P n=some ((dK g).map fun p=>Value.int p.1 p.2).toArray:=by
 obtain⟨C,ty,fz,h1,rfl⟩:=h.eH hne;unfold World.var?;rw[hg,Option.bind_some,h1]
theorem gB.cell{Im:Nat->Prop}{w:World}(h:gB Im w){g j:Nat}{p:IntKind×Int}(hj:(dK g)[j]? =some p):w.cell? ⟨g,j,none⟩=some (.int p.1 p.2):=by
 obtain⟨C,ty,fz,h1,rfl⟩:=h.eH (g:=g) (by rintro h0;rw[h0]at hj;simp at hj);unfold World.cell?;rw[h1];simp[hj]
theorem args1{Im:Nat->Prop}{w:World}{xs:Array Value}{a:SV}{x:Value}(hs:xs.size=1)(hv: ∀(i:Nat) (u:SV) (y:Value),[a][i]? =some u->xs[i]? =some y->VP Im w u y)(ha: ∀y,VP Im w a y->y=x):xs= #[x]:=by
 apply Array.ext
 ·simpa using hs
 ·intro i h1 h2
  obtain rfl:i=0:=by simp at h2;omega
  exact ha _ (hv 0 a _ rfl (by simp[h1]))
theorem args2{Im:Nat->Prop}{w:World}{xs:Array Value}{a b:SV}{x y:Value}(hs:xs.size=2)(hv: ∀(i:Nat) (u:SV) (y:Value),[a,b][i]? =some u->xs[i]? =some y->VP Im w u y)(ha: ∀z,VP Im w a z->z=x)(hb: ∀z,VP Im w b z->z=y):xs= #[x,y]:=by
 apply Array.ext
 ·simpa using hs
 ·intro i h1 h2
  rcases i with _|_|i
  ·exact ha _ (hv 0 a _ rfl (by simp[h1]))
  ·exact hb _ (hv 1 b _ rfl (by simp[h1]))
  ·exfalso;simp at h2;omega
theorem PC{Im:Nat->Prop}{w:World}{xs:Array Value}{a b c:SV}{x y z:Value}(hs:xs.size=3)(hv: ∀(i:Nat) (u:SV) (y:Value),[a,b,c][i]? =some u->xs[i]? =some y->VP Im w u y)(ha: ∀z,VP Im w a z->z=x)(hb: ∀z,VP Im w b z->z=y)(hc: ∀u,VP Im w c u->u=z):xs= #[x,y,z]:=by
 apply Array.ext
 ·simpa using hs
 ·intro i h1 h2
  rcases i with _|_|_|i
  ·exact ha _ (hv 0 a _ rfl (by simp[h1]))
  ·exact hb _ (hv 1 b _ rfl (by simp[h1]))
  ·exact hc _ (hv 2 c _ rfl (by simp[h1]))
  ·exfalso;simp at h2;omega
theorem EZ{B:Nat}{a w:World}(os:Array Obj)(h:Below B a w)(hB:B<=w.heap.size):Below B a (Sort.grow w os):=by
 refine⟨h.os,h.tape,h.output,?_,fun k hk=> ?_⟩
 ·show a.heap.size<=(w.heap++os).size
  have:=h.size;simp only[Array.size_append];omega
 ·show(w.heap++os)[k]? =_
  rw[Array.getElem?_append_left (by omega)];exact h.block k hk
end Ab
