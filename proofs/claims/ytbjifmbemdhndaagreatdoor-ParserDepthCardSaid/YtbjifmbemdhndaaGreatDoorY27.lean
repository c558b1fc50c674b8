/- Parts of the proof of PParserDepth, one behind the other, with short names. -/
import Derived.Test.YtbjifmbemdhndaaGreatDoorY23
set_option linter.unusedVariables false
set_option linter.unusedSimpArgs false
namespace Ab
open Go
section
inductive gP(N:Nat->Nat->Prop):SV->SV->Prop
 |lit {v:SV} (h:bA v):gP N v v
 |ref {i j g a b:Nat} (h:N i j):gP N (.ref i g a b) (.ref j g a b)
 |sl {i j g sz off len:Nat} {cap:Option Nat} (h:N i j):gP N (.sl i g sz off len cap) (.sl j g sz off len cap)
 |cJ {i j g:Nat} (h:N i j):gP N (.cJ i g) (.cJ j g)
 |iface (t:TypeId) {v v':SV} (h:gP N v v'):gP N (.iface t v) (.iface t v')
 |agg {l l':List SV} (hl:l.length=l'.length) (h: ∀(i:Nat) (v v':SV),l[i]? =some v->l'[i]? =some v'->gP N v v'):gP N (.agg l) (.agg l')
 |aN {l l':List SV} (hl:l.length=l'.length) (h: ∀(i:Nat) (v v':SV),l[i]? =some v->l'[i]? =some v'->gP N v v'):gP N (.aN l) (.aN l')
 |func (fn:Fn) {a a' b b':List SV} (ha:a.length=a'.length) (hb:b.length=b'.length) (h: ∀(i:Nat) (v v':SV),a[i]? =some v->a'[i]? =some v'->gP N v v')
  (h': ∀(i:Nat) (v v':SV),b[i]? =some v->b'[i]? =some v'->gP N v v'):gP N (.func fn a b) (.func fn a' b')
theorem gP.flip{N:Nat->Nat->Prop}{v v':SV}(h:gP N v v'):gP (fun a b=>N b a) v' v:=by
 induction h with
 |lit h=>exact .lit h
 |ref h=>exact .ref h
 |sl h=>exact .sl h
 |cJ h=>exact .cJ h
 |iface t _ ih=>exact .iface t ih
 |agg hl _ ih=>exact .agg hl.symm fun i v v' a b=>ih i v' v b a
 |aN hl _ ih=>exact .aN hl.symm fun i v v' a b=>ih i v' v b a
 |func fn ha hb _ _ ih rY=>exact .func fn ha.symm hb.symm (fun i v v' a b=>ih i v' v b a) fun i v v' a b=>rY i v' v b a
theorem gP.cells{N:Nat->Nat->Prop}{v v':SV}(h:gP N v v'):v'.cells.length=v.cells.length/\ ∀(j:Nat) (u u':SV),v.cells[j]? =some u->v'.cells[j]? =some u'->gP N u u':=by
 have one: ∀ {v v':SV},gP N v v'->v.cells=[v]->v'.cells=[v']->v'.cells.length=v.cells.length/\ ∀(j:Nat) (u u':SV),v.cells[j]? =some u->v'.cells[j]? =some u'->gP N u u':=by
  intro v v' h h1 h2;rw[h1,h2];refine⟨rfl,fun j u u' hu pE=> ?_⟩;cases j with
  |zero=>simp at hu pE;subst hu;subst pE;exact h
  |succ j=>simp at hu
 cases h with
 |lit hl=>
  refine⟨rfl,fun j u u' hu pE=> ?_⟩;rw[hu]at pE;cases pE
  cases hl with
  |agg hh=>exact .lit (hh u (List.mem_of_getElem? hu))
  |_=>cases j with
   |zero=>simp only[SV.cells,List.getElem?_cons_zero,Option.some.injEq]at hu;subst hu;exact .lit (by constructor<;>assumption)
   |succ j=>simp[SV.cells]at hu
 |iface t h=>exact one (.iface t h) rfl rfl
 |agg hl h=>exact⟨hl.symm,h⟩
 |aN hl h=>exact one (.aN hl h) rfl rfl
 |func fn ha hb h h'=>exact one (.func fn ha hb h h') rfl rfl
 |sl h=>exact one (.sl h) rfl rfl
 |ref h=>exact one (.ref h) rfl rfl
 |cJ h=>exact one (.cJ h) rfl rfl
theorem iD{α:Type}{l l':List α}(hl:l.length=l'.length){i:Nat}{v:α}(h:l'[i]? =some v): ∃u,l[i]? =some u:=by
 have hi:i<l.length:=by
  rw[hl];rcases Nat.lt_or_ge i l'.length with h'|h'
  ·exact h'
  ·rw[List.getElem?_eq_none h']at h;cases h
 exact⟨_,List.getElem?_eq_getElem hi⟩
section
variable {N:Nat->Nat->Prop} {c c2:Cx} {A A2:Heap} {w:World}
theorem VR.Ck(sC: ∀b,c.Im b->c2.Im b)
  (hN: ∀i j,N i j->i<A.dA->j<A2.dA/\ ∀o2,A2.obj j=some o2-> ∃o,A.obj i=some o/\o.gen=o2.gen/\o.sz=o2.sz/\c2.β j=c.β i)
  {v v2:SV}(hr:gP N v v2): ∀ {x:Value},VR c A w v x->VR c2 A2 w v2 x:=by
 induction hr with
 |lit h=>intro x hv;exact .pure ((h.vp hv).mono sC fun _ _=>rfl)
 |ref hn=>
  rename_i i j g a b;intro x hv;cases hv with
  |pure h=>cases h
  |ref i g idx sub x hx hi hg h=>
   obtain⟨h1,h2⟩:=hN _ _ hn hi;refine .ref _ _ _ _ x hx h1 (fun o2 tf=> ?_) fun o2 tf hgo=> ?_
   ·obtain⟨o,ho,e1,e2,e3⟩:=h2 o2 tf
    exact e1▸hg o ho
   ·obtain⟨o,ho,e1,e2,e3⟩:=h2 o2 tf
    rw[h o ho (e1.trans hgo),e2,e3]
 |sl hn=>
  intro x hv;cases hv with
  |pure h=>cases h
  |sl i g sz off len cap x hx hi hg h=>
   obtain⟨h1,h2⟩:=hN _ _ hn hi;refine .sl _ _ _ _ _ _ x hx h1 (fun o2 tf=> ?_) fun o2 tf hgo=> ?_
   ·obtain⟨o,ho,e1,e2,e3⟩:=h2 o2 tf
    exact e1▸hg o ho
   ·obtain⟨o,ho,e1,e2,e3⟩:=h2 o2 tf
    rw[<- e2,e3];exact h o ho (e1.trans hgo)
 |cJ hn=>
  intro x hv;cases hv with
  |pure h=>cases h
  |cJ i g x hx hi hg h=>
   obtain⟨h1,h2⟩:=hN _ _ hn hi;refine .cJ _ _ x hx h1 (fun o2 tf=> ?_) fun o2 tf hgo=> ?_
   ·obtain⟨o,ho,e1,e2,e3⟩:=h2 o2 tf
    exact e1▸hg o ho
   ·obtain⟨o,ho,e1,e2,e3⟩:=h2 o2 tf
    rw[e3];exact h o ho (e1.trans hgo)
 |iface t _ ih=>intro x hv;obtain⟨y,rfl,hy⟩:=hv.fR;exact .iface t _ _ (ih hy)
 |agg hl _ ih=>
  intro x hv;obtain⟨cs,rfl,h1,h2⟩:=hv.gu;refine .agg _ _ (h1.trans hl) fun i v x a b=> ?_
  obtain⟨u,hu⟩:=iD hl a;exact ih i u v hu a (h2 i u x hu b)
 |aN hl _ ih=>
  intro x hv;obtain⟨cs,rfl,h1,h2⟩:=hv.kB;refine .aN _ _ (h1.trans hl) fun i v x a b=> ?_
  obtain⟨u,hu⟩:=iD hl a;exact ih i u v hu a (h2 i u x hu b)
 |func fn ha hb _ _ ih rY=>
  intro x hv;obtain⟨a',b',rfl,h1,h2,h3,h4⟩:=hv.ny;refine .func fn _ _ _ _ (h1.trans ha) (h2.trans hb) (fun i v x a b=> ?_) fun i v x a b=> ?_
  ·obtain⟨u,hu⟩:=iD ha a
   exact ih i u v hu a (h3 i u x hu b)
  ·obtain⟨u,hu⟩:=iD hb a
   exact rY i u v hu a (h4 i u x hu b)
inductive mN(N:Nat->Nat->Prop):aA->aA->Prop
 |vec {g sz:Nat} {es es':List SV} {sk:Sk} (hl:es.length=es'.length) (h: ∀(i:Nat) (v v':SV),es[i]? =some v->es'[i]? =some v'->gP N v v'):mN N (.vec g sz es sk) (.vec g sz es' sk)
 |iter (s:List UInt8) (pos:Nat):mN N (.iter s pos) (.iter s pos)
 |map (es:List (SV×SV×Nat)) (clock:Nat):mN N (.map es clock) (.map es clock)
 |bU {m m':SV} (h:gP N m m') (since:Nat) (seen:List Nat) (stepped:Nat):mN N (.bU m since seen stepped) (.bU m' since seen stepped)
 |js (g:Nat) (ty:TypeId) (xs:List SV):mN N (.js g ty xs) (.js g ty xs)
theorem mN.flip{o o':aA}(h:mN N o o'):mN (fun a b=>N b a) o' o:=by
 cases h with
 |vec hl h=>exact .vec hl.symm fun i v v' a b=>(h i v' v b a).flip
 |iter s pos=>exact .iter s pos
 |map es clock=>exact .map es clock
 |bU h a b c=>exact .bU h.flip a b c
 |js g ty xs=>exact .js g ty xs
theorem mN.gen{o o':aA}(h:mN N o o'):o.gen=o'.gen/\o.sz=o'.sz:=by cases h<;>exact⟨rfl,rfl⟩
theorem OR.Ck(sC: ∀b,c.Im b->c2.Im b)
  (hN: ∀i j,N i j->i<A.dA->j<A2.dA/\ ∀o2,A2.obj j=some o2-> ∃o,A.obj i=some o/\o.gen=o2.gen/\o.sz=o2.sz/\c2.β j=c.β i)
  {b:Nat}{o o2:aA}(hr:mN N o o2)(h:OR c A w b o):OR c2 A2 w b o2:=by
 cases hr with
 |vec hl nV=>
  cases h with
  |vec _ _ _ _ C ty fz hw hle heq hty hc hf hcell=>
   refine .vec _ _ _ _ C ty fz hw (hl▸hle) (fun hs=>hl▸heq hs) hty (fun v hv=> ?_) hf fun i j e v x h1 h2 h3=> ?_
   ·obtain⟨i,hi⟩:=List.mem_iff_getElem?.1 hv
    obtain⟨u,hu⟩:=iD hl hi;rw[(nV i u v hu hi).cells.1];exact hc u (List.mem_of_getElem? hu)
   ·obtain⟨u,hu⟩:=iD hl h1
    obtain⟨d,hd⟩:=iD ((nV i u e hu h1).cells.1.symm) h2;exact VR.Ck sC hN ((nV i u e hu h1).cells.2 j d v hd h2) (hcell i j u d x hu hd h3)
 |iter s pos=>cases h with|iter _ _ hw=>exact .iter s pos hw
 |map es clock=>cases h with|map _ _ hw hs=>exact .map es clock hw hs
 |bU hm a d e=>cases h with|bU _ _ _ _ r hw hm'=>exact .bU _ _ _ _ r hw (VR.Ck sC hN hm hm')
 |js g ty xs=>cases h with|js _ _ _ C fz hw hle hc=>exact .js g ty xs C fz hw hle hc
end
inductive Jg(N:Nat->Nat->Prop):bV->bV->Prop
 |ret {v v':SV} (h:gP N v v'):Jg N (.ret v) (.ret v')
 |cZ {v v':SV} (h:gP N v v'):Jg N (.cZ v) (.cZ v')
inductive yd(N:Nat->Nat->Prop):List SV->List SV->Prop
 |nil:yd N [] []
 |cons {v v':SV} {l l':List SV} (h:gP N v v') (r:yd N l l'):yd N (v::l) (v'::l')
theorem yd.len{N:Nat->Nat->Prop}{l l':List SV}(h:yd N l l'):l.length=l'.length:=by induction h<;>simp_all
theorem yd.at_{N:Nat->Nat->Prop}{l l':List SV}(h:yd N l l'): ∀ {i:Nat} {v:SV},l[i]? =some v-> ∃u,l'[i]? =some u/\gP N v u:=by
 induction h with
 |nil=>intro i v hv;simp at hv
 |cons h _ ih=>
  intro i v hv;cases i with
  |zero=>simp at hv;subst hv;exact⟨_,rfl,h⟩
  |succ i=>simp at hv;obtain⟨u,hu,hh⟩:=ih hv;exact⟨u,by simpa using hu,hh⟩
structure Fr(N:Nat->Nat->Prop)(m n:Nat)(l:List (Nat×aA))(N':Nat->Nat->Prop)(r:bV)(h':Heap)(r2:bV)(h2:Heap):Prop where
 old: ∀k j,N' k j->(k<m/\N k j)\/(m<=k/\n<=j)
 inj: ∀k k' j,N' k j->N' k' j->k=k'
 fn: ∀k j j',N' k j->N' k j'->j=j'
 lt: ∀k j,N' k j->k<h'.dA->j<h2.dA
 dA:n<=h2.dA
 obj: ∀j o2,h2.obj j=some o2->j<h2.dA/\((∃ k o,N' k j/\h'.obj k=some o/\mN N' o o2)\/(aG l j=some o2/\ ∀k,¬N k j))
 ret:Jg N' r r2
open Classical in
theorem aP.frame {P:Program} {f:FuncId} {N:Nat->Nat->Prop} {m n:Nat} {L l:List (Nat×aA)} {args args2:List SV} {R:bV->Heap->Prop}
  (hL: ∀k o,aG L k=some o->k<m/\ ∃j o2,N k j/\aG l j=some o2/\mN N o o2) (hm: ∀k j,N k j->k<m/\ ∃o,aG L k=some o)
  (hinj: ∀k k' j,N k j->N k' j->k=k') (hfn: ∀k j j',N k j->N k j'->j=j') (ha:yd N args args2)
  (hp:aP P f args ⟨m,L⟩ fun r h'=> ∃N' r2 h2,Fr N m n l N' r h' r2 h2/\R r2 h2):aP P f args2 ⟨n,l⟩ R:=by
 refine⟨fun c w xs hr hs E1=> ?_⟩
 let c1:Cx:=⟨fun k=>if h: ∃j,N k j then c.β (choose h)else 0,c.Im⟩
 have sW: ∀ {k j:Nat},N k j->c1.β k=c.β j:=fun{k j} h=>by
  have he: ∃j,N k j:=⟨j,h⟩;show(if h: ∃j,N k j then c.β (choose h)else 0)=c.β j;rw[dif_pos he,hfn k _ _ (choose_spec he) h]
 have hlk: ∀ {k j:Nat},N k j-> ∃o o2,aG L k=some o/\aG l j=some o2/\mN N o o2:=fun{k j} h=>by
  obtain⟨_,o,ho⟩:=hm k j h;obtain⟨_,j',o2,hn,tf,nV⟩:=hL k o ho;cases hfn k j j' h hn
  exact⟨o,o2,ho,tf,nV⟩
 have Ux: ∀j k,N k j->j<n->k<m/\ ∀o,(Heap.mk m L).obj k=some o-> ∃o2,(Heap.mk n l).obj j=some o2/\o2.gen=o.gen/\o2.sz=o.sz/\c1.β k=c.β j:=fun j k h _=>by
  refine⟨(hm k j h).1,fun o ho=> ?_⟩;obtain⟨o',o2,h1,h2,h3⟩:=hlk h;have ho:aG L k=some o:=ho;rw[h1]at ho;cases ho
  exact⟨o2,h2,h3.gen.1.symm,h3.gen.2.symm,sW h⟩
 have qh:bP c1 ⟨m,L⟩ w:=by
  refine⟨fun k o ho=>(hL k o ho).1,fun k o ho=> ?_,fun k k' o p ho hp he=> ?_,fun k o ho hb=> ?_,hr.im,hr.cV⟩
  ·obtain⟨_,j,o2,h1,h2,h3⟩:=hL k o ho
   rw[sW h1];exact OR.Ck (N:=fun a b=>N b a) (c:=c) (c2:=c1) (A:=⟨n,l⟩) (A2:=⟨m,L⟩) (fun b hb=>hb) Ux h3.flip (hr.obj j o2 h2)
  ·obtain⟨_,j,o2,h1,h2,h3⟩:=hL k o ho
   obtain⟨_,j',p2,L2,nk,X6⟩:=hL k' p hp;rw[sW h1,sW L2]at he;cases hr.inj j j' o2 p2 h2 nk he
   exact hinj _ _ _ h1 L2
  ·obtain⟨_,j,o2,h1,h2,h3⟩:=hL k o ho
   rw[sW h1]at hb;exact hr.apart j o2 h2 hb
 refine(hp.calls c1 w xs qh (hs.trans ha.len.symm) fun i v x hi hx=> ?_).mono fun en w' hpost=> ?_
 ·obtain⟨u,hu,huv⟩:=ha.at_ hi
  exact VR.Ck (N:=fun a b=>N b a) (c:=c) (c2:=c1) (A:=⟨n,l⟩) (A2:=⟨m,L⟩) (fun b hb=>hb) Ux huv.flip (E1 i u x hu hx)
 obtain⟨c',h',r,⟨N',r2,h2,hF,hR⟩,hr',hx',yL⟩:=hpost
 let c2:Cx:=⟨fun j=>if h: ∃k,N' k j then c'.β (choose h)else c.β j,c'.Im⟩
 have ye: ∀ {k j:Nat},N' k j->c2.β j=c'.β k:=fun{k j} h=>by
  have he: ∃k,N' k j:=⟨k,h⟩;show(if h: ∃k,N' k j then c'.β (choose h)else c.β j)=c'.β k;rw[dif_pos he,hF.inj _ _ j (choose_spec he) h]
 have yf: ∀ {j:Nat} {o:aA},aG l j=some o->(∀ k,¬N k j)->c2.β j=c.β j/\ ∀k,¬N' k j:=fun{j o} h hn=>by
  have hj:j<n:=hr.lt j o h
  have hno: ∀k,¬N' k j:=fun k hk=>by
   rcases hF.old k j hk with⟨_,h1⟩|⟨_,h1⟩
   ·exact hn k h1
   ·omega
  refine⟨?_,hno⟩;show(if h: ∃k,N' k j then c'.β (choose h)else c.β j)=c.β j;rw[dif_neg (fun⟨k,hk⟩=>hno k hk)]
 have hfr: ∀b,b<w.heap.size->(∀ j o,aG l j=some o->c.β j≠b)->w'.heap[b]? =w.heap[b]? :=fun b hb hn=>hx'.frame b hb fun k o ho he=>by
  obtain⟨_,j,o2,h1,h2,_⟩:=hL k o ho;rw[sW h1]at he;exact hn j o2 h2 he
 have hold: ∀ {k j:Nat} {o':aA},N' k j->k<m->h'.obj k=some o'-> ∃o o2,aG L k=some o/\aG l j=some o2/\mN N o o2/\o2.gen<=o'.gen/\o2.sz=o'.sz/\(o2.gen=o'.gen->c'.β k=c.β j)/\N k j:=fun{k j o'} hn hk ho'=>by
  rcases hF.old k j hn with⟨_,h1⟩|⟨h1,_⟩
  ·obtain⟨o,o2,e1,e2,e3⟩:=hlk h1
   obtain⟨o',e4,e5,e6,e7⟩:=hx'.old k _ hk ho';have e4:aG L k=some o':=e4;rw[e1]at e4;cases e4
   refine⟨o,o2,e1,e2,e3,by rw[<- e3.gen.1];exact e5,by rw[<- e3.gen.2];exact e6,fun h=> ?_,h1⟩;rw[e7 (by rw[e3.gen.1];exact h),sW h1]
  ·omega
 have ng:Ext c ⟨n,l⟩ w c2 h2 w':=by
  refine⟨hx'.os,hx'.tape,hx'.output,hx'.size,hfr,hx'.shape,fun b hb=>hx'.im b hb,fun b hb=> ?_,hF.dA,fun j o2 hj tf=> ?_,fun j o2 tf=> ?_⟩
  ·rcases hx'.im' b hb with h|h|⟨k,o,ho,he⟩
   ·exact .inl h
   ·exact .inr (.inl h)
   ·obtain⟨_,j,o2,h1,h2,_⟩:=hL k o ho
    exact .inr (.inr ⟨j,o2,h2,(sW h1).symm.trans he⟩)
  ·have hj:j<n:=hj
   rcases(hF.obj j o2 tf).2 with⟨k,o',hn,ho',nV⟩|⟨ho,hn⟩
   ·have hk:k<m:=by
     rcases hF.old k j hn with⟨h1,_⟩|⟨_,h1⟩
     ·exact h1
     ·omega
    obtain⟨o,q,e1,e2,e3,e4,e5,e6,_⟩:=hold hn hk ho';refine⟨q,e2,by rw[<- nV.gen.1];exact e4,by rw[<- nV.gen.2];exact e5,fun h=> ?_⟩;rw[ye hn];exact e6 (by rw[nV.gen.1];exact h)
   ·exact⟨o2,ho,Nat.le_refl _,rfl,fun _=>(yf ho hn).1⟩
  ·rcases(hF.obj j o2 tf).2 with⟨k,o',hn,ho',nV⟩|⟨ho,hn⟩
   ·rw[ye hn]
    rcases hx'.new k o' ho' with h|⟨o,ho,he⟩
    ·exact .inl h
    ·obtain⟨hk,j',q,e1,e2,_⟩:=hL k o ho
     rcases hF.old k j hn with⟨_,h1⟩|⟨h1,_⟩
     ·cases hfn k j j' h1 e1
      exact .inr ⟨q,e2,he.trans (sW h1)⟩
     ·omega
   ·exact .inr ⟨o2,ho,(yf ho hn).1⟩
 have SP: ∀k j,N' k j->k<h'.dA->j<h2.dA/\ ∀o2,h2.obj j=some o2-> ∃o,h'.obj k=some o/\o.gen=o2.gen/\o.sz=o2.sz/\c2.β j=c'.β k:=fun k j hn hk=>by
  refine⟨hF.lt k j hn hk,fun o2 tf=> ?_⟩;rcases(hF.obj j o2 tf).2 with⟨k',o',hn',ho',nV⟩|⟨ho,hno⟩
  ·cases hF.inj k k' j hn hn'
   exact⟨o',ho',nV.gen.1,nV.gen.2,ye hn⟩
  ·exact absurd hn ((yf ho hno).2 k)
 have Ar: ∀ {k j j':Nat} {o' o2:aA},N' k j->h'.obj k=some o'->aG l j'=some o2->(∀ k,¬N k j')->c'.β k≠c.β j':=fun{k j j' o' o2} hn ho' tf hno he=>by
  have hb:=(hr.obj j' o2 tf).lt;rcases hx'.new k o' ho' with h|⟨o,ho,he'⟩
  ·omega
  ·obtain⟨hk,i,q,e1,e2,_⟩:=hL k o ho
   rw[he',sW e1]at he;cases hr.inj i j' q o2 e2 tf he
   exact hno k e1
 have BO:bP c2 h2 w':=by
  refine⟨fun j o ho=>(hF.obj j o ho).1,fun j o ho=> ?_,fun j j' o p ho hp he=> ?_,fun j o ho hb=> ?_,fun b hb=>hr'.im b hb,hr'.cV⟩
  ·rcases(hF.obj j o ho).2 with⟨k,o',hn,ho',nV⟩|⟨ho',hno⟩
   ·rw[ye hn]
    exact OR.Ck (c:=c') (c2:=c2) (A:=h') (A2:=h2) (fun b hb=>hb) SP nV (hr'.obj k o' ho')
   ·rw[(yf ho' hno).1]
    refine(hr.obj j o ho').mono hr ng (hx'.frame _ (hr.obj j o ho').lt fun k o1 SQ he=> ?_);obtain⟨_,i,q,e1,e2,_⟩:=hL k o1 SQ;rw[sW e1]at he;cases hr.inj i j q o e2 ho' he
    exact hno k e1
  ·rcases(hF.obj j o ho).2 with⟨k,o',hn,ho',nV⟩|⟨ho',hno⟩
   ·rcases(hF.obj j' p hp).2 with⟨k2,p',hn2,hp',Qs⟩|⟨hp',Jh⟩
    ·rw[ye hn,ye hn2]at he
     cases hr'.inj k k2 o' p' ho' hp' he
     exact hF.fn k _ _ hn hn2
    ·rw[ye hn,(yf hp' Jh).1]at he
     exact absurd he (Ar hn ho' hp' Jh)
   ·rcases(hF.obj j' p hp).2 with⟨k2,p',hn2,hp',Qs⟩|⟨hp',Jh⟩
    ·rw[ye hn2,(yf ho' hno).1]at he
     exact absurd he.symm (Ar hn2 hp' ho' hno)
    ·rw[(yf hp' Jh).1,(yf ho' hno).1]at he
     exact hr.inj j j' o p ho' hp' he
  ·rcases(hF.obj j o ho).2 with⟨k,o',hn,ho',nV⟩|⟨ho',hno⟩
   ·rw[ye hn]at hb
    exact hr'.apart k o' ho' hb
   ·rw[(yf ho' hno).1]at hb
    rcases hx'.im' _ hb with h|h|⟨k,o1,SQ,he⟩
    ·exact hr.apart j o ho' h
    ·have:=(hr.obj j o ho').lt
     omega
    ·obtain⟨_,i,q,e1,e2,_⟩:=hL k o1 SQ
     rw[sW e1]at he;cases hr.inj i j q o e2 ho' he
     exact hno k e1
 refine⟨c2,h2,r2,hR,BO,ng,?_⟩;cases hF.ret with
 |ret h=>obtain⟨x,rfl,hx⟩:=yL;exact⟨x,rfl,VR.Ck (c:=c') (c2:=c2) (A:=h') (A2:=h2) (fun b hb=>hb) SP h hx⟩
 |cZ h=>obtain⟨x,rfl,hx⟩:=yL;exact⟨x,rfl,VR.Ck (c:=c') (c2:=c2) (A:=h') (A2:=h2) (fun b hb=>hb) SP h hx⟩
inductive wP(A:Heap):bV->bV->Prop
 |ret {v v':SV} (h:cA A v v'):wP A (.ret v) (.ret v')
 |cZ {v v':SV} (h:cA A v v'):wP A (.cZ v) (.cZ v')
theorem aP.yg{P:Program}{f:FuncId}{args:List SV}{h:Heap}{R:bV->Heap->Prop}
  (hp:aP P f args h fun r h'=> ∃(S:Nat->Bool) (r2:bV),wP ⟨h'.dA,qX S h'.l⟩ r r2/\R r2 ⟨h'.dA,iQ S h'.l⟩):aP P f args h R:=by
 refine⟨fun c w xs hr hs hv=>(hp.calls c w xs hr hs hv).mono fun en w' ⟨c',h',r,⟨S,r2,hh,hR⟩,hr',hx',yL⟩=> ?_⟩;refine⟨Ab.ld S c' h',⟨h'.dA,iQ S h'.l⟩,r2,hR,hr'.ld S,hx'.trans hr (Ext.ld S),?_⟩;cases hh with
 |ret h=>obtain⟨x,rfl,hx⟩:=yL;exact⟨x,rfl,.pure (h.ld S hr' hx)⟩
 |cZ h=>obtain⟨x,rfl,hx⟩:=yL;exact⟨x,rfl,.pure (h.ld S hr' hx)⟩
def Ji:aA->Prop
 | .vec g _ es _=>g=0/\ ∀v∈es,bA v
 |_=>False
def M7:bV->Prop
 | .ret v=>bA v
 | .cZ v=>bA v
theorem As{N:Nat->Nat->Prop}{o:aA}(h:Ji o):mN N o o:=by
 cases o with
 |vec g sz es sk=>exact .vec rfl fun i v v' a b=>by rw[a]at b;cases b;exact .lit (h.2 v (List.mem_of_getElem? a))
 |_=>exact h.elim
theorem At{N:Nat->Nat->Prop}{e:bV}(h:M7 e):Jg N e e:=by
 cases e with
 |ret v=>exact .ret (.lit h)
 |cZ v=>exact .cZ (.lit h)
theorem l6{N:Nat->Nat->Prop}: ∀ {l:List SV},(∀ a∈l,bA a)->yd N l l
 | [],_=> .nil
 |a::r,h=> .cons (.lit (h a (by simp))) (l6 fun b hb=>h b (by simp[hb]))
def Fq(j:Nat):Bool:=bif Nat.beq j 0 then false else true
inductive vC(A:Heap):List SV->List SV->Prop
 |nil:vC A [] []
 |same {v:SV} {l l':List SV} (r:vC A l l'):vC A (v::l) (v::l')
 |yg {v v':SV} {l l':List SV} (h:cA A v v') (r:vC A l l'):vC A (v::l) (v'::l')
theorem vC.len{A:Heap}{l l':List SV}(h:vC A l l'):l.length=l'.length:=by induction h<;>simp_all
theorem vC.at_{A:Heap}{l l':List SV}(h:vC A l l'): ∀ {i:Nat} {v:SV},l'[i]? =some v-> ∃u,l[i]? =some u/\(u=v\/cA A u v):=by
 induction h with
 |nil=>intro i v hv;simp at hv
 |same _ ih=>
  intro i v hv;cases i with
  |zero=>simp at hv;subst hv;exact⟨_,rfl,.inl rfl⟩
  |succ i=>simp at hv;obtain⟨u,hu,hh⟩:=ih hv;exact⟨u,by simpa using hu,hh⟩
 |yg h _ ih=>
  intro i v hv;cases i with
  |zero=>simp at hv;subst hv;exact⟨_,rfl,.inr h⟩
  |succ i=>simp at hv;obtain⟨u,hu,hh⟩:=ih hv;exact⟨u,by simpa using hu,hh⟩
theorem aP.Hu{P:Program}{f:FuncId}{args args':List SV}{n:Nat}{l:List (Nat×aA)}{R:bV->Heap->Prop}(S:Nat->Bool)(hh:vC ⟨n,qX S l⟩ args args')
  (hp:aP P f args' ⟨n,iQ S l⟩ R):aP P f args ⟨n,l⟩ R:=by
 refine⟨fun c w xs hr hs hv=> ?_⟩;refine(hp.calls (Ab.ld S c ⟨n,l⟩) w xs (hr.ld S) (hs.trans hh.len) fun i v x hi hx=> ?_).mono fun en w' hpost=> ?_
 ·obtain⟨u,hu,huv⟩:=hh.at_ hi
  rcases huv with rfl|huv
  ·exact(hv i u x hu hx).mono hr (Ext.ld S)
  ·exact .pure (huv.ld S hr (hv i u x hu hx))
 ·obtain⟨c',h',r,hR,hr',hx',yL⟩:=hpost
  exact⟨c',h',r,hR,hr',(Ext.ld S).trans hr hx',yL⟩
theorem au.less{P:Program}{f:FuncId}{args:List SV}{v v':SV}(hp:au P f args v)(hl:bA v)(hv: ∀Im w x,VP Im w v x->VP Im w v' x){h:Heap}{R:bV->Heap->Prop}(hR:R (.ret v') h):aP P f args h R:=by
 have hr:=hp.run h;refine⟨fun c w xs BO hs E1=>(hr.calls c w xs BO hs E1).mono fun en w' ⟨c',h',r,⟨qh,iw⟩,hr',hx',yL⟩=> ?_⟩;subst qh;subst iw;obtain⟨x,rfl,hx⟩:=yL;exact⟨c',h',.ret v',hR,hr',hx',x,rfl,.pure (hv _ _ _ (hl.vp hx))⟩
def wQ:bV->Bool
 | .ret _=>true
 | .cZ _=>false
structure dj(P:Program)(f:FuncId)(as:List SV)(o:aA)(e:bV)(o':aA):Prop where
 args: ∀a∈as,bA a
 lit:Ji o
 lit':Ji o'
 end_:M7 e
 Qt:aP P f (.ref 0 0 0 0::as) ⟨1,[(0,o)]⟩ fun r h'=>wP ⟨h'.dA,qX Fq h'.l⟩ r e/\(wQ e=true->h'.obj 0=some o')
theorem dj.run{P:Program}{f:FuncId}{as:List SV}{o:aA}{e:bV}{o':aA}(hp:dj P f as o e o'){i n:Nat}{l:List (Nat×aA)}(ho:aG l i=some o):aP P f (.ref i 0 0 0::as) ⟨n,l⟩ fun r h'=>r=e/\(wQ e=true->h'=⟨n,bC l i o'⟩)/\(wQ e=false->h'=⟨n,iQ (fun j=>Nat.beq j i) l⟩):=by
 have hlt: ∀ {R:bV->Heap->Prop},((∀ j p,aG l j=some p->j<n)->aP P f (.ref i 0 0 0::as) ⟨n,l⟩ R)->aP P f (.ref i 0 0 0::as) ⟨n,l⟩ R:=fun h=>⟨fun c w xs hr hs hv=>(h fun j p hj=>hr.lt j p hj).calls c w xs hr hs hv⟩
 refine hlt fun hlt=> ?_
 have hi:=hlt i o ho;refine aP.frame (N:=fun k j=>k=0/\j=i) (m:=1) (L:=[(0,o)]) (args:= .ref 0 0 0 0::as) (fun k q hk=> ?_) (fun k j hk=> ?_) (fun k k' j h h'=>h.1.trans h'.1.symm) (fun k j j' h h'=>h.2.trans h'.2.symm) (.cons (.ref ⟨rfl,rfl⟩) (l6 hp.args)) (aP.yg ?_)
 ·unfold aG at hk
  by_cases h:0=k
  ·rw[if_pos h]at hk;cases hk;subst h
   exact⟨by omega,i,_,⟨rfl,rfl⟩,ho,As hp.lit⟩
  ·rw[if_neg h]at hk;cases hk
 ·obtain⟨rfl,rfl⟩:=hk
  exact⟨by omega,_,rfl⟩
 ·refine hp.Qt.mono fun r h' ⟨hh,ho'⟩=>⟨Fq,e,hh,?_⟩
  cases hb:wQ e with
  |true=>
   refine⟨fun k j=>k=0/\j=i,e,⟨n,bC l i o'⟩,⟨fun k j h=> .inl ⟨by omega,h⟩,fun k k' j h h'=>h.1.trans h'.1.symm,fun k j j' h h'=>h.2.trans h'.2.symm,fun k j h _=>h.2▸hi,Nat.le_refl _,fun j o2 hj=> ?_,At hp.end_⟩,rfl,fun _=>rfl,fun h=>by cases h⟩;by_cases hji:j=i
   ·subst hji
    have hj:aG (bC l j o') j=some o2:=hj;rw[eM ho]at hj;cases hj
    refine⟨hi,.inl ⟨0,o',⟨rfl,rfl⟩,?_,As hp.lit'⟩⟩;show aG (iQ Fq h'.l) 0=some o';rw[gj];exact ho' hb
   ·have hj:aG (bC l i o') j=some o2:=hj
    rw[cG hji]at hj;exact⟨hlt j _ hj,.inr ⟨hj,fun k hk=>hji hk.2⟩⟩
  |false=>
   refine⟨fun k j=>k=0/\j=i,e,⟨n,iQ (fun j=>Nat.beq j i) l⟩,⟨fun k j h=> .inl ⟨by omega,h⟩,fun k k' j h h'=>h.1.trans h'.1.symm,fun k j j' h h'=>h.2.trans h'.2.symm,fun k j h _=>h.2▸hi,Nat.le_refl _,fun j o2 hj=> ?_,At hp.end_⟩,rfl,(fun h=>by cases h),fun _=>rfl⟩;have hj:aG (iQ (fun j=>Nat.beq j i) l) j=some o2:=hj;rw[gj]at hj;split at hj
   ·cases hj
   ·rename_i hne
    exact⟨hlt j _ hj,.inr ⟨hj,fun k hk=>hne (by rw[hk.2];exact Nat.beq_refl i)⟩⟩
theorem dj.call{P:Program}{f:FuncId}{as:List SV}{o:aA}{v:SV}{o':aA}(hp:dj P f as o (.ret v) o'){i n:Nat}{l:List (Nat×aA)}{R:bV->Heap->Prop}(ho:aG l i=some o)
 (hR:R (.ret v) ⟨n,bC l i o'⟩):aP P f (.ref i 0 0 0::as) ⟨n,l⟩ R:=(hp.run ho).mono fun r h' ⟨h1,h2,_⟩=>by rw[h1,h2 rfl];exact hR
theorem dj.cZ{P:Program}{f:FuncId}{as:List SV}{o:aA}{v:SV}{o':aA}(hp:dj P f as o (.cZ v) o'){i n:Nat}{l:List (Nat×aA)}{R:bV->Heap->Prop}(ho:aG l i=some o)
 (hR: ∀h',R (.cZ v) h'):aP P f (.ref i 0 0 0::as) ⟨n,l⟩ R:=(hp.run ho).mono fun r h' ⟨h1,_⟩=>by rw[h1];exact hR h'
theorem dj.Qu{P:Program}{f:FuncId}{as:List SV}{o:aA}{v:SV}{o':aA}(hp:dj P f as o (.cZ v) o'){i n:Nat}{l:List (Nat×aA)}{R:bV->Heap->Prop}(ho:aG l i=some o)
 (hR:R (.cZ v) ⟨n,iQ (fun j=>Nat.beq j i) l⟩):aP P f (.ref i 0 0 0::as) ⟨n,l⟩ R:=(hp.run ho).mono fun r h' ⟨h1,_,h2⟩=>by rw[h1,h2 rfl];exact hR
theorem cO{o':aA}{h':Heap}{v v':SV}(hh:cA ⟨h'.dA,qX Fq h'.l⟩ v v')(ho:h'.obj 0=some o'):wP ⟨h'.dA,qX Fq h'.l⟩ (.ret v) (.ret v')/\(wQ (.ret v')=true->h'.obj 0=some o'):=⟨.ret hh,fun _=>ho⟩
theorem cI{o':aA}{h':Heap}{v:SV}(hl:bA v):wP ⟨h'.dA,qX Fq h'.l⟩ (.cZ v) (.cZ v)/\(wQ (.cZ v)=true->h'.obj 0=some o'):=⟨.cZ (.lit hl),fun h=>by cases h⟩
end
end Ab
