/- Parts of the proof of PCatalogBack, one behind the other, with short names. -/
import Derived.Test.YtegmnocpkgpgeaaGreatDoorZ21
set_option linter.unusedVariables false
set_option linter.unusedSimpArgs false
namespace Ab
open Go
section
inductive iQ(N:Nat->Nat->Prop):SV->SV->Prop
 |lit {v:SV} (h:aL v):iQ N v v
 |ref {i j g a b:Nat} (h:N i j):iQ N (.ref i g a b) (.ref j g a b)
 |sl {i j g sz off len:Nat} {cap:Option Nat} (h:N i j):iQ N (.sl i g sz off len cap) (.sl j g sz off len cap)
 |cW {i j g:Nat} (h:N i j):iQ N (.cW i g) (.cW j g)
 |iface (t:TypeId) {v v':SV} (h:iQ N v v'):iQ N (.iface t v) (.iface t v')
 |agg {l l':List SV} (hl:l.length=l'.length) (h: ∀(i:Nat) (v v':SV),l[i]? =some v->l'[i]? =some v'->iQ N v v'):iQ N (.agg l) (.agg l')
 |bn {l l':List SV} (hl:l.length=l'.length) (h: ∀(i:Nat) (v v':SV),l[i]? =some v->l'[i]? =some v'->iQ N v v'):iQ N (.bn l) (.bn l')
 |func (fn:Fn) {a a' b b':List SV} (ha:a.length=a'.length) (hb:b.length=b'.length) (h: ∀(i:Nat) (v v':SV),a[i]? =some v->a'[i]? =some v'->iQ N v v')
  (h': ∀(i:Nat) (v v':SV),b[i]? =some v->b'[i]? =some v'->iQ N v v'):iQ N (.func fn a b) (.func fn a' b')
theorem iQ.flip{N:Nat->Nat->Prop}{v v':SV}(h:iQ N v v'):iQ (fun a b=>N b a) v' v:=by
 induction h with
 |lit h=>exact .lit h
 |ref h=>exact .ref h
 |sl h=>exact .sl h
 |cW h=>exact .cW h
 |iface t _ ih=>exact .iface t ih
 |agg hl _ ih=>exact .agg hl.symm fun i v v' a b=>ih i v' v b a
 |bn hl _ ih=>exact .bn hl.symm fun i v v' a b=>ih i v' v b a
 |func fn ha hb _ _ ih Ak=>exact .func fn ha.symm hb.symm (fun i v v' a b=>ih i v' v b a) fun i v v' a b=>Ak i v' v b a
theorem iQ.cells{N:Nat->Nat->Prop}{v v':SV}(h:iQ N v v'):v'.cells.length=v.cells.length/\ ∀(j:Nat) (u u':SV),v.cells[j]? =some u->v'.cells[j]? =some u'->iQ N u u':=by
 have one: ∀ {v v':SV},iQ N v v'->v.cells=[v]->v'.cells=[v']->v'.cells.length=v.cells.length/\ ∀(j:Nat) (u u':SV),v.cells[j]? =some u->v'.cells[j]? =some u'->iQ N u u':=by
  intro v v' h h1 h2;rw[h1,h2];refine⟨rfl,fun j u u' hu rK=> ?_⟩;cases j with
  |zero=>simp at hu rK;subst hu;subst rK;exact h
  |succ j=>simp at hu
 cases h with
 |lit hl=>
  refine⟨rfl,fun j u u' hu rK=> ?_⟩;rw[hu]at rK;cases rK
  cases hl with
  |agg hh=>exact .lit (hh u (List.mem_of_getElem? hu))
  |_=>cases j with
   |zero=>simp only[SV.cells,List.getElem?_cons_zero,Option.some.injEq]at hu;subst hu;exact .lit (by constructor<;>assumption)
   |succ j=>simp[SV.cells]at hu
 |iface t h=>exact one (.iface t h) rfl rfl
 |agg hl h=>exact⟨hl.symm,h⟩
 |bn hl h=>exact one (.bn hl h) rfl rfl
 |func fn ha hb h h'=>exact one (.func fn ha hb h h') rfl rfl
 |sl h=>exact one (.sl h) rfl rfl
 |ref h=>exact one (.ref h) rfl rfl
 |cW h=>exact one (.cW h) rfl rfl
theorem j7{α:Type}{l l':List α}(hl:l.length=l'.length){i:Nat}{v:α}(h:l'[i]? =some v): ∃u,l[i]? =some u:=by
 have hi:i<l.length:=by
  rw[hl];rcases Nat.lt_or_ge i l'.length with h'|h'
  ·exact h'
  ·rw[List.getElem?_eq_none h']at h;cases h
 exact⟨_,List.getElem?_eq_getElem hi⟩
section
variable {N:Nat->Nat->Prop} {c c2:Cx} {A A2:Heap} {w:World}
theorem VR.zx(tv: ∀b,c.Im b->c2.Im b)
  (hN: ∀i j,N i j->i<A.cI->j<A2.cI/\ ∀o2,A2.obj j=some o2-> ∃o,A.obj i=some o/\o.gen=o2.gen/\o.sz=o2.sz/\c2.β j=c.β i)
  {v v2:SV}(hr:iQ N v v2): ∀ {x:Value},VR c A w v x->VR c2 A2 w v2 x:=by
 induction hr with
 |lit h=>intro x hv;exact .pure ((h.vp hv).mono tv fun _ _=>rfl)
 |ref hn=>
  rename_i i j g a b;intro x hv;cases hv with
  |pure h=>cases h
  |ref i g idx sub x hx hi hg h=>
   obtain⟨h1,h2⟩:=hN _ _ hn hi;refine .ref _ _ _ _ x hx h1 (fun o2 vw=> ?_) fun o2 vw hgo=> ?_
   ·obtain⟨o,ho,e1,e2,e3⟩:=h2 o2 vw
    exact e1▸hg o ho
   ·obtain⟨o,ho,e1,e2,e3⟩:=h2 o2 vw
    rw[h o ho (e1.trans hgo),e2,e3]
 |sl hn=>
  intro x hv;cases hv with
  |pure h=>cases h
  |sl i g sz off len cap x hx hi hg h=>
   obtain⟨h1,h2⟩:=hN _ _ hn hi;refine .sl _ _ _ _ _ _ x hx h1 (fun o2 vw=> ?_) fun o2 vw hgo=> ?_
   ·obtain⟨o,ho,e1,e2,e3⟩:=h2 o2 vw
    exact e1▸hg o ho
   ·obtain⟨o,ho,e1,e2,e3⟩:=h2 o2 vw
    rw[<- e2,e3];exact h o ho (e1.trans hgo)
 |cW hn=>
  intro x hv;cases hv with
  |pure h=>cases h
  |cW i g x hx hi hg h=>
   obtain⟨h1,h2⟩:=hN _ _ hn hi;refine .cW _ _ x hx h1 (fun o2 vw=> ?_) fun o2 vw hgo=> ?_
   ·obtain⟨o,ho,e1,e2,e3⟩:=h2 o2 vw
    exact e1▸hg o ho
   ·obtain⟨o,ho,e1,e2,e3⟩:=h2 o2 vw
    rw[e3];exact h o ho (e1.trans hgo)
 |iface t _ ih=>intro x hv;obtain⟨y,rfl,hy⟩:=hv.gW;exact .iface t _ _ (ih hy)
 |agg hl _ ih=>
  intro x hv;obtain⟨cs,rfl,h1,h2⟩:=hv.iJ;refine .agg _ _ (h1.trans hl) fun i v x a b=> ?_
  obtain⟨u,hu⟩:=j7 hl a;exact ih i u v hu a (h2 i u x hu b)
 |bn hl _ ih=>
  intro x hv;obtain⟨cs,rfl,h1,h2⟩:=hv.mh;refine .bn _ _ (h1.trans hl) fun i v x a b=> ?_
  obtain⟨u,hu⟩:=j7 hl a;exact ih i u v hu a (h2 i u x hu b)
 |func fn ha hb _ _ ih Ak=>
  intro x hv;obtain⟨a',b',rfl,h1,h2,h3,h4⟩:=hv.nv;refine .func fn _ _ _ _ (h1.trans ha) (h2.trans hb) (fun i v x a b=> ?_) fun i v x a b=> ?_
  ·obtain⟨u,hu⟩:=j7 ha a
   exact ih i u v hu a (h3 i u x hu b)
  ·obtain⟨u,hu⟩:=j7 hb a
   exact Ak i u v hu a (h4 i u x hu b)
inductive k8(N:Nat->Nat->Prop):ai->ai->Prop
 |vec {g sz:Nat} {es es':List SV} {sk:Sk} (hl:es.length=es'.length) (h: ∀(i:Nat) (v v':SV),es[i]? =some v->es'[i]? =some v'->iQ N v v'):k8 N (.vec g sz es sk) (.vec g sz es' sk)
 |iter (s:List UInt8) (pos:Nat):k8 N (.iter s pos) (.iter s pos)
 |map (es:List (SV×SV×Nat)) (clock:Nat):k8 N (.map es clock) (.map es clock)
 |cy {m m':SV} (h:iQ N m m') (since:Nat) (seen:List Nat) (stepped:Nat):k8 N (.cy m since seen stepped) (.cy m' since seen stepped)
 |kf (g:Nat) (ty:TypeId) (xs:List SV):k8 N (.kf g ty xs) (.kf g ty xs)
theorem k8.flip{o o':ai}(h:k8 N o o'):k8 (fun a b=>N b a) o' o:=by
 cases h with
 |vec hl h=>exact .vec hl.symm fun i v v' a b=>(h i v' v b a).flip
 |iter s pos=>exact .iter s pos
 |map es clock=>exact .map es clock
 |cy h a b c=>exact .cy h.flip a b c
 |kf g ty xs=>exact .kf g ty xs
theorem k8.gen{o o':ai}(h:k8 N o o'):o.gen=o'.gen/\o.sz=o'.sz:=by cases h<;>exact⟨rfl,rfl⟩
theorem OR.zx(tv: ∀b,c.Im b->c2.Im b)
  (hN: ∀i j,N i j->i<A.cI->j<A2.cI/\ ∀o2,A2.obj j=some o2-> ∃o,A.obj i=some o/\o.gen=o2.gen/\o.sz=o2.sz/\c2.β j=c.β i)
  {b:Nat}{o o2:ai}(hr:k8 N o o2)(h:OR c A w b o):OR c2 A2 w b o2:=by
 cases hr with
 |vec hl pZ=>
  cases h with
  |vec _ _ _ _ C ty fz hw hle heq hty hc hf hcell=>
   refine .vec _ _ _ _ C ty fz hw (hl▸hle) (fun hs=>hl▸heq hs) hty (fun v hv=> ?_) hf fun i j e v x h1 h2 h3=> ?_
   ·obtain⟨i,hi⟩:=List.mem_iff_getElem?.1 hv
    obtain⟨u,hu⟩:=j7 hl hi;rw[(pZ i u v hu hi).cells.1];exact hc u (List.mem_of_getElem? hu)
   ·obtain⟨u,hu⟩:=j7 hl h1
    obtain⟨d,hd⟩:=j7 ((pZ i u e hu h1).cells.1.symm) h2;exact VR.zx tv hN ((pZ i u e hu h1).cells.2 j d v hd h2) (hcell i j u d x hu hd h3)
 |iter s pos=>cases h with|iter _ _ hw=>exact .iter s pos hw
 |map es clock=>cases h with|map _ _ hw hs=>exact .map es clock hw hs
 |cy hm a d e=>cases h with|cy _ _ _ _ r hw hm'=>exact .cy _ _ _ _ r hw (VR.zx tv hN hm hm')
 |kf g ty xs=>cases h with|kf _ _ _ C fz hw hle hc=>exact .kf g ty xs C fz hw hle hc
end
inductive NK(N:Nat->Nat->Prop):bu->bu->Prop
 |ret {v v':SV} (h:iQ N v v'):NK N (.ret v) (.ret v')
 |eY {v v':SV} (h:iQ N v v'):NK N (.eY v) (.eY v')
inductive wV(N:Nat->Nat->Prop):List SV->List SV->Prop
 |nil:wV N [] []
 |cons {v v':SV} {l l':List SV} (h:iQ N v v') (r:wV N l l'):wV N (v::l) (v'::l')
theorem wV.len{N:Nat->Nat->Prop}{l l':List SV}(h:wV N l l'):l.length=l'.length:=by induction h<;>simp_all
theorem wV.at_{N:Nat->Nat->Prop}{l l':List SV}(h:wV N l l'): ∀ {i:Nat} {v:SV},l[i]? =some v-> ∃u,l'[i]? =some u/\iQ N v u:=by
 induction h with
 |nil=>intro i v hv;simp at hv
 |cons h _ ih=>
  intro i v hv;cases i with
  |zero=>simp at hv;subst hv;exact⟨_,rfl,h⟩
  |succ i=>simp at hv;obtain⟨u,hu,hh⟩:=ih hv;exact⟨u,by simpa using hu,hh⟩
structure Fr(N:Nat->Nat->Prop)(m n:Nat)(l:List (Nat×ai))(N':Nat->Nat->Prop)(r:bu)(h':Heap)(r2:bu)(h2:Heap):Prop where
 old: ∀k j,N' k j->(k<m/\N k j)\/(m<=k/\n<=j)
 inj: ∀k k' j,N' k j->N' k' j->k=k'
 fn: ∀k j j',N' k j->N' k j'->j=j'
 lt: ∀k j,N' k j->k<h'.cI->j<h2.cI
 cI:n<=h2.cI
 obj: ∀j o2,h2.obj j=some o2->j<h2.cI/\((∃ k o,N' k j/\h'.obj k=some o/\k8 N' o o2)\/(ak l j=some o2/\ ∀k,¬N k j))
 ret:NK N' r r2
open Classical in
theorem aC.frame {P:Program} {f:FuncId} {N:Nat->Nat->Prop} {m n:Nat} {L l:List (Nat×ai)} {args args2:List SV} {R:bu->Heap->Prop}
  (hL: ∀k o,ak L k=some o->k<m/\ ∃j o2,N k j/\ak l j=some o2/\k8 N o o2) (hm: ∀k j,N k j->k<m/\ ∃o,ak L k=some o)
  (hinj: ∀k k' j,N k j->N k' j->k=k') (hfn: ∀k j j',N k j->N k j'->j=j') (ha:wV N args args2)
  (hp:aC P f args ⟨m,L⟩ fun r h'=> ∃N' r2 h2,Fr N m n l N' r h' r2 h2/\R r2 h2):aC P f args2 ⟨n,l⟩ R:=by
 refine⟨fun c w xs hr hs Cr=> ?_⟩
 let c1:Cx:=⟨fun k=>if h: ∃j,N k j then c.β (choose h)else 0,c.Im⟩
 have vh: ∀ {k j:Nat},N k j->c1.β k=c.β j:=fun{k j} h=>by
  have he: ∃j,N k j:=⟨j,h⟩;show(if h: ∃j,N k j then c.β (choose h)else 0)=c.β j;rw[dif_pos he,hfn k _ _ (choose_spec he) h]
 have hlk: ∀ {k j:Nat},N k j-> ∃o o2,ak L k=some o/\ak l j=some o2/\k8 N o o2:=fun{k j} h=>by
  obtain⟨_,o,ho⟩:=hm k j h;obtain⟨_,j',o2,hn,vw,pZ⟩:=hL k o ho;cases hfn k j j' h hn
  exact⟨o,o2,ho,vw,pZ⟩
 have Yd: ∀j k,N k j->j<n->k<m/\ ∀o,(Heap.mk m L).obj k=some o-> ∃o2,(Heap.mk n l).obj j=some o2/\o2.gen=o.gen/\o2.sz=o.sz/\c1.β k=c.β j:=fun j k h _=>by
  refine⟨(hm k j h).1,fun o ho=> ?_⟩;obtain⟨o',o2,h1,h2,h3⟩:=hlk h;have ho:ak L k=some o:=ho;rw[h1]at ho;cases ho
  exact⟨o2,h2,h3.gen.1.symm,h3.gen.2.symm,vh h⟩
 have og:bT c1 ⟨m,L⟩ w:=by
  refine⟨fun k o ho=>(hL k o ho).1,fun k o ho=> ?_,fun k k' o p ho hp he=> ?_,fun k o ho hb=> ?_,hr.im,hr.dj⟩
  ·obtain⟨_,j,o2,h1,h2,h3⟩:=hL k o ho
   rw[vh h1];exact OR.zx (N:=fun a b=>N b a) (c:=c) (c2:=c1) (A:=⟨n,l⟩) (A2:=⟨m,L⟩) (fun b hb=>hb) Yd h3.flip (hr.obj j o2 h2)
  ·obtain⟨_,j,o2,h1,h2,h3⟩:=hL k o ho
   obtain⟨_,j',p2,QE,pn,h3'⟩:=hL k' p hp;rw[vh h1,vh QE]at he;cases hr.inj j j' o2 p2 h2 pn he
   exact hinj _ _ _ h1 QE
  ·obtain⟨_,j,o2,h1,h2,h3⟩:=hL k o ho
   rw[vh h1]at hb;exact hr.apart j o2 h2 hb
 refine(hp.calls c1 w xs og (hs.trans ha.len.symm) fun i v x hi hx=> ?_).mono fun en w' hpost=> ?_
 ·obtain⟨u,hu,huv⟩:=ha.at_ hi
  exact VR.zx (N:=fun a b=>N b a) (c:=c) (c2:=c1) (A:=⟨n,l⟩) (A2:=⟨m,L⟩) (fun b hb=>hb) Yd huv.flip (Cr i u x hu hx)
 obtain⟨c',h',r,⟨N',r2,h2,hF,hR⟩,hr',hx',wE⟩:=hpost
 let c2:Cx:=⟨fun j=>if h: ∃k,N' k j then c'.β (choose h)else c.β j,c'.Im⟩
 have AT: ∀ {k j:Nat},N' k j->c2.β j=c'.β k:=fun{k j} h=>by
  have he: ∃k,N' k j:=⟨k,h⟩;show(if h: ∃k,N' k j then c'.β (choose h)else c.β j)=c'.β k;rw[dif_pos he,hF.inj _ _ j (choose_spec he) h]
 have AU: ∀ {j:Nat} {o:ai},ak l j=some o->(∀ k,¬N k j)->c2.β j=c.β j/\ ∀k,¬N' k j:=fun{j o} h hn=>by
  have hj:j<n:=hr.lt j o h
  have hno: ∀k,¬N' k j:=fun k hk=>by
   rcases hF.old k j hk with⟨_,h1⟩|⟨_,h1⟩
   ·exact hn k h1
   ·omega
  refine⟨?_,hno⟩;show(if h: ∃k,N' k j then c'.β (choose h)else c.β j)=c.β j;rw[dif_neg (fun⟨k,hk⟩=>hno k hk)]
 have hfr: ∀b,b<w.heap.size->(∀ j o,ak l j=some o->c.β j≠b)->w'.heap[b]? =w.heap[b]? :=fun b hb hn=>hx'.frame b hb fun k o ho he=>by
  obtain⟨_,j,o2,h1,h2,_⟩:=hL k o ho;rw[vh h1]at he;exact hn j o2 h2 he
 have hold: ∀ {k j:Nat} {o':ai},N' k j->k<m->h'.obj k=some o'-> ∃o o2,ak L k=some o/\ak l j=some o2/\k8 N o o2/\o2.gen<=o'.gen/\o2.sz=o'.sz/\(o2.gen=o'.gen->c'.β k=c.β j)/\N k j:=fun{k j o'} hn hk ho'=>by
  rcases hF.old k j hn with⟨_,h1⟩|⟨h1,_⟩
  ·obtain⟨o,o2,e1,e2,e3⟩:=hlk h1
   obtain⟨o',e4,e5,e6,e7⟩:=hx'.old k _ hk ho';have e4:ak L k=some o':=e4;rw[e1]at e4;cases e4
   refine⟨o,o2,e1,e2,e3,by rw[<- e3.gen.1];exact e5,by rw[<- e3.gen.2];exact e6,fun h=> ?_,h1⟩;rw[e7 (by rw[e3.gen.1];exact h),vh h1]
  ·omega
 have kA:Ext c ⟨n,l⟩ w c2 h2 w':=by
  refine⟨hx'.os,hx'.tape,hx'.output,hx'.size,hfr,hx'.shape,fun b hb=>hx'.im b hb,fun b hb=> ?_,hF.cI,fun j o2 hj vw=> ?_,fun j o2 vw=> ?_⟩
  ·rcases hx'.im' b hb with h|h|⟨k,o,ho,he⟩
   ·exact .inl h
   ·exact .inr (.inl h)
   ·obtain⟨_,j,o2,h1,h2,_⟩:=hL k o ho
    exact .inr (.inr ⟨j,o2,h2,(vh h1).symm.trans he⟩)
  ·have hj:j<n:=hj
   rcases(hF.obj j o2 vw).2 with⟨k,o',hn,ho',pZ⟩|⟨ho,hn⟩
   ·have hk:k<m:=by
     rcases hF.old k j hn with⟨h1,_⟩|⟨_,h1⟩
     ·exact h1
     ·omega
    obtain⟨o,q,e1,e2,e3,e4,e5,e6,_⟩:=hold hn hk ho';refine⟨q,e2,by rw[<- pZ.gen.1];exact e4,by rw[<- pZ.gen.2];exact e5,fun h=> ?_⟩;rw[AT hn];exact e6 (by rw[pZ.gen.1];exact h)
   ·exact⟨o2,ho,Nat.le_refl _,rfl,fun _=>(AU ho hn).1⟩
  ·rcases(hF.obj j o2 vw).2 with⟨k,o',hn,ho',pZ⟩|⟨ho,hn⟩
   ·rw[AT hn]
    rcases hx'.new k o' ho' with h|⟨o,ho,he⟩
    ·exact .inl h
    ·obtain⟨hk,j',q,e1,e2,_⟩:=hL k o ho
     rcases hF.old k j hn with⟨_,h1⟩|⟨h1,_⟩
     ·cases hfn k j j' h1 e1
      exact .inr ⟨q,e2,he.trans (vh h1)⟩
     ·omega
   ·exact .inr ⟨o2,ho,(AU ho hn).1⟩
 have Ye: ∀k j,N' k j->k<h'.cI->j<h2.cI/\ ∀o2,h2.obj j=some o2-> ∃o,h'.obj k=some o/\o.gen=o2.gen/\o.sz=o2.sz/\c2.β j=c'.β k:=fun k j hn hk=>by
  refine⟨hF.lt k j hn hk,fun o2 vw=> ?_⟩;rcases(hF.obj j o2 vw).2 with⟨k',o',hn',ho',pZ⟩|⟨ho,hno⟩
  ·cases hF.inj k k' j hn hn'
   exact⟨o',ho',pZ.gen.1,pZ.gen.2,AT hn⟩
  ·exact absurd hn ((AU ho hno).2 k)
 have C5: ∀ {k j j':Nat} {o' o2:ai},N' k j->h'.obj k=some o'->ak l j'=some o2->(∀ k,¬N k j')->c'.β k≠c.β j':=fun{k j j' o' o2} hn ho' vw hno he=>by
  have hb:=(hr.obj j' o2 vw).lt;rcases hx'.new k o' ho' with h|⟨o,ho,he'⟩
  ·omega
  ·obtain⟨hk,i,q,e1,e2,_⟩:=hL k o ho
   rw[he',vh e1]at he;cases hr.inj i j' q o2 e2 vw he
   exact hno k e1
 have EL:bT c2 h2 w':=by
  refine⟨fun j o ho=>(hF.obj j o ho).1,fun j o ho=> ?_,fun j j' o p ho hp he=> ?_,fun j o ho hb=> ?_,fun b hb=>hr'.im b hb,hr'.dj⟩
  ·rcases(hF.obj j o ho).2 with⟨k,o',hn,ho',pZ⟩|⟨ho',hno⟩
   ·rw[AT hn]
    exact OR.zx (c:=c') (c2:=c2) (A:=h') (A2:=h2) (fun b hb=>hb) Ye pZ (hr'.obj k o' ho')
   ·rw[(AU ho' hno).1]
    refine(hr.obj j o ho').mono hr kA (hx'.frame _ (hr.obj j o ho').lt fun k o1 Yf he=> ?_);obtain⟨_,i,q,e1,e2,_⟩:=hL k o1 Yf;rw[vh e1]at he;cases hr.inj i j q o e2 ho' he
    exact hno k e1
  ·rcases(hF.obj j o ho).2 with⟨k,o',hn,ho',pZ⟩|⟨ho',hno⟩
   ·rcases(hF.obj j' p hp).2 with⟨k2,p',hn2,hp',Vr⟩|⟨hp',NL⟩
    ·rw[AT hn,AT hn2]at he
     cases hr'.inj k k2 o' p' ho' hp' he
     exact hF.fn k _ _ hn hn2
    ·rw[AT hn,(AU hp' NL).1]at he
     exact absurd he (C5 hn ho' hp' NL)
   ·rcases(hF.obj j' p hp).2 with⟨k2,p',hn2,hp',Vr⟩|⟨hp',NL⟩
    ·rw[AT hn2,(AU ho' hno).1]at he
     exact absurd he.symm (C5 hn2 hp' ho' hno)
    ·rw[(AU hp' NL).1,(AU ho' hno).1]at he
     exact hr.inj j j' o p ho' hp' he
  ·rcases(hF.obj j o ho).2 with⟨k,o',hn,ho',pZ⟩|⟨ho',hno⟩
   ·rw[AT hn]at hb
    exact hr'.apart k o' ho' hb
   ·rw[(AU ho' hno).1]at hb
    rcases hx'.im' _ hb with h|h|⟨k,o1,Yf,he⟩
    ·exact hr.apart j o ho' h
    ·have:=(hr.obj j o ho').lt
     omega
    ·obtain⟨_,i,q,e1,e2,_⟩:=hL k o1 Yf
     rw[vh e1]at he;cases hr.inj i j q o e2 ho' he
     exact hno k e1
 refine⟨c2,h2,r2,hR,EL,kA,?_⟩;cases hF.ret with
 |ret h=>obtain⟨x,rfl,hx⟩:=wE;exact⟨x,rfl,VR.zx (c:=c') (c2:=c2) (A:=h') (A2:=h2) (fun b hb=>hb) Ye h hx⟩
 |eY h=>obtain⟨x,rfl,hx⟩:=wE;exact⟨x,rfl,VR.zx (c:=c') (c2:=c2) (A:=h') (A2:=h2) (fun b hb=>hb) Ye h hx⟩
inductive qX(A:Heap):bu->bu->Prop
 |ret {v v':SV} (h:bA A v v'):qX A (.ret v) (.ret v')
 |eY {v v':SV} (h:bA A v v'):qX A (.eY v) (.eY v')
theorem aC.mW{P:Program}{f:FuncId}{args:List SV}{h:Heap}{R:bu->Heap->Prop}
  (hp:aC P f args h fun r h'=> ∃(S:Nat->Bool) (r2:bu),qX ⟨h'.cI,kL S h'.l⟩ r r2/\R r2 ⟨h'.cI,cE S h'.l⟩):aC P f args h R:=by
 refine⟨fun c w xs hr hs hv=>(hp.calls c w xs hr hs hv).mono fun en w' ⟨c',h',r,⟨S,r2,hh,hR⟩,hr',hx',wE⟩=> ?_⟩;refine⟨Ab.kC S c' h',⟨h'.cI,cE S h'.l⟩,r2,hR,hr'.kC S,hx'.trans hr (Ext.kC S),?_⟩;cases hh with
 |ret h=>obtain⟨x,rfl,hx⟩:=wE;exact⟨x,rfl,.pure (h.kC S hr' hx)⟩
 |eY h=>obtain⟨x,rfl,hx⟩:=wE;exact⟨x,rfl,.pure (h.kC S hr' hx)⟩
def AV:ai->Prop
 | .vec g _ es _=>g=0/\ ∀v∈es,aL v
 |_=>False
def NM:bu->Prop
 | .ret v=>aL v
 | .eY v=>aL v
theorem jc{N:Nat->Nat->Prop}{o:ai}(h:AV o):k8 N o o:=by
 cases o with
 |vec g sz es sk=>exact .vec rfl fun i v v' a b=>by rw[a]at b;cases b;exact .lit (h.2 v (List.mem_of_getElem? a))
 |_=>exact h.elim
theorem sL{N:Nat->Nat->Prop}{e:bu}(h:NM e):NK N e e:=by
 cases e with
 |ret v=>exact .ret (.lit h)
 |eY v=>exact .eY (.lit h)
theorem kG{N:Nat->Nat->Prop}: ∀ {l:List SV},(∀ a∈l,aL a)->wV N l l
 | [],_=> .nil
 |a::r,h=> .cons (.lit (h a (by simp))) (kG fun b hb=>h b (by simp[hb]))
def wW(j:Nat):Bool:=bif Nat.beq j 0 then false else true
inductive yK(A:Heap):List SV->List SV->Prop
 |nil:yK A [] []
 |same {v:SV} {l l':List SV} (r:yK A l l'):yK A (v::l) (v::l')
 |mW {v v':SV} {l l':List SV} (h:bA A v v') (r:yK A l l'):yK A (v::l) (v'::l')
theorem yK.len{A:Heap}{l l':List SV}(h:yK A l l'):l.length=l'.length:=by induction h<;>simp_all
theorem yK.at_{A:Heap}{l l':List SV}(h:yK A l l'): ∀ {i:Nat} {v:SV},l'[i]? =some v-> ∃u,l[i]? =some u/\(u=v\/bA A u v):=by
 induction h with
 |nil=>intro i v hv;simp at hv
 |same _ ih=>
  intro i v hv;cases i with
  |zero=>simp at hv;subst hv;exact⟨_,rfl,.inl rfl⟩
  |succ i=>simp at hv;obtain⟨u,hu,hh⟩:=ih hv;exact⟨u,by simpa using hu,hh⟩
 |mW h _ ih=>
  intro i v hv;cases i with
  |zero=>simp at hv;subst hv;exact⟨_,rfl,.inr h⟩
  |succ i=>simp at hv;obtain⟨u,hu,hh⟩:=ih hv;exact⟨u,by simpa using hu,hh⟩
theorem aC.C6{P:Program}{f:FuncId}{args args':List SV}{n:Nat}{l:List (Nat×ai)}{R:bu->Heap->Prop}(S:Nat->Bool)(hh:yK ⟨n,kL S l⟩ args args')
  (hp:aC P f args' ⟨n,cE S l⟩ R):aC P f args ⟨n,l⟩ R:=by
 refine⟨fun c w xs hr hs hv=> ?_⟩;refine(hp.calls (Ab.kC S c ⟨n,l⟩) w xs (hr.kC S) (hs.trans hh.len) fun i v x hi hx=> ?_).mono fun en w' hpost=> ?_
 ·obtain⟨u,hu,huv⟩:=hh.at_ hi
  rcases huv with rfl|huv
  ·exact(hv i u x hu hx).mono hr (Ext.kC S)
  ·exact .pure (huv.kC S hr (hv i u x hu hx))
 ·obtain⟨c',h',r,hR,hr',hx',wE⟩:=hpost
  exact⟨c',h',r,hR,hr',(Ext.kC S).trans hr hx',wE⟩
theorem aj.less{P:Program}{f:FuncId}{args:List SV}{v v':SV}(hp:aj P f args v)(hl:aL v)(hv: ∀Im w x,VP Im w v x->VP Im w v' x){h:Heap}{R:bu->Heap->Prop}(hR:R (.ret v') h):aC P f args h R:=by
 have hr:=hp.run h;refine⟨fun c w xs EL hs Cr=>(hr.calls c w xs EL hs Cr).mono fun en w' ⟨c',h',r,⟨og,gV⟩,hr',hx',wE⟩=> ?_⟩;subst og;subst gV;obtain⟨x,rfl,hx⟩:=wE;exact⟨c',h',.ret v',hR,hr',hx',x,rfl,.pure (hv _ _ _ (hl.vp hx))⟩
def p4:bu->Bool
 | .ret _=>true
 | .eY _=>false
structure fU(P:Program)(f:FuncId)(as:List SV)(o:ai)(e:bu)(o':ai):Prop where
 args: ∀a∈as,aL a
 lit:AV o
 lit':AV o'
 end_:NM e
 C7:aC P f (.ref 0 0 0 0::as) ⟨1,[(0,o)]⟩ fun r h'=>qX ⟨h'.cI,kL wW h'.l⟩ r e/\(p4 e=true->h'.obj 0=some o')
theorem fU.run{P:Program}{f:FuncId}{as:List SV}{o:ai}{e:bu}{o':ai}(hp:fU P f as o e o'){i n:Nat}{l:List (Nat×ai)}(ho:ak l i=some o):aC P f (.ref i 0 0 0::as) ⟨n,l⟩ fun r h'=>r=e/\(p4 e=true->h'=⟨n,bt l i o'⟩)/\(p4 e=false->h'=⟨n,cE (fun j=>Nat.beq j i) l⟩):=by
 have hlt: ∀ {R:bu->Heap->Prop},((∀ j p,ak l j=some p->j<n)->aC P f (.ref i 0 0 0::as) ⟨n,l⟩ R)->aC P f (.ref i 0 0 0::as) ⟨n,l⟩ R:=fun h=>⟨fun c w xs hr hs hv=>(h fun j p hj=>hr.lt j p hj).calls c w xs hr hs hv⟩
 refine hlt fun hlt=> ?_
 have hi:=hlt i o ho;refine aC.frame (N:=fun k j=>k=0/\j=i) (m:=1) (L:=[(0,o)]) (args:= .ref 0 0 0 0::as) (fun k q hk=> ?_) (fun k j hk=> ?_) (fun k k' j h h'=>h.1.trans h'.1.symm) (fun k j j' h h'=>h.2.trans h'.2.symm) (.cons (.ref ⟨rfl,rfl⟩) (kG hp.args)) (aC.mW ?_)
 ·unfold ak at hk
  by_cases h:0=k
  ·rw[if_pos h]at hk;cases hk;subst h
   exact⟨by omega,i,_,⟨rfl,rfl⟩,ho,jc hp.lit⟩
  ·rw[if_neg h]at hk;cases hk
 ·obtain⟨rfl,rfl⟩:=hk
  exact⟨by omega,_,rfl⟩
 ·refine hp.C7.mono fun r h' ⟨hh,ho'⟩=>⟨wW,e,hh,?_⟩
  cases hb:p4 e with
  |true=>
   refine⟨fun k j=>k=0/\j=i,e,⟨n,bt l i o'⟩,⟨fun k j h=> .inl ⟨by omega,h⟩,fun k k' j h h'=>h.1.trans h'.1.symm,fun k j j' h h'=>h.2.trans h'.2.symm,fun k j h _=>h.2▸hi,Nat.le_refl _,fun j o2 hj=> ?_,sL hp.end_⟩,rfl,fun _=>rfl,fun h=>by cases h⟩;by_cases hji:j=i
   ·subst hji
    have hj:ak (bt l j o') j=some o2:=hj;rw[aV ho]at hj;cases hj
    refine⟨hi,.inl ⟨0,o',⟨rfl,rfl⟩,?_,jc hp.lit'⟩⟩;show ak (cE wW h'.l) 0=some o';rw[fB];exact ho' hb
   ·have hj:ak (bt l i o') j=some o2:=hj
    rw[aF hji]at hj;exact⟨hlt j _ hj,.inr ⟨hj,fun k hk=>hji hk.2⟩⟩
  |false=>
   refine⟨fun k j=>k=0/\j=i,e,⟨n,cE (fun j=>Nat.beq j i) l⟩,⟨fun k j h=> .inl ⟨by omega,h⟩,fun k k' j h h'=>h.1.trans h'.1.symm,fun k j j' h h'=>h.2.trans h'.2.symm,fun k j h _=>h.2▸hi,Nat.le_refl _,fun j o2 hj=> ?_,sL hp.end_⟩,rfl,(fun h=>by cases h),fun _=>rfl⟩;have hj:ak (cE (fun j=>Nat.beq j i) l) j=some o2:=hj;rw[fB]at hj;split at hj
   ·cases hj
   ·rename_i hne
    exact⟨hlt j _ hj,.inr ⟨hj,fun k hk=>hne (by rw[hk.2];exact Nat.beq_refl i)⟩⟩
theorem fU.call{P:Program}{f:FuncId}{as:List SV}{o:ai}{v:SV}{o':ai}(hp:fU P f as o (.ret v) o'){i n:Nat}{l:List (Nat×ai)}{R:bu->Heap->Prop}(ho:ak l i=some o)
 (hR:R (.ret v) ⟨n,bt l i o'⟩):aC P f (.ref i 0 0 0::as) ⟨n,l⟩ R:=(hp.run ho).mono fun r h' ⟨h1,h2,_⟩=>by rw[h1,h2 rfl];exact hR
theorem fU.eY{P:Program}{f:FuncId}{as:List SV}{o:ai}{v:SV}{o':ai}(hp:fU P f as o (.eY v) o'){i n:Nat}{l:List (Nat×ai)}{R:bu->Heap->Prop}(ho:ak l i=some o)
 (hR: ∀h',R (.eY v) h'):aC P f (.ref i 0 0 0::as) ⟨n,l⟩ R:=(hp.run ho).mono fun r h' ⟨h1,_⟩=>by rw[h1];exact hR h'
theorem fU.NN{P:Program}{f:FuncId}{as:List SV}{o:ai}{v:SV}{o':ai}(hp:fU P f as o (.eY v) o'){i n:Nat}{l:List (Nat×ai)}{R:bu->Heap->Prop}(ho:ak l i=some o)
 (hR:R (.eY v) ⟨n,cE (fun j=>Nat.beq j i) l⟩):aC P f (.ref i 0 0 0::as) ⟨n,l⟩ R:=(hp.run ho).mono fun r h' ⟨h1,_,h2⟩=>by rw[h1,h2 rfl];exact hR
theorem vi{o':ai}{h':Heap}{v v':SV}(hh:bA ⟨h'.cI,kL wW h'.l⟩ v v')(ho:h'.obj 0=some o'):qX ⟨h'.cI,kL wW h'.l⟩ (.ret v) (.ret v')/\(p4 (.ret v')=true->h'.obj 0=some o'):=⟨.ret hh,fun _=>ho⟩
theorem AW{o':ai}{h':Heap}{v:SV}(hl:aL v):qX ⟨h'.cI,kL wW h'.l⟩ (.eY v) (.eY v)/\(p4 (.eY v)=true->h'.obj 0=some o'):=⟨.eY (.lit hl),fun h=>by cases h⟩
end
end Ab
