/- Parts of the proof of PParserBlanks, one behind the other, with short names. -/
import Derived.Test.YtbjifmbemdhndaaGreatDoorZ21
set_option linter.unusedVariables false
set_option linter.unusedSimpArgs false
namespace Ab
open Go
section
inductive iT(N:Nat->Nat->Prop):SV->SV->Prop
 |lit {v:SV} (h:bJ v):iT N v v
 |ref {i j g a b:Nat} (h:N i j):iT N (.ref i g a b) (.ref j g a b)
 |sl {i j g sz off len:Nat} {cap:Option Nat} (h:N i j):iT N (.sl i g sz off len cap) (.sl j g sz off len cap)
 |dR {i j g:Nat} (h:N i j):iT N (.dR i g) (.dR j g)
 |iface (t:TypeId) {v v':SV} (h:iT N v v'):iT N (.iface t v) (.iface t v')
 |agg {l l':List SV} (hl:l.length=l'.length) (h: ∀(i:Nat) (v v':SV),l[i]? =some v->l'[i]? =some v'->iT N v v'):iT N (.agg l) (.agg l')
 |bn {l l':List SV} (hl:l.length=l'.length) (h: ∀(i:Nat) (v v':SV),l[i]? =some v->l'[i]? =some v'->iT N v v'):iT N (.bn l) (.bn l')
 |func (fn:Fn) {a a' b b':List SV} (ha:a.length=a'.length) (hb:b.length=b'.length) (h: ∀(i:Nat) (v v':SV),a[i]? =some v->a'[i]? =some v'->iT N v v')
  (h': ∀(i:Nat) (v v':SV),b[i]? =some v->b'[i]? =some v'->iT N v v'):iT N (.func fn a b) (.func fn a' b')
theorem iT.flip{N:Nat->Nat->Prop}{v v':SV}(h:iT N v v'):iT (fun a b=>N b a) v' v:=by
 induction h with
 |lit h=>exact .lit h
 |ref h=>exact .ref h
 |sl h=>exact .sl h
 |dR h=>exact .dR h
 |iface t _ ih=>exact .iface t ih
 |agg hl _ ih=>exact .agg hl.symm fun i v v' a b=>ih i v' v b a
 |bn hl _ ih=>exact .bn hl.symm fun i v v' a b=>ih i v' v b a
 |func fn ha hb _ _ ih y8=>exact .func fn ha.symm hb.symm (fun i v v' a b=>ih i v' v b a) fun i v v' a b=>y8 i v' v b a
theorem iT.cells{N:Nat->Nat->Prop}{v v':SV}(h:iT N v v'):v'.cells.length=v.cells.length/\ ∀(j:Nat) (u u':SV),v.cells[j]? =some u->v'.cells[j]? =some u'->iT N u u':=by
 have one: ∀ {v v':SV},iT N v v'->v.cells=[v]->v'.cells=[v']->v'.cells.length=v.cells.length/\ ∀(j:Nat) (u u':SV),v.cells[j]? =some u->v'.cells[j]? =some u'->iT N u u':=by
  intro v v' h h1 h2;rw[h1,h2];refine⟨rfl,fun j u u' hu qV=> ?_⟩;cases j with
  |zero=>simp at hu qV;subst hu;subst qV;exact h
  |succ j=>simp at hu
 cases h with
 |lit hl=>
  refine⟨rfl,fun j u u' hu qV=> ?_⟩;rw[hu]at qV;cases qV
  cases hl with
  |agg hh=>exact .lit (hh u (List.mem_of_getElem? hu))
  |_=>cases j with
   |zero=>simp only[SV.cells,List.getElem?_cons_zero,Option.some.injEq]at hu;subst hu;exact .lit (by constructor<;>assumption)
   |succ j=>simp[SV.cells]at hu
 |iface t h=>exact one (.iface t h) rfl rfl
 |agg hl h=>exact⟨hl.symm,h⟩
 |bn hl h=>exact one (.bn hl h) rfl rfl
 |func fn ha hb h h'=>exact one (.func fn ha hb h h') rfl rfl
 |sl h=>exact one (.sl h) rfl rfl
 |ref h=>exact one (.ref h) rfl rfl
 |dR h=>exact one (.dR h) rfl rfl
theorem jz{α:Type}{l l':List α}(hl:l.length=l'.length){i:Nat}{v:α}(h:l'[i]? =some v): ∃u,l[i]? =some u:=by
 have hi:i<l.length:=by
  rw[hl];rcases Nat.lt_or_ge i l'.length with h'|h'
  ·exact h'
  ·rw[List.getElem?_eq_none h']at h;cases h
 exact⟨_,List.getElem?_eq_getElem hi⟩
section
variable {N:Nat->Nat->Prop} {c c2:Cx} {A A2:Heap} {w:World}
theorem VR.DD(xB: ∀b,c.Im b->c2.Im b)
  (hN: ∀i j,N i j->i<A.dB->j<A2.dB/\ ∀o2,A2.obj j=some o2-> ∃o,A.obj i=some o/\o.gen=o2.gen/\o.sz=o2.sz/\c2.β j=c.β i)
  {v v2:SV}(hr:iT N v v2): ∀ {x:Value},VR c A w v x->VR c2 A2 w v2 x:=by
 induction hr with
 |lit h=>intro x hv;exact .pure ((h.vp hv).mono xB fun _ _=>rfl)
 |ref hn=>
  rename_i i j g a b;intro x hv;cases hv with
  |pure h=>cases h
  |ref i g idx sub x hx hi hg h=>
   obtain⟨h1,h2⟩:=hN _ _ hn hi;refine .ref _ _ _ _ x hx h1 (fun o2 u7=> ?_) fun o2 u7 hgo=> ?_
   ·obtain⟨o,ho,e1,e2,e3⟩:=h2 o2 u7
    exact e1▸hg o ho
   ·obtain⟨o,ho,e1,e2,e3⟩:=h2 o2 u7
    rw[h o ho (e1.trans hgo),e2,e3]
 |sl hn=>
  intro x hv;cases hv with
  |pure h=>cases h
  |sl i g sz off len cap x hx hi hg h=>
   obtain⟨h1,h2⟩:=hN _ _ hn hi;refine .sl _ _ _ _ _ _ x hx h1 (fun o2 u7=> ?_) fun o2 u7 hgo=> ?_
   ·obtain⟨o,ho,e1,e2,e3⟩:=h2 o2 u7
    exact e1▸hg o ho
   ·obtain⟨o,ho,e1,e2,e3⟩:=h2 o2 u7
    rw[<- e2,e3];exact h o ho (e1.trans hgo)
 |dR hn=>
  intro x hv;cases hv with
  |pure h=>cases h
  |dR i g x hx hi hg h=>
   obtain⟨h1,h2⟩:=hN _ _ hn hi;refine .dR _ _ x hx h1 (fun o2 u7=> ?_) fun o2 u7 hgo=> ?_
   ·obtain⟨o,ho,e1,e2,e3⟩:=h2 o2 u7
    exact e1▸hg o ho
   ·obtain⟨o,ho,e1,e2,e3⟩:=h2 o2 u7
    rw[e3];exact h o ho (e1.trans hgo)
 |iface t _ ih=>intro x hv;obtain⟨y,rfl,hy⟩:=hv.gF;exact .iface t _ _ (ih hy)
 |agg hl _ ih=>
  intro x hv;obtain⟨cs,rfl,h1,h2⟩:=hv.iy;refine .agg _ _ (h1.trans hl) fun i v x a b=> ?_
  obtain⟨u,hu⟩:=jz hl a;exact ih i u v hu a (h2 i u x hu b)
 |bn hl _ ih=>
  intro x hv;obtain⟨cs,rfl,h1,h2⟩:=hv.mj;refine .bn _ _ (h1.trans hl) fun i v x a b=> ?_
  obtain⟨u,hu⟩:=jz hl a;exact ih i u v hu a (h2 i u x hu b)
 |func fn ha hb _ _ ih y8=>
  intro x hv;obtain⟨a',b',rfl,h1,h2,h3,h4⟩:=hv.oQ;refine .func fn _ _ _ _ (h1.trans ha) (h2.trans hb) (fun i v x a b=> ?_) fun i v x a b=> ?_
  ·obtain⟨u,hu⟩:=jz ha a
   exact ih i u v hu a (h3 i u x hu b)
  ·obtain⟨u,hu⟩:=jz hb a
   exact y8 i u v hu a (h4 i u x hu b)
inductive mS(N:Nat->Nat->Prop):aG->aG->Prop
 |vec {g sz:Nat} {es es':List SV} {sk:Sk} (hl:es.length=es'.length) (h: ∀(i:Nat) (v v':SV),es[i]? =some v->es'[i]? =some v'->iT N v v'):mS N (.vec g sz es sk) (.vec g sz es' sk)
 |iter (s:List UInt8) (pos:Nat):mS N (.iter s pos) (.iter s pos)
 |map (es:List (SV×SV×Nat)) (clock:Nat):mS N (.map es clock) (.map es clock)
 |cP {m m':SV} (h:iT N m m') (since:Nat) (seen:List Nat) (stepped:Nat):mS N (.cP m since seen stepped) (.cP m' since seen stepped)
 |lB (g:Nat) (ty:TypeId) (xs:List SV):mS N (.lB g ty xs) (.lB g ty xs)
theorem mS.flip{o o':aG}(h:mS N o o'):mS (fun a b=>N b a) o' o:=by
 cases h with
 |vec hl h=>exact .vec hl.symm fun i v v' a b=>(h i v' v b a).flip
 |iter s pos=>exact .iter s pos
 |map es clock=>exact .map es clock
 |cP h a b c=>exact .cP h.flip a b c
 |lB g ty xs=>exact .lB g ty xs
theorem mS.gen{o o':aG}(h:mS N o o'):o.gen=o'.gen/\o.sz=o'.sz:=by cases h<;>exact⟨rfl,rfl⟩
theorem OR.DD(xB: ∀b,c.Im b->c2.Im b)
  (hN: ∀i j,N i j->i<A.dB->j<A2.dB/\ ∀o2,A2.obj j=some o2-> ∃o,A.obj i=some o/\o.gen=o2.gen/\o.sz=o2.sz/\c2.β j=c.β i)
  {b:Nat}{o o2:aG}(hr:mS N o o2)(h:OR c A w b o):OR c2 A2 w b o2:=by
 cases hr with
 |vec hl pT=>
  cases h with
  |vec _ _ _ _ C ty fz hw hle heq hty hc hf hcell=>
   refine .vec _ _ _ _ C ty fz hw (hl▸hle) (fun hs=>hl▸heq hs) hty (fun v hv=> ?_) hf fun i j e v x h1 h2 h3=> ?_
   ·obtain⟨i,hi⟩:=List.mem_iff_getElem?.1 hv
    obtain⟨u,hu⟩:=jz hl hi;rw[(pT i u v hu hi).cells.1];exact hc u (List.mem_of_getElem? hu)
   ·obtain⟨u,hu⟩:=jz hl h1
    obtain⟨d,hd⟩:=jz ((pT i u e hu h1).cells.1.symm) h2;exact VR.DD xB hN ((pT i u e hu h1).cells.2 j d v hd h2) (hcell i j u d x hu hd h3)
 |iter s pos=>cases h with|iter _ _ hw=>exact .iter s pos hw
 |map es clock=>cases h with|map _ _ hw hs=>exact .map es clock hw hs
 |cP hm a d e=>cases h with|cP _ _ _ _ r hw hm'=>exact .cP _ _ _ _ r hw (VR.DD xB hN hm hm')
 |lB g ty xs=>cases h with|lB _ _ _ C fz hw hle hc=>exact .lB g ty xs C fz hw hle hc
end
inductive KA(N:Nat->Nat->Prop):cG->cG->Prop
 |ret {v v':SV} (h:iT N v v'):KA N (.ret v) (.ret v')
 |bO {v v':SV} (h:iT N v v'):KA N (.bO v) (.bO v')
inductive wB(N:Nat->Nat->Prop):List SV->List SV->Prop
 |nil:wB N [] []
 |cons {v v':SV} {l l':List SV} (h:iT N v v') (r:wB N l l'):wB N (v::l) (v'::l')
theorem wB.len{N:Nat->Nat->Prop}{l l':List SV}(h:wB N l l'):l.length=l'.length:=by induction h<;>simp_all
theorem wB.at_{N:Nat->Nat->Prop}{l l':List SV}(h:wB N l l'): ∀ {i:Nat} {v:SV},l[i]? =some v-> ∃u,l'[i]? =some u/\iT N v u:=by
 induction h with
 |nil=>intro i v hv;simp at hv
 |cons h _ ih=>
  intro i v hv;cases i with
  |zero=>simp at hv;subst hv;exact⟨_,rfl,h⟩
  |succ i=>simp at hv;obtain⟨u,hu,hh⟩:=ih hv;exact⟨u,by simpa using hu,hh⟩
structure Fr(N:Nat->Nat->Prop)(m n:Nat)(l:List (Nat×aG))(N':Nat->Nat->Prop)(r:cG)(h':Heap)(r2:cG)(h2:Heap):Prop where
 old: ∀k j,N' k j->(k<m/\N k j)\/(m<=k/\n<=j)
 inj: ∀k k' j,N' k j->N' k' j->k=k'
 fn: ∀k j j',N' k j->N' k j'->j=j'
 lt: ∀k j,N' k j->k<h'.dB->j<h2.dB
 dB:n<=h2.dB
 obj: ∀j o2,h2.obj j=some o2->j<h2.dB/\((∃ k o,N' k j/\h'.obj k=some o/\mS N' o o2)\/(aV l j=some o2/\ ∀k,¬N k j))
 ret:KA N' r r2
open Classical in
theorem aZ.frame {P:Program} {f:FuncId} {N:Nat->Nat->Prop} {m n:Nat} {L l:List (Nat×aG)} {args args2:List SV} {R:cG->Heap->Prop}
  (hL: ∀k o,aV L k=some o->k<m/\ ∃j o2,N k j/\aV l j=some o2/\mS N o o2) (hm: ∀k j,N k j->k<m/\ ∃o,aV L k=some o)
  (hinj: ∀k k' j,N k j->N k' j->k=k') (hfn: ∀k j j',N k j->N k j'->j=j') (ha:wB N args args2)
  (hp:aZ P f args ⟨m,L⟩ fun r h'=> ∃N' r2 h2,Fr N m n l N' r h' r2 h2/\R r2 h2):aZ P f args2 ⟨n,l⟩ R:=by
 refine⟨fun c w xs hr hs Ge=> ?_⟩
 let c1:Cx:=⟨fun k=>if h: ∃j,N k j then c.β (choose h)else 0,c.Im⟩
 have uV: ∀ {k j:Nat},N k j->c1.β k=c.β j:=fun{k j} h=>by
  have he: ∃j,N k j:=⟨j,h⟩;show(if h: ∃j,N k j then c.β (choose h)else 0)=c.β j;rw[dif_pos he,hfn k _ _ (choose_spec he) h]
 have hlk: ∀ {k j:Nat},N k j-> ∃o o2,aV L k=some o/\aV l j=some o2/\mS N o o2:=fun{k j} h=>by
  obtain⟨_,o,ho⟩:=hm k j h;obtain⟨_,j',o2,hn,u7,pT⟩:=hL k o ho;cases hfn k j j' h hn
  exact⟨o,o2,ho,u7,pT⟩
 have VT: ∀j k,N k j->j<n->k<m/\ ∀o,(Heap.mk m L).obj k=some o-> ∃o2,(Heap.mk n l).obj j=some o2/\o2.gen=o.gen/\o2.sz=o.sz/\c1.β k=c.β j:=fun j k h _=>by
  refine⟨(hm k j h).1,fun o ho=> ?_⟩;obtain⟨o',o2,h1,h2,h3⟩:=hlk h;have ho:aV L k=some o:=ho;rw[h1]at ho;cases ho
  exact⟨o2,h2,h3.gen.1.symm,h3.gen.2.symm,uV h⟩
 have oM:cF c1 ⟨m,L⟩ w:=by
  refine⟨fun k o ho=>(hL k o ho).1,fun k o ho=> ?_,fun k k' o p ho hp he=> ?_,fun k o ho hb=> ?_,hr.im,hr.dY⟩
  ·obtain⟨_,j,o2,h1,h2,h3⟩:=hL k o ho
   rw[uV h1];exact OR.DD (N:=fun a b=>N b a) (c:=c) (c2:=c1) (A:=⟨n,l⟩) (A2:=⟨m,L⟩) (fun b hb=>hb) VT h3.flip (hr.obj j o2 h2)
  ·obtain⟨_,j,o2,h1,h2,h3⟩:=hL k o ho
   obtain⟨_,j',p2,H8,oL,YV⟩:=hL k' p hp;rw[uV h1,uV H8]at he;cases hr.inj j j' o2 p2 h2 oL he
   exact hinj _ _ _ h1 H8
  ·obtain⟨_,j,o2,h1,h2,h3⟩:=hL k o ho
   rw[uV h1]at hb;exact hr.apart j o2 h2 hb
 refine(hp.calls c1 w xs oM (hs.trans ha.len.symm) fun i v x hi hx=> ?_).mono fun en w' hpost=> ?_
 ·obtain⟨u,hu,huv⟩:=ha.at_ hi
  exact VR.DD (N:=fun a b=>N b a) (c:=c) (c2:=c1) (A:=⟨n,l⟩) (A2:=⟨m,L⟩) (fun b hb=>hb) VT huv.flip (Ge i u x hu hx)
 obtain⟨c',h',r,⟨N',r2,h2,hF,hR⟩,hr',hx',vU⟩:=hpost
 let c2:Cx:=⟨fun j=>if h: ∃k,N' k j then c'.β (choose h)else c.β j,c'.Im⟩
 have zM: ∀ {k j:Nat},N' k j->c2.β j=c'.β k:=fun{k j} h=>by
  have he: ∃k,N' k j:=⟨k,h⟩;show(if h: ∃k,N' k j then c'.β (choose h)else c.β j)=c'.β k;rw[dif_pos he,hF.inj _ _ j (choose_spec he) h]
 have zO: ∀ {j:Nat} {o:aG},aV l j=some o->(∀ k,¬N k j)->c2.β j=c.β j/\ ∀k,¬N' k j:=fun{j o} h hn=>by
  have hj:j<n:=hr.lt j o h
  have hno: ∀k,¬N' k j:=fun k hk=>by
   rcases hF.old k j hk with⟨_,h1⟩|⟨_,h1⟩
   ·exact hn k h1
   ·omega
  refine⟨?_,hno⟩;show(if h: ∃k,N' k j then c'.β (choose h)else c.β j)=c.β j;rw[dif_neg (fun⟨k,hk⟩=>hno k hk)]
 have hfr: ∀b,b<w.heap.size->(∀ j o,aV l j=some o->c.β j≠b)->w'.heap[b]? =w.heap[b]? :=fun b hb hn=>hx'.frame b hb fun k o ho he=>by
  obtain⟨_,j,o2,h1,h2,_⟩:=hL k o ho;rw[uV h1]at he;exact hn j o2 h2 he
 have hold: ∀ {k j:Nat} {o':aG},N' k j->k<m->h'.obj k=some o'-> ∃o o2,aV L k=some o/\aV l j=some o2/\mS N o o2/\o2.gen<=o'.gen/\o2.sz=o'.sz/\(o2.gen=o'.gen->c'.β k=c.β j)/\N k j:=fun{k j o'} hn hk ho'=>by
  rcases hF.old k j hn with⟨_,h1⟩|⟨h1,_⟩
  ·obtain⟨o,o2,e1,e2,e3⟩:=hlk h1
   obtain⟨o',e4,e5,e6,e7⟩:=hx'.old k _ hk ho';have e4:aV L k=some o':=e4;rw[e1]at e4;cases e4
   refine⟨o,o2,e1,e2,e3,by rw[<- e3.gen.1];exact e5,by rw[<- e3.gen.2];exact e6,fun h=> ?_,h1⟩;rw[e7 (by rw[e3.gen.1];exact h),uV h1]
  ·omega
 have qu:Ext c ⟨n,l⟩ w c2 h2 w':=by
  refine⟨hx'.os,hx'.tape,hx'.output,hx'.size,hfr,hx'.shape,fun b hb=>hx'.im b hb,fun b hb=> ?_,hF.dB,fun j o2 hj u7=> ?_,fun j o2 u7=> ?_⟩
  ·rcases hx'.im' b hb with h|h|⟨k,o,ho,he⟩
   ·exact .inl h
   ·exact .inr (.inl h)
   ·obtain⟨_,j,o2,h1,h2,_⟩:=hL k o ho
    exact .inr (.inr ⟨j,o2,h2,(uV h1).symm.trans he⟩)
  ·have hj:j<n:=hj
   rcases(hF.obj j o2 u7).2 with⟨k,o',hn,ho',pT⟩|⟨ho,hn⟩
   ·have hk:k<m:=by
     rcases hF.old k j hn with⟨h1,_⟩|⟨_,h1⟩
     ·exact h1
     ·omega
    obtain⟨o,q,e1,e2,e3,e4,e5,e6,_⟩:=hold hn hk ho';refine⟨q,e2,by rw[<- pT.gen.1];exact e4,by rw[<- pT.gen.2];exact e5,fun h=> ?_⟩;rw[zM hn];exact e6 (by rw[pT.gen.1];exact h)
   ·exact⟨o2,ho,Nat.le_refl _,rfl,fun _=>(zO ho hn).1⟩
  ·rcases(hF.obj j o2 u7).2 with⟨k,o',hn,ho',pT⟩|⟨ho,hn⟩
   ·rw[zM hn]
    rcases hx'.new k o' ho' with h|⟨o,ho,he⟩
    ·exact .inl h
    ·obtain⟨hk,j',q,e1,e2,_⟩:=hL k o ho
     rcases hF.old k j hn with⟨_,h1⟩|⟨h1,_⟩
     ·cases hfn k j j' h1 e1
      exact .inr ⟨q,e2,he.trans (uV h1)⟩
     ·omega
   ·exact .inr ⟨o2,ho,(zO ho hn).1⟩
 have Uj: ∀k j,N' k j->k<h'.dB->j<h2.dB/\ ∀o2,h2.obj j=some o2-> ∃o,h'.obj k=some o/\o.gen=o2.gen/\o.sz=o2.sz/\c2.β j=c'.β k:=fun k j hn hk=>by
  refine⟨hF.lt k j hn hk,fun o2 u7=> ?_⟩;rcases(hF.obj j o2 u7).2 with⟨k',o',hn',ho',pT⟩|⟨ho,hno⟩
  ·cases hF.inj k k' j hn hn'
   exact⟨o',ho',pT.gen.1,pT.gen.2,zM hn⟩
  ·exact absurd hn ((zO ho hno).2 k)
 have BH: ∀ {k j j':Nat} {o' o2:aG},N' k j->h'.obj k=some o'->aV l j'=some o2->(∀ k,¬N k j')->c'.β k≠c.β j':=fun{k j j' o' o2} hn ho' u7 hno he=>by
  have hb:=(hr.obj j' o2 u7).lt;rcases hx'.new k o' ho' with h|⟨o,ho,he'⟩
  ·omega
  ·obtain⟨hk,i,q,e1,e2,_⟩:=hL k o ho
   rw[he',uV e1]at he;cases hr.inj i j' q o2 e2 u7 he
   exact hno k e1
 have Dh:cF c2 h2 w':=by
  refine⟨fun j o ho=>(hF.obj j o ho).1,fun j o ho=> ?_,fun j j' o p ho hp he=> ?_,fun j o ho hb=> ?_,fun b hb=>hr'.im b hb,hr'.dY⟩
  ·rcases(hF.obj j o ho).2 with⟨k,o',hn,ho',pT⟩|⟨ho',hno⟩
   ·rw[zM hn]
    exact OR.DD (c:=c') (c2:=c2) (A:=h') (A2:=h2) (fun b hb=>hb) Uj pT (hr'.obj k o' ho')
   ·rw[(zO ho' hno).1]
    refine(hr.obj j o ho').mono hr qu (hx'.frame _ (hr.obj j o ho').lt fun k o1 Uk he=> ?_);obtain⟨_,i,q,e1,e2,_⟩:=hL k o1 Uk;rw[uV e1]at he;cases hr.inj i j q o e2 ho' he
    exact hno k e1
  ·rcases(hF.obj j o ho).2 with⟨k,o',hn,ho',pT⟩|⟨ho',hno⟩
   ·rcases(hF.obj j' p hp).2 with⟨k2,p',hn2,hp',RX⟩|⟨hp',KB⟩
    ·rw[zM hn,zM hn2]at he
     cases hr'.inj k k2 o' p' ho' hp' he
     exact hF.fn k _ _ hn hn2
    ·rw[zM hn,(zO hp' KB).1]at he
     exact absurd he (BH hn ho' hp' KB)
   ·rcases(hF.obj j' p hp).2 with⟨k2,p',hn2,hp',RX⟩|⟨hp',KB⟩
    ·rw[zM hn2,(zO ho' hno).1]at he
     exact absurd he.symm (BH hn2 hp' ho' hno)
    ·rw[(zO hp' KB).1,(zO ho' hno).1]at he
     exact hr.inj j j' o p ho' hp' he
  ·rcases(hF.obj j o ho).2 with⟨k,o',hn,ho',pT⟩|⟨ho',hno⟩
   ·rw[zM hn]at hb
    exact hr'.apart k o' ho' hb
   ·rw[(zO ho' hno).1]at hb
    rcases hx'.im' _ hb with h|h|⟨k,o1,Uk,he⟩
    ·exact hr.apart j o ho' h
    ·have:=(hr.obj j o ho').lt
     omega
    ·obtain⟨_,i,q,e1,e2,_⟩:=hL k o1 Uk
     rw[uV e1]at he;cases hr.inj i j q o e2 ho' he
     exact hno k e1
 refine⟨c2,h2,r2,hR,Dh,qu,?_⟩;cases hF.ret with
 |ret h=>obtain⟨x,rfl,hx⟩:=vU;exact⟨x,rfl,VR.DD (c:=c') (c2:=c2) (A:=h') (A2:=h2) (fun b hb=>hb) Uj h hx⟩
 |bO h=>obtain⟨x,rfl,hx⟩:=vU;exact⟨x,rfl,VR.DD (c:=c') (c2:=c2) (A:=h') (A2:=h2) (fun b hb=>hb) Uj h hx⟩
inductive sw(A:Heap):cG->cG->Prop
 |ret {v v':SV} (h:cq A v v'):sw A (.ret v) (.ret v')
 |bO {v v':SV} (h:cq A v v'):sw A (.bO v) (.bO v')
theorem aZ.iq{P:Program}{f:FuncId}{args:List SV}{h:Heap}{R:cG->Heap->Prop}
  (hp:aZ P f args h fun r h'=> ∃(S:Nat->Bool) (r2:cG),sw ⟨h'.dB,ou S h'.l⟩ r r2/\R r2 ⟨h'.dB,ia S h'.l⟩):aZ P f args h R:=by
 refine⟨fun c w xs hr hs hv=>(hp.calls c w xs hr hs hv).mono fun en w' ⟨c',h',r,⟨S,r2,hh,hR⟩,hr',hx',vU⟩=> ?_⟩;refine⟨Ab.mb S c' h',⟨h'.dB,ia S h'.l⟩,r2,hR,hr'.mb S,hx'.trans hr (Ext.mb S),?_⟩;cases hh with
 |ret h=>obtain⟨x,rfl,hx⟩:=vU;exact⟨x,rfl,.pure (h.mb S hr' hx)⟩
 |bO h=>obtain⟨x,rfl,hx⟩:=vU;exact⟨x,rfl,.pure (h.mb S hr' hx)⟩
def BI:aG->Prop
 | .vec g _ es _=>g=0/\ ∀v∈es,bJ v
 |_=>False
def KC:cG->Prop
 | .ret v=>bJ v
 | .bO v=>bJ v
theorem kG{N:Nat->Nat->Prop}{o:aG}(h:BI o):mS N o o:=by
 cases o with
 |vec g sz es sk=>exact .vec rfl fun i v v' a b=>by rw[a]at b;cases b;exact .lit (h.2 v (List.mem_of_getElem? a))
 |_=>exact h.elim
theorem BJ{N:Nat->Nat->Prop}{e:cG}(h:KC e):KA N e e:=by
 cases e with
 |ret v=>exact .ret (.lit h)
 |bO v=>exact .bO (.lit h)
theorem BK{N:Nat->Nat->Prop}: ∀ {l:List SV},(∀ a∈l,bJ a)->wB N l l
 | [],_=> .nil
 |a::r,h=> .cons (.lit (h a (by simp))) (BK fun b hb=>h b (by simp[hb]))
def GC(j:Nat):Bool:=bif Nat.beq j 0 then false else true
inductive xE(A:Heap):List SV->List SV->Prop
 |nil:xE A [] []
 |same {v:SV} {l l':List SV} (r:xE A l l'):xE A (v::l) (v::l')
 |iq {v v':SV} {l l':List SV} (h:cq A v v') (r:xE A l l'):xE A (v::l) (v'::l')
theorem xE.len{A:Heap}{l l':List SV}(h:xE A l l'):l.length=l'.length:=by induction h<;>simp_all
theorem xE.at_{A:Heap}{l l':List SV}(h:xE A l l'): ∀ {i:Nat} {v:SV},l'[i]? =some v-> ∃u,l[i]? =some u/\(u=v\/cq A u v):=by
 induction h with
 |nil=>intro i v hv;simp at hv
 |same _ ih=>
  intro i v hv;cases i with
  |zero=>simp at hv;subst hv;exact⟨_,rfl,.inl rfl⟩
  |succ i=>simp at hv;obtain⟨u,hu,hh⟩:=ih hv;exact⟨u,by simpa using hu,hh⟩
 |iq h _ ih=>
  intro i v hv;cases i with
  |zero=>simp at hv;subst hv;exact⟨_,rfl,.inr h⟩
  |succ i=>simp at hv;obtain⟨u,hu,hh⟩:=ih hv;exact⟨u,by simpa using hu,hh⟩
theorem aZ.KD{P:Program}{f:FuncId}{args args':List SV}{n:Nat}{l:List (Nat×aG)}{R:cG->Heap->Prop}(S:Nat->Bool)(hh:xE ⟨n,ou S l⟩ args args')
  (hp:aZ P f args' ⟨n,ia S l⟩ R):aZ P f args ⟨n,l⟩ R:=by
 refine⟨fun c w xs hr hs hv=> ?_⟩;refine(hp.calls (Ab.mb S c ⟨n,l⟩) w xs (hr.mb S) (hs.trans hh.len) fun i v x hi hx=> ?_).mono fun en w' hpost=> ?_
 ·obtain⟨u,hu,huv⟩:=hh.at_ hi
  rcases huv with rfl|huv
  ·exact(hv i u x hu hx).mono hr (Ext.mb S)
  ·exact .pure (huv.mb S hr (hv i u x hu hx))
 ·obtain⟨c',h',r,hR,hr',hx',vU⟩:=hpost
  exact⟨c',h',r,hR,hr',(Ext.mb S).trans hr hx',vU⟩
theorem aj.less{P:Program}{f:FuncId}{args:List SV}{v v':SV}(hp:aj P f args v)(hl:bJ v)(hv: ∀Im w x,VP Im w v x->VP Im w v' x){h:Heap}{R:cG->Heap->Prop}(hR:R (.ret v') h):aZ P f args h R:=by
 have hr:=hp.run h;refine⟨fun c w xs Dh hs Ge=>(hr.calls c w xs Dh hs Ge).mono fun en w' ⟨c',h',r,⟨oM,iO⟩,hr',hx',vU⟩=> ?_⟩;subst oM;subst iO;obtain⟨x,rfl,hx⟩:=vU;exact⟨c',h',.ret v',hR,hr',hx',x,rfl,.pure (hv _ _ _ (hl.vp hx))⟩
def yH:cG->Bool
 | .ret _=>true
 | .bO _=>false
structure cy(P:Program)(f:FuncId)(as:List SV)(o:aG)(e:cG)(o':aG):Prop where
 args: ∀a∈as,bJ a
 lit:BI o
 lit':BI o'
 end_:KC e
 RY:aZ P f (.ref 0 0 0 0::as) ⟨1,[(0,o)]⟩ fun r h'=>sw ⟨h'.dB,ou GC h'.l⟩ r e/\(yH e=true->h'.obj 0=some o')
theorem cy.run{P:Program}{f:FuncId}{as:List SV}{o:aG}{e:cG}{o':aG}(hp:cy P f as o e o'){i n:Nat}{l:List (Nat×aG)}(ho:aV l i=some o):aZ P f (.ref i 0 0 0::as) ⟨n,l⟩ fun r h'=>r=e/\(yH e=true->h'=⟨n,cO l i o'⟩)/\(yH e=false->h'=⟨n,ia (fun j=>Nat.beq j i) l⟩):=by
 have hlt: ∀ {R:cG->Heap->Prop},((∀ j p,aV l j=some p->j<n)->aZ P f (.ref i 0 0 0::as) ⟨n,l⟩ R)->aZ P f (.ref i 0 0 0::as) ⟨n,l⟩ R:=fun h=>⟨fun c w xs hr hs hv=>(h fun j p hj=>hr.lt j p hj).calls c w xs hr hs hv⟩
 refine hlt fun hlt=> ?_
 have hi:=hlt i o ho;refine aZ.frame (N:=fun k j=>k=0/\j=i) (m:=1) (L:=[(0,o)]) (args:= .ref 0 0 0 0::as) (fun k q hk=> ?_) (fun k j hk=> ?_) (fun k k' j h h'=>h.1.trans h'.1.symm) (fun k j j' h h'=>h.2.trans h'.2.symm) (.cons (.ref ⟨rfl,rfl⟩) (BK hp.args)) (aZ.iq ?_)
 ·unfold aV at hk
  by_cases h:0=k
  ·rw[if_pos h]at hk;cases hk;subst h
   exact⟨by omega,i,_,⟨rfl,rfl⟩,ho,kG hp.lit⟩
  ·rw[if_neg h]at hk;cases hk
 ·obtain⟨rfl,rfl⟩:=hk
  exact⟨by omega,_,rfl⟩
 ·refine hp.RY.mono fun r h' ⟨hh,ho'⟩=>⟨GC,e,hh,?_⟩
  cases hb:yH e with
  |true=>
   refine⟨fun k j=>k=0/\j=i,e,⟨n,cO l i o'⟩,⟨fun k j h=> .inl ⟨by omega,h⟩,fun k k' j h h'=>h.1.trans h'.1.symm,fun k j j' h h'=>h.2.trans h'.2.symm,fun k j h _=>h.2▸hi,Nat.le_refl _,fun j o2 hj=> ?_,BJ hp.end_⟩,rfl,fun _=>rfl,fun h=>by cases h⟩;by_cases hji:j=i
   ·subst hji
    have hj:aV (cO l j o') j=some o2:=hj;rw[ie ho]at hj;cases hj
    refine⟨hi,.inl ⟨0,o',⟨rfl,rfl⟩,?_,kG hp.lit'⟩⟩;show aV (ia GC h'.l) 0=some o';rw[ic];exact ho' hb
   ·have hj:aV (cO l i o') j=some o2:=hj
    rw[dQ hji]at hj;exact⟨hlt j _ hj,.inr ⟨hj,fun k hk=>hji hk.2⟩⟩
  |false=>
   refine⟨fun k j=>k=0/\j=i,e,⟨n,ia (fun j=>Nat.beq j i) l⟩,⟨fun k j h=> .inl ⟨by omega,h⟩,fun k k' j h h'=>h.1.trans h'.1.symm,fun k j j' h h'=>h.2.trans h'.2.symm,fun k j h _=>h.2▸hi,Nat.le_refl _,fun j o2 hj=> ?_,BJ hp.end_⟩,rfl,(fun h=>by cases h),fun _=>rfl⟩;have hj:aV (ia (fun j=>Nat.beq j i) l) j=some o2:=hj;rw[ic]at hj;split at hj
   ·cases hj
   ·rename_i hne
    exact⟨hlt j _ hj,.inr ⟨hj,fun k hk=>hne (by rw[hk.2];exact Nat.beq_refl i)⟩⟩
theorem cy.call{P:Program}{f:FuncId}{as:List SV}{o:aG}{v:SV}{o':aG}(hp:cy P f as o (.ret v) o'){i n:Nat}{l:List (Nat×aG)}{R:cG->Heap->Prop}(ho:aV l i=some o)
 (hR:R (.ret v) ⟨n,cO l i o'⟩):aZ P f (.ref i 0 0 0::as) ⟨n,l⟩ R:=(hp.run ho).mono fun r h' ⟨h1,h2,_⟩=>by rw[h1,h2 rfl];exact hR
theorem cy.bO{P:Program}{f:FuncId}{as:List SV}{o:aG}{v:SV}{o':aG}(hp:cy P f as o (.bO v) o'){i n:Nat}{l:List (Nat×aG)}{R:cG->Heap->Prop}(ho:aV l i=some o)
 (hR: ∀h',R (.bO v) h'):aZ P f (.ref i 0 0 0::as) ⟨n,l⟩ R:=(hp.run ho).mono fun r h' ⟨h1,_⟩=>by rw[h1];exact hR h'
theorem cy.Oq{P:Program}{f:FuncId}{as:List SV}{o:aG}{v:SV}{o':aG}(hp:cy P f as o (.bO v) o'){i n:Nat}{l:List (Nat×aG)}{R:cG->Heap->Prop}(ho:aV l i=some o)
 (hR:R (.bO v) ⟨n,ia (fun j=>Nat.beq j i) l⟩):aZ P f (.ref i 0 0 0::as) ⟨n,l⟩ R:=(hp.run ho).mono fun r h' ⟨h1,_,h2⟩=>by rw[h1,h2 rfl];exact hR
theorem bT{o':aG}{h':Heap}{v v':SV}(hh:cq ⟨h'.dB,ou GC h'.l⟩ v v')(ho:h'.obj 0=some o'):sw ⟨h'.dB,ou GC h'.l⟩ (.ret v) (.ret v')/\(yH (.ret v')=true->h'.obj 0=some o'):=⟨.ret hh,fun _=>ho⟩
theorem aW{o':aG}{h':Heap}{v:SV}(hl:bJ v):sw ⟨h'.dB,ou GC h'.l⟩ (.bO v) (.bO v)/\(yH (.bO v)=true->h'.obj 0=some o'):=⟨.bO (.lit hl),fun h=>by cases h⟩
end
end Ab
