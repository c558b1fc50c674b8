/- Parts of the proof of PCatalogBack, one behind the other, with short names. -/
import Derived.Test.YtegmnocpkgpgeaaGreatDoorZ33
import Derived.Test.YtegmnocpkgpgeaaGreatDoorZ26
set_option linter.unusedVariables false
set_option linter.unusedSimpArgs false
namespace Go.Proofs.YtegmnocpkgpgeaaGreatDoor
open Ab Go.RowKit
set_option maxRecDepth 100000
set_option maxHeartbeats 4000000
attribute [local irreducible] aS bH
section
@[reducible] def Ll (l:List TP) (z:Int) (m:Nat) (d:Int):ai:= .vec 0 4 [.agg [wU l,.int .i64 z,.int .i64 (m:Nat),.int .i64 d]] ⟨false,some 131⟩
inductive SD{α:Type}(l:List TP)(m e:Nat)(sv:α->SV)(good:α->Prop)(f:Nat->bB α)(i:Nat):bu->ai->Prop
 |ok {x:α} {j:Nat} (hf:f i= .ok x j) (hg:good x) (h1:i<=j) (h2:j<=l.length):SD l m e sv good f i (.ret (sv x)) (gv l j m e)
 |bad {er:Int} {j:Nat} {o:ai} (hf:f i= .bad er j) (he:er≠0):SD l m e sv good f i (.eY (mY er (dG l m j))) o
def Rd{α:Type}(l:List TP)(m e:Nat)(fn:FuncId)(av:List SV)(sv:α->SV)(good:α->Prop)(f:Nat->bB α):Prop:= ∀i,i<=l.length->EC Tryz.prog fn av (gv l i m e) (SD l m e sv good f i)
section
variable {α:Type} {l:List TP} {m e:Nat} {sv:α->SV} {good:α->Prop} {f:Nat->bB α} {fn:FuncId} {av:List SV} {i k n:Nat} {L:List (Nat×ai)} {R:bu->Heap->Prop} {z d:Int}
theorem Rd.go(c:Rd l m e fn av sv good f)
  (hok: ∀x j,f i= .ok x j->good x->i<=j->j<=l.length->R (.ret (sv x)) ⟨n,bt L k (gv l j m e)⟩)(eO: ∀er j,f i= .bad er j->er≠0->R (.eY (mY er (dG l m j))) ⟨n,cE (fun j=>Nat.beq j k) L⟩)
  (ho:ak L k=some (Ll l z m d):=by rfl)(hz:z=(i:Nat):=by first|with_reducible rfl|exact bf (by omega))(hd:d=(e:Nat):=by first|with_reducible rfl|exact bf (by omega))(hi:i<=l.length:=by omega):
  aC Tryz.prog fn (.ref k 0 0 0::av) ⟨n,L⟩ R:=by
 subst hz;subst hd
 refine(c i hi).go ho (fun v o' hq=> ?_) fun v o' hq=> ?_
 ·cases hq with|ok hf hg h1 h2=>exact hok _ _ hf hg h1 h2
 ·cases hq with|bad hf he=>exact eO _ _ hf he
theorem jd(hargs: ∀a∈av,aL a)(hc: ∀i,i<=l.length->aC Tryz.prog fn (.ref 0 0 0 0::av) ⟨1,[(0,gv l i m e)]⟩ (EPost (SD l m e sv good f i))):Rd l m e fn av sv good f:=
 fun i hi=>⟨hargs,bE ..,hc i hi⟩
theorem bJ{x:α}{j:Nat}{v:SV}{h':Heap}(hf:f i= .ok x j)(hg:good x)(hh:bA ⟨h'.cI,kL wW h'.l⟩ v (sv x))(hl:aL (sv x))
  (ho:h'.obj 0=some (Ll l z m d):=by rfl)(hz:z=(j:Nat):=by first|with_reducible rfl|exact bf (by omega))(hd:d=(e:Nat):=by with_reducible rfl)(h1:i<=j:=by omega)(h2:j<=l.length:=by omega):EPost (SD l m e sv good f i) (.ret v) h':=by
 subst hz;subst hd
 exact⟨.ok hf hg h1 h2,hl,bE ..,.ret hh,fun _=>ho⟩
theorem bW{er:Int}{j:Nat}{h':Heap}(hf:f i= .bad er j)(he:er≠0:=by first|assumption|decide|(split<;>decide)):EPost (SD l m e sv good f i) (.eY (mY er (dG l m j))) h':=
 ⟨.bad (o:=gv l 0 m e) hf he,cR _ _,bE ..,.eY (.lit (cR _ _)),fun h=>by cases h⟩
theorem sS{s:List UInt8}(hy:dY (aO l) s i=true->i<l.length->R (.ret (.bool true)) ⟨n,bt L k (gv l i m e)⟩)(hn:dY (aO l) s i=false->R (.ret (.bool false)) ⟨n,bt L k (gv l i m e)⟩)
  (ho:ak L k=some (Ll l z m d):=by rfl)(hz:z=(i:Nat):=by first|with_reducible rfl|exact bf (by omega))(hd:d=(e:Nat):=by with_reducible rfl):aC Tryz.prog 97 [.ref k 0 0 0,.str s] ⟨n,L⟩ R:=by
 subst hz;subst hd
 have c:=KZ (l:=l) (m:=m) (e:=e) s i;cases hb:dY (aO l) s i<;>rw[hb]at c
 ·exact c.call ho (hn hb)
 ·exact c.call ho (hy hb (tZ hb))
theorem eI{s:List UInt8}(hy:dY (aO l) s i=true->i<l.length->R (.ret (.bool true)) ⟨n,bt L k (gv l (i+1) m e)⟩)(hn:dY (aO l) s i=false->R (.ret (.bool false)) ⟨n,bt L k (gv l i m e)⟩)
  (ho:ak L k=some (Ll l z m d):=by rfl)(hz:z=(i:Nat):=by first|with_reducible rfl|exact bf (by omega))(hd:d=(e:Nat):=by with_reducible rfl)(hl:l.length<=65536:=by assumption):aC Tryz.prog 58 [.ref k 0 0 0,.str s] ⟨n,L⟩ R:=by
 subst hz;subst hd
 cases hb:dY (aO l) s i
 ·exact(Bb hl hb).call ho (hn hb)
 ·exact(vB hl hb).call ho (hy hb (tZ hb))
theorem Zm{P:Program}{f:FuncId}{ws:List (List UInt8)}{o o':ai}{v:SV}(hp:fU P f [o5 ws] o (.ret v) o'){q:Nat}{c:Option Nat}{sk:Sk}(ho:ak L k=some o)(hk:ak L q=some (.vec 0 1 (ws.map SV.str) sk))(hik:Nat.beq k q=false)
  (hR:R (.ret v) ⟨n,bt (cE (fun j=>Nat.beq j q) L) k o'⟩):aC P f [.ref k 0 0 0,.sl q 0 1 0 ws.length c] ⟨n,L⟩ R:=by
 refine aC.C6 (fun j=>Nat.beq j q) (.same (.mW (qx (s:=ws) (g:=0) (sk:=sk) ?_ rfl) .nil)) (hp.call ?_ hR)
 ·show ak (kL _ L) q=_
  rw[mD,if_pos (Nat.beq_refl q)];exact hk
 ·rw[fB,if_neg (by rw[hik];decide)]
  exact ho
theorem SE{P:Program}{f:FuncId}{ws:List (List UInt8)}{o o':ai}{v:SV}(hp:fU P f [o5 ws] o (.eY v) o'){q:Nat}{c:Option Nat}{sk:Sk}(ho:ak L k=some o)(hk:ak L q=some (.vec 0 1 (ws.map SV.str) sk))(hik:Nat.beq k q=false)
  (hR:R (.eY v) ⟨n,cE (fun j=>Nat.beq j k) (cE (fun j=>Nat.beq j q) L)⟩):aC P f [.ref k 0 0 0,.sl q 0 1 0 ws.length c] ⟨n,L⟩ R:=by
 refine aC.C6 (fun j=>Nat.beq j q) (.same (.mW (qx (s:=ws) (g:=0) (sk:=sk) ?_ rfl) .nil)) (hp.NN ?_ hR)
 ·show ak (kL _ L) q=_
  rw[mD,if_pos (Nat.beq_refl q)];exact hk
 ·rw[fB,if_neg (by rw[hik];decide)]
  exact ho
theorem dU{s:List UInt8}{q:Nat}{c:Option Nat}{sk:Sk}(hy:dY (aO l) s i=true->i<l.length->R (.ret (.bn [])) ⟨n,bt (cE (fun j=>Nat.beq j q) L) k (gv l (i+1) m e)⟩)
  (hn:dY (aO l) s i=false->R (.eY (mY 240 (dG l m i))) ⟨n,cE (fun j=>Nat.beq j k) (cE (fun j=>Nat.beq j q) L)⟩)
  (hw:ak L q=some (.vec 0 1 [.str s] sk):=by rfl)(ho:ak L k=some (Ll l z m d):=by rfl)(hz:z=(i:Nat):=by first|with_reducible rfl|exact bf (by omega))(hd:d=(e:Nat):=by first|with_reducible rfl|exact bf (by omega))(Tn:Nat.beq k q=false:=by rfl)(hl:l.length<=65536:=by assumption):
  aC Tryz.prog 152 [.ref k 0 0 0,.sl q 0 1 0 1 c] ⟨n,L⟩ R:=by
 subst hz;subst hd
 have cm:=IK (m:=m) (e:=e) hl s i;unfold aM at cm;cases hb:dY (aO l) s i<;>rw[hb]at cm
 ·exact SE (ws:=[s]) cm ho hw Tn (hn hb)
 ·exact Zm (ws:=[s]) cm ho hw Tn (hy hb (tZ hb))
theorem Dt{s t:List UInt8}{q:Nat}{c:Option Nat}{sk:Sk}(hy:dY (aO l) s i=true->dY (aO l) t (i+1)=true->i+1<l.length->R (.ret (.bn [])) ⟨n,bt (cE (fun j=>Nat.beq j q) L) k (gv l (i+2) m e)⟩)
  (hn:dY (aO l) s i=false->R (.eY (mY 240 (dG l m i))) ⟨n,cE (fun j=>Nat.beq j k) (cE (fun j=>Nat.beq j q) L)⟩)
  (hm:dY (aO l) s i=true->dY (aO l) t (i+1)=false->R (.eY (mY 240 (dG l m (i+1)))) ⟨n,cE (fun j=>Nat.beq j k) (cE (fun j=>Nat.beq j q) L)⟩)
  (hw:ak L q=some (.vec 0 1 [.str s,.str t] sk):=by rfl)(ho:ak L k=some (Ll l z m d):=by rfl)(hz:z=(i:Nat):=by first|with_reducible rfl|exact bf (by omega))(hd:d=(e:Nat):=by with_reducible rfl)(Tn:Nat.beq k q=false:=by rfl)(hl:l.length<=65536:=by assumption):
  aC Tryz.prog 152 [.ref k 0 0 0,.sl q 0 1 0 2 c] ⟨n,L⟩ R:=by
 subst hz;subst hd
 have run: ∀ {r:bu} {o':ai},NM r->AV o'->aC Tryz.prog 152 [.ref 0 0 0 0,o5 [s,t]] ⟨1,[(0,gv l i m e)]⟩ (fun r1 h'=>qX ⟨h'.cI,kL wW h'.l⟩ r1 r/\(p4 r=true->h'.obj 0=some o'))->
  fU Tryz.prog 152 [o5 [s,t]] (gv l i m e) r o':=fun h1 h2 h3=>⟨di (.aW ..),bE ..,h2,h1,h3⟩
 have cw:=lA (l:=l) (m:=m) (e:=e) 240;cases hb:dY (aO l) s i
 ·have cg:=Bb (m:=m) (e:=e) hl hb
  have cw:=cw i;refine SE (ws:=[s,t]) (run (r:= .eY _) (o':=gv l i m e) (cR _ _) (bE ..) (wT.call mixed rfl ?_)) ho hw Tn (hn hb);iterate 30 all_goals ((try conv=>whnf);try first|(with_reducible first|refine zY ?_|refine zN ?_|refine zT ?_|refine br (fun _=> ?_) (fun _=> ?_)|refine⟨rfl,?_⟩|refine dh.succ ?_)|(refine cg.call rfl ?_)|(refine cw.eY rfl fun h=> ?_)|with_reducible refine cz 4 ?_)
  exact AW (cR _ _)
 ·have cg:=vB (m:=m) (e:=e) hl hb
  have cw:=cw (i+1);cases D7:dY (aO l) t (i+1)
  ·have Yn:=Bb (m:=m) (e:=e) hl D7
   refine SE (ws:=[s,t]) (run (r:= .eY _) (o':=gv l i m e) (cR _ _) (bE ..) (wT.call mixed rfl ?_)) ho hw Tn (hm hb D7);iterate 40 all_goals ((try conv=>whnf);try first|(with_reducible first|refine zY ?_|refine zN ?_|refine zT ?_|refine br (fun _=> ?_) (fun _=> ?_)|refine⟨rfl,?_⟩|refine dh.succ ?_)|(refine cg.call rfl ?_)|(refine Yn.call rfl ?_)|(refine cw.eY rfl fun h=> ?_)|with_reducible refine cz 4 ?_)
   exact AW (cR _ _)
  ·have Yn:=vB (m:=m) (e:=e) hl D7
   refine Zm (ws:=[s,t]) (run (r:= .ret _) (o':=gv l (i+2) m e) (.bn (by simp)) (bE ..) (wT.call mixed rfl ?_)) ho hw Tn (hy hb D7 (tZ D7));iterate 40 all_goals ((try conv=>whnf);try first|(with_reducible first|refine zY ?_|refine zN ?_|refine zT ?_|refine br (fun _=> ?_) (fun _=> ?_)|refine⟨rfl,?_⟩|refine dh.succ ?_)|(refine cg.call rfl ?_)|(refine Yn.call rfl ?_)|with_reducible refine cz 4 ?_)
   exact vi (.lit (.bn (by simp))) rfl
theorem j9(hR:R (.ret (iF (l.getD i bG))) ⟨n,bt L k (gv l i m e)⟩)(ho:ak L k=some (Ll l z m d):=by rfl)(hz:z=(i:Nat):=by first|with_reducible rfl|exact bf (by omega))(hd:d=(e:Nat):=by with_reducible rfl):
  aC Tryz.prog 150 [.ref k 0 0 0] ⟨n,L⟩ R:=by
 subst hz;subst hd
 exact(wZ i).call ho hR
theorem gP{er:Int}(hR:R (.eY (mY er (dG l m i))) ⟨n,cE (fun j=>Nat.beq j k) L⟩)(ho:ak L k=some (Ll l z m d):=by rfl)(hz:z=(i:Nat):=by first|with_reducible rfl|exact bf (by omega))(hd:d=(e:Nat):=by with_reducible rfl):
  aC Tryz.prog 98 [.ref k 0 0 0,.int .i64 er] ⟨n,L⟩ R:=by
 subst hz;subst hd
 exact(lA er i).NN ho hR
theorem je{a b:Int}{p most:Nat}(hy:p<most->R (.ret (.bn [])) ⟨n,bt L k (gv l i m e)⟩)(hn:most<=p->R (.eY (mY (if i<l.length then 3 else 240) (dG l m i))) ⟨n,cE (fun j=>Nat.beq j k) L⟩)
  (ho:ak L k=some (Ll l z m d):=by rfl)(hz:z=(i:Nat):=by with_reducible rfl)(hd:d=(e:Nat):=by with_reducible rfl)(ha:a=(p:Nat):=by rfl)(hb:b=(most:Nat):=by rfl):
  aC Tryz.prog 59 [.ref k 0 0 0,.int .i64 a,.int .i64 b] ⟨n,L⟩ R:=by
 subst hz;subst hd;subst ha;subst hb
 have cw:=lA (l:=l) (m:=m) (e:=e);by_cases h:p<most
 ·refine fU.call (v:= .bn []) (o':=gv l i m e) ⟨cP (.int _ _) (.int _ _),bE ..,bE ..,.bn (by simp),PE.call mixed rfl ?_⟩ ho (hy h)
  have hd:decide ((p:Int)<(most:Int))=true:=decide_eq_true (by omega);iterate 12 all_goals ((try conv=>whnf);try first|(with_reducible first|refine zY ?_|refine zN ?_|refine zT ?_|refine br (fun _=> ?_) (fun _=> ?_)|refine⟨rfl,?_⟩))
  exact vi (.lit (.bn (by simp))) rfl
 ·have hd:decide ((p:Int)<(most:Int))=false:=decide_eq_false (by omega)
  refine fU.NN (o':=gv l i m e) ⟨cP (.int _ _) (.int _ _),bE ..,bE ..,cR ..,PE.call mixed rfl ?_⟩ ho (hn (by omega));by_cases hi:i<l.length
  ·have iR:decide ((i:Int)<(l.length:Int))=true:=decide_eq_true (by omega)
   have cw:=cw 3 i;rw[if_pos hi];iterate 16 all_goals ((try conv=>whnf);try first|(with_reducible first|refine zY ?_|refine zN ?_|refine zT ?_|refine br (fun _=> ?_) (fun _=> ?_)|refine⟨rfl,?_⟩)|(refine cw.eY rfl fun h=> ?_))
   exact AW (cR _ _)
  ·have iR:decide ((i:Int)<(l.length:Int))=false:=decide_eq_false (by omega)
   have cw:=cw 240 i;rw[if_neg hi];iterate 16 all_goals ((try conv=>whnf);try first|(with_reducible first|refine zY ?_|refine zN ?_|refine zT ?_|refine br (fun _=> ?_) (fun _=> ?_)|refine⟨rfl,?_⟩)|(refine cw.eY rfl fun h=> ?_))
   exact AW (cR _ _)
end
structure ig(l:List TP)(G:List UInt8->Prop):Prop where
 len:l.length<=65536
 nm: ∀i,((l.getD i bG).1.k==1)=true->kX bC (l.getD i bG).1.t=false->G (l.getD i bG).1.t
 tx: ∀i,((l.getD i bG).1.k==3)=true->(l.getD i bG).1.t.length<=64
theorem gj{l:List TP}{m e:Nat}{G:List UInt8->Prop}(hl:ig l G):Rd l m e 105 [] SV.str G (fC (aO l) (kX bC)):=fun i hi=>by
 have c:=Lh (m:=m) (e:=e) hl.len i;cases hn:fC (aO l) (kX bC) i with
 |bad er j=>
  rw[hn]at c
  have:er≠0:=by
   have h:=hn;unfold fC at h;split at h<;>cases h
   decide
  exact .of c (.bad hn this)
 |ok s j=>
  rw[hn]at c;have h:=hn;unfold fC at h;split at h
  ·rename_i hk
   cases h
   simp only[Bool.and_eq_true,Bool.not_eq_true']at hk;have:=ie hk.1 (by decide);exact .of c (.ok hn (hl.nm i hk.1 hk.2) (Nat.le_succ i) this)
  ·cases h
end
end Go.Proofs.YtegmnocpkgpgeaaGreatDoor
namespace Go.Proofs.YtegmnocpkgpgeaaGreatDoor
section
@[reducible] def Ex.op:Ex->Int| .mk o _ _ _ _ _ _=>o
@[reducible] def Ex.va:Ex->Va| .mk _ v _ _ _ _ _=>v
@[reducible] def Ex.tb:Ex->List UInt8| .mk _ _ t _ _ _ _=>t
@[reducible] def Ex.nm:Ex->List UInt8| .mk _ _ _ n _ _ _=>n
@[reducible] def Ex.slot:Ex->Int| .mk _ _ _ _ s _ _=>s
@[reducible] def Ex.kd:Ex->Int| .mk _ _ _ _ _ k _=>k
@[reducible] def Ex.args:Ex->List Ex| .mk _ _ _ _ _ _ a=>a
structure MY where
 all:Bool
 x:Ex
 nm:List UInt8
structure Src where
 tb:List UInt8
 nm:List UInt8
 IL:Ex
structure Ord where
 x:Ex
 desc:Bool
structure fH where
 nm:List UInt8
 kd:Int
 nn:Bool
structure VC where
 nm:List UInt8
 x:Ex
 slot:Int
structure Sm where
 kind:Int
 name:List UInt8:=[]
 eH:List UInt8:=[]
 aq:List fH:=[]
 key:List (List UInt8):=[]
 uniq:Bool:=false
 names:List (List UInt8):=[]
 rows:List (List Ex):=[]
 items:List MY:=[]
 xA:List Src:=[]
 wh:Ex:=GD
 group:List Ex:=[]
 order:List Ord:=[]
 limit:Int:=0
 sets:List VC:=[]
def eP{α:Type}(T:ld)(len:Nat)(one:Nat->bB α):Nat->List α->Nat->bB (List α)
 |0,_,i=> .bad (if i<len then 3 else 240) i
 |f+1,acc,i=>(one i).then fun x j=>if dY T [44] j then eP T len one f (acc++[x]) (j+1)else .ok (acc++[x]) j
section
variable (T:ld) (len:Nat) (aX:List UInt8->Bool) (expr:Nat->bB Ex)
def qa(most i:Nat):bB (List (List UInt8)):=
 (aM T [40] i).then fun _ j=>(eP T len (fC T aX) most [] j).then fun ns k=>(aM T [41] k).then fun _ q=> .ok ns q
def JH(i:Nat):bB (List UInt8):=if dY T [97,115] i then fC T aX (i+1)else .ok [] i
def ri(i:Nat):bB MY:=if dY T [42] i then .ok ⟨true,GD,[]⟩ (i+1)else(expr i).then fun x j=>(JH T aX j).then fun s k=> .ok ⟨false,x,s⟩ k
def rV(i:Nat):bB Ex:=if dY T [119,104,101,114,101] i then expr (i+1)else .ok GD i
def sU(IL:Bool)(i:Nat):bB Src:=(fC T aX i).then fun t j=>(JH T aX j).then fun a k=>
 if IL then(aM T [111,110] k).then fun _ q=>(expr q).then fun x p=> .ok ⟨t,a,x⟩ p else .ok ⟨t,a,GD⟩ k
def mG:Nat->List Src->Nat->bB (List Src)
 |0,acc,i=>if dY T [106,111,105,110] i then .bad (if i+1<len then 3 else 240) (i+1)else .ok acc i
 |f+1,acc,i=>if dY T [106,111,105,110] i then(sU T aX expr true (i+1)).then fun s j=>mG f (acc++[s]) j else .ok acc i
def VD{α:Type}(w:List UInt8)(one:Nat->bB α)(i:Nat):bB (List α):=if dY T w i then(aM T [98,121] (i+1)).then fun _ j=>eP T len one 32 [] j else .ok [] i
def qb(i:Nat):bB Ord:=(expr i).then fun x j=>if dY T [97,115,99] j then .ok ⟨x,false⟩ (j+1)else if dY T [100,101,115,99] j then .ok ⟨x,true⟩ (j+1)else .ok ⟨x,false⟩ j
def Bc(i:Nat):bB Int:=if dY T [108,105,109,105,116] i then(if(T (i+1)).k≠2 then .bad 240 (i+1)else if 1073741824<(T (i+1)).n then .bad 233 (i+1)else .ok (T (i+1)).n (i+2))else .ok (-1) i
def Du(items:List MY)(xA:List Src)(i5:Nat):bB Sm:=(rV T expr i5).then fun wh i6=>(VD T len [103,114,111,117,112] (Iu T aX) i6).then fun group i7=>
 (VD T len [111,114,100,101,114] (qb T expr) i7).then fun order i8=>(Bc T i8).then fun limit i9=> .ok {kind:=1,items:=items,xA:=xA,wh:=wh,group:=group,order:=order,limit:=limit} i9
def qc(i:Nat):bB Sm:=(aM T [115,101,108,101,99,116] i).then fun _ i1=>(eP T len (ri T aX expr) 32 [] i1).then fun items i2=>(aM T [102,114,111,109] i2).then fun _ i3=>
 (sU T aX expr false i3).then fun s0 i4=>(mG T len aX expr 3 [s0] i4).then fun xA i5=>Du T len aX expr items xA i5
def IM(i:Nat):bB (List Ex):=(aM T [40] i).then fun _ j=>(eP T len expr 12 [] j).then fun r k=>(aM T [41] k).then fun _ q=> .ok r q
def sV(i:Nat):bB Sm:=(aM T [105,110,115,101,114,116] i).then fun _ i1=>(aM T [105,110,116,111] i1).then fun _ i2=>(fC T aX i2).then fun n i3=>
 (if dY T [40] i3 then qa T len aX 12 i3 else .ok [] i3).then fun names i4=>(aM T [118,97,108,117,101,115] i4).then fun _ i5=>(eP T len (IM T len expr) 64 [] i5).then fun rows i6=> .ok {kind:=2,name:=n,names:=names,rows:=rows} i6
def IN(i:Nat):bB VC:=(fC T aX i).then fun n j=>(aM T [61] j).then fun _ k=>(expr k).then fun x q=> .ok ⟨n,x,0⟩ q
def vC(i:Nat):bB Sm:=(aM T [117,112,100,97,116,101] i).then fun _ i1=>(fC T aX i1).then fun n i2=>(aM T [115,101,116] i2).then fun _ i3=>(eP T len (IN T aX expr) 12 [] i3).then fun sets i4=>
 (rV T expr i4).then fun wh i5=> .ok {kind:=3,name:=n,sets:=sets,wh:=wh} i5
def vD(i:Nat):bB Sm:=(aM T [100,101,108,101,116,101] i).then fun _ i1=>(aM T [102,114,111,109] i1).then fun _ i2=>(fC T aX i2).then fun n i3=>(rV T expr i3).then fun wh i4=> .ok {kind:=4,name:=n,wh:=wh} i4
def kindOf(t:List UInt8):Option Int:=if t==[105,110,116]then some 2 else if t==[116,101,120,116]then some 3 else if t==[98,111,111,108]then some 1 else none
def ey(i:Nat):bB fH:=(fC T aX i).then fun n j=>match(if(T j).k=1 then kindOf (T j).t else none)with
 |none=> .bad 240 j
 |some k=>if dY T [110,111,116] (j+1)then(aM T [110,117,108,108] (j+2)).then fun _ q=> .ok ⟨n,k,true⟩ q else .ok ⟨n,k,false⟩ (j+1)
def fD:Nat->List fH->Nat->bB (List fH)
 |0,acc,i=>if dY T [112,114,105,109,97,114,121] i then .ok acc (i+1)else .bad (if i<len then 3 else 240) i
 |f+1,acc,i=>if(0<acc.length)&&dY T [112,114,105,109,97,114,121] i then .ok acc (i+1)else(ey T aX i).then fun c j=>(aM T [44] j).then fun _ k=>fD f (acc++[c]) k
def fE(n:List UInt8)(aq:List fH)(i4:Nat):bB Sm:=(aM T [107,101,121] i4).then fun _ i5=>(qa T len aX 4 i5).then fun key i6=>(aM T [41] i6).then fun _ i7=> .ok {kind:=5,name:=n,aq:=aq,key:=key} i7
def ua(i:Nat):bB Sm:=(aM T [116,97,98,108,101] i).then fun _ i1=>(fC T aX i1).then fun n i2=>(aM T [40] i2).then fun _ i3=>(fD T len aX 12 [] i3).then fun aq i4=>fE T len aX n aq i4
def uf(i:Nat):bB Sm:=let u:=dY T [117,110,105,113,117,101] i
 (aM T [105,110,100,101,120] (if u then i+1 else i)).then fun _ i1=>(fC T aX i1).then fun n i2=>(aM T [111,110] i2).then fun _ i3=>(fC T aX i3).then fun t i4=>(qa T len aX 4 i4).then fun names i5=>
 .ok {kind:=6,name:=n,eH:=t,uniq:=u,names:=names} i5
def n7(i:Nat):bB Sm:=
 if dY T [115,101,108,101,99,116] i then qc T len aX expr i
 else if dY T [105,110,115,101,114,116] i then sV T len aX expr i
 else if dY T [117,112,100,97,116,101] i then vC T len aX expr i
 else if dY T [100,101,108,101,116,101] i then vD T aX expr i
 else if dY T [99,114,101,97,116,101] i then(if dY T [116,97,98,108,101] (i+1)then ua T len aX (i+1)else uf T len aX (i+1))
 else if dY T [98,101,103,105,110] i then .ok {kind:=7} (i+1)
 else if dY T [99,111,109,109,105,116] i then .ok {kind:=8} (i+1)
 else if dY T [114,111,108,108,98,97,99,107] i then(if dY T [116,111] (i+1)then(fC T aX (i+2)).then fun n j=> .ok {kind:=11,name:=n} j else .ok {kind:=9} (i+1))
 else if dY T [115,97,118,101,112,111,105,110,116] i then(fC T aX (i+1)).then fun n j=> .ok {kind:=10,name:=n} j
 else .bad 240 i
end
end
end Go.Proofs.YtegmnocpkgpgeaaGreatDoor
