/- Parts of the proof of PCatalogBack, one behind the other, with short names. -/
import Derived.Test.YtegmnocpkgpgeaaGreatDoorZ18
import Derived.OpenShut
import Derived.LaidSub
import Derived.LaidLaws
import Derived.Lib.ValidU
set_option linter.unusedVariables false
set_option linter.unusedSimpArgs false
namespace Ab
open Go Go.RowKit
section
theorem mapM_some{α β:Type}{f:α->Option β}: ∀ {l:List α} {ys:List β},l.mapM f=some ys->ys.length=l.length/\ ∀(i:Nat) (x:α),l[i]? =some x-> ∃y,ys[i]? =some y/\f x=some y
 | [],ys,h=>by simp at h;subst h;exact⟨rfl,fun i x hx=>by simp at hx⟩
 |a::l,ys,h=>by
  rw[List.mapM_cons]at h;cases hf:f a with
  |none=>rw[hf]at h;cases h
  |some b=>
   cases hl:l.mapM f with
   |none=>rw[hf,hl]at h;cases h
   |some bs=>
    rw[hf,hl]at h;have h':some (b::bs)=some ys:=h;cases h'
    obtain⟨h1,h2⟩:=mapM_some hl;refine⟨by simp[h1],fun i x hx=> ?_⟩;cases i with
    |zero=>simp at hx;subst hx;exact⟨b,rfl,hf⟩
    |succ i=>simp at hx;obtain⟨y,hy,hfy⟩:=h2 i x hx;exact⟨y,by simpa using hy,hfy⟩
def WV(w:World)(Zf:List SV)(cs:List Value):Prop:=cs.length=Zf.length/\ ∀(j:Nat) (u:SV) (y:Value),Zf[j]? =some u->cs[j]? =some y->VP (fun b=>b<w.heap.size) w u y
structure Rd(P:Program)(t:TypeId)(α:Type) where
 sv:α->List SV
 ok:α->Prop
 sz:Nat
 AL:P.cellsOf t=sz
 len: ∀x,(sv x).length=sz
 oH:α->Prop
 rd: ∀ {H:Type} {enc:TypeId×Value->H} {w:World} {base:Nat} {spare:Nat->Bool} {held:Bool} {fuel:Nat} {cs:List Value} {d:DataW H} {ps:List MemPlace},
  DataW.trod enc P w base spare held fuel t cs=some (d,ps)-> ∃x,ok x/\((d.weights P t).all (· <=reachBytes)=true->oH x)/\WV w (sv x) cs
theorem sB{w:World}{u:SV}{y:Value}(h:VP (fun b=>b<w.heap.size) w u y):WV w [u] [y]:=by
 refine⟨rfl,fun j u' y' h1 h2=> ?_⟩;cases j with
 |zero=>simp at h1 h2;subst h1;subst h2;exact h
 |succ j=>simp at h1
section
variable {P:Program} {t:TypeId}
def Rd.int{k:IntKind}(hu:P.underlying t=some (.int k))(hc:P.cellsOf t=1):Rd P t Int where
 sv n:=[.int k n]
 ok n:=k.min<=n/\n<=k.max
 oH _:=True
 sz:=1
 AL:=hc
 len _:=rfl
 rd {H enc w base spare held fuel cs d ps} h:=by
  cases fuel with
  |zero=>simp[DataW.trod]at h
  |succ fuel=>
   unfold DataW.trod at h;rw[hu]at h;split at h<;>(try rename_i he;try (cases he))<;>try cases h
   rename_i k' n;split at h
   ·rename_i hk
    obtain⟨rfl,hwf⟩:=hk;simp only[Lit.wf,Bool.and_eq_true,decide_eq_true_eq]at hwf;exact⟨n,hwf,fun _=>trivial,sB (.int _ _)⟩
   ·cases h
def Rd.bool(hu:P.underlying t=some .bool)(hc:P.cellsOf t=1):Rd P t Bool where
 sv b:=[.bool b]
 ok _:=True
 oH _:=True
 sz:=1
 AL:=hc
 len _:=rfl
 rd {H enc w base spare held fuel cs d ps} h:=by
  cases fuel with
  |zero=>simp[DataW.trod]at h
  |succ fuel=>
   unfold DataW.trod at h;rw[hu]at h;split at h<;>(try rename_i he;try (cases he))<;>try cases h
   exact⟨_,trivial,fun _=>trivial,sB (.bool _)⟩
def Rd.str(hu:P.underlying t=some .string)(hc:P.cellsOf t=1):Rd P t (List UInt8) where
 sv s:=[.str s]
 ok s:=s.length<=9223372036854775807
 oH s:=s.length<=140737488351232
 sz:=1
 AL:=hc
 len _:=rfl
 rd {H enc w base spare held fuel cs d ps} h:=by
  cases fuel with
  |zero=>simp[DataW.trod]at h
  |succ fuel=>
   unfold DataW.trod at h;rw[hu]at h;split at h<;>(try rename_i he;try (cases he))<;>try cases h
   rename_i s;split at h
   ·rename_i hs
    refine⟨s.data.toList,?_,fun hw=> ?_,sB ?_⟩
    ·have e:s.data.toList.length=s.size:=by rw[Array.length_toList];rfl
     unfold maxLen at hs;omega
    ·cases h
     have e:s.data.toList.length=s.size:=by rw[Array.length_toList];rfl
     have hw':=of_decide_eq_true (List.all_eq_true.1 hw _ (List.mem_singleton.2 rfl));unfold reachBytes at hw';have e3:s.toList.length=s.data.toList.length:=by rw[ByteArray.toList_eq]
     omega
    ·have:=VP.str (Im:=fun b=>b<w.heap.size) (w:=w) s.data.toList
     simpa using this
   ·cases h
structure Tm(P:Program)(fs:List Field)(off:Nat)(α:Type) where
 sv:α->List SV
 ok:α->Prop
 sz:Nat
 len: ∀x,(sv x).length=sz
 oH:α->Prop
 rd: ∀ {H:Type} {enc:TypeId×Value->H} {w:World} {base:Nat} {spare:Nat->Bool} {held:Bool} {fuel:Nat} {cs:List Value} {xs:List (DataW H×List MemPlace)},
  fs.mapM (fun f=>DataW.trod enc P w base spare held fuel f.type ((cs.drop f.offset).take (P.cellsOf f.type)))=some xs-> ∃x,ok x/\((DataW.weightsEach P (fs.map (·.type)) (xs.map (·.1))).all (· <=reachBytes)=true->oH x)/\ ∀(j:Nat) (u:SV) (y:Value),(sv x)[j]? =some u->cs[off+j]? =some y->VP (fun b=>b<w.heap.size) w u y
def Tm.nil{off:Nat}:Tm P [] off Unit where
 sv _:=[]
 ok _:=True
 oH _:=True
 sz:=0
 len _:=rfl
 rd _:=⟨(),trivial,fun _=>trivial,fun j u y h=>by simp at h⟩
def Tm.cons{f:Field}{fs:List Field}{off:Nat}{α β:Type}(r:Rd P f.type α)(ho:f.offset=off)(rest:Tm P fs (off+r.sz) β):Tm P (f::fs) off (α×β) where
 sv x:=r.sv x.1++rest.sv x.2
 ok x:=r.ok x.1/\rest.ok x.2
 oH x:=r.oH x.1/\rest.oH x.2
 sz:=r.sz+rest.sz
 len x:=by rw[List.length_append,r.len,rest.len]
 rd {H enc w base spare held fuel cs xs} h:=by
  rw[List.mapM_cons]at h;cases hf:DataW.trod enc P w base spare held fuel f.type ((cs.drop f.offset).take (P.cellsOf f.type))with
  |none=>rw[hf]at h;cases h
  |some b=>
   cases hl:fs.mapM (fun f=>DataW.trod enc P w base spare held fuel f.type ((cs.drop f.offset).take (P.cellsOf f.type)))with
   |none=>rw[hf,hl]at h;cases h
   |some bs=>
    obtain⟨x,hx,T4,hlen,uF⟩:=r.rd (d:=b.1) (ps:=b.2) hf;obtain⟨y,hy,hwy,XW⟩:=rest.rd hl;have hxs:b::bs=xs:=by rw[hf,hl]at h;exact Option.some.inj h
    subst hxs;refine⟨(x,y),⟨hx,hy⟩,fun hw=> ?_,fun j u z hu hz=> ?_⟩
    ·simp only[List.map_cons,DataW.weightsEach,List.all_append,Bool.and_eq_true]at hw
     exact⟨T4 hw.1,hwy hw.2⟩
    rw[List.getElem?_append]at hu;rw[r.len]at hu;by_cases hj:j<r.sz
    ·rw[if_pos hj]at hu
     refine uF j u z hu ?_;rw[List.getElem?_take,r.AL,if_pos hj,List.getElem?_drop,ho];exact hz
    ·rw[if_neg hj]at hu
     refine XW (j-r.sz) u z hu ?_;rw[<- hz];congr 1
     omega
def Rd.struct{fs:Array Field}{α:Type}(hu:P.underlying t=some (.struct fs))(rf:Tm P fs.toList 0 α)(hc:P.cellsOf t=rf.sz):Rd P t α where
 sv:=rf.sv
 ok:=rf.ok
 oH:=rf.oH
 sz:=rf.sz
 AL:=hc
 len:=rf.len
 rd {H enc w base spare held fuel cs d ps} h:=by
  cases fuel with
  |zero=>simp[DataW.trod]at h
  |succ fuel=>
   unfold DataW.trod at h;rw[hu]at h;dsimp only at h;split at h
   ·rename_i hlen
    cases hm:fs.toList.mapM (fun f=>DataW.trod enc P w base spare held fuel f.type ((cs.drop f.offset).take (P.cellsOf f.type)))with
    |none=>rw[hm]at h;cases h
    |some xs=>
     obtain⟨x,hx,T4,uF⟩:=rf.rd hm;rw[hm]at h;have hd:d= .agg (xs.map (·.1)):=by cases h;rfl
     exact⟨x,hx,fun hw=>T4 (by rw[hd]at hw;simp only[DataW.weights,hu]at hw;exact hw),by rw[hlen,hc,rf.len],fun j u y h1 h2=>uF j u y h1 (by rw[Nat.zero_add];exact h2)⟩
   ·cases h
def Rd.map{α β:Type}(r:Rd P t α)(g:α->β)(sv:β->List SV)(ok:β->Prop)(h1: ∀x,r.sv x=sv (g x))(h2: ∀x,r.ok x->ok (g x))(h3: ∀y,(sv y).length=r.sz):Rd P t β where
 sv:=sv
 ok:=ok
 oH y:= ∃x,g x=y/\r.oH x
 sz:=r.sz
 AL:=r.AL
 len:=h3
 rd h:=by
  obtain⟨x,hx,hw,hc⟩:=r.rd h;exact⟨g x,h2 x hx,fun h=>⟨x,rfl,hw h⟩,h1 x▸hc⟩
theorem Kq{w:World}{base:Nat}{a:Addr}{n:Nat}{cs:List Value}(h:w.cells? base a n=some cs):cs.length=n/\ ∀j,j<n-> ∃y,cs[j]? =some y/\w.cell? (a.add j)=some y:=by
 unfold World.cells? at h;split at h
 ·obtain⟨h1,h2⟩:=mapM_some h
  rw[List.length_range]at h1;refine⟨h1,fun j hj=> ?_⟩;exact h2 j j (by rw[List.getElem?_range hj])
 ·cases h
theorem qW{H:Type}{e:TypeId}: ∀ {l:List (DataW H)},(DataW.weightsAll P e l).all (· <=reachBytes)=true-> ∀ {i:Nat} {d:DataW H},l[i]? =some d->(d.weights P e).all (· <=reachBytes)=true
 | [],_,i,d,h=>by simp at h
 |d0::l,hw,i,d,h=>by
  simp only[DataW.weightsAll,List.all_append,Bool.and_eq_true]at hw;cases i with
  |zero=>simp at h;subst h;exact hw.1
  |succ i=>exact qW hw.2 (by simpa using h)
def Rd.slice{e:TypeId}{α:Type}(hu:P.underlying t=some (.slice e))(hc:P.cellsOf t=1)(r:Rd P e α)(hsz:0<r.sz)(mk:α->SV)(hmk: ∀x,(mk x).cells=r.sv x)(dflt:α):Rd P t (List α) where
 sv l:=[.aW r.sz l.length fun i=>mk (l.getD i dflt)]
 ok l:=(∀ x∈l,r.ok x)/\l.length<=9223372036854775807
 oH l:=(∀ x∈l,r.oH x)/\l.length*P.bytesOf e<=140737488351232
 sz:=1
 AL:=hc
 len _:=rfl
 rd {H enc w base spare held fuel cs d ps} h:=by
  cases fuel with
  |zero=>simp[DataW.trod]at h
  |succ fuel=>
   unfold DataW.trod at h;rw[hu]at h;split at h<;>(try rename_i he;try (cases he))<;>try cases h
   ·exact⟨[],⟨(fun x hx=>by cases hx),Nat.zero_le _⟩,fun _=>⟨(fun x hx=>by cases hx),by simp⟩,sB (.pE _ _ _ _)⟩
   ·rename_i a len cap
    dsimp only at h;split at h
    ·rename_i aJ
     obtain⟨hb,hlc,hcm⟩:=aJ;cases hm:(List.range len).mapM (fun i=>(w.cells? base (a.add (i*P.cellsOf e)) (P.cellsOf e)).bind (DataW.trod enc P w base spare held fuel e))with
     |none=>rw[hm]at h;cases h
     |some elems=>
      obtain⟨h1,h2⟩:=mapM_some hm
      have hel: ∀i,i<len-> ∃x ci,(r.ok x/\ ∀y,elems[i]? =some y->(y.1.weights P e).all (· <=reachBytes)=true->r.oH x)/\WV w (r.sv x) ci/\w.cells? base (a.add (i*r.sz)) r.sz=some ci:=by
       intro i hi;obtain⟨y,hyi,hy⟩:=h2 i i (by rw[List.getElem?_range hi]);rw[r.AL]at hy;cases hci:w.cells? base (a.add (i*r.sz)) r.sz with
       |none=>rw[hci]at hy;cases hy
       |some ci=>
        rw[hci]at hy;obtain⟨x,hx,T4,uF⟩:=r.rd (d:=y.1) (ps:=y.2) hy;exact⟨x,ci,⟨hx,fun y' hy' hw=>T4 (by rw[hyi]at hy';cases hy';exact hw)⟩,uF,rfl⟩
      classical
      let f:Nat->α:=fun i=>if hi:i<len then Classical.choose (hel i hi)else dflt
      have hf: ∀i,i<len-> ∃ci,(r.ok (f i)/\ ∀y,elems[i]? =some y->(y.1.weights P e).all (· <=reachBytes)=true->r.oH (f i))/\WV w (r.sv (f i)) ci/\w.cells? base (a.add (i*r.sz)) r.sz=some ci:=fun i hi=>by
       have e1:f i=Classical.choose (hel i hi):=by simp only[f];rw[dif_pos hi]
       rw[e1];exact Classical.choose_spec (hel i hi)
      have T5: ∀i,i<len->((List.range len).map f).getD i dflt=f i:=fun i hi=>by simp[List.getD,hi]
      have hlen:((List.range len).map f).length=len:=by simp
      refine⟨(List.range len).map f,⟨fun x hx=> ?_,by rw[hlen];unfold maxLen at hcm;omega⟩,fun hw=> ?_,sB ?_⟩
      ·obtain⟨i,hi,rfl⟩:=List.mem_map.1 hx
       exact(hf i (List.mem_range.1 hi)).choose_spec.1.1
      ·rw[hm]at h
       have XX:elems.length=len:=by rw[h1,List.length_range]
       have hd: ∃sp,d= .slice (elems.map (·.1)) sp:=by
        simp only[Option.bind_eq_bind,Option.bind_some]at h;obtain⟨sp,_,h⟩:=Option.map_eq_some_iff.1 h;exact⟨_,(Prod.mk.inj h).1.symm⟩
       obtain⟨sp,rfl⟩:=hd;simp only[DataW.weights,hu,List.all_cons,List.all_append,Bool.and_eq_true,List.length_map,decide_eq_true_eq]at hw;refine⟨fun x hx=> ?_,?_⟩
       ·obtain⟨i,hi,rfl⟩:=List.mem_map.1 hx
        have hi:=List.mem_range.1 hi;obtain⟨ci,hok,_⟩:=hf i hi;refine hok.2 elems[i] (List.getElem?_eq_getElem (by omega)) ?_;exact qW hw.2.1 (i:=i) (by rw[List.getElem?_map,List.getElem?_eq_getElem (by omega)];rfl)
       ·rw[hlen]
        have hw1:=hw.1;rw[XX]at hw1;have:len*P.bytesOf e<=(len+sp.length)*P.bytesOf e:=Nat.mul_le_mul_right _ (by omega);unfold reachBytes at hw1;omega
      ·rw[hlen]
       rcases Nat.eq_zero_or_pos len with h0|h0
       ·subst h0;exact .pE _ _ _ _
       ·
        have hcell: ∀i j,i<len->j<r.sz-> ∃y,w.cell? ((a.add (i*r.sz)).add j)=some y/\ ∀u,(r.sv (f i))[j]? =some u->VP (fun b=>b<w.heap.size) w u y:=by
         intro i j hi hj;obtain⟨ci,_,uF,hci⟩:=hf i hi;obtain⟨hl,pq⟩:=Kq hci;obtain⟨y,hy,hw⟩:=pq j hj;exact⟨y,hw,fun u hu=>uF.2 j u y hu hy⟩
        obtain⟨y0,hw0,_⟩:=hcell 0 0 h0 hsz
        have PA:a.spot=none:=by
         cases hs:a.spot with
         |none=>rfl
         |some p=>
          exfalso;simp only[Nat.zero_mul,Addr.add,hs]at hw0;unfold World.cell? at hw0;split at hw0
          ·simp at hw0
           rw[hs]at hw0;cases hw0.1
          ·cases hw0
        obtain⟨b,off,sp⟩:=a;simp only at PA;subst PA;have Nt: ∀i j,((⟨b,off,none⟩:Addr).add (i*r.sz)).add j=⟨b,off+i*r.sz+j,none⟩:=fun i j=>by rw[add_eq,add_eq]
        rw[Nt]at hw0;unfold World.cell? at hw0;split at hw0
        ·rename_i C ty fz hC
         have hall: ∀i j,i<len->j<r.sz-> ∃y,C[off+i*r.sz+j]? =some y/\ ∀u,(r.sv (f i))[j]? =some u->VP (fun b=>b<w.heap.size) w u y:=by
          intro i j hi hj;obtain⟨y,hw,hv⟩:=hcell i j hi hj;rw[Nt]at hw;simp only[World.cell?,hC,Option.isSome_none]at hw;exact⟨y,by simpa using hw,hv⟩
         have Tw:b<w.heap.size:=by
          rcases Nat.lt_or_ge b w.heap.size with hh|hh
          ·exact hh
          ·rw[Array.getElem?_eq_none hh]at hC;cases hC
         refine .aW _ _ _ b off cap C ty fz Tw hC ?_ hlc (fun i hi=>by rw[hmk,r.len]) fun i j v x hi hv hx=> ?_
         ·obtain⟨y,hy,_⟩:=hall (len-1) (r.sz-1) (by omega) (by omega)
          have hlt:off+(len-1)*r.sz+(r.sz-1)<C.size:=by
           rcases Nat.lt_or_ge (off+(len-1)*r.sz+(r.sz-1)) C.size with hh|hh
           ·exact hh
           ·rw[Array.getElem?_eq_none hh]at hy;cases hy
          have e1:len*r.sz=(len-1)*r.sz+r.sz:=by
           rw[<- Nat.succ_mul];congr 1;omega
          omega
         ·rw[hmk,T5 i hi]at hv
          have hj:j<r.sz:=by rw[<- r.len (f i)];exact eT hv
          obtain⟨y,hy,Pt⟩:=hall i j hi hj;rw[hy]at hx;cases hx
          exact Pt v hv
        ·cases hw0
    ·cases h
theorem Rd.one{α:Type}(r:Rd P t α){H:Type}{enc:TypeId×Value->H}{w:World}{base:Nat}{spare:Nat->Bool}{held:Bool}{v:Value}{d:DataW H}{ps:List MemPlace}(h:DataW.Trod enc P w base spare held t v d ps)(mk:α->SV)(h1: ∀x,r.sv x=[mk x])(hna: ∀cs,v≠ .agg cs):
  ∃x,r.ok x/\VP (fun b=>b<w.heap.size) w (mk x) v:=by
 obtain⟨fuel,hf⟩:=h;obtain⟨x,hx,_,_,uF⟩:=r.rd hf;refine⟨x,hx,uF 0 (mk x) v (by rw[h1];rfl) ?_⟩;cases v<;>first|rfl|exact absurd rfl (hna _)
theorem Rd.agg{α:Type}(r:Rd P t α){fs:Array Field}(hu:P.underlying t=some (.struct fs)){H:Type}{enc:TypeId×Value->H}{w:World}{base b0:Nat}{spare:Nat->Bool}{held:Bool}{v:Value}{d:DataW H}{ps:List MemPlace}{rr:Reach}(hv:Value.okWide P w rr b0 t v)
  (h:DataW.Trod enc P w base spare held t v d ps): ∃x,r.ok x/\VP (fun b=>b<w.heap.size) w (.agg (r.sv x)) v:=by
 obtain⟨fuel,hf⟩:=h;obtain⟨x,hx,_,hl,uF⟩:=r.rd hf;unfold Value.okWide at hv;rw[hu]at hv;obtain⟨cs,rfl,hcs,_⟩:=hv;have e:Value.cells (.agg cs)=cs:=rfl;rw[e]at hl uF;exact⟨x,hx,.agg _ _ (by simpa using hl) fun i u y h1 h2=>uF i u y h1 (by simpa using h2)⟩
theorem Rd.one'{α:Type}(r:Rd P t α){H:Type}{enc:TypeId×Value->H}{w:World}{base:Nat}{spare:Nat->Bool}{held:Bool}{v:Value}{d:DataW H}{ps:List MemPlace}(h:DataW.Trod enc P w base spare held t v d ps)(mk:α->SV)(h1: ∀x,r.sv x=[mk x])(hna: ∀cs,v≠ .agg cs)(hw:(d.weights P t).all (· <=reachBytes)=true):
  ∃x,(r.ok x/\r.oH x)/\VP (fun b=>b<w.heap.size) w (mk x) v:=by
 obtain⟨fuel,hf⟩:=h;obtain⟨x,hx,hr,_,uF⟩:=r.rd hf;refine⟨x,⟨hx,hr hw⟩,uF 0 (mk x) v (by rw[h1];rfl) ?_⟩;cases v<;>first|rfl|exact absurd rfl (hna _)
theorem Nu{k:TypeDesc}(hu:P.underlying t=some k)(hk:(match k with| .struct _| .array _ _=>false|_=>true)=true){w:World}{rr:Reach}{b0:Nat}{v:Value}(hv:Value.okWide P w rr b0 t v){H:Type}{enc:TypeId×Value->H}{base:Nat}{spare:Nat->Bool}{held:Bool}
  {d:DataW H}{ps:List MemPlace}(h:DataW.Trod enc P w base spare held t v d ps): ∀cs,v≠ .agg cs:=by
 intro cs hcs;subst hcs;unfold Value.okWide at hv;rw[hu]at hv;cases k<;>simp at hk<;>simp[Cell.okWide,Cell.ok,hu]at hv
end
theorem zn{H:Type}{enc:TypeId×Value->H}{P:Program}(hl:laidOutB P=true){W W':World}(hb:Below W.heap.size W W'): ∀ {ts:List TypeId} {vs:List Value} {ds:List (DataW H)} {ps:List MemPlace},
  (ts.all fun t=>P.readableRec t&&decide (t<P.types.size))=true->DataW.TrodAll enc P W 0 (fun _=>true) true ts vs ds ps->(∀ x∈ps,x.block<W.heap.size)->DataW.TrodAll enc P W' 0 (fun b=>decide (b<W.heap.size)) true ts vs ds ps
 | [],[],[],ps,_,h,_=>h
 |t::ts,v::vs,d::ds,ps,hall,⟨p,q,h1,h2,he⟩,hlt=>by
  subst he;simp only[List.all_cons,Bool.and_eq_true,decide_eq_true_eq]at hall;exact⟨p,q,Below.trod hl hall.1.1 hall.1.2 h1 hb (fun x hx=>hlt x (by simp[hx])),zn hl hb hall.2 h2 (fun x hx=>hlt x (by simp[hx])),rfl⟩
end
end Ab
namespace Ab
open Go
theorem k7{P:Program}{w:World}{n:String}{d:DataW Unit}: ∀ {l:List (String×DataW Unit)} {ps:List MemPlace},DataW.LaidVars P w l ps->(n,d)∈l->
  ∃g t cs fuel p enc,P.globalNamed n=some g/\(P.globals[g]?).map (·.type)=some t/\w.var? P n=some cs/\DataW.trod enc P w 0 (fun _=>true) false fuel t cs.toList=some (d,p)
 | [],_,_,hm=>by cases hm
 |(n',d')::r,ps,h,hm=>by
  obtain⟨g,t,cs,fuel,p,q,e1,e2,e3,e4,hr,rfl⟩:=h;rcases List.mem_cons.1 hm with he|hm
  ·cases he
   exact⟨g,t,cs,fuel,p,_,e1,e2,e3,e4⟩
  ·exact k7 hr hm
theorem rO{P:Program}{w:World}{laid:List (String×DataW Unit)}(h:laidMetH P laid w){n:String}{l:List (IntKind×Int)}(hm:(n,DataW.agg (l.map fun p=>DataW.lit (.int p.1 p.2)))∈laid)
  {g t el m:Nat}{k:IntKind}(hg:P.globalNamed n=some g)(ht:(P.globals[g]?).map (·.type)=some t)(hu:P.underlying t=some (.array m el))(hk:P.underlying el=some (.int k))(c1:P.cellsOf el=1)(hml:m=l.length)(hct:P.cellsOf t=l.length):
  ∃C ty fz,w.heap[g]? =some (.cells C ty fz)/\l.length=C.size/\ ∀(j:Nat) (p:IntKind×Int),l[j]? =some p->C[j]? =some (.int p.1 p.2):=by
 obtain⟨⟨ps,hl,_⟩,_⟩:=laidMetH_iff.1 h;obtain⟨g',t',cs,fuel,p,enc,e1,e2,e3,e4⟩:=k7 hl (List.mem_filter.2 ⟨hm,rfl⟩);obtain rfl:=Option.some.inj (hg.symm.trans e1);obtain rfl:=Option.some.inj (ht.symm.trans e2);obtain⟨xs,f,_,ex,eD,hlen,hel⟩:=DataW.trod_array hu e4;have hx:xs.map (·.1)=l.map fun p=>(DataW.lit (.int p.1 p.2):DataW Unit):=(DataW.agg.inj (Prod.mk.inj ex).1).symm
 simp only[World.var?,hg,Option.bind_some]at e3
 have cell: ∀j,j<m-> ∃(p:IntKind×Int),l[j]? =some p/\cs[j]? =some (.int p.1 p.2):=fun j hj=>by
  have hE:=hel j hj;rw[c1,Nat.mul_one,List.getElem?_eq_getElem (by omega)]at hE;obtain⟨z,h1,h2,_⟩:=DataW.trod_int hk hE;have h3:(xs.map (·.1))[j]? =some (DataW.lit (.int k z)):=by rw[List.getElem?_map,List.getElem?_eq_getElem (by omega),Option.map_some,h2]
  rw[hx,List.getElem?_map]at h3;obtain⟨p,hp,h4⟩:=Option.map_eq_some_iff.1 h3;simp only[DataW.lit.injEq,Lit.int.injEq]at h4;refine⟨p,hp,?_⟩;have h0:((cs.toList.drop j).take 1)[0]? =some (.int k z):=by rw[h1];rfl
  rw[h4.1,h4.2];simpa using h0
 split at e3
 ·rename_i C ty fz hw
  cases e3
  refine⟨_,ty,fz,hw,?_,fun j p hp=> ?_⟩
  ·rw[<- hct,<-eD];simp
  ·have hj:j<m:=by have:=(List.getElem?_eq_some_iff.1 hp).1;omega
   obtain⟨p',h1,h2⟩:=cell j hj;rw[hp]at h1;cases h1
   exact h2
 ·cases e3
theorem Ij{Im:Nat->Prop}{w:World}(h: ∀g,dK g≠[]->Im g/\ ∃C ty fz,w.heap[g]? =some (.cells C ty fz)/\(dK g).length=C.size/\ ∀(j:Nat) (p:IntKind×Int),(dK g)[j]? =some p->C[j]? =some (.int p.1 p.2))
  (h2: ∀g,g∈Ed->Im g/\ ∃v ty fz,w.heap[g]? =some (.cells #[v] ty fz)/\(v= .nilIface\/ ∃te pe,v= .iface te pe):=by intro g hg;cases hg):gB Im w:=by
 refine⟨fun g v hg=> ?_,h2⟩;unfold vS at hg;split at hg
 ·cases hg
 ·rename_i hne
  cases hg
  obtain⟨h1,C,ty,fz,h2,h3,h4⟩:=h g hne;refine⟨h1,C,ty,fz,h2,by simpa[SV.cells]using h3,fun j u x hu hx=> ?_⟩;simp only[SV.cells,List.getElem?_map]at hu;obtain⟨p,hp,rfl⟩:=Option.map_eq_some_iff.1 hu;rw[h4 j p hp]at hx;cases hx
  exact .int _ _
def pairs{α:Type}:List α->List (α×α)
 |a::b::r=>(a,b)::pairs r
 |_=>[]
def Kr{α:Type}:List α->Bool
 | []=>true
 | [_]=>false
 |_::_::r=>Kr r
theorem zo{α:Type}: ∀ {l:List α} {j:Nat} {p:α},Kr l=true->l[j]? =some p-> ∃q:α×α,(pairs l)[j/2]? =some q/\(j%2=0/\p=q.1\/j%2=1/\p=q.2)
 | [],_,_,_,h=>by simp at h
 | [_],_,_,h,_=>by cases h
 |a::b::r,0,p,_,h=>⟨(a,b),rfl,.inl ⟨rfl,by simpa using h.symm⟩⟩
 |a::b::r,1,p,_,h=>⟨(a,b),rfl,.inr ⟨rfl,by simpa using h.symm⟩⟩
 |a::b::r,j+2,p,he,h=>by
  obtain⟨q,h1,h2⟩:=zo (l:=r) (j:=j) he (by simpa using h);refine⟨q,?_,?_⟩
  ·rw[show (j+2)/2=j/2+1 by omega]
   simpa[pairs]using h1
  ·rw[show (j+2)%2=j%2 by omega]
   exact h2
theorem CL{P:Program}{w:World}{laid:List (String×DataW Unit)}(h:laidMetH P laid w){n:String}{l:List (IntKind×Int)}(hev:Kr l=true)
  (hm:(n,DataW.agg ((pairs l).map fun p=>DataW.agg [DataW.lit (.int p.1.1 p.1.2),DataW.lit (.int p.2.1 p.2.2)]))∈laid)
  {g t el m:Nat}{k0 k1:IntKind}{f0 f1:Field}(hg:P.globalNamed n=some g)(ht:(P.globals[g]?).map (·.type)=some t)(hu:P.underlying t=some (.array m el))(hs:P.underlying el=some (.struct #[f0,f1]))
  (hk0:P.underlying f0.type=some (.int k0))(Ql:P.underlying f1.type=some (.int k1))(c2:P.cellsOf el=2)(o0:f0.offset=0)(o1:f1.offset=1)(c0:P.cellsOf f0.type=1)(c1:P.cellsOf f1.type=1)(hml:2*m=l.length)(hct:P.cellsOf t=l.length):
  ∃C ty fz,w.heap[g]? =some (.cells C ty fz)/\l.length=C.size/\ ∀(j:Nat) (p:IntKind×Int),l[j]? =some p->C[j]? =some (.int p.1 p.2):=by
 obtain⟨⟨ps,hl,_⟩,_⟩:=laidMetH_iff.1 h;obtain⟨g',t',cs,fuel,p,enc,e1,e2,e3,e4⟩:=k7 hl (List.mem_filter.2 ⟨hm,rfl⟩);obtain rfl:=Option.some.inj (hg.symm.trans e1);obtain rfl:=Option.some.inj (ht.symm.trans e2);obtain⟨xs,f,_,ex,eD,hlen,hel⟩:=DataW.trod_array hu e4;have hx:xs.map (·.1)=(pairs l).map fun p=>(DataW.agg [DataW.lit (.int p.1.1 p.1.2),DataW.lit (.int p.2.1 p.2.2)]:DataW Unit):=(DataW.agg.inj (Prod.mk.inj ex).1).symm
 simp only[World.var?,hg,Option.bind_some]at e3
 have cell: ∀j,j<m-> ∃(p:(IntKind×Int)×(IntKind×Int)),(pairs l)[j]? =some p/\cs[2*j]? =some (.int p.1.1 p.1.2)/\cs[2*j+1]? =some (.int p.2.1 p.2.2):=fun j hj=>by
  have hE:=hel j hj;rw[c2,List.getElem?_eq_getElem (by omega)]at hE;obtain⟨y0,y1,n,h1,_,h2,h3⟩:=Go.ChangeShapes.trod_struct2 hs hE;rw[o0,c0]at h2;rw[o1,c1]at h3;obtain⟨z0,a1,a2,_⟩:=DataW.trod_int hk0 h2;obtain⟨z1,b1,b2,_⟩:=DataW.trod_int Ql h3
  have h4:(xs.map (·.1))[j]? =some (DataW.agg [DataW.lit (.int k0 z0),DataW.lit (.int k1 z1)]):=by
   rw[List.getElem?_map,List.getElem?_eq_getElem (by omega),Option.map_some,h1,a2,b2]
  rw[hx,List.getElem?_map]at h4;obtain⟨p,hp,h5⟩:=Option.map_eq_some_iff.1 h4;simp only[DataW.agg.injEq,List.cons.injEq,DataW.lit.injEq,Lit.int.injEq,and_true]at h5;obtain⟨⟨q1,q2⟩,q3,q4⟩:=h5;refine⟨p,hp,?_,?_⟩
  ·have h0:((((cs.toList.drop (j*2)).take 2).drop 0).take 1)[0]? =some (.int k0 z0):=by rw[a1];rfl
   rw[q1,q2,Nat.mul_comm];simpa using h0
  ·have h0:((((cs.toList.drop (j*2)).take 2).drop 1).take 1)[0]? =some (.int k1 z1):=by rw[b1];rfl
   rw[q3,q4,Nat.mul_comm];simpa using h0
 split at e3
 ·rename_i C ty fz hw
  cases e3
  refine⟨_,ty,fz,hw,?_,fun j p hp=> ?_⟩
  ·rw[<- hct,<-eD];simp
  ·have hj:j<l.length:=(List.getElem?_eq_some_iff.1 hp).1
   obtain⟨p',h1,h2,h3⟩:=cell (j/2) (by omega);obtain⟨q,h4,h5⟩:=zo hev hp;rw[h4]at h1;cases h1
   rcases h5 with⟨h5,rfl⟩|⟨h5,rfl⟩
   ·rw[show 2*(j/2)=j by omega]at h2;exact h2
   ·rw[show 2*(j/2)+1=j by omega]at h3;exact h3
 ·cases e3
theorem EV{P:Program}{w:World}{laid:List (String×DataW Unit)}(h:laidMetH P laid w){n nm:String}{D d:DataW Unit}(hm:(n,D)∈laid)(hD:D=DataW.iface nm d)(hf:D.handleName?.isNone=true)
  {g t:Nat}{ms:Array (String×TypeId)}(hg:P.globalNamed n=some g)(ht:(P.globals[g]?).map (·.type)=some t)(hi:P.underlying t=some (.interface ms)):
  ∃v ty fz,w.heap[g]? =some (.cells #[v] ty fz)/\(v= .nilIface\/ ∃te pe,v= .iface te pe):=by
 subst hD;obtain⟨⟨ps,hl,_⟩,_⟩:=laidMetH_iff.1 h;obtain⟨g',t',cs,fuel,p,enc,e1,e2,e3,e4⟩:=k7 hl (List.mem_filter.2 ⟨hm,hf⟩);obtain rfl:=Option.some.inj (hg.symm.trans e1);obtain rfl:=Option.some.inj (ht.symm.trans e2);obtain⟨f1,u,v,hcs,_,_⟩:=iface_of_trod hi e4;simp only[World.var?,hg,Option.bind_some]at e3;split at e3
 ·rename_i C ty fz hw
  cases e3
  refine⟨.iface u v,ty,fz,?_,.inr ⟨u,v,rfl⟩⟩;rw[hw]
  have:cs= #[.iface u v]:=by
   apply Array.ext'
   simpa using hcs
  rw[this]
 ·cases e3
end Ab
namespace Go.Proofs.YtegmnocpkgpgeaaGreatDoor
open Go.Lib
def bL(c:UInt8):Bool:=(97<=c&&c<=122)||(65<=c&&c<=90)||c==95
def isDigit(c:UInt8):Bool:=48<=c&&c<=57
def bV(c:UInt8):Bool:=c==9||c==10||c==13||c==32
def iY(c:UInt8):UInt8:=if 65<=c&&c<=90 then c+32 else c
structure Tk where
 k:Int
 t:List UInt8
 n:Nat
inductive One
 |ok (x:Tk) (n:Nat)
 |err (e:Int)
def nV(s:List UInt8):One:=
 let w:=s.takeWhile fun c=>bL c||isDigit c
 if 32<w.length then .err 3 else .ok ⟨1,w.map iY,0⟩ w.length
def numOf(s:List UInt8):Nat:=s.foldl (fun n c=>10*n+(c.toNat-48)) 0
def iZ(s:List UInt8):One:=
 let w:=s.takeWhile isDigit
 if 9223372036854775808<numOf w then .err 233 else .ok ⟨2,[],numOf w⟩ w.length
def bX:Nat->List UInt8->Nat->Bool->List UInt8->One
 |0,_,_,_,_=> .err 231
 |_+1,[],_,_,_=> .err 231
 |f+1,c::r,i,bad,buf=>
  if c≠39 then
   let d:=decodeL (c::r)
   bX f ((c::r).drop d.2) (i+d.2) (bad||(d.1==65533&&d.2==1)) (buf++(c::r).take d.2)
  else if r.getD 0 0=39 then bX f (r.drop 1) (i+2) bad (buf++[39])
  else if bad then .err 232 else if 64<buf.length then .err 3 else .ok ⟨3,buf,0⟩ (i+1)
def nW(s:List UInt8):One:=bX s.length (s.drop 1) 1 false []
def eG:List (List UInt8):=[[60,62],[60,61],[62,61],[124,124],[40],[41],[44],[59],[46],[42],[43],[45],[47],[37],[61],[60],[62]]
def fT(s:List UInt8):List (List UInt8)->One
 | []=> .err 230
 |x::r=>if x.isPrefixOf s then .ok ⟨4,x,0⟩ x.length else fT s r
def fG(s:List UInt8):One:=match s with
 | []=> .err 230
 |c::_=>if bL c then nV s else if isDigit c then iZ s else if c==39 then nW s else fT s eG
def eN:Nat->List UInt8->Nat->Except (Int×Nat) (List (Tk×Nat))
 |0,_,_=> .ok []
 |_+1,[],_=> .ok []
 |f+1,c::r,Nv=>
  if bV c then eN f r (Nv+1)
  else match fG (c::r)with
   | .err e=> .error (e,Nv)
   | .ok x n=>match eN f ((c::r).drop n) (Nv+n)with
     | .error e=> .error e
     | .ok l=> .ok ((x,Nv)::l)
def lR(s:List UInt8):Except (Int×Nat) (List (Tk×Nat)):=eN s.length s 0
end Go.Proofs.YtegmnocpkgpgeaaGreatDoor
