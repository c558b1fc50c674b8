/- Parts of the proof of PParserBlanks, one behind the other, with short names. -/
import Derived.Test.YtbjifmbemdhndaaGreatDoorZ22
import Derived.Test.YtbjifmbemdhndaaGreatDoorZ23
import Derived.Lib.SmallJoins
import Derived.Test.YtbjifmbemdhndaaGreatDoorZ20
import Derived.Test.YtbjifmbemdhndaaGreatDoorZ21
set_option linter.unusedVariables false
set_option linter.unusedSimpArgs false
namespace Go.Proofs.YtbjifmbemdhndaaGreatDoor
open Ab Go.RowKit
set_option maxRecDepth 100000
theorem zL{Im:Nat->Prop}{w:World}{a b:SV}{x y:Value}(ha:VP Im w a x)(hb:VP Im w b y):VP Im w (.bn [a,b]) (.tuple #[x,y]):=
 .bn _ _ rfl fun i v z hv hz=>by
  rcases i with _|_|i
  ·cases hv;cases hz;exact ha
  ·cases hv;cases hz;exact hb
  ·simp at hv
theorem Gx: ∀c:Fin 256,(eI 1)[c.val]? =some (IntKind.u8,(Lib.firstT c.val:Int)):=by decide +kernel
theorem Ft: ∀i:Fin 16,(eI 2)[2*i.val]? =some (IntKind.u8,(Lib.accLo i.val:Int))/\(eI 2)[2*i.val+1]? =some (IntKind.u8,(Lib.accHi i.val:Int)):=by decide +kernel
theorem Gy{Im:Nat->Prop}{w:World}(hg:iz Im w):Lib.Utf8Tabs 1 2 w:=
 ⟨fun c hc=>hg.cell (Gx ⟨c,hc⟩),fun i hi=>⟨hg.cell (Ft ⟨i,hi⟩).1,hg.cell (Ft ⟨i,hi⟩).2⟩⟩
theorem DC(s:List UInt8):aj Tryz.prog 91 [.str s] (.bn [.int .i32 ((Lib.decodeGo ⟨s.toArray⟩).1:Nat),.int .i64 ((Lib.decodeGo ⟨s.toArray⟩).2:Nat)]):=by
 refine kF (cZ (.str _)) (Dn (.int _ _) (.int _ _)) fun Im w xs hg xB hz hv=> ?_
 obtain rfl:=args1 hz hv (fun _ h=>h.pM);refine(Any.utf8_DecodeRuneInString Tryz.Kq ⟨s.toArray⟩ w (Gy hg)).mono fun e w' h=> ?_
 obtain⟨rfl,hb⟩:=h;exact⟨⟨_,rfl,zL (.int _ _) (.int _ _)⟩,hb⟩
theorem BD{s:List UInt8}(hs:s.length<=140737488355328)(ha: ∀c∈s,c.toNat<128):aj Tryz.prog 126 [.str s] (.str (Lib.toLowerA s)):=by
 refine kF (cZ (.str _)) (.str _) fun Im w xs hg xB hz hv=> ?_
 obtain rfl:=args1 hz hv (fun _ h=>h.pM);refine(Any.strings_ToLower_ascii Tryz.Kr Tryz.zE ⟨s.toArray⟩ w (by simpa[ByteArray.size]using hs) fun j b hb=>ha b (List.mem_of_getElem? (by simpa using hb))).mono fun e w' h=> ?_
 obtain⟨rfl,hb⟩:=h;exact⟨⟨_,rfl,.str _⟩,hb⟩
theorem IU{s:List UInt8}{u:Nat}(hs:s.length<=1000000)(hu:Lib.parseUintB 64 s= .ok u):aj Tryz.prog 127 [.str s,.int .i64 10,.int .i64 64] (.bn [.int .u64 u,.dZ]):=by
 refine kF (ux (.str _) (.int _ _) (.int _ _)) (Dn (.int _ _) .dZ) fun Im w xs hg xB hz hv=> ?_
 obtain rfl:=LU hz hv (fun _ h=>h.pM) (fun _ h=>h.pN) (fun _ h=>h.pN);refine(Any.strconv_ParseUint_10_at64_ok Tryz.BA ⟨s.toArray⟩ (by simp only[ByteArray.size,List.size_toArray];omega) u hu w).mono fun e w' h=> ?_
 obtain⟨rfl,hb⟩:=h;refine⟨⟨_,rfl,zL (.int _ _) .dZ⟩,?_⟩;rcases hb with rfl|rfl
 ·exact Below.refl _ _
 ·exact Go.Joins.below_bytesWorld _ _ _ _ (Nat.le_refl _)
theorem BE{s:List UInt8}(hs:s.length<=1000000)(hu:Lib.parseUintB 64 s= .range): ∃t,aj Tryz.prog 127 [.str s,.int .i64 10,.int .i64 64] (.bn [.int .u64 18446744073709551615,.iface t .undef]):=by
 refine⟨Tryz.sq.t 39,kF (ux (.str _) (.int _ _) (.int _ _)) (Dn (.int _ _) (.iface _ .undef)) fun Im w xs hg xB hz hv=> ?_⟩;obtain rfl:=LU hz hv (fun _ h=>h.pM) (fun _ h=>h.pN) (fun _ h=>h.pN);obtain⟨_,v,ty,fz,h1,h2⟩:=hg.2 8 (by decide);refine(Any.strconv_ParseUint_10_at64_range Tryz.BA ⟨s.toArray⟩ (by simp only[ByteArray.size,List.size_toArray];omega) hu v w (by show w.cell? ⟨8,0,none⟩=some v;unfold World.cell?;rw[h1];rfl) h2).mono fun e w' h=> ?_
 obtain⟨N,rfl,_,_,hb⟩:=h;exact⟨⟨_,rfl,zL (.int _ _) (.iface _ _ _ (.undef _))⟩,hb⟩
end Go.Proofs.YtbjifmbemdhndaaGreatDoor
namespace Go.Proofs.YtbjifmbemdhndaaGreatDoor
open Ab Go.RowKit
set_option maxRecDepth 100000
attribute [local irreducible] bB cH
abbrev TP:=Tk×Nat
@[reducible] def me (x:TP):SV:= .agg [.int .u8 x.1.k,.str x.1.t,.int .u64 x.1.n,.int .i64 x.2]
def aC:TP:=(⟨0,[],0⟩,0)
@[reducible] def Gz (l:List TP):SV:= .dm 4 l.length fun i=>me (l.getD i aC)
theorem pS(x:TP):bJ (me x):= .agg (by simp only[List.mem_cons,List.not_mem_nil,or_false];rintro _ (rfl|rfl|rfl|rfl)<;>constructor)
theorem Ui{a b c:SV}(ha:bJ a)(hb:bJ b)(hc:bJ c):bJ (.bn [a,b,c]):= .bn (by simp only[List.mem_cons,List.not_mem_nil,or_false];rintro _ (rfl|rfl|rfl);exact ha;exact hb;exact hc)
def xD:One->SV
 | .ok x n=> .bn [me (x,0),.int .i64 n,.int .i64 0]
 | .err e=> .bn [me aC,.int .i64 0,.int .i64 e]
theorem di(o:One):bJ (xD o):=by cases o<;>exact Ui (pS _) (.int _ _) (.int _ _)
theorem BF: ∀(s:List TP) (k:Nat) (get:Nat->SV),(∀ j,j<s.length->get (k+j)=(me (s.getD j aC)))->agree (s.map me) k get
 | [],_,_,_=>trivial
 |b::r,k,get,h=>by
  refine⟨?_,pS _,BF r (k+1) get fun j hj=> ?_⟩
  ·have:=h 0 (by simp)
   simpa using this.symm
  ·have:=h (j+1) (by simp;omega)
   rw[show k+1+j=k+(j+1) by omega,this];simp[List.getD]
theorem Ky{A:Heap}{i g:Nat}{cap:Option Nat}{s:List TP}{n:Nat}{sk:Sk}(ho:A.obj i=some (.vec g 4 (s.map me) sk))(hn:n=s.length):cq A (.sl i g 4 0 n cap) (Gz s):=by
 subst hn;have:=wk (cap:=cap) (get:=fun i=>(me (s.getD i aC))) ho (BF s 0 _ fun j _=>by rw[Nat.zero_add]);rw[List.length_map]at this;exact this
theorem BG{n:Nat}{s:List TP}: ∀v∈s.map me,SV.lt 8 n v=true:=by
 intro v hv;obtain⟨b,_,rfl⟩:=List.mem_map.1 hv;rfl
theorem IV{m:Nat}{v:TP}{sk:Sk}{l:List (Nat×aG)}{k:SV->Heap->Prop}
  (hk:k (.sl (m+1) 0 4 0 1 none) ⟨m+2,(m+1,.vec 0 4 [(me v)] ⟨true,some 57⟩)::(m,.vec 0 4 [(me v)] sk)::l⟩):
  bB 57 4 40 ⟨m+1,(m,.vec 0 4 [(me v)] sk)::l⟩ .ak (.sl m 0 4 0 1 (some 1)) k:=
 oc (lz kW rfl) (by simp) rfl (by simp) (by simp) hk
theorem Kz{m i g:Nat}{vs:List TP}{v:TP}{sk:Sk}{l:List (Nat×aG)}{k:SV->Heap->Prop}(ho:aV l i=some (.vec g 4 (vs.map me) ⟨true,some 57⟩))(xB:i<m)(hlen:vs.length<=100000)
  (hk:k (.sl i (g+1) 4 0 (vs.length+1) none) ⟨m+1,(m,.vec 0 4 [(me v)] sk)::cO l i (.vec (g+1) 4 ((vs++[v]).map me) ⟨true,some 57⟩)⟩):
  bB 57 4 40 ⟨m+1,(m,.vec 0 4 [(me v)] sk)::l⟩ (.sl i g 4 0 vs.length none) (.sl m 0 4 0 1 (some 1)) k:=by
 refine qd (lz kW rfl) (by simp) rfl (by rw[jx (by omega)];exact ho) (by simp) (by simp;omega) (by simp;omega) ?_;rw[eW];unfold cO;rw[if_neg (by omega),mH];rw[List.map_append]at hk;exact hk
end Go.Proofs.YtbjifmbemdhndaaGreatDoor
