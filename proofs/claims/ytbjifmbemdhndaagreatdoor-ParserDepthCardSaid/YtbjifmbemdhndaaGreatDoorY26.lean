/- Parts of the proof of PParserDepth, one behind the other, with short names. -/
import Derived.Test.YtbjifmbemdhndaaGreatDoorY23
import Derived.Test.YtbjifmbemdhndaaGreatDoorY24
import Derived.Test.YtbjifmbemdhndaaGreatDoorY25
import Derived.Lib.SmallJoins
import Derived.Test.YtbjifmbemdhndaaGreatDoorY20
import Derived.Test.YtbjifmbemdhndaaGreatDoorY22
set_option linter.unusedVariables false
set_option linter.unusedSimpArgs false
namespace Go.Proofs.YtbjifmbemdhndaaGreatDoor
open Ab Go.RowKit
set_option maxRecDepth 100000
theorem yc{Im:Nat->Prop}{w:World}{a b:SV}{x y:Value}(ha:VP Im w a x)(hb:VP Im w b y):VP Im w (.aN [a,b]) (.tuple #[x,y]):=
 .aN _ _ rfl fun i v z hv hz=>by
  rcases i with _|_|i
  ·cases hv;cases hz;exact ha
  ·cases hv;cases hz;exact hb
  ·simp at hv
theorem Fp: ∀c:Fin 256,(dz 1)[c.val]? =some (IntKind.u8,(Lib.firstT c.val:Int)):=by decide +kernel
theorem Ee: ∀i:Fin 16,(dz 2)[2*i.val]? =some (IntKind.u8,(Lib.accLo i.val:Int))/\(dz 2)[2*i.val+1]? =some (IntKind.u8,(Lib.accHi i.val:Int)):=by decide +kernel
theorem wO{Im:Nat->Prop}{w:World}(hg:fI Im w):Lib.Utf8Tabs 1 2 w:=
 ⟨fun c hc=>hg.cell (Fp ⟨c,hc⟩),fun i hi=>⟨hg.cell (Ee ⟨i,hi⟩).1,hg.cell (Ee ⟨i,hi⟩).2⟩⟩
theorem Cj(s:List UInt8):au Tryz.prog 91 [.str s] (.aN [.int .i32 ((Lib.decodeGo ⟨s.toArray⟩).1:Nat),.int .i64 ((Lib.decodeGo ⟨s.toArray⟩).2:Nat)]):=by
 refine fO (bK (.str _)) (vA (.int _ _) (.int _ _)) fun Im w xs hg sC hz hv=> ?_
 obtain rfl:=args1 hz hv (fun _ h=>h.kf);refine(Any.utf8_DecodeRuneInString Tryz.I5 ⟨s.toArray⟩ w (wO hg)).mono fun e w' h=> ?_
 obtain⟨rfl,hb⟩:=h;exact⟨⟨_,rfl,yc (.int _ _) (.int _ _)⟩,hb⟩
theorem Am{s:List UInt8}(hs:s.length<=140737488355328)(ha: ∀c∈s,c.toNat<128):au Tryz.prog 126 [.str s] (.str (Lib.toLowerA s)):=by
 refine fO (bK (.str _)) (.str _) fun Im w xs hg sC hz hv=> ?_
 obtain rfl:=args1 hz hv (fun _ h=>h.kf);refine(Any.strings_ToLower_ascii Tryz.I7 Tryz.yb ⟨s.toArray⟩ w (by simpa[ByteArray.size]using hs) fun j b hb=>ha b (List.mem_of_getElem? (by simpa using hb))).mono fun e w' h=> ?_
 obtain⟨rfl,hb⟩:=h;exact⟨⟨_,rfl,.str _⟩,hb⟩
theorem Ht{s:List UInt8}{u:Nat}(hs:s.length<=1000000)(hu:Lib.parseUintB 64 s= .ok u):au Tryz.prog 127 [.str s,.int .i64 10,.int .i64 64] (.aN [.int .u64 u,.de]):=by
 refine fO (D0 (.str _) (.int _ _) (.int _ _)) (vA (.int _ _) .de) fun Im w xs hg sC hz hv=> ?_
 obtain rfl:=Kv hz hv (fun _ h=>h.kf) (fun _ h=>h.kg) (fun _ h=>h.kg);refine(Any.strconv_ParseUint_10_at64_ok Tryz.Aj ⟨s.toArray⟩ (by simp only[ByteArray.size,List.size_toArray];omega) u hu w).mono fun e w' h=> ?_
 obtain⟨rfl,hb⟩:=h;refine⟨⟨_,rfl,yc (.int _ _) .de⟩,?_⟩;rcases hb with rfl|rfl
 ·exact Below.refl _ _
 ·exact Go.Joins.below_bytesWorld _ _ _ _ (Nat.le_refl _)
theorem An{s:List UInt8}(hs:s.length<=1000000)(hu:Lib.parseUintB 64 s= .range): ∃t,au Tryz.prog 127 [.str s,.int .i64 10,.int .i64 64] (.aN [.int .u64 18446744073709551615,.iface t .undef]):=by
 refine⟨Tryz.qI.t 39,fO (D0 (.str _) (.int _ _) (.int _ _)) (vA (.int _ _) (.iface _ .undef)) fun Im w xs hg sC hz hv=> ?_⟩;obtain rfl:=Kv hz hv (fun _ h=>h.kf) (fun _ h=>h.kg) (fun _ h=>h.kg);obtain⟨_,v,ty,fz,h1,h2⟩:=hg.2 8 (by decide);refine(Any.strconv_ParseUint_10_at64_range Tryz.Aj ⟨s.toArray⟩ (by simp only[ByteArray.size,List.size_toArray];omega) hu v w (by show w.cell? ⟨8,0,none⟩=some v;unfold World.cell?;rw[h1];rfl) h2).mono fun e w' h=> ?_
 obtain⟨N,rfl,_,_,hb⟩:=h;exact⟨⟨_,rfl,yc (.int _ _) (.iface _ _ _ (.undef _))⟩,hb⟩
end Go.Proofs.YtbjifmbemdhndaaGreatDoor
namespace Go.Proofs.YtbjifmbemdhndaaGreatDoor
open Ab Go.RowKit
set_option maxRecDepth 100000
attribute [local irreducible] aO bx
abbrev TP:=Tk×Nat
@[reducible] def gm (x:TP):SV:= .agg [.int .u8 x.1.k,.str x.1.t,.int .u64 x.1.n,.int .i64 x.2]
def aH:TP:=(⟨0,[],0⟩,0)
@[reducible] def Ao (l:List TP):SV:= .eR 4 l.length fun i=>gm (l.getD i aH)
theorem l5(x:TP):bA (gm x):= .agg (by simp only[List.mem_cons,List.not_mem_nil,or_false];rintro _ (rfl|rfl|rfl|rfl)<;>constructor)
theorem SO{a b c:SV}(ha:bA a)(hb:bA b)(hc:bA c):bA (.aN [a,b,c]):= .aN (by simp only[List.mem_cons,List.not_mem_nil,or_false];rintro _ (rfl|rfl|rfl);exact ha;exact hb;exact hc)
def vB:One->SV
 | .ok x n=> .aN [gm (x,0),.int .i64 n,.int .i64 0]
 | .err e=> .aN [gm aH,.int .i64 0,.int .i64 e]
theorem cE(o:One):bA (vB o):=by cases o<;>exact SO (l5 _) (.int _ _) (.int _ _)
theorem Ap: ∀(s:List TP) (k:Nat) (get:Nat->SV),(∀ j,j<s.length->get (k+j)=(gm (s.getD j aH)))->agree (s.map gm) k get
 | [],_,_,_=>trivial
 |b::r,k,get,h=>by
  refine⟨?_,l5 _,Ap r (k+1) get fun j hj=> ?_⟩
  ·have:=h 0 (by simp)
   simpa using this.symm
  ·have:=h (j+1) (by simp;omega)
   rw[show k+1+j=k+(j+1) by omega,this];simp[List.getD]
theorem Ef{A:Heap}{i g:Nat}{cap:Option Nat}{s:List TP}{n:Nat}{sk:Sk}(ho:A.obj i=some (.vec g 4 (s.map gm) sk))(hn:n=s.length):cA A (.sl i g 4 0 n cap) (Ao s):=by
 subst hn;have:=uk (cap:=cap) (get:=fun i=>(gm (s.getD i aH))) ho (Ap s 0 _ fun j _=>by rw[Nat.zero_add]);rw[List.length_map]at this;exact this
theorem Aq{n:Nat}{s:List TP}: ∀v∈s.map gm,SV.lt 8 n v=true:=by
 intro v hv;obtain⟨b,_,rfl⟩:=List.mem_map.1 hv;rfl
theorem qM{m:Nat}{v:TP}{sk:Sk}{l:List (Nat×aA)}{k:SV->Heap->Prop}
  (hk:k (.sl (m+1) 0 4 0 1 none) ⟨m+2,(m+1,.vec 0 4 [(gm v)] ⟨true,some 57⟩)::(m,.vec 0 4 [(gm v)] sk)::l⟩):
  aO 57 4 40 ⟨m+1,(m,.vec 0 4 [(gm v)] sk)::l⟩ .ak (.sl m 0 4 0 1 (some 1)) k:=
 pR (lX iB rfl) (by simp) rfl (by simp) (by simp) hk
theorem Jf{m i g:Nat}{vs:List TP}{v:TP}{sk:Sk}{l:List (Nat×aA)}{k:SV->Heap->Prop}(ho:aG l i=some (.vec g 4 (vs.map gm) ⟨true,some 57⟩))(sC:i<m)(hlen:vs.length<=100000)
  (hk:k (.sl i (g+1) 4 0 (vs.length+1) none) ⟨m+1,(m,.vec 0 4 [(gm v)] sk)::bC l i (.vec (g+1) 4 ((vs++[v]).map gm) ⟨true,some 57⟩)⟩):
  aO 57 4 40 ⟨m+1,(m,.vec 0 4 [(gm v)] sk)::l⟩ (.sl i g 4 0 vs.length none) (.sl m 0 4 0 1 (some 1)) k:=by
 refine ov (lX iB rfl) (by simp) rfl (by rw[iC (by omega)];exact ho) (by simp) (by simp;omega) (by simp;omega) ?_;rw[dU];unfold bC;rw[if_neg (by omega),kP];rw[List.map_append]at hk;exact hk
end Go.Proofs.YtbjifmbemdhndaaGreatDoor
