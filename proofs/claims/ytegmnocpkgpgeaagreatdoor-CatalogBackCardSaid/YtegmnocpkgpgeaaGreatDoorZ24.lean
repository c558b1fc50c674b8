/- Parts of the proof of PCatalogBack, one behind the other, with short names. -/
import Derived.Test.YtegmnocpkgpgeaaGreatDoorZ21
import Derived.Test.YtegmnocpkgpgeaaGreatDoorZ22
import Derived.Test.YtegmnocpkgpgeaaGreatDoorZ23
import Derived.Lib.SmallJoins
import Derived.Test.YtegmnocpkgpgeaaGreatDoorZ20
set_option linter.unusedVariables false
set_option linter.unusedSimpArgs false
namespace Go.Proofs.YtegmnocpkgpgeaaGreatDoor
open Ab Go.RowKit
set_option maxRecDepth 100000
theorem AS{Im:Nat->Prop}{w:World}{a b:SV}{x y:Value}(ha:VP Im w a x)(hb:VP Im w b y):VP Im w (.bn [a,b]) (.tuple #[x,y]):=
 .bn _ _ rfl fun i v z hv hz=>by
  rcases i with _|_|i
  ·cases hv;cases hz;exact ha
  ·cases hv;cases hz;exact hb
  ·simp at hv
theorem It: ∀c:Fin 256,(dK 0)[c.val]? =some (IntKind.u8,(Lib.firstT c.val:Int)):=by decide +kernel
theorem Gy: ∀i:Fin 16,(dK 1)[2*i.val]? =some (IntKind.u8,(Lib.accLo i.val:Int))/\(dK 1)[2*i.val+1]? =some (IntKind.u8,(Lib.accHi i.val:Int)):=by decide +kernel
theorem zw{Im:Nat->Prop}{w:World}(hg:gB Im w):Lib.Utf8Tabs 0 1 w:=
 ⟨fun c hc=>hg.cell (It ⟨c,hc⟩),fun i hi=>⟨hg.cell (Gy ⟨i,hi⟩).1,hg.cell (Gy ⟨i,hi⟩).2⟩⟩
theorem E3(s:List UInt8):aj Tryz.prog 182 [.str s] (.bn [.int .i32 ((Lib.decodeGo ⟨s.toArray⟩).1:Nat),.int .i64 ((Lib.decodeGo ⟨s.toArray⟩).2:Nat)]):=by
 refine gH (di (.str _)) (tT (.int _ _) (.int _ _)) fun Im w xs hg tv hz hv=> ?_
 obtain rfl:=args1 hz hv (fun _ h=>h.lV);refine(Any.utf8_DecodeRuneInString Tryz.Ny ⟨s.toArray⟩ w (zw hg)).mono fun e w' h=> ?_
 obtain⟨rfl,hb⟩:=h;exact⟨⟨_,rfl,AS (.int _ _) (.int _ _)⟩,hb⟩
theorem CY{s:List UInt8}(hs:s.length<=140737488355328)(ha: ∀c∈s,c.toNat<128):aj Tryz.prog 184 [.str s] (.str (Lib.toLowerA s)):=by
 refine gH (di (.str _)) (.str _) fun Im w xs hg tv hz hv=> ?_
 obtain rfl:=args1 hz hv (fun _ h=>h.lV);refine(Any.strings_ToLower_ascii Tryz.NA Tryz.AR ⟨s.toArray⟩ w (by simpa[ByteArray.size]using hs) fun j b hb=>ha b (List.mem_of_getElem? (by simpa using hb))).mono fun e w' h=> ?_
 obtain⟨rfl,hb⟩:=h;exact⟨⟨_,rfl,.str _⟩,hb⟩
theorem KS{s:List UInt8}{u:Nat}(hs:s.length<=1000000)(hu:Lib.parseUintB 64 s= .ok u):aj Tryz.prog 185 [.str s,.int .i64 10,.int .i64 64] (.bn [.int .u64 u,.dF]):=by
 refine gH (pY (.str _) (.int _ _) (.int _ _)) (tT (.int _ _) .dF) fun Im w xs hg tv hz hv=> ?_
 obtain rfl:=PC hz hv (fun _ h=>h.lV) (fun _ h=>h.lW) (fun _ h=>h.lW);refine(Any.strconv_ParseUint_10_at64_ok Tryz.CV ⟨s.toArray⟩ (by simp only[ByteArray.size,List.size_toArray];omega) u hu w).mono fun e w' h=> ?_
 obtain⟨rfl,hb⟩:=h;refine⟨⟨_,rfl,AS (.int _ _) .dF⟩,?_⟩;rcases hb with rfl|rfl
 ·exact Below.refl _ _
 ·exact Go.Joins.below_bytesWorld _ _ _ _ (Nat.le_refl _)
theorem CZ{s:List UInt8}(hs:s.length<=1000000)(hu:Lib.parseUintB 64 s= .range): ∃t,aj Tryz.prog 185 [.str s,.int .i64 10,.int .i64 64] (.bn [.int .u64 18446744073709551615,.iface t .undef]):=by
 refine⟨Tryz.sJ.t 39,gH (pY (.str _) (.int _ _) (.int _ _)) (tT (.int _ _) (.iface _ .undef)) fun Im w xs hg tv hz hv=> ?_⟩;obtain rfl:=PC hz hv (fun _ h=>h.lV) (fun _ h=>h.lW) (fun _ h=>h.lW);obtain⟨_,v,ty,fz,h1,h2⟩:=hg.2 8 (by decide);refine(Any.strconv_ParseUint_10_at64_range Tryz.CV ⟨s.toArray⟩ (by simp only[ByteArray.size,List.size_toArray];omega) hu v w (by show w.cell? ⟨8,0,none⟩=some v;unfold World.cell?;rw[h1];rfl) h2).mono fun e w' h=> ?_
 obtain⟨N,rfl,_,_,hb⟩:=h;exact⟨⟨_,rfl,AS (.int _ _) (.iface _ _ _ (.undef _))⟩,hb⟩
end Go.Proofs.YtegmnocpkgpgeaaGreatDoor
namespace Go.Proofs.YtegmnocpkgpgeaaGreatDoor
open Ab Go.RowKit
set_option maxRecDepth 100000
attribute [local irreducible] aS bH
abbrev TP:=Tk×Nat
@[reducible] def iF (x:TP):SV:= .agg [.int .u8 x.1.k,.str x.1.t,.int .u64 x.1.n,.int .i64 x.2]
def bG:TP:=(⟨0,[],0⟩,0)
@[reducible] def wU (l:List TP):SV:= .aW 4 l.length fun i=>iF (l.getD i bG)
theorem nZ(x:TP):aL (iF x):= .agg (by simp only[List.mem_cons,List.not_mem_nil,or_false];rintro _ (rfl|rfl|rfl|rfl)<;>constructor)
theorem Yc{a b c:SV}(ha:aL a)(hb:aL b)(hc:aL c):aL (.bn [a,b,c]):= .bn (by simp only[List.mem_cons,List.not_mem_nil,or_false];rintro _ (rfl|rfl|rfl);exact ha;exact hb;exact hc)
def yJ:One->SV
 | .ok x n=> .bn [iF (x,0),.int .i64 n,.int .i64 0]
 | .err e=> .bn [iF bG,.int .i64 0,.int .i64 e]
theorem cJ(o:One):aL (yJ o):=by cases o<;>exact Yc (nZ _) (.int _ _) (.int _ _)
theorem C2: ∀(s:List TP) (k:Nat) (get:Nat->SV),(∀ j,j<s.length->get (k+j)=(iF (s.getD j bG)))->agree (s.map iF) k get
 | [],_,_,_=>trivial
 |b::r,k,get,h=>by
  refine⟨?_,nZ _,C2 r (k+1) get fun j hj=> ?_⟩
  ·have:=h 0 (by simp)
   simpa using this.symm
  ·have:=h (j+1) (by simp;omega)
   rw[show k+1+j=k+(j+1) by omega,this];simp[List.getD]
theorem Gz{A:Heap}{i g:Nat}{cap:Option Nat}{s:List TP}{n:Nat}{sk:Sk}(ho:A.obj i=some (.vec g 4 (s.map iF) sk))(hn:n=s.length):bA A (.sl i g 4 0 n cap) (wU s):=by
 subst hn;have:=wQ (cap:=cap) (get:=fun i=>(iF (s.getD i bG))) ho (C2 s 0 _ fun j _=>by rw[Nat.zero_add]);rw[List.length_map]at this;exact this
theorem C3{n:Nat}{s:List TP}: ∀v∈s.map iF,SV.lt 8 n v=true:=by
 intro v hv;obtain⟨b,_,rfl⟩:=List.mem_map.1 hv;rfl
theorem C4{m:Nat}{v:TP}{sk:Sk}{l:List (Nat×ai)}{k:SV->Heap->Prop}
  (hk:k (.sl (m+1) 0 4 0 1 none) ⟨m+2,(m+1,.vec 0 4 [(iF v)] ⟨true,some 176⟩)::(m,.vec 0 4 [(iF v)] sk)::l⟩):
  aS 176 4 40 ⟨m+1,(m,.vec 0 4 [(iF v)] sk)::l⟩ .af (.sl m 0 4 0 1 (some 1)) k:=
 lU (iO dD rfl) (by simp) rfl (by simp) (by simp) hk
theorem NJ{m i g:Nat}{vs:List TP}{v:TP}{sk:Sk}{l:List (Nat×ai)}{k:SV->Heap->Prop}(ho:ak l i=some (.vec g 4 (vs.map iF) ⟨true,some 176⟩))(tv:i<m)(hlen:vs.length<=100000)
  (hk:k (.sl i (g+1) 4 0 (vs.length+1) none) ⟨m+1,(m,.vec 0 4 [(iF v)] sk)::bt l i (.vec (g+1) 4 ((vs++[v]).map iF) ⟨true,some 176⟩)⟩):
  aS 176 4 40 ⟨m+1,(m,.vec 0 4 [(iF v)] sk)::l⟩ (.sl i g 4 0 vs.length none) (.sl m 0 4 0 1 (some 1)) k:=by
 refine nY (iO dD rfl) (by simp) rfl (by rw[aU (by omega)];exact ho) (by simp) (by simp;omega) (by simp;omega) ?_;rw[cL];unfold bt;rw[if_neg (by omega),kF];rw[List.map_append]at hk;exact hk
end Go.Proofs.YtegmnocpkgpgeaaGreatDoor
