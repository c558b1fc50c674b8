/- Rows.ParserDepthCardSaid: the law stagepostlaw14.ParserDepth answers true at every row of kinds, its tables laid by the program's text. -/
import Derived.Test.YtbjifmbemdhndaaGreatDoorCards
import Derived.Test.YtbjifmbemdhndaaGreatDoorTie
import Derived.Test.YtbjifmbemdhndaaGreatDoorY19
import Derived.Test.YtbjifmbemdhndaaGreatDoorY49
import Derived.ProofKit
import Derived.OpenShut
import Derived.LaidMore
import Derived.Lay
import Derived.SevenTiedAt
import Derived.Stop.Joined
set_option linter.unusedVariables false
set_option linter.unusedSimpArgs false
namespace Go.Proofs.YtbjifmbemdhndaaGreatDoor.parserDepth
open Go.ChangeShapes Go.WideShapes Go.ChangeAt Go.RowKit
theorem own:ownKnob Tryz.prog.godebug=none:=by kernel_rfl
theorem laidOut:laidOutB Tryz.prog=true:=by kernel_rfl
theorem Rh{W:World}(hL:laidMetH Tryz.prog Rows.parserDepthRow.laid W):Ab.fI (fun b=>b<W.heap.size) W:=by
 refine Ab.Fa (fun g hne=> ?_) (fun g hg=> ?_)
 ·unfold Ab.dz at hne
  split at hne
  ·obtain⟨C,ty,fz,h1,h2,h3⟩:=Ab.pI hL (n:= "unicode/utf8.first") (l:=Ab.dz 1) (List.mem_of_getElem? (i:=9) (by kernel_rfl)) (g:=1) (t:=181) (el:=5) (m:=256) (k:= .u8) (by kernel_rfl) (by kernel_rfl) (by kernel_rfl) (by kernel_rfl) (by kernel_rfl) (by kernel_rfl) (by kernel_rfl)
   exact⟨(Array.getElem?_eq_some_iff.1 h1).1,C,ty,fz,h1,h2,h3⟩
  ·obtain⟨C,ty,fz,h1,h2,h3⟩:=Ab.zQ hL (n:= "unicode/utf8.acceptRanges") (l:=Ab.dz 2) (by kernel_rfl) (List.mem_of_getElem? (i:=3) (by kernel_rfl)) (g:=2) (t:=184) (el:=183) (m:=16) (k0:= .u8) (k1:= .u8) (by kernel_rfl) (by kernel_rfl) (by kernel_rfl) Tryz.underlying183 (by kernel_rfl) (by kernel_rfl) (by kernel_rfl) (by kernel_rfl) (by kernel_rfl) (by kernel_rfl) (by kernel_rfl) (by kernel_rfl) (by kernel_rfl)
   exact⟨(Array.getElem?_eq_some_iff.1 h1).1,C,ty,fz,h1,h2,h3⟩
  ·obtain⟨C,ty,fz,h1,h2,h3⟩:=Ab.pI hL (n:= "strings.asciiSpace") (l:=Ab.dz 4) (List.mem_of_getElem? (i:=7) (by kernel_rfl)) (g:=4) (t:=181) (el:=5) (m:=256) (k:= .u8) (by kernel_rfl) (by kernel_rfl) (by kernel_rfl) (by kernel_rfl) (by kernel_rfl) (by kernel_rfl) (by kernel_rfl)
   exact⟨(Array.getElem?_eq_some_iff.1 h1).1,C,ty,fz,h1,h2,h3⟩
  ·obtain⟨C,ty,fz,h1,h2,h3⟩:=Ab.pI hL (n:= "internal/strconv.uint64pow10") (l:=Ab.dz 6) (List.mem_of_getElem? (i:=2) (by kernel_rfl)) (g:=6) (t:=228) (el:=55) (m:=20) (k:= .u64) (by kernel_rfl) (by kernel_rfl) (by kernel_rfl) (by kernel_rfl) (by kernel_rfl) (by kernel_rfl) (by kernel_rfl)
   exact⟨(Array.getElem?_eq_some_iff.1 h1).1,C,ty,fz,h1,h2,h3⟩
  ·exact absurd rfl hne
 ·obtain rfl:g=8:=by simpa[Ab.Bh]using hg
  obtain⟨v,ty,fz,h1,h2⟩:=Ab.BV hL (n:= "strconv.ErrRange") (D:=Rows.laid_strconv_ErrRange) (List.mem_of_getElem? (i:=4) (by kernel_rfl)) rfl (by kernel_rfl) (g:=8) (t:=87) (by kernel_rfl) (by kernel_rfl) Tryz.underlying87;exact⟨(Array.getElem?_eq_some_iff.1 h1).1,v,ty,fz,h1,h2⟩
set_option maxRecDepth 100000 in
theorem lifted (os:Os) (started:os.Started) (H:Type) (enc:TypeId×Value->H):
  ReturnsInHanded {} Tryz.checked os 3 .any (fun w args=>(Rows.parserDepthSpec.pre enc Tryz.prog Tryz.f3 Rows.parserDepthRow.domain false w args/\laidMetH Tryz.prog Rows.parserDepthRow.laid w)/\sizedMet enc Tryz.prog Tryz.f3 (OpenSpec.ofChange Rows.parserDepthSpec) false w args)
   (Rows.parserDepthSpec.post enc Tryz.prog Tryz.f3 false true false false):=by
 refine returnsInHanded_of_change_and (C:=Tryz.checked) (X:=fun w _=>laidMetH Tryz.prog Rows.parserDepthRow.laid w) (fun _ _ _ hh h=>h.of_heap hh) own started (by kernel_rfl) Tryz.func3
  (ChangeSpec.witness_shaped (enc:=enc) (C:=Tryz.checked) (os:=os) (X:=fun w _=>laidMetH Tryz.prog Rows.parserDepthRow.laid w) false (World.laidAll Tryz.prog os Rows.parserDepthRow.laid) #[.slice none 0 0] 8 (World.laidAll_os _ _ _)
   (World.shaped_of_ZipB (by kernel_rfl) (by kernel_rfl)) (by kernel_rfl) (by kernel_rfl) (by kernel_rfl)
   (by rw[MakeChecks.laidMetH_plain _ _ _ (by kernel_rfl)];exact laidMet_laidAll _ (by kernel_rfl) (by kernel_rfl))) ?_
 intro W base args ds gs before Ri hW AX T9 hL _;have hval: ∀(j:Nat) t v,Tryz.f3.params[j]? =some t->args[j]? =some v->Value.okWide Tryz.prog W .any base t v:=Ri;have Ua:=hW;obtain⟨p,q,X0,hV,rfl,hfz,hnd⟩:=hW;have Ub:DataW.TrodAll enc Tryz.prog W 0 (fun _=>true) true Tryz.f3.params.toList args.toList ds p:=X0;have hA:=Ub;rw[Tryz.params3]at hA hval;obtain⟨rfl,rfl⟩:=trodVars_none hV;have hlt: ∀x∈p,x.block<W.heap.size:=fun x hx=>Ua.lt x (by simp[hx])
 obtain⟨v0,Yu,d0,Yv,p0,q0,hargs,rfl,rfl,h0,r0⟩:=trodAll_cons hA;obtain⟨rfl,rfl,rfl⟩:=trodAll_nil r0;obtain rfl:args= #[v0]:=by cases args;simp_all
 rw[Tryz.params3]at T9;simp only[DataW.weightsEach,List.cons_append,List.nil_append,List.all_append,Bool.and_eq_true]at T9;obtain⟨x0,k0,e0⟩:=Ab.Rd.one' (OM) h0 (fun x=>JX x) (fun _=>rfl) (Ab.IT Tryz.underlying22 rfl (hval 0 22 v0 rfl rfl) h0) (T9.1);simp only[List.append_nil]at Ua hlt Ub;refine(Ab.au.holds (s5 (l:=x0)) (fun b=>b<W.heap.size) (fun _ h=>h) (Rh hL) rfl fun i u x hu hx=> ?_).mono fun e W' ⟨he,hg⟩=> ?_
 ·rcases i with _|i
  ·cases hu;cases hx;exact e0
  ·simp at hu
 ·subst he
  exact⟨_,rfl,Ab.E9 (pa:=_) (pv:=[]) Ua (fun _ _ _=>(trodAll_cons_mk (shut_bool Tryz.underlying4 _) trodAll_mk0)) (Ab.wz laidOut hg (by kernel_rfl) Ub (fun x hx=>hlt x (by simpa using hx))) rfl hg⟩
theorem over:Rows.parserDepthRow.holds Tryz.pinned (OpenSpec.ofChange Rows.parserDepthSpec):=
 OpenClaim.holds_of_wide 3 Tryz.f3 rfl rfl rfl rfl rfl rfl rfl ⟨rfl,rfl,rfl,rfl,rfl⟩ rfl rfl rfl rfl rfl (by kernel_rfl) Tryz.func3 (by kernel_rfl)
  (of_decide_eq_true (by kernel_rfl)) (by unfold Func.isWrapper;first|(rw[if_pos (by decide +kernel)];kernel_rfl)|(rw[if_neg (by decide +kernel)];exact⟨rfl,rfl⟩))
  (fun os started H enc _=>lifted os started H enc)
theorem proved:Rows.ParserDepthCardSaid:=
 Claim7.holds_tied_plain_at .later [] [.data,.data,.data,.data,.sentinel,.sentinel,.listed,.data,.pinned,.pinned] true (true,"3d7ca8ee2c14d6adf361f37b80e70ea39b5d3e06206ee24a9b45d6228693122a") true over (fun _ h=>by cases h) (by kernel_rfl) (fun _ h=>by cases h) parserDepth_row_tie rfl ⟨rfl,rfl⟩ (by kernel_rfl) rfl
  (fun f fn hf hfn=>by
   obtain rfl:f=3:=Option.some.inj ((show Tryz.prog.funcNamed "stagepost/stagepostlaw14.ParserDepth" =some 3 by kernel_rfl).symm.trans hf) |>.symm
   obtain rfl:fn=Tryz.f3:=(Option.some.inj (Tryz.func3.symm.trans hfn)).symm
   exact⟨by kernel_rfl,fun j t ht=>by
    rw[Tryz.params3]at ht;have hm:t∈[22]:=by simpa using Array.mem_of_getElem? ht
    have hall:([22].all fun u=> !Tryz.prog.wantsStandIn u)=true:=by kernel_rfl
    exact(show Tryz.prog.wantsStandIn t=false by simpa using List.all_eq_true.1 hall t hm)⟩)
  (by kernel_rfl)
end Go.Proofs.YtbjifmbemdhndaaGreatDoor.parserDepth
