/- Rows.ParserBlanksCardSaid: the law stagepostlaw14.ParserBlanks answers true at every text, its tables laid by the program's text. -/
import Derived.Test.YtbjifmbemdhndaaGreatDoorCards
import Derived.Test.YtbjifmbemdhndaaGreatDoorTie
import Derived.Test.YtbjifmbemdhndaaGreatDoorZ19
import Derived.Test.YtbjifmbemdhndaaGreatDoorZ53
import Derived.ProofKit
import Derived.OpenShut
import Derived.LaidMore
import Derived.Lay
import Derived.SevenTiedAt
import Derived.Stop.Joined
set_option linter.unusedVariables false
set_option linter.unusedSimpArgs false
namespace Go.Proofs.YtbjifmbemdhndaaGreatDoor.parserBlanks
open Go.ChangeShapes Go.WideShapes Go.ChangeAt Go.RowKit
theorem own:ownKnob Tryz.prog.godebug=none:=by kernel_rfl
theorem laidOut:laidOutB Tryz.prog=true:=by kernel_rfl
theorem SP{W:World}(hL:laidMetH Tryz.prog Rows.parserBlanksRow.laid W):Ab.iz (fun b=>b<W.heap.size) W:=by
 refine Ab.Gp (fun g hne=> ?_) (fun g hg=> ?_)
 ·unfold Ab.eI at hne
  split at hne
  ·obtain⟨C,ty,fz,h1,h2,h3⟩:=Ab.qZ hL (n:= "unicode/utf8.first") (l:=Ab.eI 1) (List.mem_of_getElem? (i:=9) (by kernel_rfl)) (g:=1) (t:=181) (el:=5) (m:=256) (k:= .u8) (by kernel_rfl) (by kernel_rfl) (by kernel_rfl) (by kernel_rfl) (by kernel_rfl) (by kernel_rfl) (by kernel_rfl)
   exact⟨(Array.getElem?_eq_some_iff.1 h1).1,C,ty,fz,h1,h2,h3⟩
  ·obtain⟨C,ty,fz,h1,h2,h3⟩:=Ab.Br hL (n:= "unicode/utf8.acceptRanges") (l:=Ab.eI 2) (by kernel_rfl) (List.mem_of_getElem? (i:=3) (by kernel_rfl)) (g:=2) (t:=184) (el:=183) (m:=16) (k0:= .u8) (k1:= .u8) (by kernel_rfl) (by kernel_rfl) (by kernel_rfl) Tryz.underlying183 (by kernel_rfl) (by kernel_rfl) (by kernel_rfl) (by kernel_rfl) (by kernel_rfl) (by kernel_rfl) (by kernel_rfl) (by kernel_rfl) (by kernel_rfl)
   exact⟨(Array.getElem?_eq_some_iff.1 h1).1,C,ty,fz,h1,h2,h3⟩
  ·obtain⟨C,ty,fz,h1,h2,h3⟩:=Ab.qZ hL (n:= "strings.asciiSpace") (l:=Ab.eI 4) (List.mem_of_getElem? (i:=7) (by kernel_rfl)) (g:=4) (t:=181) (el:=5) (m:=256) (k:= .u8) (by kernel_rfl) (by kernel_rfl) (by kernel_rfl) (by kernel_rfl) (by kernel_rfl) (by kernel_rfl) (by kernel_rfl)
   exact⟨(Array.getElem?_eq_some_iff.1 h1).1,C,ty,fz,h1,h2,h3⟩
  ·obtain⟨C,ty,fz,h1,h2,h3⟩:=Ab.qZ hL (n:= "internal/strconv.uint64pow10") (l:=Ab.eI 6) (List.mem_of_getElem? (i:=2) (by kernel_rfl)) (g:=6) (t:=228) (el:=55) (m:=20) (k:= .u64) (by kernel_rfl) (by kernel_rfl) (by kernel_rfl) (by kernel_rfl) (by kernel_rfl) (by kernel_rfl) (by kernel_rfl)
   exact⟨(Array.getElem?_eq_some_iff.1 h1).1,C,ty,fz,h1,h2,h3⟩
  ·exact absurd rfl hne
 ·obtain rfl:g=8:=by simpa[Ab.CH]using hg
  obtain⟨v,ty,fz,h1,h2⟩:=Ab.Dp hL (n:= "strconv.ErrRange") (D:=Rows.laid_strconv_ErrRange) (List.mem_of_getElem? (i:=4) (by kernel_rfl)) rfl (by kernel_rfl) (g:=8) (t:=87) (by kernel_rfl) (by kernel_rfl) Tryz.underlying87;exact⟨(Array.getElem?_eq_some_iff.1 h1).1,v,ty,fz,h1,h2⟩
set_option maxRecDepth 100000 in
theorem lifted (os:Os) (started:os.Started) (H:Type) (enc:TypeId×Value->H):
  ReturnsInHanded {} Tryz.checked os 4 .any (fun w args=>(Rows.parserBlanksSpec.pre enc Tryz.prog Tryz.f4 Rows.parserBlanksRow.domain false w args/\laidMetH Tryz.prog Rows.parserBlanksRow.laid w)/\sizedMet enc Tryz.prog Tryz.f4 (OpenSpec.ofChange Rows.parserBlanksSpec) false w args)
   (Rows.parserBlanksSpec.post enc Tryz.prog Tryz.f4 false true false false):=by
 refine returnsInHanded_of_change_and (C:=Tryz.checked) (X:=fun w _=>laidMetH Tryz.prog Rows.parserBlanksRow.laid w) (fun _ _ _ hh h=>h.of_heap hh) own started (by kernel_rfl) Tryz.func4
  (ChangeSpec.witness_shaped (enc:=enc) (C:=Tryz.checked) (os:=os) (X:=fun w _=>laidMetH Tryz.prog Rows.parserBlanksRow.laid w) false (World.laidAll Tryz.prog os Rows.parserBlanksRow.laid) #[.string ⟨#[]⟩] 8 (World.laidAll_os _ _ _)
   (World.shaped_of_ZipB (by kernel_rfl) (by kernel_rfl)) (by kernel_rfl) (by kernel_rfl) (by kernel_rfl)
   (by rw[MakeChecks.laidMetH_plain _ _ _ (by kernel_rfl)];exact laidMet_laidAll _ (by kernel_rfl) (by kernel_rfl))) ?_
 intro W base args ds gs before SQ hW BS Vv hL _;have hval: ∀(j:Nat) t v,Tryz.f4.params[j]? =some t->args[j]? =some v->Value.okWide Tryz.prog W .any base t v:=SQ;have Vw:=hW;obtain⟨p,q,YP,hV,rfl,hfz,hnd⟩:=hW;have Vx:DataW.TrodAll enc Tryz.prog W 0 (fun _=>true) true Tryz.f4.params.toList args.toList ds p:=YP;have hA:=Vx;rw[Tryz.params4]at hA hval;obtain⟨rfl,rfl⟩:=trodVars_none hV;have hlt: ∀x∈p,x.block<W.heap.size:=fun x hx=>Vw.lt x (by simp[hx])
 obtain⟨v0,Zf,d0,Zg,p0,q0,hargs,rfl,rfl,h0,r0⟩:=trodAll_cons hA;obtain⟨rfl,rfl,rfl⟩:=trodAll_nil r0;obtain rfl:args= #[v0]:=by cases args;simp_all
 rw[Tryz.params4]at Vv;simp only[DataW.weightsEach,List.cons_append,List.nil_append,List.all_append,Bool.and_eq_true]at Vv;obtain⟨x0,k0,e0⟩:=Ab.Rd.one' (rdStr) h0 (fun x=> .str x) (fun _=>rfl) (Ab.Kk Tryz.underlying9 rfl (hval 0 9 v0 rfl rfl) h0) (Vv.1);simp only[List.append_nil]at Vw hlt Vx;refine(Ab.aj.holds (tZ (s:=x0)) (fun b=>b<W.heap.size) (fun _ h=>h) (SP hL) rfl fun i u x hu hx=> ?_).mono fun e W' ⟨he,hg⟩=> ?_
 ·rcases i with _|i
  ·cases hu;cases hx;exact e0
  ·simp at hu
 ·subst he
  exact⟨_,rfl,Ab.Gn (pa:=_) (pv:=[]) Vw (fun _ _ _=>(trodAll_cons_mk (shut_bool Tryz.underlying4 _) trodAll_mk0)) (Ab.yq laidOut hg (by kernel_rfl) Vx (fun x hx=>hlt x (by simpa using hx))) rfl hg⟩
theorem over:Rows.parserBlanksRow.holds Tryz.pinned (OpenSpec.ofChange Rows.parserBlanksSpec):=
 OpenClaim.holds_of_wide 4 Tryz.f4 rfl rfl rfl rfl rfl rfl rfl ⟨rfl,rfl,rfl,rfl,rfl⟩ rfl rfl rfl rfl rfl (by kernel_rfl) Tryz.func4 (by kernel_rfl)
  (of_decide_eq_true (by kernel_rfl)) (by unfold Func.isWrapper;first|(rw[if_pos (by decide +kernel)];kernel_rfl)|(rw[if_neg (by decide +kernel)];exact⟨rfl,rfl⟩))
  (fun os started H enc _=>lifted os started H enc)
theorem proved:Rows.ParserBlanksCardSaid:=
 Claim7.holds_tied_plain_at .later [] [.data,.data,.data,.data,.sentinel,.sentinel,.listed,.data,.pinned,.pinned] true (true,"3d7ca8ee2c14d6adf361f37b80e70ea39b5d3e06206ee24a9b45d6228693122a") true over (fun _ h=>by cases h) (by kernel_rfl) (fun _ h=>by cases h) parserBlanks_row_tie rfl ⟨rfl,rfl⟩ (by kernel_rfl) rfl
  (fun f fn hf hfn=>by
   obtain rfl:f=4:=Option.some.inj ((show Tryz.prog.funcNamed "stagepost/stagepostlaw14.ParserBlanks" =some 4 by kernel_rfl).symm.trans hf) |>.symm
   obtain rfl:fn=Tryz.f4:=(Option.some.inj (Tryz.func4.symm.trans hfn)).symm
   exact⟨by kernel_rfl,fun j t ht=>by
    rw[Tryz.params4]at ht;have hm:t∈[9]:=by simpa using Array.mem_of_getElem? ht
    have hall:([9].all fun u=> !Tryz.prog.wantsStandIn u)=true:=by kernel_rfl
    exact(show Tryz.prog.wantsStandIn t=false by simpa using List.all_eq_true.1 hall t hm)⟩)
  (by kernel_rfl)
end Go.Proofs.YtbjifmbemdhndaaGreatDoor.parserBlanks
