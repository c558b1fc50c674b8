/- Parts of the proof of PParserDepth, one behind the other, with short names. -/
import Derived.Test.YtbjifmbemdhndaaGreatDoorY22
import Derived.Test.YtbjifmbemdhndaaGreatDoorY28
import Derived.Test.YtbjifmbemdhndaaGreatDoorY23
set_option linter.unusedVariables false
set_option linter.unusedSimpArgs false
namespace Go.Proofs.YtbjifmbemdhndaaGreatDoor
open Ab Go.RowKit
set_option maxRecDepth 100000
attribute [local irreducible] aO
section
section
variable {m:Nat} {l:List (Nat×aA)} {bi j g:Nat} {o:List UInt8} {R:bV->Heap->Prop}
theorem Hz{c:UInt8}{x:Int}(hx:SV.int .u8 x=sV c)(hb:aG l bi=some (lY 84 bi j g o.length))(hj:aG l j=some (mL 5 g o))(zI:bi<m)(BP:j<m)(hne:bi≠j)(hl:Me l m)(hlen:o.length+1<=140737488355328)
  (hk:R (.ret .de) ⟨m,ni 84 5 l bi j (g+1) (o++[c])⟩):aP Tryz.prog 33 [.ref bi 0 0 0,.int .u8 x] ⟨m,l⟩ R:=by
 refine aP.cut (Nat.le_refl m) (G9.call mixed rfl ?_);have q1:Nat.beq m bi=false:=PE (by omega);have q2:Nat.beq m j=false:=PE (by omega);have q4:(Nat.beq bi bi&&Nat.beq 0 0&&(Nat.beq 0 0&&Nat.beq 0 0))=true:=by rw[dK];rfl
 have q5:aG (bC l j (.vec (g+1) 1 (o.map sV++[SV.int .u8 x]) ⟨true,some 5⟩)) bi=some (lY 84 bi j g o.length):=by rw[cG hne];exact hb
 iterate 40 all_goals ((try conv=>whnf);try first|(with_reducible first|refine zY ?_|refine zN ?_|refine zT ?_|refine br (fun _=> ?_) (fun _=> ?_)|refine⟨rfl,?_⟩)|(refine uD.call mixed rfl ?_)|(with_reducible refine eD hb ?_)|(with_reducible refine eD hj ?_)|(with_reducible refine eD q5 ?_)|(refine Ca hj BP rfl hlen ?_)|(with_reducible refine nS ?_))
 have e:bC (bC l j (.vec (g+1) 1 (o.map sV++[SV.int .u8 x]) ⟨true,some 5⟩)) bi (.vec 0 2 [.agg [.ref bi 0 0 0,.sl j (g+1) 1 0 (o.length+1) none]] ⟨false,some 84⟩)=ni 84 5 l bi j (g+1) (o++[c]):=by
  unfold ni;rw[hx,List.length_append,mL,List.map_append];rfl
 rw[e];exact⟨_,fun i ob h=>⟨G4 (qH hl zI BP hne i ob h).1 h,qH hl zI BP hne i ob h⟩,.de,hk⟩
theorem uG{s:List UInt8}(hb:aG l bi=some (lY 84 bi j g o.length))(hj:aG l j=some (mL 5 g o))(zI:bi<m)(BP:j<m)(hne:bi≠j)(hl:Me l m)(hlen:o.length+s.length<=140737488355328)
  (hk: ∀g',R (.ret (.aN [.int .i64 s.length,.de])) ⟨m,ni 84 5 l bi j g' (o++s)⟩):aP Tryz.prog 32 [.ref bi 0 0 0,.str s] ⟨m,l⟩ R:=by
 refine aP.cut (Nat.le_refl m) (G8.call mixed rfl ?_);have q4:(Nat.beq bi bi&&Nat.beq 0 0&&(Nat.beq 0 0&&Nat.beq 0 0))=true:=by rw[dK];rfl
 have lit:G1 (.ret (.aN [.int .i64 s.length,.de])):=vA (.int _ _) .de;by_cases h0:s=[]
 ·subst h0
  iterate 40 all_goals ((try conv=>whnf);try first|(with_reducible first|refine zY ?_|refine zN ?_|refine zT ?_|refine br (fun _=> ?_) (fun _=> ?_)|refine⟨rfl,?_⟩)|(refine uD.call mixed rfl ?_)|(with_reducible refine eD hb ?_)|(with_reducible refine eD hj ?_)|(refine x9 (rP []) hj ?_)|(with_reducible refine nS ?_))
  have e:bC l bi (lY 84 bi j g o.length)=ni 84 5 l bi j g (o++[]):=by
   unfold ni;rw[List.append_nil,wM hj]
  refine⟨ni 84 5 l bi j g (o++[]),fun i ob h=>⟨?_,qH hl zI BP hne i ob h⟩,lit,hk g⟩;rw[<- e]at h;exact h
 ·have hpos:0<s.length:=by cases s with|nil=>exact absurd rfl h0|cons c r=>simp
  have q5:aG (bC l j (.vec (g+1) 1 (o.map sV++s.map sV) ⟨true,some 5⟩)) bi=some (lY 84 bi j g o.length):=by rw[cG hne];exact hb
  iterate 40 all_goals ((try conv=>whnf);try first|(with_reducible first|refine zY ?_|refine zN ?_|refine zT ?_|refine br (fun _=> ?_) (fun _=> ?_)|refine⟨rfl,?_⟩)|(refine uD.call mixed rfl ?_)|(with_reducible refine eD hb ?_)|(with_reducible refine eD hj ?_)|(with_reducible refine eD q5 ?_)|(refine Cb hj hpos hlen ?_)|(with_reducible refine nS ?_))
  have e:bC (bC l j (.vec (g+1) 1 (o.map sV++s.map sV) ⟨true,some 5⟩)) bi (.vec 0 2 [.agg [.ref bi 0 0 0,.sl j (g+1) 1 0 (o.length+s.length) none]] ⟨false,some 84⟩)=ni 84 5 l bi j (g+1) (o++s):=by
   unfold ni;rw[List.length_append,mL,List.map_append]
  refine⟨ni 84 5 l bi j (g+1) (o++s),fun i ob h=>⟨?_,qH hl zI BP hne i ob h⟩,lit,hk _⟩;rw[<- e]at h;exact h
theorem Na(hb:aG l bi=some (lY 84 bi j g o.length))(hj:aG l j=some (mL 5 g o))(h0:0<o.length)(hlen:o.length<=9223372036854775807)
  (hk: ∀l',R (.ret (.str o)) ⟨m,l'⟩):aP Tryz.prog 34 [.ref bi 0 0 0] ⟨m,l⟩ R:=by
 refine Ec.call mixed rfl ?_;have q1:Nat.blt 0 o.length=true:=by rw[Nat.blt,Nat.ble_eq];exact h0
 have q2:(Nat.beq g g&&(Nat.beq 0 0&&Nat.beq 0 0)&&(Nat.beq 1 1&&ED (Sk.ty ⟨true,some 5⟩) 5)&&(decide (0<(o.length:Int))&&decide ((o.length:Int)<=9223372036854775807)))=true:=by
  rw[dK,decide_eq_true (show 0<(o.length:Int) by omega),decide_eq_true (show(o.length:Int)<=9223372036854775807 by omega)];rfl
 have q3:Nat.beq g g=true:=dK g;have q4:Nat.beq j j=true:=dK j;iterate 40 all_goals ((try conv=>whnf);try first|(with_reducible first|refine zY ?_|refine zN ?_|refine zT ?_|refine br (fun _=> ?_) (fun _=> ?_)|refine⟨rfl,?_⟩)|(with_reducible refine eD hb ?_)|(with_reducible refine eD hj ?_)|(refine wL (by simp) ?_)|(refine uC ?_)|(with_reducible refine nS ?_))
 exact hk _
end
end
end Go.Proofs.YtbjifmbemdhndaaGreatDoor
