/- Parts of the proof of PParserDepth, one behind the other, with short names. -/
import Derived.Test.YtbjifmbemdhndaaGreatDoorY38
import Derived.Test.YtbjifmbemdhndaaGreatDoorY39
import Derived.Test.YtbjifmbemdhndaaGreatDoorY40a
import Derived.Test.YtbjifmbemdhndaaGreatDoorY40b
import Derived.Test.YtbjifmbemdhndaaGreatDoorY40c
import Derived.Test.YtbjifmbemdhndaaGreatDoorY40d
set_option linter.unusedVariables false
set_option linter.unusedSimpArgs false
namespace Go.Proofs.YtbjifmbemdhndaaGreatDoor
open Ab Go.RowKit
set_option maxRecDepth 100000
set_option maxHeartbeats 4000000
attribute [local irreducible] aO bx
theorem yE: ∀x:Ex,WX x
 | .mk op v tb nm slot kd args=>by
   by_cases h1:op=1
   ·subst h1;exact HX
   by_cases h2:op=2
   ·subst h2;exact JD
   by_cases FU:op=21
   ·subst FU;exact Ns
   by_cases hs:op=16\/op=15\/op=9\/op=10\/op=11\/op=12\/op=13\/op=14\/op=3\/op=4\/op=8\/op=5\/op=6\/op=7
   ·match args with
    | [a,c]=>
      have ha:=yE a;have hc:=yE c;rcases hs with rfl|rfl|rfl|rfl|rfl|rfl|rfl|rfl|rfl|rfl|rfl|rfl|rfl|rfl
      ·exact AV (.inl ⟨rfl,rfl,rfl,rfl⟩) ha hc
      ·exact AV (.inr ⟨rfl,rfl,rfl,rfl⟩) ha hc
      ·exact uX (.inl ⟨rfl,rfl,rfl,rfl⟩) ha hc
      ·exact uX (.inr (.inl ⟨rfl,rfl,rfl,rfl⟩)) ha hc
      ·exact uX (.inr (.inr ⟨rfl,rfl,rfl,rfl⟩)) ha hc
      ·exact uY (.inl ⟨rfl,rfl,rfl,rfl⟩) ha hc
      ·exact uY (.inr (.inl ⟨rfl,rfl,rfl,rfl⟩)) ha hc
      ·exact uY (.inr (.inr ⟨rfl,rfl,rfl,rfl⟩)) ha hc
      ·exact uZ (.inl ⟨rfl,rfl,rfl,rfl⟩) ha hc
      ·exact uZ (.inr (.inl ⟨rfl,rfl,rfl,rfl⟩)) ha hc
      ·exact uZ (.inr (.inr ⟨rfl,rfl,rfl,rfl⟩)) ha hc
      ·exact u0 (.inl ⟨rfl,rfl,rfl,rfl⟩) ha hc
      ·exact u0 (.inr (.inl ⟨rfl,rfl,rfl,rfl⟩)) ha hc
      ·exact u0 (.inr (.inr ⟨rfl,rfl,rfl,rfl⟩)) ha hc
    | []=>exact qc hs (by simp)
    | [a]=>exact qc hs (by simp)
    |a::c::d::r=>exact qc hs (by simp)
   simp only[not_or]at hs;obtain⟨JE,JF,h9,h10,h11,h12,JG,JH,h3,h4,h8,h5,h6,h7⟩:=hs
   match args with
   | [a]=>
     have ha:=yE a;by_cases RD:op=17
     ·subst RD;exact QU ha
     by_cases RE:op=18
     ·subst RE;exact QX ha
     by_cases h19:op=19
     ·subst h19;exact QV ha
     by_cases RF:op=20
     ·subst RF;exact QW ha
     by_cases RG:op=22
     ·subst RG;exact QY ha
     by_cases h23:op=23
     ·subst h23;exact QZ ha
     by_cases RH:op=24
     ·subst RH;exact Q0 ha
     by_cases RI:op=25
     ·subst RI;exact Q1 ha
     exact JI h1 h2 FU JE JF h9 h10 h11 h12 JG JH h3 h4 h8 h5 h6 h7 RD RE h19 RF RG h23 RH RI
   | []=>exact uW h1 h2 FU JE JF h9 h10 h11 h12 JG JH h3 h4 h8 h5 h6 h7 (by simp)
   |a::c::r=>exact uW h1 h2 FU JE JF h9 h10 h11 h12 JG JH h3 h4 h8 h5 h6 h7 (by simp)
termination_by x=>SizeOf.sizeOf x
end Go.Proofs.YtbjifmbemdhndaaGreatDoor
