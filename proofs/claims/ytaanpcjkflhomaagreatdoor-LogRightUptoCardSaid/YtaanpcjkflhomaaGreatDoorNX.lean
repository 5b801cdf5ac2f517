/-
  A region walked in the order in which its operations stand: a cheaper check of what that order needs.
-/
import Derived.Test.YtaanpcjkflhomaaGreatDoorBunA
set_option maxHeartbeats 20000000
set_option maxRecDepth 100000
set_option linter.unusedSimpArgs false
set_option linter.unusedVariables false
namespace Go.Proofs.YtaanpcjkflhomaaGreatDoor
open Go
section
variable {P:Program} {ops:Array Oper} {Q:Exit→Act→World→Prop}
def yD (D:List (Option Tmp)) (tmps:Array Value) (j:Nat):Option Bool:=
 match ((D[j]?).bind id).bind (tmps[·]?) with
 |some (.bool b)=>some b
 |_=>none
variable {S:World→Prop} {D:List (Option Tmp)}
def NWF (P:Program) (D:List (Option Tmp)) (Q:Exit→Act→World→Prop) (S:World→Prop):List Oper→List (Nat×Bool)→Act→World→Prop
 | [],[],a,w=>Q .normal a w
 |x::xs,(_,false)::r,a,w=>∃v,(∀c a w,Q (.panic c) (a.put x.dst v) w→Q (.panic c) a w)∧(Region.wanted x (yD D a.tmps)=true∧(∀w,S w→(execOp a.eval x).run P w= .ok (.value v) w)∨Region.wanted x (yD D a.tmps)=false∧v=undef)∧NWF P D Q S xs r (a.put x.dst v) w
 |x::xs,(_,true)::r,a,w=>Region.wanted x (yD D a.tmps)=true∧x.wp P a w (fun a' w'=>S w'∧NWF P D Q S xs r a' w') Q∨Region.wanted x (yD D a.tmps)=false∧S w∧NWF P D Q S xs r (a.put x.dst undef) w
 |_,_,_,_=>False
theorem NWF.take {k:Nat} {x:Oper} {xs:List Oper} {r:List (Nat×Bool)} {v:Value} {a a':Act} {w:World} (hQ:∀c a w,Q (.panic c) (a.put x.dst v) w→Q (.panic c) a w) (hw:Region.wanted x (yD D a.tmps)=true)
  (hv:∀w,S w→(execOp a.eval x).run P w= .ok (.value v) w) (ha:a.put x.dst v=a') (h:NWF P D Q S xs r a' w):NWF P D Q S (x::xs) ((k,false)::r) a w:=⟨v,hQ,.inl ⟨hw,hv⟩,ha▸h⟩
theorem NWF.call {k:Nat} {x:Oper} {xs:List Oper} {r:List (Nat×Bool)} {a:Act} {w:World} (hw:Region.wanted x (yD D a.tmps)=true)
  (h:∀K':Act→World→Prop,Shut (∀a w,S w→(S w→NWF P D Q S xs r a w)→K' a w)→x.wp P a w K' Q):NWF P D Q S (x::xs) ((k,true)::r) a w:=
 .inl ⟨hw,h _ (fun a w hS hW=>⟨hS,hW hS⟩)⟩
theorem NWF.leave {k:Nat} {c:Bool} {x:Oper} {xs:List Oper} {r:List (Nat×Bool)} {a a':Act} {w:World} (hQ:∀c a w,Q (.panic c) (a.put x.dst undef) w→Q (.panic c) a w) (hw:Region.wanted x (yD D a.tmps)=false) (hS:S w)
  (ha:a.put x.dst undef=a') (h:NWF P D Q S xs r a' w):NWF P D Q S (x::xs) ((k,c)::r) a w:=by
 cases c
 ·exact⟨undef,hQ,.inr ⟨hw,rfl⟩,ha▸h⟩
 ·exact .inr ⟨hw,hS,ha▸h⟩
theorem NWF.done {a:Act} {w:World} (h:Q .normal a w):NWF P D Q S [] [] a w:=h
end
end Go.Proofs.YtaanpcjkflhomaaGreatDoor
