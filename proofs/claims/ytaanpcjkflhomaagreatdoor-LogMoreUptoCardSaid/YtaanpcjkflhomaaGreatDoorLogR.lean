/-
  The plain law of what is written behind a log, and of a log that is cut.
-/
import Derived.Test.YtaanpcjkflhomaaGreatDoorLogI
set_option maxHeartbeats 20000000
set_option maxRecDepth 100000
set_option linter.unusedSimpArgs false
set_option linter.unusedVariables false
namespace Go.Proofs.YtaanpcjkflhomaaGreatDoor
open Go Go.RowKit
theorem Am7 {x:Cn} (h:F0 x=0):Df x=true∧Gc x=bs (Jg x):=by
 have h1:Df x=true:=by
  cases hc:Df x with
  |true=>rfl
  |false=>unfold F0 at h;rw[hc] at h;simp at h
 refine⟨h1,?_⟩
 unfold Gc
 rw[if_pos h1,Ad2]
theorem Wk (t:ByteArray) (h:t.size≤4096):Dd t=0∧Dq t=(Jr 60 t.data.toList).1∧J4 t=(t.size:Int) - ((Jr 60 t.data.toList).2.length:Int):=by
 have e:=Am1 60 t.data.toList
 rw[Px] at e
 refine⟨if_neg (by omega),?_,?_⟩
 ·unfold Dq
  rw[if_neg (by omega),e]
 ·unfold J4
  rw[if_neg (by omega),e]
  rfl
theorem Ae6 {t:ByteArray} (h:Dd t=0):t.size≤4096:=by
 unfold Dd at h
 split at h
 ·simp at h
 ·omega
theorem Asa {t:ByteArray} {x:Cn} (h1:Dd t=0) (h2:J4 t=(t.size:Int)) (h3:(Dq t).length < 60) (h4:F0 x=0) (h5:t.size+(Gc x).size≤4096):
  Dd (t++Gc x)=0∧Dq (t++Gc x)=Dq t++[x]:=by
 obtain⟨hr,hw⟩:=Am7 h4
 obtain⟨_,e2,e3⟩:=Wk t (Ae6 h1)
 have hsz:(t++Gc x).size≤4096:=by rw[ByteArray.size_append];exact h5
 obtain⟨f1,f2,_⟩:=Wk _ hsz
 refine⟨f1,?_⟩
 have hl:(t++Gc x).data.toList=t.data.toList++Jg x:=by
  rw[hw,ByteArray.data_append,Array.toList_append]
  rfl
 rw[e3] at h2
 have hnil:(Jr 60 t.data.toList).2=[]:=List.length_eq_zero_iff.1 (by omega)
 rw[e2] at h3
 rw[f2,hl,e2,Adf 60 _ _ hnil h3]
 obtain⟨m,hm⟩:∃m,60 - (Jr 60 t.data.toList).1.length=m+1:=⟨60 - (Jr 60 t.data.toList).1.length - 1,by omega⟩
 rw[hm,As5 hr]
theorem Asb {p:Ab} {t:ByteArray} {x:Cn} (h0:Hn p t=0) (h2:J4 t=(t.size:Int)) (h3:(Dq t).length < 60) (h4:F0 x=0) (h5:t.size+(Gc x).size≤4096):
  Hn p (t++Gc x)=0∧rcN p (t++Gc x)=rcN p t+1∧rcS p (t++Gc x)=(if E2 p (rcS p t) x=0 then doS p (rcS p t) x else rcS p t):=by
 have hc:Bf p=0:=by
  unfold Hn at h0
  split at h0
  ·exact h0
  ·rename_i h;simpa using h
 have hr:Dd t=0:=by
  unfold Hn at h0
  rw[if_neg (by simp[hc])] at h0
  exact h0
 obtain⟨g1,g2,_⟩:=Qn hc hr
 obtain⟨m1,m2⟩:=Asa hr h2 h3 h4 h5
 obtain⟨k1,k2,k3⟩:=Qn hc m1
 refine⟨k3,?_,?_⟩
 ·rw[k2,g2,m2,List.length_append]
  simp
 ·rw[k1,g1,m2,Adc]
  rfl
end Go.Proofs.YtaanpcjkflhomaaGreatDoor
