/-
  What logBegun's Recover comes to: publish x.y at the office, then take.
-/
import Derived.Test.YtaanpcjkflhomaaGreatDoorLogK
import Derived.Test.YtaanpcjkflhomaaGreatDoorBunO
set_option maxHeartbeats 20000000
set_option maxRecDepth 100000
set_option linter.unusedSimpArgs false
set_option linter.unusedVariables false
namespace Go.Proofs.YtaanpcjkflhomaaGreatDoor
open Go Go.RowKit
def K7:ByteArray:=⟨#[104,105]⟩
def lbA:Aa:=⟨[[⟨0,kXY,K7,false,0⟩],[],[]],[],[],1,0,1,0,0⟩
def lbB:Aa:=⟨[[⟨0,kXY,K7,false,0⟩],[⟨1,kXY,K7,false,0⟩],[]],[],[],2,0,2,0,0⟩
theorem Al7:Kb Ae 0 kXY K7=[⟨0,kXY,K7,0⟩,⟨1,kXY,K7,0⟩]:=by
 unfold Kb
 rw[Wa]
 rfl
theorem Aru:G2 Ae (Cx Ae,[⟨0,kXY,K7,0⟩,⟨1,kXY,K7,0⟩])=(lbA,[⟨1,kXY,K7,0⟩]):=by
 have hp:Bs (Ah (F7 (Cx Ae)) 0) (Cj (Cx Ae) ⟨0,kXY,K7,0⟩)=[⟨0,kXY,K7,false,0⟩]:=rfl
 have hl:Ek Ae (F7 (Cx Ae)) 0 (Cj (Cx Ae) ⟨0,kXY,K7,0⟩)=(lbA,[]):=by
  unfold Ek
  rw[hp,if_pos (by decide)]
  rfl
 show((Ek Ae (F7 (Cx Ae)) 0 (Cj (Cx Ae) ⟨0,kXY,K7,0⟩)).1,_++(Ek Ae (F7 (Cx Ae)) 0 (Cj (Cx Ae) ⟨0,kXY,K7,0⟩)).2)=_
 rw[hl]
 rfl
theorem Arv:G2 Ae (lbA,[⟨1,kXY,K7,0⟩])=(lbB,[]):=by
 have hp:Bs (Ah (F7 lbA) 1) (Cj lbA ⟨1,kXY,K7,0⟩)=[⟨1,kXY,K7,false,0⟩]:=rfl
 have hl:Ek Ae (F7 lbA) 1 (Cj lbA ⟨1,kXY,K7,0⟩)=(lbB,[]):=by
  unfold Ek
  rw[hp,if_pos (by decide)]
  rfl
 show((Ek Ae (F7 lbA) 1 (Cj lbA ⟨1,kXY,K7,0⟩)).1,_++(Ek Ae (F7 lbA) 1 (Cj lbA ⟨1,kXY,K7,0⟩)).2)=_
 rw[hl]
 rfl
theorem Aog:D5 Ae (Cx Ae) [⟨0,kXY,K7,0⟩,⟨1,kXY,K7,0⟩]=lbB:=by
 refine M6 (n:=2) ?_ (by decide)
 show G2 Ae (G2 Ae (Cx Ae,[⟨0,kXY,K7,0⟩,⟨1,kXY,K7,0⟩]))=_
 rw[Aru,Arv]
theorem Ars:Bh Ae (Cx Ae) [⟨0,kXY,K7,0⟩,⟨1,kXY,K7,0⟩]=0:=by
 unfold Bh
 rw[if_neg (by rw[Ta];decide),if_neg (by decide),if_neg (by decide),if_neg (by simp[Ew,Aim];decide),if_neg (by decide)]
theorem Akd:Bt Ae (Cx Ae) 0 kXY K7=0:=by
 unfold Bt
 rw[if_neg (by rw[Ta];decide),if_neg (by rw[S1];decide),if_neg (by decide),Al7,Ars]
theorem Al8:Cl Ae (Cx Ae) 0 kXY K7=lbB:=by
 unfold Cl Cu
 rw[if_pos Akd,Al7,if_pos Ars,Aog]
theorem Aw8:E2 Ae (Cx Ae) lbX=0:=Akd
theorem Auw:doS Ae (Cx Ae) lbX=lbB:=Al8
theorem Aof:Cs Ae lbB:=by
 have:=Q3 Akd
 rw[Al8] at this
 exact this
theorem Al6:Cc Ae lbB 1 2=0:=Ko.2 ⟨Fv.2 ⟨Aof,by decide,by decide⟩,by decide,by decide⟩
theorem Art:Fh Ae lbB 1 2= { lbB with takers:=[⟨1,2⟩] } :=by
 unfold Fh
 rw[if_pos Al6]
 rfl
theorem Aw9:Ju Ae [lbX,lbY]= { lbB with takers:=[⟨1,2⟩] } :=by
 show Lb Ae (Lb Ae (Cx Ae) lbX) lbY=_
 have h1:Lb Ae (Cx Ae) lbX=lbB:=by unfold Lb;rw[if_pos Aw8,Auw]
 have h2:E2 Ae lbB lbY=0:=Al6
 have h3:doS Ae lbB lbY= { lbB with takers:=[⟨1,2⟩] } :=Art
 rw[h1]
 unfold Lb
 rw[if_pos h2,h3]
end Go.Proofs.YtaanpcjkflhomaaGreatDoor
