/- Lemmas. -/
import Derived.Test.YtpkneogjdfolaaaGreatDoorBunKR
set_option maxHeartbeats 20000000
set_option maxRecDepth 100000
set_option linter.unusedSimpArgs false
set_option linter.unusedVariables false
namespace Go.Proofs.YtpkneogjdfolaaaGreatDoor
theorem A07:onL Ac 2 kXY=[(4,⟨2,false,2,⟨#[120,46,121]⟩⟩)]:=by
 have h0:byP Ac ⟨2,false,2,⟨#[120,46,121]⟩⟩ kXY=true:=by rw[Kq];decide
 have e:Ac.binds=[⟨0,false,0,⟨#[120,46,35]⟩⟩,⟨0,true,1,⟨#[42,46,121]⟩⟩,⟨1,false,1,⟨#[35]⟩⟩,⟨1,true,0,⟨#[35]⟩⟩,⟨2,false,2,⟨#[120,46,121]⟩⟩]:=rfl;unfold onL;simp[I1,e,h0]
theorem A1a:outs Ac 2 kXY=[2]:=by
 have e:Ac.aj.length=3:=rfl;unfold outs;rw[e];simp[outAt,A07,cw,J0]
theorem A06:ofL Ac 2 kXY=[2]:=by
 unfold ofL;rw[A1a,Iu (by decide:([2]:List Int).Pairwise (· < ·))];have:Fg Ac kXY [2] ([2]:List Int).length=[2]:=by simp[Fg,A07,Fh,Ie]
 rw[this,Iu (by decide),Mh (by decide)]
theorem Ald{b:zN}{n:Int} :Fa Ac 0 (Bi n b)=[⟨2,kXY,b,1⟩]:=by
 unfold Fa;have hc:¬ ((Bz Ac 0).dead < 0∨2≤(Bi n b).au):=(show ¬ ((2:Int) < 0∨2≤(0:Int)) from by decide);rw[zq hc,show(Bz Ac 0).dead=((2:Nat):Int) from rfl,show(Bi n b).key=kXY from rfl];have:=A06;rw[show ofL Ac ((2:Nat):Int) kXY=[2] from A06];rfl
open Go Go.RowKit
theorem A0q{n:Nat}(h:n < 10):Lib.decDigits n=[UInt8.ofNat (48+n)]:=by rw[Lib.decDigits,dif_pos h]
theorem Nv(n:Nat)(h:n < 10):Lib.itoa (n:Int)=[UInt8.ofNat (48+n)]:=by rw[Lib.itoa_nonneg,A0q h]
theorem Att(n:Nat)(h:n < 10):Dp [UInt8.ofNat (48+n)]=(n:Int):=by
 have e:Nj [UInt8.ofNat (48+n)]=n:=by
  show 10 * 0+((UInt8.ofNat (48+n)).toNat - 48)=n
  rw[byte_back (by omega)];omega
 unfold Dp;rw[e,zp ⟨by simp,by simp,A0q h⟩]
theorem Uj{p:Ab}{s:Aa}{a:Aj}{l:List Aj}(h:((Bt (Ak (Fe s) a.queue) (Co s a)).length:Int)≤(Bz p a.queue).bm):
  Fv p (s,a::l)=({ Fe s with ready:=(Fe s).ready.set a.queue.toNat (Bt (Ak (Fe s) a.queue) (Co s a)) },l):=by
 show((Ei p (Fe s) a.queue (Co s a)).1,l++(Ei p (Fe s) a.queue (Co s a)).2)=_
 unfold Ei;rw[zp h,List.append_nil]
theorem Aur{p:Ab}{s:Aa}{a:Aj}{l r:List Aj}(h:¬ ((Bt (Ak (Fe s) a.queue) (Co s a)).length:Int)≤(Bz p a.queue).bm)(hd:Fa p a.queue (Ww (Bt (Ak (Fe s) a.queue) (Co s a)))=r):
  Fv p (s,a::l)=({ Fe s with ready:=(Fe s).ready.set a.queue.toNat ((Bt (Ak (Fe s) a.queue) (Co s a)).drop 1),dropped:=s.dropped+1 },l++r):=by
 show((Ei p (Fe s) a.queue (Co s a)).1,l++(Ei p (Fe s) a.queue (Co s a)).2)=_
 unfold Ei;rw[zq h,hd];rfl
def Age(b:zN):List Aj:=[⟨0,kXY,b,0⟩,⟨1,kXY,b,0⟩]
theorem Alc{s X:Aa}{b:zN}(h:Bw Ac s)(hb:b.size≤12)(hn:s.ah≤524288)(hs:Dv Ac s (Age b)=X):
  Bg Ac s 0 kXY b=0∧Cn Ac s 0 kXY b=2∧B6 Ac s 0 kXY b=X:=by
 have h0:=Cv.2 h;have hl:Jv Ac 0 kXY b=Age b:=by unfold Jv;rw[Q4];rfl
 have ha:Bh Ac s (Age b)=0:=by
  unfold Bh;rw[zq (by rw[h0];decide),zq (show ¬ 4 < (Age b).length from(by decide:¬ 4 < 2)),zq (by rw[show(Age b).all (Lz Ac)=true from rfl];decide),zq (by simp[Age,En,Ahl,hb]),zq (by omega)]
 have he:Bg Ac s 0 kXY b=0:=by
  unfold Bg;rw[zq (by rw[h0];decide),zq (by rw[R6];decide),zq (by omega),hl,ha]
 refine⟨he,?_,?_⟩
 ·unfold Cn;rw[zp he,Q4];rfl
 ·unfold B6 Cy;rw[zp he,hl,zp ha,hs]
def dk1:Aa:=⟨[[Bi 0 Jb],[Bi 1 Jb],[]],[],[],2,0,2,0,0⟩
def dk2:Aa:=⟨[[Bi 0 Jb,Bi 2 Gl],[Bi 1 Jb,Bi 3 Gl],[]],[],[],4,0,4,0,0⟩
def Av6:List Ao:=[Bi 1 Jb,Bi 3 Gl,Bi 5 E4]
def Av7:List Ao:=[⟨6,kXY,Jb,false,1⟩]
def dk3:Aa:=⟨[[Bi 2 Gl,Bi 4 E4],Av6,Av7],[],[],7,0,7,0,1⟩
def dk4:Aa:= { dk3 with ae:=[⟨0,1⟩] }
def dk5:Aa:= { dk4 with ready:=[[Bi 4 E4],Av6,Av7],outs:=[⟨0,0,0,Bi 2 Gl⟩],af:=1 }
def dk6:Aa:= { dk4 with ready:=[[Fb (Bi 2 Gl),Bi 4 E4],Av6,Av7],af:=1 }
def dk7:Aa:= { dk4 with ready:=[[Bi 4 E4],Av6,Av7],outs:=[⟨1,0,0,Fb (Bi 2 Gl)⟩],af:=2 }
def dk8:Aa:= { dk7 with outs:=[],ar:=1 }
def dk9:Aa:= { dk8 with ae:=[⟨-1,1⟩] }
theorem Av9:Dv Ac (B5 Ac) (Age Jb)=dk1:=by
 refine Jy (n:=2) ?_ (by decide)
 show Fv Ac (Fv Ac (B5 Ac,_::_))=_
 rw[Uj (by decide),Uj (by decide)];rfl
theorem Awa:Dv Ac dk1 (Age Gl)=dk2:=by
 refine Jy (n:=2) ?_ (by decide)
 show Fv Ac (Fv Ac (dk1,_::_))=_
 rw[Uj (by decide),Uj (by decide)];rfl
theorem Awb:Dv Ac dk2 (Age E4)=dk3:=by
 refine Jy (n:=3) ?_ (by decide)
 show Fv Ac (Fv Ac (Fv Ac (dk2,_::_)))=_
 rw[Aur (r:=[⟨2,kXY,Jb,1⟩]) (by decide) (Ald (n:=0)),show([⟨1,kXY,E4,0⟩]:List Aj)++[⟨2,kXY,Jb,1⟩]=⟨1,kXY,E4,0⟩::[⟨2,kXY,Jb,1⟩] from rfl,Uj (by decide),Uj (by decide)];rfl
theorem Ao7:Bw Ac (B5 Ac):=Cv.1 Ua
theorem Wq:Bg Ac (B5 Ac) 0 kXY Jb=0∧Cn Ac (B5 Ac) 0 kXY Jb=2∧B6 Ac (B5 Ac) 0 kXY Jb=dk1:=Alc Ao7 (by decide) (by decide) Av9
theorem Ao8:Bw Ac dk1:=by have:=Kb Wq.1;rwa [Wq.2.2] at this
theorem Ws:Bg Ac dk1 0 kXY Gl=0∧Cn Ac dk1 0 kXY Gl=2∧B6 Ac dk1 0 kXY Gl=dk2:=Alc Ao8 (by decide) (by decide) Awa
theorem Ao9:Bw Ac dk2:=by have:=Kb Ws.1;rwa [Ws.2.2] at this
theorem Wu:Bg Ac dk2 0 kXY E4=0∧Cn Ac dk2 0 kXY E4=2∧B6 Ac dk2 0 kXY E4=dk3:=Alc Ao9 (by decide) (by decide) Awb
theorem Apa:Bw Ac dk3:=by have:=Kb Wu.1;rwa [Wu.2.2] at this
theorem Wo:Ce Ac dk3 0 1=0∧Ge Ac dk3 0 1=0∧Eu Ac dk3 0 1=dk4:=by
 have h:Ce Ac dk3 0 1=0:=Ls.2 ⟨Fl.2 ⟨Apa,by decide,by decide⟩,by decide,by decide⟩;refine⟨h,?_,?_⟩
 ·unfold Ge;rw[zp h];rfl
 ·unfold Eu;rw[zp h];rfl
theorem Apb:Bw Ac dk4:=by have:=M2 Wo.1;rwa [Wo.2.2] at this
theorem Sg:Bj Ac dk4 0=0∧Ch Ac dk4 0=0∧Bu Ac dk4 0=dk5:=by
 have h:Bj Ac dk4 0=0:=Ir.2 ⟨Kg.2 ⟨Fl.2 ⟨Apb,by decide,by decide⟩,by decide,by decide⟩,by decide⟩;refine⟨h,?_,?_⟩
 ·unfold Ch;rw[zp h];rfl
 ·unfold Bu;rw[zp h];rfl
theorem Aed:Bw Ac dk5:=by have:=(deliver_done' Sg.1).right;rwa [Sg.2.2] at this
theorem Asy:Bj Ac dk5 0=9:=by
 have ha:Cg Ac dk5 0=0:=Fl.2 ⟨Aed,by decide,by decide⟩;have h:Cz Ac dk5 0=9:=by unfold Cz;rw[zq (by rw[ha];decide),zq (by decide),zp (by decide)]
 unfold Bj;rw[zp (by rw[h];decide),h]
theorem Aaz:Az Ac dk5 0=0∧Cb Ac dk5 0 true=dk6:=by
 have h:Az Ac dk5 0=0:=Ol.2 ⟨Aed,⟨0,by decide⟩,by decide⟩;refine⟨h,?_⟩;have hc:Eh Ac dk5 0 (Jm dk5 0) true=(dk6,[]):=by
  unfold Eh;rw[zp rfl]
  show Ei Ac (As dk5 0) 0 (Fb (Bi 2 Gl))=_
  unfold Ei;rw[zp (by decide)];rfl
 unfold Cb;rw[zp h,show(Kn dk5 0).getD 0=0 from by decide];unfold Ki;rw[hc];exact Jy (n:=0) rfl (by decide)
theorem Apc:Bw Ac dk6:=by have:=(reject_done' (b:=true) Aaz.1).right;rwa [Aaz.2] at this
theorem Si:Bj Ac dk6 0=0∧Ch Ac dk6 0=1∧Bu Ac dk6 0=dk7:=by
 have h:Bj Ac dk6 0=0:=Ir.2 ⟨Kg.2 ⟨Fl.2 ⟨Apc,by decide,by decide⟩,by decide,by decide⟩,by decide⟩;refine⟨h,?_,?_⟩
 ·unfold Ch;rw[zp h];rfl
 ·unfold Bu;rw[zp h];rfl
theorem Apd:Bw Ac dk7:=by have:=(deliver_done' Si.1).right;rwa [Si.2.2] at this
theorem Agf:Df Ac dk7 1=0∧Gy Ac dk7 1=dk8:=by
 have h:Df Ac dk7 1=0:=Adh.2 ⟨Apd,0,by decide⟩;refine⟨h,?_⟩;unfold Gy;rw[zp h];rfl
theorem Aee:Bw Ac dk8:=by have:=(ack_done' Agf.1).right;rwa [Agf.2] at this
theorem Av8:Az Ac dk8 1=5:=by
 unfold Az;rw[zq (by rw[Cv.2 Aee];decide),zp (by decide)]
theorem Wp:Bv Ac dk8 0=0∧De Ac dk8 0=dk9:=by
 have h:Bv Ac dk8 0=0:=by
  unfold Bv;rw[zq (by rw[Cv.2 Aee];decide),zq (by decide)];rfl
 refine⟨h,?_⟩;unfold De;rw[zp h];rfl
theorem Aef:Bw Ac dk9:=by have:=(Vi Wp.1).right;rwa [Wp.2] at this
theorem Asz:Bj Ac dk9 2=9:=by
 have ha:Cg Ac dk9 2=0:=Fl.2 ⟨Aef,by decide,by decide⟩;have h:Cz Ac dk9 2=9:=by unfold Cz;rw[zq (by rw[ha];decide),zq (by decide),zp (by decide)]
 unfold Bj;rw[zp (by rw[h];decide),h]
def dkX:zN:=⟨#[120]⟩
def bOT:zN:=⟨#[111,110,101,32,116,119,111]⟩
theorem Ax5:onL Ac 0 dkX=[(0,⟨0,false,0,⟨#[120,46,35]⟩⟩)]:=by
 have h0:byP Ac ⟨0,false,0,⟨#[120,46,35]⟩⟩ dkX=true:=by rw[Kq];decide
 have h1:byP Ac ⟨0,true,1,⟨#[42,46,121]⟩⟩ dkX=false:=by rw[Kq];decide
 have e:Ac.binds=[⟨0,false,0,⟨#[120,46,35]⟩⟩,⟨0,true,1,⟨#[42,46,121]⟩⟩,⟨1,false,1,⟨#[35]⟩⟩,⟨1,true,0,⟨#[35]⟩⟩,⟨2,false,2,⟨#[120,46,121]⟩⟩]:=rfl;unfold onL;simp[I1,e,h0,h1]
theorem Aye:Be isWord dkX=0:=Y6 (by decide)
theorem Ajh:Bn Ac 0 dkX=0:=by
 unfold Bn;rw[zq (by rw[Dy];decide),zq (by decide),Aye]
theorem Zx:Cx Ac 0 dkX=[0]:=by
 have e:Ac.aj.length=3:=rfl;have ho:outs Ac 0 dkX=[0]:=by
  unfold outs;rw[e];simp[outAt,Ax5,cw,J0]
 unfold Cx ofL;rw[zp Ajh,ho,Iu (by decide:([0]:List Int).Pairwise (· < ·))];have:Fg Ac dkX [0] ([0]:List Int).length=[0]:=by simp[Fg,Ax5,Fh,Ie]
 rw[this,Iu (by decide),Mh (by decide)]
theorem Am3:Bg Ac dk9 0 dkX bOT=0∧Cn Ac dk9 0 dkX bOT=1:=by
 have h0:=Cv.2 Aef;have hl:Jv Ac 0 dkX bOT=[⟨0,dkX,bOT,0⟩]:=by unfold Jv;rw[Zx];rfl
 have ha:Bh Ac dk9 [⟨0,dkX,bOT,0⟩]=0:=by
  unfold Bh;rw[zq (by rw[h0];decide),zq (by decide),zq (by decide),zq (by simp[En,Aye];decide),zq (by decide)]
 have he:Bg Ac dk9 0 dkX bOT=0:=by
  unfold Bg;rw[zq (by rw[h0];decide),zq (by rw[Ajh];decide),zq (by decide),hl,ha]
 refine⟨he,?_⟩;unfold Cn;rw[zp he,Zx];rfl
/-! The lines. -/
theorem Ha{p:Ab}{s:Aa}{l op rest:List UInt8}(h0:l≠Tk)(h1:l≠Aac)(h:Gt l=some (op,rest)):Ee p s l=opL p s op rest:=by
 unfold Ee;rw[zq h0,zq h1,h]
theorem Alr{p:Ab}{s:Aa}{l:List UInt8}(h0:l≠Tk)(h1:l≠Aac)(h:Gt l=none):Ee p s l=(s,[],1):=by
 unfold Ee;rw[zq h0,zq h1,h]
theorem Ug{p:Ab}{s:Aa}{rest a key body:List UInt8}{k:Nat}(h:∃b,Gt rest=some (a,b)∧Gt b=some (key,body))(hk:Fz p a=(k:Int)):
  Lw p s rest=Ew s (B6 p s k (bs key) (bs body)) (Lib.itoa (Cn p s k (bs key) (bs body))) (Bg p s k (bs key) (bs body)):=by
 obtain⟨b,h1,h2⟩:=h;unfold Lw;rw[h1];simp only;rw[h2];simp only;rw[hk,zq (by omega)]
theorem Aqe{p:Ab}{s:Aa}{rest a key body:List UInt8}(h:∃b,Gt rest=some (a,b)∧Gt b=some (key,body))(hk:Fz p a= -1):Lw p s rest=(s,[],5):=by
 obtain⟨b,h1,h2⟩:=h;unfold Lw;rw[h1];simp only;rw[h2];simp only;rw[hk,zp (by decide)]
theorem Xg(p:Ab)(s:Aa)(r:List UInt8):opL p s O2 r=Lw p s r:=by unfold opL;rw[zp rfl]
theorem Aw0(p:Ab)(s:Aa)(r:List UInt8):opL p s U7 r=Ld p s r:=by unfold opL;rw[zq (by decide),zp rfl]
theorem Xf(p:Ab)(s:Aa)(r:List UInt8):opL p s O1 r=Jd p s r:=by unfold opL;rw[zq (by decide),zq (by decide),zp rfl]
theorem Ml{s n:Aa}{o:List UInt8}{e:Int}(h:e=0):Ew s n o e=(n,o,0):=by unfold Ew;rw[zp h]
theorem Ahh{s n:Aa}{o:List UInt8}{e k:Int}(h:e=k)(hk:k≠0):Ew s n o e=(s,[],k):=by unfold Ew;rw[h,zq hk]
theorem Kh{p:Ab}{s n:Aa}{l o:List UInt8}{r:List (List UInt8)}(h:Ee p s l=(n,o,0)):Oz p s (l::r)=o++10::Oz p n r:=by
 show Lu p s l++10::Oz p (N3 p s l) r=_
 unfold Lu N3;rw[h];rfl
theorem Uc{p:Ab}{s:Aa}{l:List UInt8}{k:Nat}{r:List (List UInt8)}(h:Ee p s l=(s,[],((k+1:Nat):Int)))(hk:k+1 < 10):Oz p s (l::r)=Rj++([UInt8.ofNat (48+(k+1))]++10::Oz p s r):=by
 show Lu p s l++10::Oz p (N3 p s l) r=_
 unfold Lu N3;rw[h];simp only;rw[zq (by omega),Nv _ hk,List.append_assoc]
theorem A0s:Ee Ac (B5 Ac) [115,101,110,100,32,109,97,105,110,32,120,46,121,32,111,110,101]=(dk1,[50],0):=by
 rw[Ha (by decide) (by decide) (op:=O2) (rest:=[109,97,105,110,32,120,46,121,32,111,110,101]) (by decide)];rw[Xg];rw[Ug (a:=[109,97,105,110]) (key:=[120,46,121]) (body:=[111,110,101]) (k:=0) ⟨_,rfl,by decide⟩ (by unfold Fz;simp only[ByteArray.toList_eq];decide),Ml (show Bg Ac (B5 Ac) ((0:Nat):Int) (bs [120,46,121]) (bs [111,110,101])=0 from Wq.1),show B6 Ac (B5 Ac) ((0:Nat):Int) (bs [120,46,121]) (bs [111,110,101])=dk1 from Wq.2.2,
  show Cn Ac (B5 Ac) ((0:Nat):Int) (bs [120,46,121]) (bs [111,110,101])=((2:Nat):Int) from Wq.2.1,Nv 2 (by decide)]
 rfl
theorem A0t:Ee Ac dk1 [115,101,110,100,32,109,97,105,110,32,120,46,121,32,116,119,111]=(dk2,[50],0):=by
 rw[Ha (by decide) (by decide) (op:=O2) (rest:=[109,97,105,110,32,120,46,121,32,116,119,111]) (by decide)];rw[Xg];rw[Ug (a:=[109,97,105,110]) (key:=[120,46,121]) (body:=[116,119,111]) (k:=0) ⟨_,rfl,by decide⟩ (by unfold Fz;simp only[ByteArray.toList_eq];decide),Ml (show Bg Ac dk1 ((0:Nat):Int) (bs [120,46,121]) (bs [116,119,111])=0 from Ws.1),show B6 Ac dk1 ((0:Nat):Int) (bs [120,46,121]) (bs [116,119,111])=dk2 from Ws.2.2,
  show Cn Ac dk1 ((0:Nat):Int) (bs [120,46,121]) (bs [116,119,111])=((2:Nat):Int) from Ws.2.1,Nv 2 (by decide)]
 rfl
theorem A0u:Ee Ac dk2 [115,101,110,100,32,109,97,105,110,32,120,46,121,32,116,104,114,101,101]=(dk3,[50],0):=by
 rw[Ha (by decide) (by decide) (op:=O2) (rest:=[109,97,105,110,32,120,46,121,32,116,104,114,101,101]) (by decide)];rw[Xg];rw[Ug (a:=[109,97,105,110]) (key:=[120,46,121]) (body:=[116,104,114,101,101]) (k:=0) ⟨_,rfl,by decide⟩ (by unfold Fz;simp only[ByteArray.toList_eq];decide),Ml (show Bg Ac dk2 ((0:Nat):Int) (bs [120,46,121]) (bs [116,104,114,101,101])=0 from Wu.1),show B6 Ac dk2 ((0:Nat):Int) (bs [120,46,121]) (bs [116,104,114,101,101])=dk3 from Wu.2.2,
  show Cn Ac dk2 ((0:Nat):Int) (bs [120,46,121]) (bs [116,104,114,101,101])=((2:Nat):Int) from Wu.2.1,Nv 2 (by decide)]
 rfl
theorem A0v:Ee Ac dk3 [108,121,105,110,103]=(dk3,[50,32,51,32,49],0):=by
 unfold Ee;rw[zp (by decide)]
 show(dk3,Lib.itoa ((2:Nat):Int)++32::(Lib.itoa ((3:Nat):Int)++32::Lib.itoa ((1:Nat):Int)),(0:Int))=_
 rw[Nv 2 (by decide),Nv 3 (by decide),Nv 1 (by decide)];rfl
theorem A0w:Ee Ac dk3 [115,117,109,115]=(dk3,[55,32,48,32,49],0):=by
 unfold Ee;rw[zq (by decide),zp (by decide)]
 show(dk3,Lib.itoa ((7:Nat):Int)++32::(Lib.itoa ((0:Nat):Int)++32::Lib.itoa ((1:Nat):Int)),(0:Int))=_
 rw[Nv 7 (by decide),Nv 0 (by decide),Nv 1 (by decide)];rfl
theorem A0x:Ee Ac dk3 [106,111,105,110,32,97,32,49]=(dk4,[48],0):=by
 rw[Ha (by decide) (by decide) (op:=U7) (rest:=[97,32,49]) (by decide)];rw[Aw0];unfold Ld;rw[show Gt [97,32,49]=some ([97],[49]) from by decide];simp only;rw[show Dp [49]=((1:Nat):Int) from Att 1 (by decide),zq (by decide),show Cl Ac [97]=((0:Nat):Int) from by(unfold Cl;simp only[ByteArray.toList_eq];decide),zq (by decide)];rw[Ml (show Ce Ac dk3 ((0:Nat):Int) ((1:Nat):Int)=0 from Wo.1),show Eu Ac dk3 ((0:Nat):Int) ((1:Nat):Int)=dk4 from Wo.2.2,show(Ge Ac dk3 ((0:Nat):Int) ((1:Nat):Int))=0 from Wo.2.1,Nv 0 (by decide)];rfl
theorem A0y:Ee Ac dk4 [110,101,120,116,32,97]=(dk5,[48,32,48,32,110,101,119,32,116,119,111],0):=by
 rw[Ha (by decide) (by decide) (op:=O1) (rest:=[97]) (by decide)];rw[Xf];unfold Jd;rw[show Gt [97]=none from by decide];simp only;rw[show Cl Ac [97]=((0:Nat):Int) from by(unfold Cl;simp only[ByteArray.toList_eq];decide),zq (by decide)];unfold Xd;rw[Ml (show Bj Ac dk4 ((0:Nat):Int)=0 from Sg.1),show Bu Ac dk4 ((0:Nat):Int)=dk5 from Sg.2.2,show Ch Ac dk4 ((0:Nat):Int)=((0:Nat):Int) from Sg.2.1]
 show(dk5,Lib.itoa ((0:Nat):Int)++32::(Lib.itoa ((0:Nat):Int)++_++_),(0:Int))=_
 rw[Nv 0 (by decide)];rfl
theorem A0z:Ee Ac dk5 [110,101,120,116,32,97]=(dk5,[],9):=by
 rw[Ha (by decide) (by decide) (op:=O1) (rest:=[97]) (by decide)];rw[Xf];unfold Jd;rw[show Gt [97]=none from by decide];simp only;rw[show Cl Ac [97]=((0:Nat):Int) from by(unfold Cl;simp only[ByteArray.toList_eq];decide),zq (by decide)];rw[Ahh (k:=9) (show Bj Ac dk5 ((0:Nat):Int)=9 from Asy) (by decide)]
theorem A00:Ee Ac dk5 [98,97,99,107,32,48]=(dk6,[111,107],0):=by
 rw[Ha (by decide) (by decide) (op:=Rw) (rest:=[48]) (by decide)];unfold opL;rw[zq (by decide),zq (by decide),zq (by decide),zp (by decide),show Dp [48]=((0:Nat):Int) from Att 0 (by decide),zq (by decide),zq (by decide),zq (by decide)];unfold Nx;rw[Ml (show Az Ac dk5 ((0:Nat):Int)=0 from Aaz.1),show Cb Ac dk5 ((0:Nat):Int) (Rw == Rw)=dk6 from Aaz.2];simp only[wOk]
theorem Ay5:Ee Ac dk6 [110,101,120,116,32,97]=(dk7,[49,32,48,32,97,103,97,105,110,32,116,119,111],0):=by
 rw[Ha (by decide) (by decide) (op:=O1) (rest:=[97]) (by decide)];rw[Xf];unfold Jd;rw[show Gt [97]=none from by decide];simp only;rw[show Cl Ac [97]=((0:Nat):Int) from by(unfold Cl;simp only[ByteArray.toList_eq];decide),zq (by decide)];unfold Xd;rw[Ml (show Bj Ac dk6 ((0:Nat):Int)=0 from Si.1),show Bu Ac dk6 ((0:Nat):Int)=dk7 from Si.2.2,show Ch Ac dk6 ((0:Nat):Int)=((1:Nat):Int) from Si.2.1]
 show(dk7,Lib.itoa ((1:Nat):Int)++32::(Lib.itoa ((0:Nat):Int)++_++_),(0:Int))=_
 rw[Nv 1 (by decide),Nv 0 (by decide)];rfl
theorem Ay6:Ee Ac dk7 [97,99,107,32,49]=(dk8,[111,107],0):=by
 rw[Ha (by decide) (by decide) (op:=Adw) (rest:=[49]) (by decide)];unfold opL;rw[zq (by decide),zq (by decide),zq (by decide),zp (by decide),show Dp [49]=((1:Nat):Int) from Att 1 (by decide),zq (by decide),zq (by decide),zp rfl];unfold Nx;rw[Ml (show Df Ac dk7 ((1:Nat):Int)=0 from Agf.1),show Gy Ac dk7 ((1:Nat):Int)=dk8 from Agf.2];simp only[wOk]
theorem Ay7:Ee Ac dk8 [100,114,111,112,32,49]=(dk8,[],5):=by
 rw[Ha (by decide) (by decide) (op:=Xt) (rest:=[49]) (by decide)];unfold opL;rw[zq (by decide),zq (by decide),zq (by decide),zp (by decide),show Dp [49]=((1:Nat):Int) from Att 1 (by decide),zq (by decide),zq (by decide),zq (by decide)];unfold Nx;rw[Ahh (k:=5) (show Az Ac dk8 ((1:Nat):Int)=5 from Av8) (by decide)]
theorem Ay8:Ee Ac dk8 [108,101,97,118,101,32,48]=(dk9,[111,107],0):=by
 rw[Ha (by decide) (by decide) (op:=Po) (rest:=[48]) (by decide)];unfold opL;rw[zq (by decide),zq (by decide),zq (by decide),zp (by decide),show Dp [48]=((0:Nat):Int) from Att 0 (by decide),zq (by decide),zp rfl];unfold Nx;rw[Ml (show Bv Ac dk8 ((0:Nat):Int)=0 from Wp.1),show De Ac dk8 ((0:Nat):Int)=dk9 from Wp.2];simp only[wOk]
theorem Ay9:Ee Ac dk9 [110,101,120,116,32,100]=(dk9,[],9):=by
 rw[Ha (by decide) (by decide) (op:=O1) (rest:=[100]) (by decide)];rw[Xf];unfold Jd;rw[show Gt [100]=none from by decide];simp only;rw[show Cl Ac [100]=((2:Nat):Int) from by(unfold Cl;simp only[ByteArray.toList_eq];decide),zq (by decide)];rw[Ahh (k:=9) (show Bj Ac dk9 ((2:Nat):Int)=9 from Asz) (by decide)]
theorem Aza:Ee Ac dk9 [115,101,110,100,32,109,97,105,110,32,120,32,111,110,101,32,116,119,111]=(B6 Ac dk9 0 dkX bOT,[49],0):=by
 rw[Ha (by decide) (by decide) (op:=O2) (rest:=[109,97,105,110,32,120,32,111,110,101,32,116,119,111]) (by decide)];rw[Xg];rw[Ug (a:=[109,97,105,110]) (key:=[120]) (body:=[111,110,101,32,116,119,111]) (k:=0) ⟨_,rfl,by decide⟩ (by unfold Fz;simp only[ByteArray.toList_eq];decide),Ml (show Bg Ac dk9 ((0:Nat):Int) (bs [120]) (bs [111,110,101,32,116,119,111])=0 from Am3.1),
  show Cn Ac dk9 ((0:Nat):Int) (bs [120]) (bs [111,110,101,32,116,119,111])=((1:Nat):Int) from Am3.2,Nv 1 (by decide)]
 rfl
theorem Azb(s:Aa):Ee Ac s [115,101,110,100,32,110,111,110,101,32,120,32,111,110,101]=(s,[],5):=by
 rw[Ha (by decide) (by decide) (op:=O2) (rest:=[110,111,110,101,32,120,32,111,110,101]) (by decide)];rw[Xg];rw[Aqe (a:=[110,111,110,101]) (key:=[120]) (body:=[111,110,101]) ⟨_,rfl,by decide⟩ (by unfold Fz;simp only[ByteArray.toList_eq];decide)]
theorem Azc(s:Aa):Ee Ac s [110,101,120,116,32,110,111,110,101]=(s,[],5):=by
 rw[Ha (by decide) (by decide) (op:=O1) (rest:=[110,111,110,101]) (by decide)];rw[Xf];unfold Jd;rw[show Gt [110,111,110,101]=none from by decide];simp only;rw[show Cl Ac [110,111,110,101]= -1 from by(unfold Cl;simp only[ByteArray.toList_eq];decide),zp (by decide)]
theorem Azd(s:Aa):Ee Ac s [120]=(s,[],1):=Alr (by decide) (by decide) (by decide)
def Yb:zN:=⟨#[115,101,110,100,32,109,97,105,110,32,120,46,121,32,111,110,101,10,115,101,110,100,32,109,97,105,110,32,120,46,121,32,116,119,111,10,115,101,110,100,32,109,97,105,110,32,120,46,121,32,116,104,114,101,101,10,108,121,105,110,103,10,115,117,109,115,10,106,111,105,110,32,97,32,49,10,110,101,120,116,32,97,10,110,101,120,116,32,97,10,98,97,99,107,32,48,10,110,101,120,116,32,97,10,97,99,107,32,49,10,100,114,111,112,32,49,10,108,101,97,118,101,32,48,10,110,101,120,116,32,100,10,115,101,110,100,32,109,97,105,110,32,120,32,111,110,101,32,116,119,111,10,115,101,110,100,32,110,111,110,101,32,120,32,111,110,101,10,110,101,120,116,32,110,111,110,101,10,120,10]⟩
def Am1:zN:=⟨#[50,10,50,10,50,10,50,32,51,32,49,10,55,32,48,32,49,10,48,10,48,32,48,32,110,101,119,32,116,119,111,10,101,114,114,111,114,32,57,10,111,107,10,49,32,48,32,97,103,97,105,110,32,116,119,111,10,111,107,10,101,114,114,111,114,32,53,10,111,107,10,101,114,114,111,114,32,57,10,49,10,101,114,114,111,114,32,53,10,101,114,114,111,114,32,53,10,101,114,114,111,114,32,49,10]⟩
theorem Asx:Hz [] Yb.data.toList=[[115,101,110,100,32,109,97,105,110,32,120,46,121,32,111,110,101],[115,101,110,100,32,109,97,105,110,32,120,46,121,32,116,119,111],[115,101,110,100,32,109,97,105,110,32,120,46,121,32,116,104,114,101,101],[108,121,105,110,103],[115,117,109,115],[106,111,105,110,32,97,32,49],[110,101,120,116,32,97],[110,101,120,116,32,97],[98,97,99,107,32,48],[110,101,120,116,32,97],[97,99,107,32,49],[100,114,111,112,32,49],[108,101,97,118,101,32,48],[110,101,120,116,32,100],[115,101,110,100,32,109,97,105,110,32,120,32,111,110,101,32,116,119,111],[115,101,110,100,32,110,111,110,101,32,120,32,111,110,101],[110,101,120,116,32,110,111,110,101],[120]]:=by decide
theorem Aka:Kt Ac Yb=Am1∧D2 Ac Yb=0:=by
 have he:D2 Ac Yb=0:=by
  unfold D2;rw[zq (by rw[Dy];decide),zq (by decide),zq (by decide)]
 refine⟨?_,he⟩;unfold Kt;rw[zp he,Asx,Kh A0s,Kh A0t,Kh A0u,Kh A0v,Kh A0w,Kh A0x,Kh A0y,Uc (k:=8) A0z (by decide),Kh A00,Kh Ay5,Kh Ay6,Uc (k:=4) Ay7 (by decide),Kh Ay8,
  Uc (k:=8) Ay9 (by decide),Kh Aza,Uc (k:=4) (Azb _) (by decide),Uc (k:=4) (Azc _) (by decide),Uc (k:=0) (Azd _) (by decide)]
 rfl
end Go.Proofs.YtpkneogjdfolaaaGreatDoor
