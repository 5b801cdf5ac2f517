/- Lemmas. -/
import Derived.Test.YtpkneogjdfolaaaGreatDoorBunA
import Derived.Test.YtpkneogjdfolaaaGreatDoorShelf
import Derived.RangeFuncFrom
import Derived.RangeFuncNested
import Derived.RangeFuncBound
import Derived.RangeFuncCalls
import Derived.RangeFuncLeaves
import Derived.Shelf.Abstract
import Derived.Shelf.RegionOpen
import Derived.OwnWalkIn
import Derived.TacticsInMore
import Derived.LoopNIn
import Derived.LoopIn
import Derived.Lib.CutLaws
import Derived.LoopTactic
import Derived.Lib.Walk
import Derived.Lib.SliceRun
import Derived.Lib.AppendZerosOnto
import Derived.Laws.OwnMore
set_option maxHeartbeats 20000000
set_option maxRecDepth 100000
set_option linter.unusedSimpArgs false
set_option linter.unusedVariables false
namespace Go.Proofs.YtpkneogjdfolaaaGreatDoor
open Go.RowKit
theorem Al3(r:Int)(w:zW):
  Calls Tryz.prog 159 #[.int .i32 r] w fun e w'=>e= .returned (.bool (odd r))∧w=w':=by
 go_enter Tryz.func159,Tryz.ntmps159
 go_wp2
 all_goals go_ret
 all_goals refine⟨?_,rfl⟩
 all_goals(refine congrArg (fun b=>Ending.returned (Value.bool b)) ?_;rw[Bool.eq_iff_iff];simp[odd]<;>omega)
theorem Ag6(w:zW):PredGrows Tryz.prog 159 #[] (fun n=>odd (n:Int)) w:=
 fun W x _ _=>(Al3 x W).mono (by rintro e w' ⟨rfl,rfl⟩;exact⟨rfl,zb _ _⟩)
theorem Apm:∀args w,(callFunc 159 args).run Tryz.prog w= .ok (.enter 159 args) w:=enters_of Tryz.func159 (by kernel_rfl) rfl
theorem Agd(s:zN)(w:zW):
  Calls Tryz.prog 71 #[.string s,.func (.func 159) #[] #[]] w fun e w'=>e= .returned (.bool (s.toList.any fun c=>odd (c.toNat:Int)))∧Below w.heap.size w w':=
 (Tryz.strings_ContainsFunc_grows _ #[] Apm _ s w (Ag6 w)).mono (by rintro e w' ⟨rfl,hb⟩;exact⟨by rw[Air],hb⟩)
theorem Afb(s:zN)(w:zW):
  Calls Tryz.prog 116 #[.string s] w fun e w'=>e= .returned (.bool (isWord s.toList))∧Below w.heap.size w w':=by
 go_enter Tryz.func116,Tryz.ntmps116
 go_wp2_with (go_at_call 71;refine(Agd _ _).mono ?_;rintro e w1 ⟨rfl,hb⟩)
 ·go_ret
  exact⟨by simp[isWord, *],zb _ _⟩
 ·go_ret
  exact⟨by simp[isWord, *],hb⟩
theorem Au1(s:zN)(w:zW):
  Calls Tryz.prog 77 #[.string s] w fun e w'=>e= .returned (.bool (E1 s.toList))∧Below w.heap.size w w':=by
 go_enter Tryz.func77,Tryz.ntmps77
 go_wp2_with (go_at_call 116;refine(Afb _ _).mono ?_;rintro e w1 ⟨rfl,hb⟩)
 all_goals go_ret
 all_goals exact⟨by simp[E1, *],by first|exact zb _ _|assumption⟩
def Be(p:List UInt8→Bool)(s:zN):Int:=if 24 < s.size∨6 < (parts s).length then 2 else if (parts s).all (fun x=>p x.toList) then 0 else 1
def G0(p:List UInt8→Bool)(s:zN):List zN:=if Be p s=0 then parts s else []
def Vt(p:List UInt8→Bool)(s:zN)(w:zW)(e:Ending)(w':zW):Prop:=
 ∃a c,e= .returned (.tuple #[.slice a (G0 p s).length c,.int .i64 (Be p s)])∧Sl w' w.heap.size w'.heap.size a ((G0 p s).map Value.string)∧(G0 p s).length≤c∧Below w.heap.size w w'
theorem Q8(s:zN):(parts s).length=Lib.countB s ⟨#[46]⟩+1:=by
 exact Lib.splitB_all _ (by decide) 0 _ s rfl
def J8(p:List UInt8→Bool)(l:List UInt8):Int:=if 24 < l.length∨6 < (G8 l).length then 2 else if (G8 l).all p then 0 else 1
theorem Gs(p:List UInt8→Bool)(s:zN):Be p s=J8 p s.toList:=by
 unfold Be J8;rw[←Jn,List.length_map,List.all_map,ByteArray.toList_eq,Array.length_toList];rfl
def Env(w:zW):Prop:=∃m,w.cell? ⟨0,0,none⟩=some (.int .i64 m)
theorem lt_of_cell{w:zW}{a:Addr}{v:Value}(h:w.cell? a=some v):a.block < w.heap.size:=by
 rcases Nat.lt_or_ge a.block w.heap.size with h1|h1
 ·exact h1
 ·simp[World.cell?,Array.getElem?_eq_none h1] at h
theorem Ba{w w':zW}(hb:Below w.heap.size w w')(h:Env w):Env w':=by
 obtain⟨m,hm⟩:=h;exact⟨m,(hb.cell (p:=⟨0,0,none⟩) (lt_of_cell hm)).trans hm⟩
theorem Yl(s:zN)(m:Int)(w:zW)(hs:s.size < 4294967281)(hm:w.cell? ⟨0,0,none⟩=some (.int .i64 m)):
  Calls Tryz.prog 115 #[.string s,.string ⟨#[46]⟩] w fun e w'=>
   e= .returned (.slice (some ⟨w.heap.size,0,none⟩) (parts s).length (parts s).length)∧w'=w.alloc (.cells ((parts s).map Value.string).toArray 9):=
 (Tryz.strings_Split s ⟨#[46]⟩ m w hs hm (by decide)).mono (by rintro e w' ⟨rfl,rfl⟩;exact⟨by rw[Q8],rfl⟩)
def Arx(p:List UInt8→Bool)(ps:List zN)(W0:zW)(k:Value)(wr:zW):Prop:=
 ∃n:Nat,n≤ps.length∧k= .int .i64 n∧Below W0.heap.size W0 wr∧∀j x,j < n→ps[j]? =some x→p x.toList=true
theorem Afm(g:Nat)(p:List UInt8→Bool)(eg:∀args w,(callFunc g args).run Tryz.prog w= .ok (.enter g args) w)
  (hmay:∀x W,Calls Tryz.prog g #[.string x] W fun e W'=>e= .returned (.bool (p x.toList))∧Below W.heap.size W W')
  (s:zN) (m:Int) (w:zW) (hs:s.size < 4294967281) (hm:w.cell? ⟨0,0,none⟩=some (.int .i64 m)):
  Calls Tryz.prog 76 #[.string s,.func (.func g) #[] #[]] w (Vt p s w):=by
 have hsl:=Sl.new w ((parts s).map Value.string) 9 (w.heap.size+1) (by omega);have hmx:(parts s).length≤9223372036854775806:=by rw[Q8];have:=Lib.countB_le ⟨#[46]⟩ (by decide) s.size s (by omega);omega
 have HM:=zh hmay;clear hmay
 have HS:=zh hsl;clear hsl
 by_cases h1:24 < s.size∨6 < (parts s).length
 ·have he:Be p s=2:=by simp[Be,h1]
  have ho:G0 p s=[]:=by simp[G0,he]
  have HF:Hid (Be p s=2∧G0 p s=[]):=⟨he,ho⟩;clear he ho;go_enter Tryz.func76,Tryz.ntmps76
  go_wp2_with (go_at_call 115;refine(Yl s m _ hs hm).mono ?_;rintro e w1 ⟨rfl,rfl⟩)
  all_goals go_ret2
  all_goals exact⟨none,0,by rw[HF.out.1,HF.out.2];rfl,by rw[HF.out.2];exact Sl.nil _ _ _ _,by rw[HF.out.2];simp,(zb _ _).alloc (zn _) _⟩
 ·have h24:s.size≤24:=by omega
  have h6:(parts s).length≤6:=by omega
  clear h1;go_enter Tryz.func76,Tryz.ntmps76
  go_wp2_with (go_at_call 115;refine(Yl s m _ hs hm).mono ?_;rintro e w1 ⟨rfl,rfl⟩)
  generalize hW0:w.alloc (.cells ((parts s).map Value.string).toArray 9)=W0 at *;have hz:W0.heap.size=w.heap.size+1:=by rw[←hW0];simp
  have hBW:=zu hW0
  have HZ:=zh hz;clear hz
  clear hW0
  go_loopw [21] (fun k wr=>Arx p (parts s) W0 k wr) (fun k _=>(parts s).length - (intOf k).toNat)
  case atStart=>exact⟨0,by omega,rfl,zb _ _,fun j x hj=>absurd hj (by omega)⟩
  case round=>
   obtain⟨k,hk,rfl,hB,hall⟩:=hrel;have HA:=zh hall;clear hall
   by_cases hlt:k < (parts s).length
   ·obtain⟨b,o,ea,hb1,hb2,hc⟩:=HS.out.at_ (k:=k) (by simpa using hlt)
    have hcell:wr.cell? ⟨w.heap.size,k,none⟩=some (.string (parts s)[k]):=by
     simp only[Option.some.injEq,Addr.mk.injEq] at ea;obtain⟨rfl,rfl,_⟩:=ea;rw[hB.cell (p:=⟨_,k,none⟩) (by rw[HZ.out];exact hb2)];have:=hc k (.string (parts s)[k]) (by simp[hlt]);simpa using this
    clear ea hb1 hb2 hc b o;by_cases hp:p (parts s)[k].toList=true
    ·go_wp2_with (go_at_fn g;refine(HM.out _ _).mono ?_;rintro e w1 ⟨rfl,hb⟩)
     go_roundw
     case rel=>
      exact⟨k+1,hlt,by go_num,hB.trans (hb.mono hB.size),fun j x hj hx=>by
       rcases Nat.lt_or_ge j k with h|h
       ·exact HA.out j x h hx
       ·obtain rfl:j=k:=by omega
        rw[zG hlt] at hx
        cases hx
        exact hp⟩
     case measure=>simp[intOf];omega
    ·have HP:Hid (Be p s=1∧G0 p s=[]):=by
      have he:Be p s=1:=by
       unfold Be;rw[zq (by omega),zq];intro hall;exact hp (List.all_eq_true.1 hall _ (zg hlt))
      exact⟨he,by simp[G0,he]⟩
     simp only[Bool.not_eq_true] at hp;go_wp2_with (go_at_fn g;refine(HM.out _ _).mono ?_;rintro e w1 ⟨rfl,hb⟩)
     go_ret2
     exact⟨none,0,by rw[HP.out.1,HP.out.2];rfl,by rw[HP.out.2];exact Sl.nil _ _ _ _,by rw[HP.out.2];simp,hBW.trans ((hB.trans (hb.mono hB.size)).mono hBW.size)⟩
   ·have HP:Hid (Be p s=0∧G0 p s=parts s):=by
     have he:Be p s=0:=by
      unfold Be;rw[zq (by omega),zp];exact List.all_eq_true.2 fun x hx=>by
       obtain⟨j,hj,rfl⟩:=List.mem_iff_getElem.1 hx;exact HA.out j _ (by omega) (zG hj)
     exact⟨he,by simp[G0,he]⟩
    go_wp2
    go_ret2
    refine⟨some ⟨w.heap.size,0,none⟩,(parts s).length,by rw[HP.out.1,HP.out.2];rfl,?_,by rw[HP.out.2];omega,hBW.trans (hB.mono hBW.size)⟩;rw[HP.out.2];exact(HS.out.below hB (by rw[HZ.out];omega)).wider (zn _) (by have:=hB.size;have:=HZ.out;omega)
theorem As6:∀args w,(callFunc 116 args).run Tryz.prog w= .ok (.enter 116 args) w:=enters_of Tryz.func116 (by kernel_rfl) rfl
theorem Awh:∀args w,(callFunc 77 args).run Tryz.prog w= .ok (.enter 77 args) w:=enters_of Tryz.func77 (by kernel_rfl) rfl
theorem Ad2(s:zN)(m:Int)(w:zW)(hs:s.size < 4294967281)(hm:w.cell? ⟨0,0,none⟩=some (.int .i64 m)):
  Calls Tryz.prog 166 #[.string s] w (Vt isWord s w):=by
 go_enter Tryz.func166,Tryz.ntmps166
 go_wp2_with (go_at_call 76;refine(Afm _ _ As6 Afb s m _ hs hm).mono ?_;rintro e w1 ⟨a,c,rfl,h1,h2,h3⟩)
 go_ret2
 exact⟨a,c,rfl,h1,h2,h3⟩
theorem Vs(s:zN)(m:Int)(w:zW)(hs:s.size < 4294967281)(hm:w.cell? ⟨0,0,none⟩=some (.int .i64 m)):
  Calls Tryz.prog 37 #[.string s] w fun e w'=>e= .returned (.int .i64 (Be E1 s))∧Below w.heap.size w w':=by
 go_enter Tryz.func37,Tryz.ntmps37
 go_wp2_with (go_at_call 76;refine(Afm _ _ Awh Au1 s m _ hs hm).mono ?_;rintro e w1 ⟨a,c,rfl,h1,h2,h3⟩)
 go_ret
 exact⟨rfl,h3⟩
theorem Zd(s:zN)(w:zW)(hs:s.size < 4294967281)(hE:Env w):
  Calls Tryz.prog 37 #[.string s] w fun e w'=>e= .returned (.int .i64 (Be E1 s))∧Below w.heap.size w w':=by
 obtain⟨m,hm⟩:=hE;exact Vs s m w hs hm
theorem Pr(s:zN)(w:zW)(hs:s.size < 4294967281)(hE:Env w):Calls Tryz.prog 166 #[.string s] w (Vt isWord s w):=by
 obtain⟨m,hm⟩:=hE;exact Ad2 s m w hs hm
def Ady(s:zN)(i:Value):Prop:=∃k:Nat,k≤s.size∧i= .int .i64 k∧∀j c,j < k→s.toList[j]? =some c→odd (c.toNat:Int)=false
theorem Afp(s:zN)(k:Nat)(h:k < s.size):s.toList[k]? =some s[k]:=by
 rw[ByteArray.toList_eq,zG (by simpa using h)];rfl
theorem Ahg(s:zN):s.toList.length=s.size:=by rw[ByteArray.toList_eq];simp
theorem Aiv{s:zN}{k:Nat}(HA:Hid (∀j c,j < k→s.toList[j]? =some c→odd (c.toNat:Int)=false))(h:k < s.size)(ho:odd (s[k].toNat:Int)=false):Ady s (.int .i64 ((k:Int)+1)):=
 ⟨k+1,h,by go_num,fun j c hj hc=>by
  rcases Nat.lt_or_ge j k with h1|h1
  ·exact HA.out j c h1 hc
  ·obtain rfl:j=k:=by omega
   rw[Afp s j h] at hc
   cases hc
   exact ho⟩
theorem Apt{s:zN}{k:Nat}(h:k < s.size)(ho:odd (s[k].toNat:Int)=true):isWord s.toList=false:=by
 have:(s.toList.any fun c=>odd (c.toNat:Int))=true:=List.any_eq_true.2 ⟨s[k],List.mem_of_getElem? (Afp s k h),ho⟩;simp[isWord,this]
theorem Alm{s:zN}{k:Nat}(HA:Hid (∀j c,j < k→s.toList[j]? =some c→odd (c.toNat:Int)=false))(h:s.size≤k):isWord s.toList= !s.toList.isEmpty:=by
 have:(s.toList.any fun c=>odd (c.toNat:Int))=false:=by
  rw[List.any_eq_false];intro c hc;obtain⟨j,hj,rfl⟩:=List.mem_iff_getElem.1 hc;have:=HA.out j _ (by rw[Ahg] at hj;omega) (zG hj);simp[this]
 simp[isWord,this]
theorem Ads(s:zN)(w:zW)(hs:s.size≤4294967281):
  Calls Tryz.prog 149 #[.string s] w fun e w'=>e= .returned (.bool (isWord s.toList))∧w=w':=by
 go_enter Tryz.func149,Tryz.ntmps149
 go_wp2
 go_loop [3] (fun i=>Ady s i) (fun i=>s.size - (intOf i).toNat)
 case atStart=>exact⟨0,by omega,rfl,fun j c hj=>absurd hj (by omega)⟩
 case round=>
  obtain⟨k,hk,rfl,hall⟩:=hrel;have HA:=zh hall;clear hall
  by_cases hlt:k < s.size
  ·go_wp2
   all_goals first
    |exact⟨Aiv HA hlt (by first|(simp[odd];done)|(simp[odd];omega)|(simp_all [odd];done)|(simp_all [odd];omega)),by simp[intOf];omega⟩
    |(go_ret;exact⟨by rw[Apt hlt (by simp_all [odd];try omega)];rfl,rfl⟩)
  ·go_wp2
   go_ret
   exact⟨by rw[Alm HA (by omega)];rfl,rfl⟩
theorem Jt:(Tryz.prog.info? 9).map (fun i=>(i.zero,i.size,i.bytes))=some (some (.string ByteArray.empty),1,16):=by kernel_rfl
def Aor(s:zN)(c B:Nat)(w:zW)(v fr i:Value)(wr:zW):Prop:=
 ∃(k f:Nat)(out:List zN),k≤s.size+1∧f≤k∧f≤s.size+1∧(k≤s.size→f≤k)∧i= .int .i64 k∧fr= .int .i64 f∧out.length≤k∧wr.ownsRow B 9 1 v out.length (out.map Value.string)∧
  Oh s c (s.size+1) 0 0=out++Oh s c (s.size+1 - k) f k∧Below B w wr
theorem Ag8(s:zN)(c:Nat)(w:zW)(hs:s.size≤4294967281)(_hc:c < 256):
  Calls Tryz.prog 148 #[.string s,.int .u8 c] w fun e w'=>
   ∃v,e= .returned v∧w'.ownsRow w.heap.size 9 1 v (Oh s c (s.size+1) 0 0).length ((Oh s c (s.size+1) 0 0).map Value.string)∧Below w.heap.size w w':=by
 obtain⟨i0,hi,hz0,hz1,hz2⟩:=info_parts Jt;go_enter Tryz.func148,Tryz.ntmps148
 go_wp2
 go_loopw [5,6,7] (fun v fr i wr=>Aor s c w.heap.size w v fr i wr) (fun _ _ i _=>s.size+1 - (intOf i).toNat)
 case atStart=>exact⟨0,0,[],by omega,by omega,by omega,by omega,rfl,rfl,by simp,World.ownsRow_nil _ _ _ _,rfl,zb _ _⟩
 case round=>
  obtain⟨k,f,out,hk,hf,hf1,hf2,rfl,rfl,hlen,hown,hcut,hB⟩:=hrel;have HC:=zh hcut;clear hcut
  by_cases hle:k≤s.size
  ·by_cases hks:k=s.size
   ·obtain rfl:s.size=k:=hks.symm
    go_wp2_with (at_builtin;refine Em rfl _ _ 64 rfl w.heap.size 9 Jt Tryz.underlying64 rfl (by decide) (by decide) wr _ _ _ rfl hown _ rfl rfl rfl (by simp[Value.oneCell']) (by omega) hB.size ?_;intro v' w1 hown' hgrow)
    exact⟨⟨s.size+1,s.size+1,out++[s.extract f s.size],by omega,by omega,by omega,by omega,by go_num,by go_num,by simp;omega,by simpa using hown',by rw[HC.out,Aib];simp,Br hown hgrow hB (zn _) hB.size⟩,by simp[intOf]⟩
   ·have hlt:k < s.size:=by omega
    by_cases hcb:(s[k].toNat:Int)=(c:Int)
    ·have hcb':((s[k].toNat:Int) == (c:Int))=true:=by simpa using hcb
     have hks':((k:Int) == (s.size:Int))=false:=by simp;omega
     have HCB:=zh hcb;clear hcb
     go_wp2_with (at_builtin;refine Em rfl _ _ 64 rfl w.heap.size 9 Jt Tryz.underlying64 rfl (by decide) (by decide) wr _ _ _ rfl hown _ rfl rfl rfl (by simp[Value.oneCell']) (by omega) hB.size ?_;intro v' w1 hown' hgrow)
     exact⟨⟨k+1,k+1,out++[s.extract f k],by omega,by omega,by omega,by omega,by go_num,by go_num,by simp;omega,by simpa using hown',by rw[HC.out,Aic s c f k hlt HCB.out];simp,Br hown hgrow hB (zn _) hB.size⟩,by simp[intOf];omega⟩
    ·have hcb':((s[k].toNat:Int) == (c:Int))=false:=by simpa using hcb
     have hks':((k:Int) == (s.size:Int))=false:=by simp;omega
     have HCB:=zh hcb;clear hcb
     go_wp2
     exact⟨⟨k+1,f,out,by omega,by omega,by omega,by omega,by go_num,rfl,by omega,hown,by rw[HC.out,Aeb s c f k hlt HCB.out],hB⟩,by simp[intOf];omega⟩
  ·obtain rfl:k=s.size+1:=by omega
   have HE:Hid (Oh s c (s.size+1) 0 0=out):=by
    have:=HC.out;rw[Nat.sub_self,Oh,List.append_nil] at this;exact this
   go_wp2
   go_ret
   exact⟨_,rfl,by rw[HE.out];exact hown,hB⟩
def pw(wild:Bool)(l:List UInt8):Bool:=if wild then E1 l else isWord l
theorem Ob(s:zN)(w:zW)(hs:s.size≤4294967281):
  Calls Tryz.prog 148 #[.string s,.int .u8 46] w fun e w'=>
   ∃a c,e= .returned (.slice a (parts s).length c)∧Sl w' w.heap.size w'.heap.size a ((parts s).map Value.string)∧(parts s).length≤c∧Below w.heap.size w w':=
 (Ag8 s 46 w hs (by decide)).mono (by
  rintro e w' ⟨v,rfl,hown,hb⟩;rw[Alb] at hown;obtain⟨a,c,rfl,hc⟩:=Ae hown;exact⟨a,c,rfl,Sl.cu hown,hc,hb⟩)
def Amo(p:List UInt8→Bool)(ps:List zN)(W0:zW)(k:Value)(wr:zW):Prop:=
 ∃n:Nat,n≤ps.length∧k= .int .i64 n∧W0=wr∧∀j x,j < n→ps[j]? =some x→p x.toList=true
theorem Mi(s:zN):(parts s).length≤s.size+1:=by rw[Q8];have:=Lib.countB_le ⟨#[46]⟩ (by decide) s.size s (by omega);omega
theorem Om{w:zW}{lo hi:Nat}{a:zZ}{ps:List zN}(h:Sl w lo hi a (ps.map Value.string)){k:Nat}(hk:k < ps.length):
  ∃b o,a=some ⟨b,o,none⟩∧b < hi∧w.cell? ⟨b,o+k,none⟩=some (.string ps[k]):=by
 obtain⟨b,o,e,_,h2,hc⟩:=h.at_ (k:=k) (by simpa using hk);exact⟨b,o,e,h2,hc k _ (by simp[hk])⟩
theorem Aqr{p:List UInt8→Bool}{ps:List zN}{k:Nat}{w:zW}(HA:Hid (∀j x,j < k→ps[j]? =some x→p x.toList=true))(h:k < ps.length)(hp:p ps[k].toList=true):Amo p ps w (.int .i64 ((k:Int)+1)) w:=
 ⟨k+1,h,by go_num,rfl,fun j x hj hx=>by
  rcases Nat.lt_or_ge j k with h1|h1
  ·exact HA.out j x h1 hx
  ·obtain rfl:j=k:=by omega
   rw[zG h] at hx
   cases hx
   exact hp⟩
theorem Axr{p:List UInt8→Bool}{s:zN}{k:Nat}(h24:s.size≤24)(h6:(parts s).length≤6)(h:k < (parts s).length)(hp:p (parts s)[k].toList=false):Be p s=1:=by
 unfold Be;rw[zq (by omega),zq];intro hall;have:=List.all_eq_true.1 hall _ (zg h);rw[hp] at this
 cases this
theorem Au0{p:List UInt8→Bool}{s:zN}{k:Nat}(h24:s.size≤24)(h6:(parts s).length≤6)(HA:Hid (∀j x,j < k→(parts s)[j]? =some x→p x.toList=true))(h:¬ k < (parts s).length):Be p s=0:=by
 unfold Be;rw[zq (by omega),zp];exact List.all_eq_true.2 fun x hx=>by
  obtain⟨j,hj,rfl⟩:=List.mem_iff_getElem.1 hx;exact HA.out j _ (by omega) (zG hj)
theorem Tm(s:zN)(wild:Bool)(w:zW)(hs:s.size≤4294967281):
  Calls Tryz.prog 100 #[.string s,.bool wild] w fun e w'=>e= .returned (.int .i64 (Be (pw wild) s))∧Below w.heap.size w w':=by
 have hmx:=Mi s;by_cases h1:24 < s.size
 ·have hf:Be (pw wild) s=2:=by simp[Be,h1]
  have HF:=zh hf;clear hf
  go_enter Tryz.func100,Tryz.ntmps100
  go_wp2
  go_ret
  exact⟨by rw[HF.out];rfl,zb _ _⟩
 ·have h24:s.size≤24:=by omega
  by_cases h6:6 < (parts s).length
  ·have hf:Be (pw wild) s=2:=by simp[Be,h6]
   have HF:=zh hf;clear hf
   go_enter Tryz.func100,Tryz.ntmps100
   go_wp2_with (go_at_call 148;refine(Ob s _ hs).mono ?_;rintro e w1 ⟨a,c,rfl,hsl,hc,hb⟩)
   go_ret
   exact⟨by rw[HF.out];rfl,hb⟩
  ·have h6':(parts s).length≤6:=by omega
   clear h1 h6;go_enter Tryz.func100,Tryz.ntmps100
   go_wp2_with (go_at_call 148;refine(Ob s _ hs).mono ?_;rintro e w1 ⟨a,c,rfl,hsl,hc,hb⟩)
   have HS:=zh hsl;clear hsl
   go_loopw [6] (fun k wr=>Amo (pw wild) (parts s) w1 k wr) (fun k _=>(parts s).length - (intOf k).toNat)
   case atStart=>exact⟨0,by omega,rfl,rfl,fun j x hj=>absurd hj (by omega)⟩
   case round=>
    obtain⟨k,hk,rfl,rfl,hall⟩:=hrel;have HA:=zh hall;clear hall
    by_cases hlt:k < (parts s).length
    ·obtain⟨b,o,rfl,hb2,hcell⟩:=Om HS.out hlt
     have hsz:(parts s)[k].size≤4294967281:=by have:=Al0 hlt;omega
     cases hq:isWord (parts s)[k].toList<;>cases wild
     all_goals
      go_wp2_with (go_at_call 149;refine(Ads _ _ hsz).mono ?_;rintro e w' ⟨rfl,rfl⟩)
      all_goals first
       |exact⟨Aqr HA hlt (by simp_all [pw,E1]),by simp[intOf];omega⟩
       |(go_ret;exact⟨by rw[Axr h24 h6' hlt (by simp_all [pw,E1])];rfl,hb⟩)
    ·go_wp2
     go_ret
     exact⟨by rw[Au0 h24 h6' HA hlt];rfl,hb⟩
theorem Kd(s:zN)(w:zW)(hs:s.size≤4294967281):
  Calls Tryz.prog 152 #[.string s] w fun e w'=>e= .returned (.int .i64 (Be isWord s))∧Below w.heap.size w w':=by
 go_enter Tryz.func152,Tryz.ntmps152
 go_wp2_with (go_at_call 100;refine(Tm s false _ hs).mono ?_;rintro e w' ⟨rfl,hb⟩)
 go_ret
 exact⟨rfl,hb⟩
theorem Lx(s:zN)(w:zW)(hs:s.size≤4294967281):
  Calls Tryz.prog 56 #[.string s] w fun e w'=>e= .returned (.int .i64 (Be E1 s))∧Below w.heap.size w w':=by
 go_enter Tryz.func56,Tryz.ntmps56
 go_wp2_with (go_at_call 100;refine(Tm s true _ hs).mono ?_;rintro e w' ⟨rfl,hb⟩)
 go_ret
 exact⟨rfl,hb⟩
def Eb:List (List UInt8)→List (List UInt8)→Bool
 | [],k=>k.isEmpty
 |p::ps,k=>if p=[35] then (List.range (k.length+1)).any fun n=>Eb ps (k.drop n) else match k with
  | []=>false
  |x::r=>(p == [42] || p == x) && Eb ps r
theorem Hy(ps k:List (List UInt8)):Eb ([35]::ps) k=true↔∃n,n≤k.length∧Eb ps (k.drop n)=true:=by
 simp only[Eb,if_true,List.any_eq_true,List.mem_range];exact⟨fun⟨n,h1,h2⟩=>⟨n,by omega,h2⟩,fun⟨n,h1,h2⟩=>⟨n,by omega,h2⟩⟩
theorem Gv{p:List UInt8}(hp:p≠ [35])(ps:List (List UInt8)):Eb (p::ps) []=false:=by
 simp[Eb,hp]
theorem Jl{p:List UInt8}(hp:p≠ [35])(ps:List (List UInt8))(x:List UInt8)(r:List (List UInt8)):Eb (p::ps) (x::r)=((p == [42] || p == x) && Eb ps r):=by
 simp[Eb,hp]
theorem Qu{w:List UInt8}(hw:w≠ [35]):∀(ps ks:List (List UInt8))(x:List UInt8),Eb (ps++[w]) (ks++[x])=(Eb ps ks && (w == [42] || w == x))
 | [],[],x=>by simp[Eb,hw]
 | [],k::ks,x=>by
  have:Eb [] (ks++[x])=false:=by cases ks<;>rfl
  rw[List.nil_append,List.cons_append,Jl hw,this,Bool.and_false];rfl
 |p::ps,ks,x=>by
  by_cases hp:p=[35]
  ·subst hp
   rw[Bool.eq_iff_iff,zc,List.cons_append,Hy,Hy]
   constructor
   ·rintro⟨n,hn,h⟩
    rcases Nat.lt_or_ge ks.length n with h1|h1
    ·have:(ks++[x]).drop n=[]:=List.drop_eq_nil_of_le (by simp;omega)
     rw[this] at h;have hnil:∀q:List (List UInt8),Eb (q++[w]) []=false:=by
      intro q
      induction q with
      |nil=>exact Gv hw []
      |cons a q ih=>
       by_cases ha:a=[35]
       ·subst ha
        cases hc:Eb ([35]::q++[w]) [] with
        |false=>rfl
        |true=>
         rw[List.cons_append,Hy] at hc;obtain⟨n,_,hc⟩:=hc;rw[List.drop_nil,ih] at hc
         cases hc
       ·exact Gv ha _
     rw[hnil] at h
     cases h
    ·rw[List.drop_append_of_le_length h1,Qu hw ps (ks.drop n) x,zc] at h
     exact⟨⟨n,h1,h.1⟩,h.2⟩
   ·rintro⟨⟨n,hn,h⟩,h2⟩
    exact⟨n,by simp;omega,by rw[List.drop_append_of_le_length hn,Qu hw ps (ks.drop n) x,h,h2];rfl⟩
  ·cases ks with
   |nil=>
    rw[List.nil_append,List.cons_append,Jl hp,Gv hp,Bool.false_and];have hne:Eb (ps++[w]) []=false:=by
     cases hps:ps with
     |nil=>exact Gv hw []
     |cons a q=>
      clear hps;have:∀q:List (List UInt8),Eb (q++[w]) []=false:=by
       intro q
       induction q with
       |nil=>exact Gv hw []
       |cons a q ih=>
        by_cases ha:a=[35]
        ·subst ha
         cases hc:Eb ([35]::q++[w]) [] with
         |false=>rfl
         |true=>
          rw[List.cons_append,Hy] at hc;obtain⟨n,_,hc⟩:=hc;rw[List.drop_nil,ih] at hc
          cases hc
        ·exact Gv ha _
      exact this _
    rw[hne,Bool.and_false]
   |cons k ks=>
    rw[List.cons_append,List.cons_append,Jl hp,Jl hp,Qu hw ps ks x,Bool.and_assoc]
theorem Sw{w:List UInt8}(hw:w≠ [35]):∀q:List (List UInt8),Eb (q++[w]) []=false
 | []=>Gv hw []
 |a::q=>by
  by_cases ha:a=[35]
  ·subst ha
   cases hc:Eb ([35]::q++[w]) [] with
   |false=>rfl
   |true=>
    rw[List.cons_append,Hy] at hc;obtain⟨n,_,hc⟩:=hc;rw[List.drop_nil,Sw hw q] at hc
    cases hc
  ·exact Gv ha _
theorem Gu:∀(ps ks:List (List UInt8)),Eb (ps++[[35]]) ks=true↔∃n,n≤ks.length∧Eb ps (ks.take n)=true
 | [],ks=>by
  rw[List.nil_append,Hy]
  constructor
  ·intro _
   exact⟨0,Nat.zero_le _,rfl⟩
  ·intro _
   exact⟨ks.length,zn _,by rw[List.drop_eq_nil_of_le (zn _)];rfl⟩
 |p::ps,ks=>by
  by_cases hp:p=[35]
  ·subst hp
   rw[List.cons_append,Hy]
   constructor
   ·rintro⟨n,hn,h⟩
    obtain⟨m,hm,h⟩:=(Gu ps (ks.drop n)).1 h;rw[List.length_drop] at hm;refine⟨n+m,by omega,(Hy _ _).2 ⟨n,by rw[List.length_take];omega,?_⟩⟩;rw[List.drop_take,show n+m - n=m from by omega];exact h
   ·rintro⟨n,hn,h⟩
    obtain⟨m,hm,h⟩:=(Hy _ _).1 h;rw[List.length_take] at hm;refine⟨m,by omega,(Gu ps (ks.drop m)).2 ⟨n - m,by rw[List.length_drop];omega,?_⟩⟩;rw[List.drop_take] at h;exact h
  ·cases ks with
   |nil=>
    rw[List.cons_append,Gv hp]
    constructor
    ·intro h;cases h
    ·rintro⟨n,hn,h⟩
     rw[List.take_nil,Gv hp] at h
     cases h
   |cons k ks=>
    rw[List.cons_append,Jl hp,zc,Gu ps ks]
    constructor
    ·rintro⟨h1,n,hn,h2⟩
     exact⟨n+1,by simp;omega,by rw[List.take_succ_cons,Jl hp,h1,h2];rfl⟩
    ·rintro⟨n,hn,h⟩
     cases n with
     |zero=>rw[List.take_zero,Gv hp] at h;cases h
     |succ n=>
      rw[List.take_succ_cons,Jl hp,zc] at h;exact⟨h.1,n,by simp at hn;omega,h.2⟩
theorem Ab5(ps:List (List UInt8)):Eb (ps++[[35]]) []=Eb ps []:=by
 rw[Bool.eq_iff_iff,Gu]
 constructor
 ·rintro⟨n,_,h⟩;rwa [List.take_nil] at h
 ·intro h;exact⟨0,zn _,by rwa [List.take_nil]⟩
theorem Aak(ps ks:List (List UInt8))(x:List UInt8):Eb (ps++[[35]]) (ks++[x])=(Eb ps (ks++[x]) || Eb (ps++[[35]]) ks):=by
 rw[Bool.eq_iff_iff,Bool.or_eq_true,Gu,Gu]
 constructor
 ·rintro⟨n,hn,h⟩
  rcases Nat.lt_or_ge ks.length n with h1|h1
  ·left
   rw[List.take_of_length_le (by simp;omega)] at h;exact h
  ·right
   rw[List.take_append_of_le_length h1] at h;exact⟨n,h1,h⟩
 ·rintro(h|⟨n,hn,h⟩)
  ·exact⟨ks.length+1,by simp,by rw[List.take_of_length_le (by simp)];exact h⟩
  ·exact⟨n,by simp;omega,by rw[List.take_append_of_le_length hn];exact h⟩
def rowP(ps ks:List (List UInt8))(i:Nat):Bool:=Eb ps (ks.take i)
theorem rowP_nil(ks:List (List UInt8))(i:Nat)(h:i≤ks.length):rowP [] ks i=decide (i=0):=by
 cases i with
 |zero=>rfl
 |succ i=>
  cases ks with
  |nil=>simp at h
  |cons k ks=>rfl
theorem U5{α:Type}(ks:List α)(i:Nat)(h:i < ks.length):ks.take (i+1)=ks.take i++[ks[i]]:=by
 rw[List.take_add_one,zG h];rfl
theorem Aqc{w:List UInt8}(hw:w≠ [35])(ps ks:List (List UInt8))(i:Nat)(h:i < ks.length):rowP (ps++[w]) ks (i+1)=(rowP ps ks i && (w == [42] || w == ks[i])):=by
 unfold rowP;rw[U5 ks i h,Qu hw]
theorem Al9{w:List UInt8}(hw:w≠ [35])(ps ks:List (List UInt8)):rowP (ps++[w]) ks 0=false:=Sw hw ps
theorem Aqb(ps ks:List (List UInt8))(i:Nat)(h:i < ks.length):rowP (ps++[[35]]) ks (i+1)=(rowP ps ks (i+1) || rowP (ps++[[35]]) ks i):=by
 unfold rowP;rw[U5 ks i h,Aak]
theorem Al8(ps ks:List (List UInt8)):rowP (ps++[[35]]) ks 0=rowP ps ks 0:=Ab5 ps
theorem Auk(ps ks:List (List UInt8)):rowP ps ks ks.length=Eb ps ks:=by
 unfold rowP;rw[List.take_of_length_le (zn _)]
end Go.Proofs.YtpkneogjdfolaaaGreatDoor
namespace Go.Proofs.YtpkneogjdfolaaaGreatDoor
open Go.RowKit
def Avn(ps ks:List (List UInt8))(w:zW)(i:Value)(wr:zW):Prop:=
 ∃k n:Nat,k≤ks.length+1∧i= .int .i64 k∧wr=w.drewN n∧∀j,j < k→Eb ps (ks.drop j)=false
abbrev tl(l:List zN):List (List UInt8):=l.map ByteArray.toList
theorem Abs{w:zW}{lo hi:Nat}{a:zZ}{xs:List zN}{n c:Nat}(h:Sl w lo hi a (xs.map Value.string))(hn:n=xs.length)(hc:n≤c)(k:Nat)(i:Int)(hi_:i=(k:Int))(hk:k≤n):
  ∃A,(∀w,(Instr.slice 64 (.slice a n c) (some (.int .i64 i)) none none).run Tryz.prog w= .ok (.slice A (n - k) (c - k)) w)∧Sl w lo hi A ((xs.drop k).map Value.string):=
 ⟨E6 a c k 1,fun w=>Mk Tryz.underlying64 (fun _=>by kernel_rfl) a n c k i hi_ hk w,by
  have:=h.cut (n:=n) (cap:=c) (k:=k) (size:=1) (by simp[hn]) hk hc;rw[Nat.mul_one,←List.map_drop] at this;exact this⟩
def Adl(p k:zN):Bool:=Eb (tl (parts p)) (tl (parts k))
open Go Go.RowKit Go.Shelf
def Abe{β:Type}(Bx:Nat→Prop)(B:Nat)(J:β→zW→Prop):Prop:=
 ∀s W W' row,J s W→W.grownBy W' row→(∀r,row=some r→Bx r∨(B≤r∧∃o:Obj,W.heap[r]? =some o∧o.isWalk=true))→J s W'
def OwnAt{β:Type}(Bx:Nat→Prop)(B:Nat)(I:β→zW→Prop):Prop:=
 ∀s W W' row,I s W→W.grownBy W' row→(∀r,row=some r→Bx r∨(B≤r∧∃o:Obj,W.heap[r]? =some o∧o.isCells=false))→I s W'
def Arw{α:Type}(F:Fence)(n:Nat)(P:Program)(g:Nat)(lb:Array Value)(encs:α→Array Value)(Bx:Nat→Prop)(Kp:zW→zW→Prop)(S Sp:List α→Prop)(N:Nat)(w:zW):Prop:=
 ∀(l:Nat)(J Jx:List α→zW→Prop)(W:zW),Below w.heap.size w W→Abe Bx W.heap.size J→Abe Bx W.heap.size Jx→
  (∀pre x W1,J pre W1→pre.length < N→YieldAt F (n - 1) P l (encs x) W1 fun e W'=>
   (e= .returned (.bool true)∧J (pre++[x]) W'∧Kp W1 W')∨(e= .returned (.bool false)∧Jx (pre++[x]) W'))→
  J [] W→
  CallsIn F n P g (#[.func (.yield l) #[] #[]]++lb) W fun e W'=>(∃v,e= .returned v)∧((∃xs,S xs∧J xs W')∨(∃pre,Sp pre∧Jx pre W'))
theorem OwnAt.putObj{β:Type}{Bx:Nat→Prop}{B:Nat}{I:β→zW→Prop}(h:OwnAt Bx B I){s:β}{W:zW}{l:Nat}{o:Obj}(o':Obj)(hs:I s W)(hB:B≤l)(hl:W.heap[l]? =some o)(ho:o.isCells=false):I s (W.putObj l o'):=
 h s W _ (some l) hs (grownBy_putObj' W l o') (fun r e=>by cases e;exact .inr ⟨hB,o,hl,ho⟩)
theorem OwnAt.alloc{β:Type}{Bx:Nat→Prop}{B:Nat}{I:β→zW→Prop}(h:OwnAt Bx B I){s:β}{W:zW}(o:Obj)(hs:I s W):I s (W.alloc o):=
 h s W _ none hs (World.grownBy_alloc W o none) (fun r e=>by cases e)
theorem OwnAt.and{β:Type}{Bx:Nat→Prop}{B:Nat}{I I':β→zW→Prop}(h:OwnAt Bx B I)(h':OwnAt Bx B I'):OwnAt Bx B (fun s W=>I s W∧I' s W):=fun s W W' row hs hg hr=>⟨h s W W' row hs.1 hg hr,h' s W W' row hs.2 hg hr⟩
theorem Uy{W W':zW}{row:Option Nat}{Bx:Nat→Prop}{B:Nat}(hg:W.grownBy W' row)(hrow:∀r,row=some r→Bx r∨(B≤r∧∃o:Obj,W.heap[r]? =some o∧o.isWalk=true))
  {k:Nat} {o:Obj} (hk:W.heap[k]? =some o) (hw:o.isWalk=false) (hnb:¬ Bx k):W'.heap[k]? =W.heap[k]? :=by
 refine hg.block k (Array.getElem?_eq_some_iff.1 hk).1 ?_;intro e;rcases hrow k e.symm with hb|⟨_,o',ho',hw'⟩
 ·exact hnb hb
 ·rw[hk] at ho';cases ho';rw[hw] at hw';cases hw'
variable {F:Fence} {n:Nat} {P:Program}
theorem Xu{α:Type}{g:Operand}{ps:Array Tmp}{assign body:Code}{Q:Exit→Act→zW→Prop}{a:Act}{w:zW}
  (hro:F.round=none) (h1:1≤n) {gf:Nat} {lb:Array Value} (hg:a.eval g= .func (.func gf) #[] lb) (hFg:F.fn gf) (eg:∀args w,(callFunc gf args).run P w= .ok (.enter gf args) w)
  {encs:α→Array Value} {Bx:Nat→Prop} {Kp:zW→zW→Prop} {S Sp:List α→Prop} {N:Nat} {w0:zW} (hseq:Arw F (n - 1) P gf lb encs Bx Kp S Sp N w0)
  (hBx:∀r,Bx r→r < w.heap.size)
  (hKt:∀ {A B C:zW},Kp A B→Kp B C→Kp A C) (hKb:∀(W:zW)(l:Nat)(o o':Obj),w.heap.size≤l→W.heap[l]? =some o→o.isCells=false→o.isWalk=false→Kp W (W.putObj l o')) (hb0:Below w0.heap.size w0 w) (hps:∀x,(encs x).size=ps.size)
  (I:List α→zW→Prop) (Ix:Code→List α→zW→Prop) (hI:OwnAt Bx w.heap.size I) (hIx:∀c,OwnAt Bx w.heap.size (Ix c)) (h0:I [] w)
  (hround:∀(l:Nat)(pre:List α)(x:α)(W:zW)(K:Act→zW→Prop),pre.length < N→
   (∀a₁,(∀W2,I pre W2→body.wpIn (F.inRound l) (n - 1 - 1) P (ownPostK Kp I Ix (pre++[x]) W2) a₁ W2)→K a₁ W)→
   assign.wpIn (F.inRound l) (n - 1 - 1) P (Exit.then K (fun _ _ _=>False)) { tmps:=(ps.zip (encs x)).foldl (fun t (p,v)=>t.setIfInBounds p v) a.tmps,defers:=[] } W)
  (hdone:∀(D:Nat)(xs:List α)(W:zW),w.heap.size≤D→S xs→I xs W→W.heap[D]? =some (.deferred (some []))→Q .normal { a with defers:= { target:= .collected D,args:= #[] } ::a.defers } W)
  (hstop:∀(D:Nat)(c:Code)(pre:List α)(W:zW),w.heap.size≤D→Sp pre→Ix c pre W→W.heap[D]? =some (.deferred (some []))→c.wpIn F n P Q { a with defers:= { target:= .collected D,args:= #[] } ::a.defers } W):
  (Code.rangeFunc g ps assign body).wpIn F n P Q a w:=by
 refine wpIn_rangeFunc ?_;intro fn hfn;rw[hro];obtain⟨rec,hrec⟩:∃rec:LoopState→Option Code→Loop,rec=fun st pe=> { state:=st,pending:=pe,fn,tmps:=a.tmps,params:=ps,assign,body,defers:=w.heap.size } :=⟨_,rfl⟩;obtain⟨W1,hW1⟩:=zo ((w.alloc (.deferred (some []))).alloc (.loop (rec .ready none)));have hL1:W1.heap[w.heap.size+1]? =some (.loop (rec .ready none)):=by
  rw[←hW1];have:=World.alloc_heap_new (w.alloc (.deferred (some []))) (.loop (rec .ready none));rwa [World.size_alloc] at this
 have hK1:W1.heap[w.heap.size]? =some (.deferred (some [])):=by
  rw[←hW1];exact(Below.heap_alloc _ _ _ (by simp)).trans (World.alloc_heap_new w _)
 have hI1:I [] W1:=by rw[←hW1];exact hI.alloc _ (hI.alloc _ h0)
 have hb1:Below w0.heap.size w0 W1:=by
  rw[←hW1];exact hb0.trans ((((zb _ w).alloc (zn _) _).alloc (by simp) _).mono hb0.size)
 have hz1:W1.heap.size=w.heap.size+2:=by rw[←hW1];simp
 have hnl:¬ Bx (w.heap.size+1):=fun h=>by have:=hBx _ h;omega
 have hnk:¬ Bx w.heap.size:=fun h=>by have:=hBx _ h;omega
 refine⟨w.heap.size+1,[{ target:= .collected w.heap.size,args:= #[] }],W1,{ target:= .fn (.func gf) lb,args:= #[.func (.yield (w.heap.size+1)) #[] #[]] },W1,gf,
  #[.func (.yield (w.heap.size+1)) #[] #[]]++lb,W1,?_,?_,?_,?_,fun _=>h1,?_⟩
 ·rw[←hW1,hrec];exact run_enterLoop_outer _ _ _ _ _
 ·simp only[resolve,hg]
  simp[go_sem]
 ·intro f' hf';simp[Target.leads] at hf';subst hf';exact hFg
 ·simp[invoke,go_sem,eg]
 ·have hnw:∀ {A:zW} {row:Option Nat},(∀r,row=some r→Bx r∨(W1.heap.size≤r∧∃o:Obj,A.heap[r]? =some o∧o.isWalk=true))→(∀r,row=some r→Bx r∨(w.heap.size≤r∧∃o:Obj,A.heap[r]? =some o∧o.isCells=false)):=
   fun hr r e=>by
    rcases hr r e with hb|⟨hB,o,ho,hw⟩
    ·exact .inl hb
    ·exact .inr ⟨by omega,o,ho,Obj.not_cells_of_walk hw⟩
  refine(hseq (w.heap.size+1)
   (fun pre W=>I pre W∧W.heap[w.heap.size+1]? =some (.loop (rec .ready none))∧W.heap[w.heap.size]? =some (.deferred (some [])))
   (fun pre W=>∃c,Ix c pre W∧W.heap[w.heap.size+1]? =some (.loop (rec .done (some c)))∧W.heap[w.heap.size]? =some (.deferred (some [])))
   W1 hb1
   (fun s A B row hs hg' hr=>⟨hI s A B row hs.1 hg' (hnw hr),(Uy hg' hr hs.2.1 rfl hnl).trans hs.2.1,(Uy hg' hr hs.2.2 rfl hnk).trans hs.2.2⟩)
   (fun s A B row hs hg' hr=>by
    obtain⟨c,hc,hl,hk⟩:=hs;exact⟨c,hIx c s A B row hc hg' (hnw hr),(Uy hg' hr hl rfl hnl).trans hl,(Uy hg' hr hk rfl hnk).trans hk⟩)
   ?_ ⟨hI1,hL1,hK1⟩).mono ?_
  ·rintro pre x W ⟨hi,hl,hk⟩ hlen
   have hlt:w.heap.size+1 < W.heap.size:=(Array.getElem?_eq_some_iff.1 hl).1;have hy:=run_yield (P:=P) (args:=encs x) hl (by rw[hrec];exact hps x);rw[hrec] at hy;refine⟨fn,_,assign,body,hy,roundIn_of_wpIn hfn (hround _ pre x W _ hlen fun a₁ hbody=>⟨_,run_beginRound hl (by rw[hrec]),?_⟩)⟩;have hl2:(W.putObj (w.heap.size+1) (.loop { rec .ready none with state:= .busy })).heap[w.heap.size+1]? =some (.loop { rec .ready none with state:= .busy }):=World.putObj_heap_same hlt;have hk2:(W.putObj (w.heap.size+1) (.loop { rec .ready none with state:= .busy })).heap[w.heap.size]? =some (.deferred (some [])):=(World.putObj_heap_other (by omega)).trans hk;have hw2:Kp W (W.putObj (w.heap.size+1) (.loop { rec .ready none with state:= .busy })):=hKb _ _ _ _ (by omega) hl rfl rfl;refine wpIn_mono (hbody _ (hI.putObj _ hi (by omega) hl rfl)) ?_;have fin:∀(jump:Option Code)(W3:zW),KeepsOthers (W.putObj (w.heap.size+1) (.loop { rec .ready none with state:= .busy })) W3→
     (Instr.endRound (w.heap.size+1) jump).run P W3= .ok (.bool jump.isNone) (W3.putObj (w.heap.size+1) (.loop (rec (if jump.isNone then .ready else .done) jump)))∧
     W3.heap[w.heap.size+1]? =some (.loop { rec .ready none with state:= .busy })∧
     (W3.putObj (w.heap.size+1) (.loop (rec (if jump.isNone then .ready else .done) jump))).heap[w.heap.size+1]? =some (.loop (rec (if jump.isNone then .ready else .done) jump))∧
     (W3.putObj (w.heap.size+1) (.loop (rec (if jump.isNone then .ready else .done) jump))).heap[w.heap.size]? =some (.deferred (some [])):=fun jump W3 hk3=>by
    have hl3:=hk3.same _ _ hl2 rfl;have:=run_endRound (P:=P) jump hl3;rw[hrec] at this⊢;exact⟨this,by rw[hrec] at hl3;exact hl3,World.putObj_heap_same (Array.getElem?_eq_some_iff.1 hl3).1,(World.putObj_heap_other (by omega)).trans (hk3.same _ _ hk2 rfl)⟩
   rintro e a3 W3 hp
   cases e with
   |normal=>
    obtain⟨hk3,hkp3,hi3⟩:=hp;obtain⟨hr,hl3,hl4,hk4⟩:=fin none W3 hk3;exact⟨_,_,hr,.inl ⟨rfl,⟨hI.putObj _ hi3 (by omega) hl3 rfl,hl4,hk4⟩,hKt (hKt hw2 hkp3) (hKb _ _ _ _ (by omega) hl3 rfl rfl)⟩⟩
   |ret=>
    obtain⟨hk3,hi3⟩:=hp;obtain⟨hr,hl3,hl4,hk4⟩:=fin (some .ret) W3 hk3;exact⟨_,_,hr,.inr ⟨rfl,.ret,(hIx _).putObj _ hi3 (by omega) hl3 rfl,hl4,hk4⟩⟩
   |exit id=>
    obtain⟨hk3,hi3⟩:=hp;obtain⟨hr,hl3,hl4,hk4⟩:=fin (some (.exit id)) W3 hk3;exact⟨_,_,hr,.inr ⟨rfl,.exit id,(hIx _).putObj _ hi3 (by omega) hl3 rfl,hl4,hk4⟩⟩
   |goto t=>
    obtain⟨hk3,hi3⟩:=hp;obtain⟨hr,hl3,hl4,hk4⟩:=fin (some (.goto t)) W3 hk3;exact⟨_,_,hr,.inr ⟨rfl,.goto t,(hIx _).putObj _ hi3 (by omega) hl3 rfl,hl4,hk4⟩⟩
   |panic ch=>exact hp.elim
   |outgrown=>exact hp.elim
  ·rintro e W2 ⟨⟨v,rfl⟩,(⟨xs,hS,hi,hl,hk⟩|⟨pre,hSp,c,hi,hl,hk⟩)⟩
   ·exact⟨none,_,by have:=run_endLoop (P:=P) hl (by rw[hrec];simp);rw[hrec] at this;exact this,hdone _ xs _ (zn _) hS (hI.putObj _ hi (by omega) hl rfl) ((World.putObj_heap_other (by omega)).trans hk)⟩
   ·exact⟨some c,_,by have:=run_endLoop (P:=P) hl (by rw[hrec];simp);rw[hrec] at this;exact this,hstop _ c pre _ (zn _) hSp ((hIx c).putObj _ hi (by omega) hl rfl) ((World.putObj_heap_other (by omega)).trans hk)⟩
end Go.Proofs.YtpkneogjdfolaaaGreatDoor
namespace Go.Proofs.YtpkneogjdfolaaaGreatDoor
open Go Go.RowKit Go.Shelf
attribute [local go_sem] Oper.semAt_some
theorem Qr:∀l:List UInt8,Lib.index l [46]=Lib.indexByte l 46
 | []=>rfl
 |b::l=>by
  rw[Qs,Lib.indexByte];by_cases h:b=46
  ·simp[h]
  ·rw[Qr l];simp[h]
theorem Vk(s:zN)(h:Lib.indexByte s.data.toList 46= -1):parts s=[s]:=
 Lib.splitB_miss _ _ _ _ (by rw[←Qr] at h;exact h)
theorem Yt(s:zN)(i:Nat)(h:Lib.indexByte s.data.toList 46=(i:Int)):parts s=s.extract 0 i::parts (s.extract (i+1) s.size):=by
 rw[←Qr] at h;have hB:Lib.indexB s ⟨#[46]⟩=(i:Int):=h;unfold parts;rw[Lib.countB_hit s ⟨#[46]⟩ i (by decide) hB,Nat.add_comm 1,Lib.splitB_hit _ _ _ _ i hB];rfl
theorem grownBy_setCell(w:zW)(p:Addr)(u:Value):w.grownBy (w.setCell p u) (some p.block):=
 ⟨rfl,rfl,rfl,by simp[World.setCell],fun k _ hne=>Below.heap_setCell _ _ _ _ (fun e=>hne (by rw[e]))⟩
def G3(Rd:Nat→Prop)(W W':zW):Prop:=∀r,Rd r→W'.heap[r]? =W.heap[r]?
theorem G3.refl(Rd:Nat→Prop)(W:zW):G3 Rd W W:=fun _ _=>rfl
theorem G3.trans{Rd:Nat→Prop}{A B C:zW}(h:G3 Rd A B)(k:G3 Rd B C):G3 Rd A C:=fun r hr=>(k r hr).trans (h r hr)
theorem G3.putObj{Rd:Nat→Prop}{B:Nat}(hR:∀r,Rd r→r < B)(W:zW)(l:Nat)(o':Obj)(hl:B≤l):G3 Rd W (W.putObj l o'):=
 fun r hr=>World.putObj_heap_other (by have:=hR r hr;omega)
theorem G3.alloc{Rd:Nat→Prop}{W W':zW}(h:G3 Rd W W'){B:Nat}(hR:∀r,Rd r→r < B)(hB:B≤W'.heap.size)(o:Obj):G3 Rd W (W'.alloc o):=
 fun r hr=>(Below.heap_alloc _ _ _ (by have:=hR r hr;omega)).trans (h r hr)
theorem G3.setCell{Rd:Nat→Prop}{W W':zW}(h:G3 Rd W W'){q:Addr}(hq:¬ Rd q.block)(u:Value):G3 Rd W (W'.setCell q u):=
 fun r hr=>(Below.heap_setCell _ _ _ _ (fun e=>hq (e▸hr))).trans (h r hr)
theorem G3.cell{Rd:Nat→Prop}{W W':zW}(h:G3 Rd W W'){p:Addr}(hp:Rd p.block):W'.cell? p=W.cell? p:=World.cell?_of_block (h _ hp)
theorem G3.frozen{Rd:Nat→Prop}{W W':zW}(h:G3 Rd W W'){p:Addr}(hp:Rd p.block):W'.frozen? p=W.frozen? p:=World.frozen?_of_block (h _ hp)
theorem Aaj(t:zN):Lib.indexByte t.data.toList 46= -1∨∃i:Nat,Lib.indexByte t.data.toList 46=(i:Int)∧i < t.size:=by
 rw[←Qr];rcases Lib.indexB_cases t ⟨#[46]⟩ with h|⟨i,h,hl⟩
 ·exact .inl h
 ·exact .inr ⟨i,h,by have:(⟨#[46]⟩:zN).size=1:=rfl;omega⟩
def Je(bs:Nat)(w:zW):Nat:=match w.cell? ⟨bs,0,none⟩ with|some (.string s)=>s.size|_=>0
def Ayt(s:zN)(bsep bs bsave:Nat)(J:List zN→zW→Prop)(wr:zW):Prop:=
 ∃(pre:List zN)(t:zN),parts s=pre++parts t∧t.size≤s.size∧wr.cell? ⟨bs,0,none⟩=some (.string t)∧wr.frozen? ⟨bs,0,none⟩=false∧
  wr.cell? ⟨bsep,0,none⟩=some (.string ⟨#[46]⟩)∧wr.cell? ⟨bsave,0,none⟩=some (.int .i64 0)∧J pre wr
theorem Ahf(n:Nat)(hn:1≤n)(l bsep bs bsave:Nat)(s:zN)(hsz:s.size≤4294967296)(J Jx:List zN→zW→Prop)(W:zW)
  (hne1:bs≠bsep) (hne2:bs≠bsave)
  (hJ:Abe (fun r=>r=bs) W.heap.size J)
  (hY:∀pre x W1,J pre W1→pre.length < (parts s).length→YieldAt Fence.wide (n - 1) Tryz.prog l #[.string x] W1 fun e W'=>
   (e= .returned (.bool true)∧J (pre++[x]) W'∧G3 (fun r=>r=bs∨r=bsep∨r=bsave) W1 W')∨(e= .returned (.bool false)∧Jx (pre++[x]) W'))
  (hc1:W.cell? ⟨bs,0,none⟩=some (.string s)) (hf1:W.frozen? ⟨bs,0,none⟩=false) (hc2:W.cell? ⟨bsep,0,none⟩=some (.string ⟨#[46]⟩)) (hc3:W.cell? ⟨bsave,0,none⟩=some (.int .i64 0)) (h0:J [] W):
  CallsIn Fence.wide n Tryz.prog 252 #[.func (.yield l) #[] #[],zt bsep,zt bs,zt bsave] W fun e W'=>
   (∃v,e= .returned v)∧((∃xs,xs=parts s∧J xs W')∨(∃pre,pre <+:parts s∧Jx pre W')):=by
 have HY:=zh hY;clear hY
 have HJ:=zh hJ;clear hJ
 have H1:=zh hne1;clear hne1
 have H2:=zh hne2;clear hne2
 refine callsIn_of_wp Tryz.func252 rfl trivial ?_ rfl;simp only[Tryz.ntmps252,List.size_toArray,List.length_cons,List.length_nil,Nat.reduceAdd,Nat.reduceSub,Array.replicate_succ,Array.replicate_zero,List.push_toArray,List.append_toArray,List.nil_append,List.cons_append]
 gi_wp2
 gi_loopw [7] (fun _ wr=>Ayt s bsep bs bsave J wr) (fun _ wr=>Je bs wr)
 case atStart=>exact⟨[],s,rfl,zn _,hc1,hf1,hc2,hc3,h0⟩
 case round=>
  obtain⟨pre,t,hp,ht,hd1,hg1,hd2,hd3,hJs⟩:=hrel;have HP:=zh hp;clear hp
  have HJs:=zh hJs;clear hJs
  rcases Aaj t with hm|⟨i,hi,hlt⟩
  ·have hlen:pre.length < (parts s).length:=by rw[HP.out,Vk t hm];simp
   obtain⟨fn,tmps,assign,body,hy,hR⟩:=HY.out pre t wr HJs.out hlen;have HI:=zh hm;clear hm
   gi_wp2_with (refine⟨trivial,?_⟩;gi_at_call 40;refine(callsIn_wide.2 (Tryz.strings_Index_one t 46 _)).mono ?_;rw[HI.out];rintro e w' ⟨rfl,rfl⟩)
   refine hR.mono ?_;rintro e W3 (⟨rfl,hJ3,hk3⟩|⟨rfl,hJx3⟩)
   ·gi_wp2
    go_end0
    exact⟨⟨_,rfl⟩,.inl ⟨pre++[t],by rw[HP.out,Vk t HI.out],hJ3⟩⟩
   ·gi_wp2
    go_end0
    exact⟨⟨_,rfl⟩,.inr ⟨pre++[t],by rw[HP.out,Vk t HI.out];exact List.prefix_rfl,hJx3⟩⟩
  ·have hlen:pre.length < (parts s).length:=by rw[HP.out,Yt t i hi];simp
   obtain⟨fn,tmps,assign,body,hy,hR⟩:=HY.out pre (t.extract 0 i) wr HJs.out hlen;have HI:=zh hi;clear hi
   gi_wp2_with (refine⟨trivial,?_⟩;gi_at_call 40;refine(callsIn_wide.2 (Tryz.strings_Index_one t 46 _)).mono ?_;rw[HI.out];rintro e w' ⟨rfl,rfl⟩)
   refine hR.mono ?_;rintro e W3 (⟨rfl,hJ3,hk3⟩|⟨rfl,hJx3⟩)
   ·have e1:W3.cell? ⟨bs,0,none⟩=some (.string t):=(hk3.cell (p:=⟨bs,0,none⟩) (.inl rfl)).trans hd1
    have e2:W3.frozen? ⟨bs,0,none⟩=false:=(hk3.frozen (p:=⟨bs,0,none⟩) (.inl rfl)).trans hg1;have e3:W3.cell? ⟨bsep,0,none⟩=some (.string ⟨#[46]⟩):=(hk3.cell (p:=⟨bsep,0,none⟩) (.inr (.inl rfl))).trans hd2;have e4:W3.cell? ⟨bsave,0,none⟩=some (.int .i64 0):=(hk3.cell (p:=⟨bsave,0,none⟩) (.inr (.inr rfl))).trans hd3;have HK3:=zh hk3;clear hk3
    have HJ3:=zh hJ3;clear hJ3
    gi_wp2
    go_roundw
    case rel=>
     refine⟨pre++[t.extract 0 i],t.extract (i+1) t.size,by rw[HP.out,Yt t i HI.out];simp,by simp;omega,World.cell?_setCell_same' _ _ _ (by rw[e1];rfl),by rw[World.frozen?_setCell];exact e2,?_,?_,?_⟩
     ·rw[World.cell?_setCell_other _ _ _ _ (fun h=>H1.out (congrArg Addr.block h))];exact e3
     ·rw[World.cell?_setCell_other _ _ _ _ (fun h=>H2.out (congrArg Addr.block h))];exact e4
     ·exact HJ.out _ _ _ (some bs) HJ3.out (grownBy_setCell _ _ _) (fun r e=> .inl (by cases e;rfl))
    case measure=>
     have m1:Je bs w'=t.size:=by simp[Je,hd1]
     have m2:Je bs (W3.setCell ⟨bs,0,none⟩ (.string (t.extract (i+1) t.size)))=(t.extract (i+1) t.size).size:=by
      have:=World.cell?_setCell_same' W3 ⟨bs,0,none⟩ (.string (t.extract (i+1) t.size)) (by rw[e1];rfl);simp[Je,this]
     rw[m1,m2];simp;omega
   ·gi_wp2
    refine bodyPost_ret (results_none rfl _ _ _) rfl ?_;exact⟨⟨_,rfl⟩,.inr ⟨pre++[t.extract 0 i],⟨parts (t.extract (i+1) t.size),by rw[HP.out,Yt t i HI.out];simp⟩,hJx3⟩⟩
theorem Acw(n:Nat)(hn:1≤n)(bsep bs bsave:Nat)(s:zN)(hsz:s.size≤4294967296)(w:zW)(hne1:bs≠bsep)(hne2:bs≠bsave)(h1:bs < w.heap.size)(h2:bsep < w.heap.size)(h3:bsave < w.heap.size)
  (hc1:w.cell? ⟨bs,0,none⟩=some (.string s)) (hf1:w.frozen? ⟨bs,0,none⟩=false) (hc2:w.cell? ⟨bsep,0,none⟩=some (.string ⟨#[46]⟩)) (hc3:w.cell? ⟨bsave,0,none⟩=some (.int .i64 0)):
  Arw Fence.wide n Tryz.prog 252 #[zt bsep,zt bs,zt bsave] (fun x:zN=> #[.string x])
   (fun r=>r=bs) (G3 fun r=>r=bs∨r=bsep∨r=bsave) (fun xs=>xs=parts s) (fun pre=>pre <+:parts s) (parts s).length w:=
 fun l J Jx W hW hJ _ hY h0=>
  Ahf n hn l bsep bs bsave s hsz J Jx W hne1 hne2 hJ hY ((hW.cell (p:=⟨bs,0,none⟩) h1).trans hc1) ((hW.frozen (p:=⟨bs,0,none⟩) h1).trans hf1) ((hW.cell (p:=⟨bsep,0,none⟩) h2).trans hc2) ((hW.cell (p:=⟨bsave,0,none⟩) h3).trans hc3) h0
theorem Af1(s sep:zN)(w:zW):
  Calls Tryz.prog 243 #[.string s,.string sep] w fun e w'=>∃bs bsep bsave,e= .returned (.func (.func 252) #[] #[zt bsep,zt bs,zt bsave])∧
   bs≠bsep∧bs≠bsave∧w.heap.size≤bs∧bs < w'.heap.size∧bsep < w'.heap.size∧bsave < w'.heap.size∧w.heap.size≤bsep∧w.heap.size≤bsave∧
   w'.cell? ⟨bs,0,none⟩=some (.string s)∧w'.frozen? ⟨bs,0,none⟩=false∧w'.cell? ⟨bsep,0,none⟩=some (.string sep)∧w'.cell? ⟨bsave,0,none⟩=some (.int .i64 0)∧Below w.heap.size w w':=by
 have hmf:∀(fn:Fn)(first cap:Array Value)(w:zW),(Instr.makeFunc fn first cap).run Tryz.prog w= .ok (.func fn first cap) w:=fun _ _ _ _=>rfl;go_enter Tryz.func243,Tryz.ntmps243
 go_wp2
 go_ret
 have q0:Bk (((w.alloc (.cells #[.string s] 9)).alloc (.cells #[.string sep] 9)).alloc (.cells #[.int .i64 0] 3)) w.heap.size 9 #[.string s]:=((Bk.new w _ _).alloc _).alloc _;have q1:Bk (((w.alloc (.cells #[.string s] 9)).alloc (.cells #[.string sep] 9)).alloc (.cells #[.int .i64 0] 3)) (w.heap.size+1) 9 #[.string sep]:=(Bk.cg _ _ _ (by simp)).alloc _;have q2:Bk (((w.alloc (.cells #[.string s] 9)).alloc (.cells #[.string sep] 9)).alloc (.cells #[.int .i64 0] 3)) (w.heap.size+2) 3 #[.int .i64 0]:=Bk.cg _ _ _ (by simp);exact⟨w.heap.size,w.heap.size+1,w.heap.size+2,rfl,by omega,by omega,zn _,q0.lt,q1.lt,q2.lt,by omega,by omega,q0.cell 0,q0.frozen 0,q1.cell 0,q2.cell 0,
  (((zb _ w).alloc (zn _) _).alloc (by simp) _).alloc (by simp;omega) _⟩
open Go Go.RowKit Go.Shelf
attribute [local go_sem] Oper.semAt_some
theorem Aiu:(Tryz.prog.info? 4).map (fun i=>(i.zero,i.size,i.bytes))=some (some (.bool false),1,1):=by kernel_rfl
def I8(W:zW)(g N:Nat)(f:Nat→Bool):Prop:=∃cs,Bk W g 4 cs∧cs.size=N∧∀j,j < N→cs[j]? =some (.bool (f j))
theorem I8.cell{W:zW}{g N:Nat}{f:Nat→Bool}(h:I8 W g N f){j:Nat}(hj:j < N):W.cell? ⟨g,j,none⟩=some (.bool (f j)):=by
 obtain⟨cs,hb,_,hc⟩:=h;rw[hb.cell,hc j hj]
theorem I8.frozen{W:zW}{g N:Nat}{f:Nat→Bool}(h:I8 W g N f)(j:Nat):W.frozen? ⟨g,j,none⟩=false:=by
 obtain⟨cs,hb,_,_⟩:=h;exact hb.frozen j
theorem I8.lt{W:zW}{g N:Nat}{f:Nat→Bool}(h:I8 W g N f):g < W.heap.size:=by
 obtain⟨cs,hb,_,_⟩:=h;exact hb.lt
theorem I8.alloc{W:zW}{g N:Nat}{f:Nat→Bool}(h:I8 W g N f)(o:Obj):I8 (W.alloc o) g N f:=by
 obtain⟨cs,hb,h1,h2⟩:=h;exact⟨cs,hb.alloc o,h1,h2⟩
theorem I8.far{W:zW}{g N:Nat}{f:Nat→Bool}(h:I8 W g N f){p:Addr}(hp:g≠p.block)(u:Value):I8 (W.setCell p u) g N f:=by
 obtain⟨cs,hb,h1,h2⟩:=h;exact⟨cs,hb.far hp u,h1,h2⟩
theorem I8.grown{W W':zW}{g N:Nat}{f:Nat→Bool}{row:Option Nat}(h:I8 W g N f)(hg:W.grownBy W' row)(hne:some g≠row):I8 W' g N f:=by
 obtain⟨cs,hb,h1,h2⟩:=h;exact⟨cs,hb.grown hg hne,h1,h2⟩
theorem I8.below{W W':zW}{B g N:Nat}{f:Nat→Bool}(h:I8 W g N f)(hb':Below B W W')(hg:g < B):I8 W' g N f:=by
 obtain⟨cs,hb,h1,h2⟩:=h;exact⟨cs,hb.below hb' hg,h1,h2⟩
theorem I8.ck{W:zW}{g N:Nat}{f f':Nat→Bool}(h:I8 W g N f){i:Nat}{b:Bool}(hi:f' i=b)(hf:∀j,j < N→j≠i→f' j=f j):I8 (W.setCell ⟨g,i,none⟩ (.bool b)) g N f':=by
 obtain⟨cs,hb,h1,h2⟩:=h;refine⟨_,hb.ck i _,by simp[h1],fun j hj=> ?_⟩;by_cases e:i=j
 ·subst e
  rw[Array.getElem?_setIfInBounds_self_of_lt (by omega),hi]
 ·rw[Array.getElem?_setIfInBounds_ne e,h2 j hj,hf j hj (fun e'=>e e'.symm)]
theorem I8.congr{W:zW}{g N:Nat}{f f':Nat→Bool}(h:I8 W g N f)(hf:∀j,j < N→f' j=f j):I8 W g N f':=by
 obtain⟨cs,hb,h1,h2⟩:=h;exact⟨cs,hb,h1,fun j hj=>by rw[h2 j hj,hf j hj]⟩
theorem I8.new(W:zW)(N:Nat)(cs:Array Value)(f:Nat→Bool){g:Nat}(hg:g=W.heap.size)(h1:cs.size=N)(h2:∀j,j < N→cs[j]? =some (.bool (f j))):I8 (W.alloc (.cells cs 4)) g N f:=
 ⟨cs,Bk.cg W _ _ hg,h1,h2⟩
def Avm(w:zW)(k:zN)(bs B:Nat)(pre:List zN)(W:zW):Prop:=
 ∃g,w.heap.size+2≤g∧g≠bs∧I8 W g ((parts k).length+1) (rowP (tl pre) (tl (parts k)))∧
  Bk W (w.heap.size+3) 196 #[.slice (some ⟨g,0,none⟩) ((parts k).length+1) ((parts k).length+1)]∧
  Bk W (w.heap.size+1) 64 #[.slice (some ⟨w.heap.size,0,none⟩) (parts k).length (parts k).length]∧
  Sl W w.heap.size (w.heap.size+1) (some ⟨w.heap.size,0,none⟩) ((parts k).map Value.string)∧B≤W.heap.size∧Below w.heap.size w W
theorem Ata(w:zW)(k:zN)(bs B:Nat)(hbs:w.heap.size+4≤bs)(hB:w.heap.size+4≤B):OwnAt (fun r=>r=bs) B (Avm w k bs B):=by
 rintro pre W W' row ⟨g,h1,h2,h3,h4,h5,h6,h7,h8⟩ hg hr;have key:∀r t cs,Bk W r t cs→r≠bs→some r≠row:=by
  intro r t cs hb hne e;rcases hr r e.symm with h|⟨_,o,ho,hc⟩
  ·exact hne h
  ·unfold Bk at hb
   rw[hb] at ho
   cases ho
   cases hc
 have hlow:∀r,row=some r→w.heap.size+4≤r:=by
  intro r e;rcases hr r e with h|⟨h,_⟩
  ·omega
  ·omega
 obtain⟨cs,hb,hc1,hc2⟩:=h3;refine⟨g,h1,h2,⟨cs,hb.grown hg (key _ _ _ hb h2),hc1,hc2⟩,h4.grown hg (key _ _ _ h4 (by omega)),h5.grown hg (key _ _ _ h5 (by omega)),?_,by have:=hg.size;omega,?_⟩
 ·exact h6.keep fun q hq=>World.cell?_of_block (hg.block _ (by omega) (fun e=>by have:=hlow _ e.symm;omega))
 ·exact h8.grown hg h8.size (fun r e=>by have:=hlow r e;omega)
def Ur(w:zW)(k:zN)(ps:List (List UInt8))(x:List UInt8)(g gn:Nat)(Rd:Nat→Prop)(W2:zW)(i:Value)(wr:zW):Prop:=
 ∃j:Nat,j≤(parts k).length+1∧i= .int .i64 j∧I8 wr g ((parts k).length+1) (rowP ps (tl (parts k)))∧
  I8 wr gn ((parts k).length+1) (fun q=>decide (q < j) && rowP (ps++[x]) (tl (parts k)) q)∧
  Bk wr (w.heap.size+3) 196 #[.slice (some ⟨g,0,none⟩) ((parts k).length+1) ((parts k).length+1)]∧
  Bk wr (w.heap.size+1) 64 #[.slice (some ⟨w.heap.size,0,none⟩) (parts k).length (parts k).length]∧
  Sl wr w.heap.size (w.heap.size+1) (some ⟨w.heap.size,0,none⟩) ((parts k).map Value.string)∧
  KeepsOthers W2 wr∧G3 Rd W2 wr∧Below w.heap.size w wr
theorem Ur.store{w:zW}{k:zN}{ps:List (List UInt8)}{x:List UInt8}{g gn j:Nat}{Rd:Nat→Prop}{W2 wr:zW}{b:Bool}{jj:Int}(hg:gn≠g∧w.heap.size+4≤gn∧¬ Rd gn)
  (S3:I8 wr g ((parts k).length+1) (rowP ps (tl (parts k)))) (S4:I8 wr gn ((parts k).length+1) (fun q=>decide (q < j) && rowP (ps++[x]) (tl (parts k)) q))
  (S5:Bk wr (w.heap.size+3) 196 #[.slice (some ⟨g,0,none⟩) ((parts k).length+1) ((parts k).length+1)])
  (S6:Bk wr (w.heap.size+1) 64 #[.slice (some ⟨w.heap.size,0,none⟩) (parts k).length (parts k).length])
  (S7:Sl wr w.heap.size (w.heap.size+1) (some ⟨w.heap.size,0,none⟩) ((parts k).map Value.string)) (S8:KeepsOthers W2 wr) (S9:G3 Rd W2 wr) (S10:Below w.heap.size w wr)
  (hj:j < (parts k).length+1) (hb:rowP (ps++[x]) (tl (parts k)) j=b) (hjj:jj=(j:Int)+1):Ur w k ps x g gn Rd W2 (.int .i64 jj) (wr.setCell ⟨gn,j,none⟩ (.bool b)):=
 ⟨j+1,hj,by rw[hjj];go_num,S3.far (fun e=>hg.1 e.symm) _,S4.ck (by simp[hb]) (fun q _ hne=>by
  have:decide (q < j+1)=decide (q < j):=by rw[Bool.eq_iff_iff];simp;omega
  simp only[this]),S5.far (by simp;omega) _,S6.far (by simp;omega) _,
  S7.keep (fun q hq=>World.cell?_setCell_other _ _ _ _ (fun e=>by subst e;simp at hq;omega)),S8.trans (KeepsOthers.setCell _ _ _),S9.setCell hg.2.2 _,S10.setCell (p:=⟨gn,j,none⟩) (by simp;omega) _⟩
theorem Ur.skip{w:zW}{k:zN}{ps:List (List UInt8)}{x:List UInt8}{g gn j:Nat}{Rd:Nat→Prop}{W2 wr:zW}{jj:Int}
  (S3:I8 wr g ((parts k).length+1) (rowP ps (tl (parts k)))) (S4:I8 wr gn ((parts k).length+1) (fun q=>decide (q < j) && rowP (ps++[x]) (tl (parts k)) q))
  (S5:Bk wr (w.heap.size+3) 196 #[.slice (some ⟨g,0,none⟩) ((parts k).length+1) ((parts k).length+1)])
  (S6:Bk wr (w.heap.size+1) 64 #[.slice (some ⟨w.heap.size,0,none⟩) (parts k).length (parts k).length])
  (S7:Sl wr w.heap.size (w.heap.size+1) (some ⟨w.heap.size,0,none⟩) ((parts k).map Value.string)) (S8:KeepsOthers W2 wr) (S9:G3 Rd W2 wr) (S10:Below w.heap.size w wr)
  (hj:j < (parts k).length+1) (hb:rowP (ps++[x]) (tl (parts k)) j=false) (hjj:jj=(j:Int)+1):Ur w k ps x g gn Rd W2 (.int .i64 jj) wr:=
 ⟨j+1,hj,by rw[hjj];go_num,S3,S4.congr (fun q _=>by
   by_cases e:q=j
   ·subst e;simp[hb]
   ·congr 1;rw[Bool.eq_iff_iff];simp;omega),S5,S6,S7,S8,S9,S10⟩
theorem Aq3(p k:zN)(m:Int)(w:zW)(hp:p.size≤4294967280)(hk:k.size≤4294967280)(hm:w.cell? ⟨0,0,none⟩=some (.int .i64 m)):
  Calls Tryz.prog 230 #[.string p,.string k] w fun e w'=>e= .returned (.bool (Adl p k))∧Below w.heap.size w w':=by
 have hkl:=Mi k;have hmk:=fun W=>P9 (P:=Tryz.prog) Tryz.underlying196 Aiu rfl ((parts k).length+1) (((parts k).length:Int)+1) (by omega) (by omega) (by omega) W;refine(callsIn_wide (n:=4)).1 ?_;refine callsIn_of_wp_marks Tryz.func230 rfl trivial ?_ rfl;simp only[Tryz.ntmps230,List.size_toArray,List.length_cons,List.length_nil,Nat.reduceAdd,Nat.reduceSub,Array.replicate_succ,Array.replicate_zero,List.push_toArray,List.append_toArray,List.nil_append,List.cons_append]
 gi_wp2_with (refine⟨trivial,?_⟩;gi_at_call 115;refine(callsIn_wide.2 (Yl k m _ (by omega) hm)).mono ?_;rintro e w1 ⟨rfl,rfl⟩)
 clear hm hmk;obtain⟨W0,hW0⟩:∃W0,(((w.alloc (.cells ((parts k).map Value.string).toArray 9)).alloc (.cells #[.slice (some ⟨w.heap.size,0,none⟩) (parts k).length (parts k).length] 64)).alloc
   (.cells ((Array.replicate ((parts k).length+1) (.bool false)).setIfInBounds 0 (.bool true)) 4)).alloc (.cells #[.slice (some ⟨w.heap.size+1+1,0,none⟩) ((parts k).length+1) ((parts k).length+1)] 196)=W0:=⟨_,rfl⟩
 rw[hW0];have hz0:W0.heap.size=w.heap.size+4:=by rw[←hW0];simp
 have i0:∀bs,w.heap.size+4≤bs→Avm w k bs (w.heap.size+4) [] W0:=by
  intro bs hbs;rw[←hW0];refine⟨w.heap.size+2,zn _,by omega,?_,Bk.cg _ _ _ (by simp),?_,?_,by simp,?_⟩
  ·refine I8.alloc (I8.new _ _ _ _ (by simp) (by simp) (fun j hj=> ?_)) _
   rw[show rowP (tl ([]:List zN)) (tl (parts k)) j=decide (j=0) from rowP_nil _ _ (by rw[show(tl (parts k)).length=(parts k).length from List.length_map _];omega)]
   cases j with
   |zero=>rw[Array.getElem?_setIfInBounds_self_of_lt (by simp)];rfl
   |succ j=>rw[Array.getElem?_setIfInBounds_ne (by omega),Array.getElem?_replicate,zp hj];rfl
  ·exact((Bk.cg _ _ _ (by simp)).alloc _).alloc _
  ·have hs:=Sl.new w ((parts k).map Value.string) 9 (w.heap.size+1) (by omega)
   exact hs.keep fun q hq=>by
    rw[World.cell?_alloc_lt _ _ q (by simp;omega),World.cell?_alloc_lt _ _ q (by simp;omega),World.cell?_alloc_lt _ _ q (by simp;omega)]
  ·exact((((zb _ w).alloc (zn _) _).alloc (by simp) _).alloc (by simp;omega) _).alloc (by simp;omega) _
 clear hW0;have HI0:=zh i0;clear i0
 have HZ0:=zh hz0;clear hz0
 refine⟨trivial,?_⟩;refine(callsIn_wide.2 (Af1 p ⟨#[46]⟩ W0)).mono ?_;rintro e W1 ⟨bs,bsep,bsave,rfl,hn1,hn2,hl1,hl2,hl3,hl4,hl5,hl6,hc1,hf1,hc2,hc3,hb1⟩;have HC:=zh (show True∧True from⟨trivial,trivial⟩);clear HC
 have hI1:Avm w k bs W1.heap.size [] W1:=by
  obtain⟨g,h1,h2,h3,h4,h5,h6,h7,h8⟩:=HI0.out bs (by have:=HZ0.out;omega);have hz:=HZ0.out;refine⟨g,h1,h2,h3.below hb1 h3.lt,h4.below hb1 h4.lt,h5.below hb1 h5.lt,h6.below hb1 (by omega),zn _,h8.trans (hb1.mono h8.size)⟩
 have HI1:=zh hI1;clear hI1
 have hst:=Acw 3 (by omega) bsep bs bsave p (by omega) W1 hn1 hn2 hl2 hl3 hl4 hc1 hf1 hc2 hc3;have HST:=zh hst;clear hst hc1 hf1 hc2 hc3
 have hN:Hid (bs < W1.heap.size∧bsep < W1.heap.size∧bsave < W1.heap.size∧w.heap.size+4≤bs∧w.heap.size+4≤bsep∧w.heap.size+4≤bsave∧w.heap.size+4≤W1.heap.size):=by
  have hz:=HZ0.out;have:=hb1.size;exact⟨hl2,hl3,hl4,by omega,by omega,by omega,by omega⟩
 clear hn1 hn2 hl1 hl2 hl3 hl4 hl5 hl6 HI0 HZ0 hb1
 gi_wp2
 have hRd:∀r,(r=bs∨r=bsep∨r=bsave)→r < W1.heap.size:=by
  intro r hr;have:=hN.out;omega
 have HRd:=zh hRd;clear hRd
 refine Xu (n:=4) (Bx:=fun r=>r=bs) (Kp:=G3 fun r=>r=bs∨r=bsep∨r=bsave) rfl (by decide) (gf:=252) (lb:= #[zt bsep,zt bs,zt bsave]) rfl trivial (enters_of Tryz.func252 (by kernel_rfl) rfl)
  HST.out (by rintro r rfl;exact hN.out.1) (fun h k=>G3.trans h k) (fun W l o o' hl _ _ _=>G3.putObj (B:=W1.heap.size) HRd.out W l o' hl)
  (zb _ _) (fun _=>rfl) (Avm w k bs W1.heap.size) (fun _ _ _=>False) (Ata w k bs _ hN.out.2.2.2.1 hN.out.2.2.2.2.2.2) (fun _ _ _ _ _ h _ _=>h) HI1.out ?round ?done ?stop
 case stop=>
  rintro D c pre W _ _ h _;exact h.elim
 case done=>
  rintro D ys W hD rfl ⟨g,h1,h2,h3,h4,h5,h6,h7,h8⟩ hK;have c1:=h4.cell 0;have c2:=h5.cell 0;have c3:=h3.cell (j:=(parts k).length) (by omega);simp only[zI,zJ] at c1 c2;have HK:=zh hK;clear hK
  have hfit:rowP (tl (parts p)) (tl (parts k)) (parts k).length=Adl p k:=by
   have:=Auk (tl (parts p)) (tl (parts k));rw[show(tl (parts k)).length=(parts k).length from List.length_map _] at this;exact this
  have HF:=zh hfit;clear hfit
  gi_wp2
  refine⟨by simp,.inl ⟨_,_,rfl,run_takeDeferred HK.out,?_⟩⟩;refine⟨_,results_tmp rfl _ _ _,?_,?_⟩
  ·rw[←HF.out];rfl
  ·exact h8.grown (grownBy_putObj' _ D (.deferred none)) h8.size (fun r e=>by cases e;have:=hN.out;omega)
 case round=>
  intro l pre x W K hlen hK
  gi_wp2
  intro W2 hI2;obtain⟨g,h1,h2,h3,h4,h5,h6,h7,h8⟩:=hI2;have c1:=h4.cell 0;have c2:=h5.cell 0;simp only[zI,zJ] at c1 c2;have hlt:=h3.lt;have hlp:∀r,(r=bs∨r=bsep∨r=bsave)→r < W2.heap.size:=fun r hr=>Nat.lt_of_lt_of_le (HRd.out r hr) h7;obtain⟨gn,hgn⟩:∃gn,gn=W2.heap.size:=⟨_,rfl⟩;obtain⟨W3,hmk,start⟩:∃W3,(Instr.makeSlice 196 (.int .i64 (((parts k).length:Int)+1)) (.int .i64 (((parts k).length:Int)+1))).run Tryz.prog W2= .ok (.slice (some ⟨gn,0,none⟩) ((parts k).length+1) ((parts k).length+1)) W3∧
    Ur w k (tl pre) x.toList g gn (fun r=>r=bs∨r=bsep∨r=bsave) W2 (.int .i64 0) W3:=
   ⟨_,by rw[hgn];exact P9 Tryz.underlying196 Aiu rfl ((parts k).length+1) (((parts k).length:Int)+1) (by omega) (by omega) (by omega) W2,
    0,by omega,rfl,h3.alloc _,I8.new _ _ _ _ hgn (by simp) (fun q hq=>by rw[zI,List.getElem?_replicate,zp hq];simp),h4.alloc _,h5.alloc _,
    h6.keep (fun q hq=>World.cell?_alloc_lt _ _ q (by omega)),KeepsOthers.alloc _ _,(G3.refl _ _).alloc hlp (zn _) _,h8.alloc h8.size _⟩
  have c3:W3.cell? ⟨w.heap.size+3,0,none⟩=some (.slice (some ⟨g,0,none⟩) ((parts k).length+1) ((parts k).length+1)):=by
   obtain⟨j,s1,s2,s3,s4,s5,s6,s7,s8,s9,s10⟩:=start;exact s5.cell 0
  have START:=zh start;clear start
  have HW2:=zh h7;have HGN:Hid (gn≠g∧w.heap.size+2≤gn∧w.heap.size+4≤gn∧w.heap.size+2≤g∧gn≠bs∧gn≠bsep∧gn≠bsave):=by
   have:=hN.out;have:=hlp bs (.inl rfl);have:=hlp bsep (.inr (.inl rfl));have:=hlp bsave (.inr (.inr rfl));exact⟨by omega,by omega,by omega,by omega,by omega,by omega,by omega⟩
  clear hgn hlt hlp h3 h4 h5 h6 h7 h8 h1 h2 c2
  gi_wp2
  gi_loopw [27] (fun i wr=>Ur w k (tl pre) x.toList g gn (fun r=>r=bs∨r=bsep∨r=bsave) W2 i wr) (fun i _=>(parts k).length+1 - (intOf i).toNat)
  case atStart=>exact START.out
  case round=>
   obtain⟨j,s1,rfl,s3,s4,s5,s6,s7,s8,s9,s10⟩:=hrel;have S4:=zh s4;have S3:=zh s3;have d1:=s5.cell 0;have d2:=s6.cell 0;simp only[zI,zJ] at d1 d2;have S5:=zh s5;clear s5
   have S6:=zh s6;clear s6
   have S7:=zh s7;clear s7
   have S8:=zh s8;clear s8
   have S9:=zh s9;clear s9
   by_cases hlt:j < (parts k).length+1
   ·have d3:=s3.cell hlt
    have d4:=s4.frozen j;obtain⟨b5,d5⟩:∃b5,wr.cell? ⟨gn,j,none⟩=some (.bool b5):=⟨_,s4.cell hlt⟩;clear s3 s4;have HG:Hid (gn≠g∧w.heap.size+4≤gn∧¬ (gn=bs∨gn=bsep∨gn=bsave)):=by
     have:=HGN.out;exact⟨by omega,by omega,by omega⟩
    by_cases hx:x.toList=[35]
    ·have hx':(x.toList == [35])=true:=by simp[hx]
     cases j with
     |zero=>
      have hr:rowP (tl pre++[x.toList]) (tl (parts k)) 0=rowP (tl pre) (tl (parts k)) 0:=by rw[hx];exact Al8 _ _
      have HR:=zh hr;clear hr hx
      generalize hq:rowP (tl pre) (tl (parts k)) 0=q at d3;have HQ:=zh hq;clear hq
      cases q
      all_goals
       gi_wp2
       exact⟨Ur.store HG.out S3.out S4.out S5.out S6.out S7.out S8.out S9.out s10 hlt (by rw[HR.out,HQ.out]) (by simp),by simp[intOf];try omega⟩
     |succ i=>
      have hi:i < (parts k).length:=by omega
      have hr:rowP (tl pre++[x.toList]) (tl (parts k)) (i+1)=(rowP (tl pre) (tl (parts k)) (i+1) || rowP (tl pre++[x.toList]) (tl (parts k)) i):=by
       rw[hx];exact Aqb _ _ _ (by rw[show(tl (parts k)).length=(parts k).length from List.length_map _];exact hi)
      have HR:=zh hr;clear hr hx
      have d6:wr.cell? ⟨gn,i,none⟩=some (.bool (rowP (tl pre++[x.toList]) (tl (parts k)) i)):=by
       have:=S4.out.cell (j:=i) (by omega);simpa using this
      generalize hq2:rowP (tl pre++[x.toList]) (tl (parts k)) i=q2 at d6;have HQ2:=zh hq2;clear hq2
      generalize hq:rowP (tl pre) (tl (parts k)) (i+1)=q at d3;have HQ:=zh hq;clear hq
      cases q
      all_goals
       gi_wp2
       exact⟨Ur.store HG.out S3.out S4.out S5.out S6.out S7.out S8.out S9.out s10 hlt (by rw[HR.out,HQ.out,HQ2.out];rfl) (by simp),by simp[intOf];try omega⟩
    ·have hx':(x.toList == [35])=false:=by simp[hx]
     cases j with
     |zero=>
      have hr:rowP (tl pre++[x.toList]) (tl (parts k)) 0=false:=Al9 hx _ _;have HR:=zh hr;clear hr hx
      gi_wp2
      exact⟨Ur.skip S3.out S4.out S5.out S6.out S7.out S8.out S9.out s10 hlt HR.out (by simp),by simp[intOf];try omega⟩
     |succ i=>
      have hi:i < (parts k).length:=by omega
      have hr:rowP (tl pre++[x.toList]) (tl (parts k)) (i+1)=(rowP (tl pre) (tl (parts k)) i && (x.toList == [42] || x.toList == (parts k)[i].toList)):=by
       have:=Aqc hx (tl pre) (tl (parts k)) i (by rw[show(tl (parts k)).length=(parts k).length from List.length_map _];exact hi);rw[this];simp[tl]
      have HR:=zh hr;clear hr hx
      have d6:=S3.out.cell (j:=i) (by omega);generalize hq:rowP (tl pre) (tl (parts k)) i=q at d6;have HQ:=zh hq;clear hq
      generalize rowP (tl pre) (tl (parts k)) (i+1)=q3 at d3;obtain⟨b7,o7,e7,_,d7⟩:=Om S7.out hi;have d8:wr.cell? ⟨w.heap.size,i,none⟩=some (.string (parts k)[i]):=by
       simp only[Option.some.injEq,Addr.mk.injEq] at e7;obtain⟨rfl,rfl,_⟩:=e7;simpa using d7
      clear d7 e7
      gi_wp2
      all_goals exact⟨Ur.store HG.out S3.out S4.out S5.out S6.out S7.out S8.out S9.out s10 hlt (by rw[HR.out,HQ.out];clear S8 S9 S7 HR HQ;cases q<;>simp_all) (by simp),by simp[intOf];try omega⟩
   ·obtain rfl:j=(parts k).length+1:=by omega
    have d8:=S5.out.frozen 0;have S4':I8 wr gn ((parts k).length+1) (rowP (tl (pre++[x])) (tl (parts k))):=S4.out.congr fun q hq=>by
     rw[decide_eq_true hq,Bool.true_and];simp[tl]
    have HS4:=zh S4';clear S4'
    clear s3 s4
    gi_wp2
    have hg:=HGN.out;have hbs:=hN.out;refine⟨S8.out.trans (KeepsOthers.setCell _ _ _),S9.out.setCell (q:=⟨w.heap.size+3,0,none⟩) (by simp;omega) _,gn,hg.2.1,hg.2.2.2.2.1,HS4.out.far (by simp;omega) _,S5.out.ck 0 _,S6.out.far (by simp) _,
     S7.out.keep (fun q hq=>World.cell?_setCell_other _ _ _ _ (fun e=>by subst e;simp at hq;omega)),?_,s10.setCell (p:=⟨w.heap.size+3,0,none⟩) (by simp) _⟩
    have e1:(wr.setCell ⟨w.heap.size+3,0,none⟩ (.slice (some ⟨gn,0,none⟩) ((parts k).length+1) ((parts k).length+1))).heap.size=wr.heap.size:=by simp[World.setCell]
    rw[show w.heap.size+1+1+1=w.heap.size+3 from rfl,e1];exact zr HW2.out S8.out.size
open Go.RowKit
def far(r:Int):Bool:= !(decide (97≤r) && decide (r≤122))
theorem Am8(n:Nat)(h:128≤n):far (n:Int)=true:=by simp[far];omega
theorem Zq(s:zN):∀(f pos:Nat),s.size≤f+pos→
  decide (0≤Lib.idxFuncFrom (fun n=>far (n:Int)) true s f pos)=(s.data.toList.drop pos).any fun c=>far (c.toNat:Int)
 |0,pos,h=>by
  rw[List.drop_eq_nil_of_le (by simpa using h)];simp[Lib.idxFuncFrom]
 |f+1,pos,h=>by
  unfold Lib.idxFuncFrom;by_cases hp:pos < s.size
  ·have hl:pos < s.data.toList.length:=by simpa using hp
   rw[zp hp,List.drop_eq_getElem_cons hl,List.any_cons];rcases Nat.lt_or_ge (s.get! pos).toNat 128 with hb|hb
   ·rw[Wl s pos hb]
    simp only[get!_eq s pos hp];by_cases ho:far ((s.data.toList[pos]).toNat:Int)=true
    ·rw[zp ho,ho];simp
    ·rw[zq ho,Zq s f (pos+1) (by omega)]
     simp only[Bool.not_eq_true] at ho;rw[ho,Bool.false_or]
   ·have h1:=Am8 _ (Abt s pos hb)
    have h2:=Am8 _ hb;rw[get!_eq s pos hp] at h2;rw[zp h1,h2];simp
  ·rw[zq hp,List.drop_eq_nil_of_le (by simp;omega)]
   simp
theorem Awl(s:zN):decide (0≤Lib.idxFunc (fun n=>far (n:Int)) true s)=s.toList.any fun c=>far (c.toNat:Int):=by
 rw[ByteArray.toList_eq];have:=Zq s s.size 0 (by omega);rw[List.drop_zero] at this;exact this
def N4(s:zN):Bool:=decide (0 < s.size) && decide (s.size≤8) && !(s.toList.any fun c=>far (c.toNat:Int))
def dup(l:List zN):Bool:= !decide l.Nodup
theorem Ace{α:Type}{l:List α}{k:Nat}(h:k < l.length):(l.take (k+1)).Nodup↔(l.take k).Nodup∧l[k]∉l.take k:=by
 rw[zj h,List.nodup_append];simp only[List.nodup_cons,List.not_mem_nil,not_false_eq_true,List.nodup_nil,and_true,true_and,List.mem_singleton]
 constructor
 ·rintro⟨h1,h2⟩
  exact⟨h1,fun hm=>h2 _ hm _ rfl rfl⟩
 ·rintro⟨h1,h2⟩
  exact⟨h1,fun a ha b hb hab=>h2 (by rw[←hb,←hab];exact ha)⟩
theorem Ag0{α:Type}{l:List α}{k:Nat}{x:α} :x∈l.take k↔∃j,j < k∧l[j]? =some x:=by
 rw[List.mem_iff_getElem?]
 constructor
 ·rintro⟨j,hj⟩
  rw[List.getElem?_take] at hj
  split at hj
  ·exact⟨j,by assumption,hj⟩
  ·cases hj
 ·rintro⟨j,h1,h2⟩
  exact⟨j,by rw[List.getElem?_take,zp h1];exact h2⟩
theorem Hk{P:Program}(w:zW)(base:Nat)(t ty e:TypeId){z:Value}{size bytes:Nat}(ht:P.underlying t=some (.slice e))(hinfo:(P.info? e).map (fun i=>(i.zero,i.size,i.bytes))=some (some z,size,bytes))
  (hzs:z.cells.size=size) (hsz:0 < size) (hb:bytes≤4096) (v:Value) (n:Nat) (xs:List Value) (hown:w.ownsRow base e size v n xs) (lo hi:Nat) (a:zZ) (m c:Nat) (news:List Value) (hl:news.length=m * size)
  (hs:Sl w lo hi a news) (h1:∀u∈news,u.oneCell'=true) (hn:n+m≤4294967296) (hbase:base≤w.heap.size):
  ∃v' w',(Builtin.append_ #[t,t] ty #[v,.slice a m c]).run P w= .ok v' w'∧w'.ownsRow base e size v' (n+m) (xs++news)∧w.grownBy w' v.ownBlock:=by
 obtain⟨i,hi,hz0,hz1,hz2⟩:=info_parts hinfo;have hby:(n+m) * bytes≤140737488355328:=by
  have:(n+m) * bytes≤4294967296 * 4096:=Nat.mul_le_mul (by omega) hb;omega
 have key:∀ad:Addr,(∀j u,news[j]? =some u→w.cell? (ad.add j)=some u)→
   ∃v' w',(Builtin.append_ #[t,t] ty #[v,.slice (some ad) m c]).run P w= .ok v' w'∧w'.ownsRow base e size v' (n+m) (xs++news)∧w.grownBy w' v.ownBlock:=fun ad hc=>by
  obtain⟨v',w',r1,r2,r3,_⟩:=run_append_own w base t ty e i z size bytes ht hi hz0 hz1 hz2 hzs hsz v n xs hown ad m c news hl hc h1 (by unfold maxLen;omega) hby hbase;exact⟨v',w',r1,r2,r3⟩
 rcases hs with rfl|⟨b,o,rfl,_,_,hc⟩
 ·have hm0:m=0:=by
   rcases Nat.mul_eq_zero.1 hl.symm with h|h
   ·exact h
   ·omega
  subst hm0
  cases a with
  |some ad=>exact key ad (fun j u hu=>by simp at hu)
  |none=>
   refine⟨v,w,?_,by simpa using hown,World.grownBy.refl _ _⟩;rcases hown.2 with⟨rfl,rfl⟩|⟨g,cap,cur,rfl,_,_,hnc,_⟩
   ·simp[Builtin.append_,run_underlying ht,sizeOf,typeInfo,hi,Builtin.lenOf,Builtin.firstCells]
   ·simp[Builtin.append_,run_underlying ht,sizeOf,typeInfo,hi,Builtin.lenOf,Builtin.firstCells,hnc,storeCells]
 ·refine key _ (fun j u hu=> ?_)
  have:((⟨b,o,none⟩:Addr).add j)=⟨b,o+j,none⟩:=by
   unfold Addr.add
   split
   ·simp_all
   ·simp
  rw[this];exact hc j u hu
theorem Aaw{P:Program}{ops:Array Oper}{rest:List Oper}{o:Oper}{a:Act}{w:zW}{Q:Exit→Act→zW→Prop}(hgd:o.guard=none)(s x:Operand)(t:TypeId)
  (ho:o.op= .call { callee:= .builtin .append,args:= #[s,x],argTypes:= #[t,t] })
  (base:Nat) (e:TypeId) {z:Value} {size bytes:Nat} (hinfo:(P.info? e).map (fun i=>(i.zero,i.size,i.bytes))=some (some z,size,bytes)) (ht:P.underlying t=some (.slice e)) (hzs:z.cells.size=size) (hsz:0 < size) (hb:bytes≤4096)
  (v:Value) (n:Nat) (us:List Value) (hs:a.eval s=v) (hown:w.ownsRow base e size v n us) (ad:zZ) (m c:Nat) (hx:a.eval x= .slice ad m c)
  (lo hi:Nat) (news:List Value) (hl:news.length=m * size) (hsl:Sl w lo hi ad news) (h1:∀u∈news,u.oneCell'=true) (hn:n+m≤4294967296) (hbase:base≤w.heap.size)
  (h:∀v' w',w'.ownsRow base e size v' (n+m) (us++news)→w.grownBy w' v.ownBlock→wpList P ops Q rest (a.put o.dst v') w'):wpList P ops Q (o::rest) a w:=by
 obtain⟨v',w',r1,r2,r3⟩:=Hk (P:=P) w base t o.type e ht hinfo hzs hsz hb v n us hown lo hi ad m c news hl hsl h1 hn hbase;exact Lib.wpList_append_run _ hgd s x t t ho v (.slice ad m c) hs hx v' w' r1 (h v' w' r2 r3)
theorem Aiz:∀(ps ks:List zN)(a b:zZ)(c d lo hi:Nat)(w:zW),Sl w lo hi a (ps.map Value.string)→Sl w lo hi b (ks.map Value.string)→ps.length≤c→ks.length≤d→
  ps.length≤4294967296→ks.length≤4294967296→
  Calls Tryz.prog 203 #[.slice a ps.length c,.slice b ks.length d] w fun e w'=>e= .returned (.bool (Eb (tl ps) (tl ks)))∧∃n,w'=w.drewN n
 | [],ks,a,b,c,d,lo,hi,w,ha,hb,hc,hd,h1,h2=>by
  have hl:Eb (tl []) (tl ks)=decide (ks.length=0):=by cases ks<;>simp[Eb,tl]
  have HL:=zh hl;clear hl ha hb
  go_enter Tryz.func203,Tryz.ntmps203
  go_wp2
  go_ret
  exact⟨by rw[HL.out];refine congrArg (fun b=>Ending.returned (Value.bool b)) ?_;rw[Bool.eq_iff_iff];simp,0,rfl⟩
 |p::ps,ks,a,b,c,d,lo,hi,w,ha,hb,hc,hd,h1,h2=>by
  simp only[List.length_cons] at hc h1;have ih:=Aiz ps;have HIH:=zh ih;clear ih
  have HB:=zh hb;obtain⟨A1,hs1,hA1⟩:=Abs ha rfl hc 1 1 rfl (by simp);have HA1:=zh hA1;clear hA1
  simp only[List.length_cons,Nat.add_sub_cancel,List.drop_succ_cons,List.drop_zero] at hs1 HA1;obtain⟨b1,o1,rfl,hb1,hc1⟩:=Om (k:=0) ha (by simp);have hc1':w.cell? ⟨b1,o1,none⟩=some (.string p):=by simpa using hc1
  clear hc1 ha;by_cases hp:p.toList=[35]
  ·have hp':(p.toList == [35])=true:=by simp[hp]
   have hl:Eb (tl (p::ps)) (tl ks)=(List.range (ks.length+1)).any fun n=>Eb (tl ps) ((tl ks).drop n):=by simp[Eb,tl,hp]
   have HL:=zh hl;clear hl hp
   have hn:(((ps.length:Int)+1) == 0)=false:=by simp;omega
   go_enter Tryz.func203,Tryz.ntmps203
   go_wp2
   go_loopw [5] (fun i wr=>Avn (tl ps) (tl ks) w i wr) (fun i _=>ks.length+1 - (intOf i).toNat)
   case atStart=>exact⟨0,0,by omega,rfl,rfl,fun j hj=>absurd hj (by omega)⟩
   case round=>
    obtain⟨k,m,hk,rfl,hw,hall⟩:=hrel;have HA:=zh hall;clear hall
    have HW:=zh hw;clear hw
    have HAr:Hid (Sl wr lo hi A1 (ps.map Value.string)):=by rw[HW.out];exact HA1.out
    have hBr:Sl wr lo hi b (ks.map Value.string):=by rw[HW.out];exact HB.out
    have HBr:=zh hBr;clear hBr
    simp only[tl,List.length_map] at hk;by_cases hlt:k≤ks.length
    ·obtain⟨A2,hs2,hA2⟩:=Abs HBr.out rfl hd k (k:Int) rfl hlt
     have HA2:=zh hA2;clear hA2
     obtain⟨q,hq⟩:=zo (Eb (tl ps) ((tl ks).drop k));have ihk:∀W,Sl W lo hi A1 (ps.map Value.string)→Sl W lo hi A2 ((ks.drop k).map Value.string)→Calls Tryz.prog 203 #[.slice A1 ps.length (c - 1),.slice A2 (ks.length - k) (d - k)] W fun e w'=>
       e= .returned (.bool q)∧∃n,w'=W.drewN n:=fun W h3 h4=>by
      have:=HIH.out (ks.drop k) A1 A2 (c - 1) (d - k) lo hi W h3 h4 (by omega) (by rw[List.length_drop];omega) (by omega) (by rw[List.length_drop];omega);rw[List.length_drop,show tl (ks.drop k)=(tl ks).drop k from List.map_drop,hq] at this;exact this
     have HK:=zh ihk;clear ihk
     have HQ:=zh hq;clear hq
     cases q
     ·go_wp2
      go_quiet ((go_at_call 203;refine Calls.quiet_of (HK.out _ HAr.out HA2.out)))
      all_goals go_wp2
      go_roundw
      case rel=>
       refine⟨k+1,_,by simp[tl];omega,by go_num,by rw[HW.out];exact World.drewN_drewN _ _ _,fun j hj=> ?_⟩;rcases Nat.lt_or_ge j k with h|h
       ·exact HA.out j h
       ·obtain rfl:j=k:=by omega
        exact HQ.out
      case measure=>simp[intOf];omega
     ·have hl:Eb (tl (p::ps)) (tl ks)=true:=by
       rw[HL.out,List.any_eq_true];exact⟨k,List.mem_range.2 (by omega),HQ.out⟩
      have HL2:=zh hl;clear hl
      go_wp2
      go_quiet ((go_at_call 203;refine Calls.quiet_of (HK.out _ HAr.out HA2.out)))
      all_goals go_wp2
      go_ret
      exact⟨by rw[HL2.out];rfl,_,by rw[HW.out];exact World.drewN_drewN _ _ _⟩
    ·have hl:Eb (tl (p::ps)) (tl ks)=false:=by
      rw[HL.out,List.any_eq_false];intro j hj;rw[HA.out j (by have:=List.mem_range.1 hj;omega)]
      decide
     have HL2:=zh hl;clear hl
     go_wp2
     go_ret
     exact⟨by rw[HL2.out];rfl,_,HW.out⟩
  ·have hp':(p.toList == [35])=false:=by simp[hp]
   have hn:(((ps.length:Int)+1) == 0)=false:=by simp;omega
   clear hp
   cases ks with
   |nil=>
    have hl:Eb (tl (p::ps)) (tl [])=false:=by simp[Eb,tl,show ¬ p.toList=[35] from by simpa using hp']
    have HL:=zh hl;clear hl
    clear hb;go_enter Tryz.func203,Tryz.ntmps203
    go_wp2
    go_quiet (fail)
    all_goals go_wp2
    go_ret
    exact⟨by rw[HL.out];rfl,_,rfl⟩
   |cons x r=>
    have hl:Eb (tl (p::ps)) (tl (x::r))=((p.toList == [42] || p.toList == x.toList) && Eb (tl ps) (tl r)):=by simp[Eb,tl,show ¬ p.toList=[35] from by simpa using hp']
    have HL:=zh hl;clear hl
    obtain⟨b2,o2,rfl,hb2,hc2⟩:=Om (k:=0) hb (by simp);simp only[List.length_cons] at hd h2;have hc2':w.cell? ⟨b2,o2,none⟩=some (.string x):=by simpa using hc2
    clear hc2 hb;obtain⟨A2,hs2,hA2⟩:=Abs HB.out rfl hd 1 1 rfl (by simp);have HA2:=zh hA2;clear hA2
    simp only[List.length_cons,Nat.add_sub_cancel,List.drop_succ_cons,List.drop_zero] at hs2 HA2;by_cases hs:(p.toList == [42])=true
    ·go_enter Tryz.func203,Tryz.ntmps203
     go_wp2
     go_quiet ((go_at_call 203;refine Calls.quiet_of (HIH.out r _ _ _ _ lo hi _ HA1.out HA2.out (by omega) (by omega) (by omega) (by omega))))
     all_goals go_wp2
     go_ret
     exact⟨by rw[HL.out,hs,Bool.true_or,Bool.true_and];rfl,_,rfl⟩
    ·have hs':(p.toList == [42])=false:=by simpa using hs
     clear hs;by_cases hm:(p.toList == x.toList)=true
     ·go_enter Tryz.func203,Tryz.ntmps203
      go_wp2
      go_quiet ((go_at_call 203;refine Calls.quiet_of (HIH.out r _ _ _ _ lo hi _ HA1.out HA2.out (by omega) (by omega) (by omega) (by omega))))
      all_goals go_wp2
      go_ret
      exact⟨by rw[HL.out,hm,Bool.or_true,Bool.true_and];rfl,_,rfl⟩
     ·have hm':(p.toList == x.toList)=false:=by simpa using hm
      clear hm;go_enter Tryz.func203,Tryz.ntmps203
      go_wp2
      go_quiet (fail)
      all_goals go_wp2
      go_ret
      exact⟨by rw[HL.out,hs',hm'];rfl,_,rfl⟩
theorem Ag7(p k:zN)(w:zW)(hp:p.size≤4294967281)(hk:k.size≤4294967281):
  Calls Tryz.prog 186 #[.string p,.string k] w fun e w'=>e= .returned (.bool (Adl p k))∧Below w.heap.size w w':=by
 have l1:=Mi p;have l2:=Mi k;go_enter Tryz.func186,Tryz.ntmps186
 go_wp2_with fail
 refine(Ob p _ hp).mono ?_;rintro e w1 ⟨a1,c1,rfl,hs1,hc1,hb1⟩;have HS1:=zh hs1;clear hs1
 go_wp2_with fail
 refine(Ob k _ hk).mono ?_;rintro e w2 ⟨a2,c2,rfl,hs2,hc2,hb2⟩;go_wp2_with fail
 refine(Aiz (parts p) (parts k) a1 a2 c1 c2 w.heap.size w2.heap.size w2 ((HS1.out.below hb2 (zn _)).wider (zn _) hb2.size) (hs2.wider hb1.size (zn _)) hc1 hc2 (by omega) (by omega)).mono ?_;rintro e w3 ⟨rfl,n,rfl⟩;go_wp2_with fail
 go_ret
 exact⟨rfl,below_draws (hb1.trans (hb2.mono hb1.size)) n⟩
end Go.Proofs.YtpkneogjdfolaaaGreatDoor
