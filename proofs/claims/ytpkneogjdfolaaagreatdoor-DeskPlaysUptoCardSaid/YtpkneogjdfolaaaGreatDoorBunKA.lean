/- Lemmas. -/
import Derived.Test.YtpkneogjdfolaaaGreatDoorBunKR
import Derived.Lib.ItoaMem
import Derived.Lib.AtoiAll
import Derived.Laws.IdiomStrings
import Derived.Lib.AppendStr
set_option maxHeartbeats 20000000
set_option maxRecDepth 100000
set_option linter.unusedSimpArgs false
set_option linter.unusedVariables false
namespace Go.Proofs.YtpkneogjdfolaaaGreatDoor
open Go
def Auv(acc:Nat)(l:List UInt8):Nat:=l.foldl (fun n b=>10 * n+(b.toNat - 48)) acc
theorem Ahj(l:List UInt8):Nj l=Auv 0 l:=rfl
theorem Afr(l:List UInt8)(b:UInt8):Nj (l++[b])=10 * Nj l+(b.toNat - 48):=by
 unfold Nj;rw[List.foldl_append];rfl
def La(b:UInt8):Prop:=48≤b.toNat∧b.toNat≤57
theorem Asw{k:Nat}(h:k < 10):La (UInt8.ofNat (48+k))∧(UInt8.ofNat (48+k)).toNat - 48=k:=by
 have e:(UInt8.ofNat (48+k)).toNat=48+k:=byte_back (by omega);unfold La;rw[e];omega
theorem Wk:∀(n:Nat),(∀b∈Lib.decDigits n,La b)∧Nj (Lib.decDigits n)=n∧Lib.decDigits n≠ []:=by
 intro n
 induction n using Nat.strongRecOn with
 |ind n ih=>
  rw[Lib.decDigits]
  split
  ·rename_i h
   have hd:=Asw h;refine⟨fun b hb=> ?_,?_,by simp⟩
   ·rw[List.mem_singleton.1 hb];exact hd.1
   ·show 10 * 0+((UInt8.ofNat (48+n)).toNat - 48)=n
    rw[hd.2];omega
  ·rename_i h
   obtain⟨h1,h2,h3⟩:=ih (n / 10) (by omega);have hd:=Asw (Nat.mod_lt n (by decide:10 > 0));refine⟨fun b hb=> ?_,?_,by simp⟩
   ·rcases List.mem_append.1 hb with hb|hb
    ·exact h1 b hb
    ·rw[List.mem_singleton.1 hb];exact hd.1
   ·rw[Afr,h2,hd.2]
    omega
theorem Acf:∀(l:List UInt8)(acc:Nat),(∀b∈l,La b)→(acc+1) * 10 ^ l.length≤10 ^ 18→Lib.parseUint10 acc l= .ok (Auv acc l)
 | [],acc,_,_=>rfl
 |c::r,acc,h,hb=>by
  have hc:=h c (List.mem_cons_self ..);unfold La at hc;have h1:1≤10 ^ r.length:=Nat.one_le_pow _ _ (by decide);rw[List.length_cons,Nat.pow_succ] at hb;have h2:(acc+1) * 10≤10 ^ 18:=by
   have:(acc+1) * 10≤(acc+1) * (10 ^ r.length * 10):=Nat.mul_le_mul_left _ (by omega);omega
  have h4:acc * 10+(c.toNat - 48)+1≤(acc+1) * 10:=by omega
  have h3:(acc * 10+(c.toNat - 48)+1) * 10 ^ r.length≤10 ^ 18:=by
   refine zr (Nat.mul_le_mul_right _ h4) ?_;rw[Nat.mul_assoc,Nat.mul_comm 10];exact hb
  unfold Lib.parseUint10;rw[zp hc,zq (by omega),zq (by omega),Acf r _ (fun b hb=>h b (List.mem_cons_of_mem _ hb)) h3];unfold Auv;rw[List.foldl_cons,Nat.mul_comm acc 10]
theorem Asa{n:Nat}(hl:(Lib.decDigits n).length≤6):Lib.atoiAll (Lib.decDigits n)= .ok (n:Int):=by
 obtain⟨h1,h2,h3⟩:=Wk n;have hp:Lib.parseUint10 0 (Lib.decDigits n)= .ok n:=by
  rw[Acf _ 0 h1 (by
   have:10 ^ (Lib.decDigits n).length≤10 ^ 6:=Nat.pow_le_pow_right (by decide) hl;omega)]
  rw[←Ahj,h2]
 have hn:n < 10 ^ 18:=by
  by_cases hc:n < 10 ^ 18
  ·exact hc
  ·exfalso
   have hb:∀(l:List UInt8),(∀b∈l,La b)→Nj l < 10 ^ l.length:=by
    intro l;have key:∀(l:List UInt8)(acc:Nat),(∀b∈l,La b)→Auv acc l < (acc+1) * 10 ^ l.length:=by
     intro l
     induction l with
     |nil=>intro acc _;show acc < (acc+1) * 1;omega
     |cons c r ih=>
      intro acc h;have hc:=h c (List.mem_cons_self ..);unfold La at hc;refine Nat.lt_of_lt_of_le (ih (10 * acc+(c.toNat - 48)) fun b hb=>h b (List.mem_cons_of_mem _ hb)) ?_;rw[List.length_cons,Nat.pow_succ,Nat.mul_comm (10 ^ r.length) 10,←Nat.mul_assoc];exact Nat.mul_le_mul_right _ (by omega)
    intro h;have:=key l 0 h;rw[Ahj];omega
   have:=hb _ h1;rw[h2] at this;have h6:10 ^ (Lib.decDigits n).length≤10 ^ 6:=Nat.pow_le_pow_right (by decide) hl;omega
 cases hd:Lib.decDigits n with
 |nil=>exact absurd hd h3
 |cons c r=>
  have hc:=h1 c (by rw[hd];exact List.mem_cons_self ..);unfold La at hc;rw[hd] at hp;unfold Lib.atoiAll Lib.parseMag;simp only;have h43:¬ (c.toNat=43∨c.toNat=45):=by omega
  have h45:¬ c.toNat=45:=by omega
  have hnn:¬ (¬ c.toNat=45∧9223372036854775808≤n):=by omega
  have hnp:¬ (c.toNat=45∧9223372036854775808 < n):=by omega
  rw[zq h43,zq (by simp:¬ c::r=[]),hp];simp only;rw[zq hnn,zq hnp,zq h45]
theorem Atu{l:List UInt8}(h:0≤Dp l):Lib.atoiAll l= .ok (Dp l)∧l.length≤6∧Lib.itoa (Dp l)=l:=by
 by_cases hc:1≤l.length∧l.length≤6∧Lib.decDigits (Nj l)=l
 ·have e:Dp l=(Nj l:Int):=zp hc
  rw[e,Lib.itoa_nonneg];refine⟨?_,hc.2.1,hc.2.2⟩;have:=Asa (n:=Nj l) (by rw[hc.2.2];exact hc.2.1);rwa [hc.2.2] at this
 ·have e:Dp l= -1:=zq hc
  rw[e] at h;omega
theorem Azl{l:List UInt8}{v:Int}(h0:0≤v)(hl:l.length≤6)(hi:Lib.itoa v=l):Dp l=v:=by
 obtain⟨n,rfl⟩:=Int.eq_ofNat_of_zero_le h0;rw[Lib.itoa_nonneg] at hi;obtain⟨_,h2,h3⟩:=Wk n;rw[hi] at h2 h3;unfold Dp;rw[zp ⟨by cases l with|nil=>exact absurd rfl h3|cons c r=>simp,hl,by rw[h2,hi]⟩,h2]
open Go Go.RowKit
theorem Agw(s:zN):bs s.toList=s:=by rw[ByteArray.toList_eq];rfl
theorem Di(l:List UInt8):(bs l).toList=l:=by rw[ByteArray.toList_eq];rfl
def bD(b:UInt8):Value:= .int .u8 (b.toNat:Int)
theorem Asq(W:zW)(l:List UInt8)(n:Nat)(hn:n=l.length)(vals:Array Value)(hv:vals=(l.map bD).toArray):
  (convert 46 9 (.slice (some ⟨W.heap.size,0,none⟩) n n)).run Tryz.prog (W.alloc (.cells vals 5))= .ok (.string (bs l)) (W.alloc (.cells vals 5)):=by
 subst hn hv;refine run_convert_bytes_back _ 46 9 5 ⟨W.heap.size,0,none⟩ l.length l Tryz.underlying46 Tryz.underlying5 Tryz.underlying9 (fun j hj=> ?_);have hk:=(Bk.new W 5 (l.map bD).toArray).cell j;have e:((⟨W.heap.size,0,none⟩:Addr).add j)=⟨W.heap.size,j,none⟩:=by
  unfold Addr.add
  split
  ·simp_all
  ·simp
 rw[e,hk,zI,List.getElem?_map,zG hj];rfl
theorem Ao6(n:Nat):(#[.int .u8 (48+(n:Int) % 10)]:Array Value)=([UInt8.ofNat (48+n % 10)].map bD).toArray:=by
 unfold bD;simp only[List.map_cons,List.map_nil];rw[byte_back (by omega)];simp
theorem Aec{n:Nat}(h:n < 10):Lib.decDigits n=[UInt8.ofNat (48+n % 10)]:=by
 rw[Lib.decDigits,dif_pos h,Nat.mod_eq_of_lt h]
theorem Am0{n:Nat}(h:¬ n < 10):Lib.decDigits n=Lib.decDigits (n / 10)++[UInt8.ofNat (48+n % 10)]:=by
 rw[Lib.decDigits,dif_neg h]
theorem Tx(n:Nat):(Lib.decDigits n).length≤n+1:=by
 induction n using Nat.strongRecOn with
 |ind n ih=>
  by_cases h:n < 10
  ·rw[Aec h];simp
  ·have:=ih (n / 10) (by omega)
   rw[Am0 h,ze,List.length_singleton];omega
theorem I9(n:Nat):∀(_:n < 1000000000000)(w:zW),Calls Tryz.prog 19 #[.int .i64 n] w fun e w'=>e= .returned (.string (bs (Lib.decDigits n)))∧Below w.heap.size w w':=by
 induction n using Nat.strongRecOn with
 |ind n ih=>
  intro hn w;obtain⟨L,hL⟩:∃L,L=[UInt8.ofNat (48+n % 10)]:=⟨_,rfl⟩;have hcv:=Asq w L 1 (by rw[hL];rfl) #[.int .u8 (48+(n:Int) % 10)] (by rw[hL];exact Ao6 n);have hs1:(bs L).size=1:=by rw[hL];rfl
  have HLL:=zh hL;clear hL;have h1:(n:Int).tmod 10=(n:Int) % 10:=Int.tmod_eq_emod_of_nonneg (by omega);have h2:wrap64 ((n:Int) % 10)=(n:Int) % 10:=by unfold wrap64;omega
  have h3:wrap64 (48+(n:Int) % 10)=48+(n:Int) % 10:=by unfold wrap64;omega
  have h4:(48+(n:Int) % 10) % 256=48+(n:Int) % 10:=by omega
  by_cases hlt:n < 10
  ·have hd:((n:Int) < 10):=by omega
   have HL:=zh hlt;clear hlt;go_enter Tryz.func19,Tryz.ntmps19
   go_wp2_with fail
   go_ret
   exact⟨by rw[Aec HL.out,←HLL.out];rfl,(zb _ _).alloc (zn _) _⟩
  ·have hd:¬ ((n:Int) < 10):=by omega
   have h5:(n:Int).tdiv 10=((n / 10:Nat):Int):=by rw[Int.tdiv_eq_ediv_of_nonneg (by omega)];rfl
   have h6:wrap64 ((n / 10:Nat):Int)=((n / 10:Nat):Int):=by unfold wrap64;omega
   have h7:(bs (Lib.decDigits (n / 10))).size≤1000000000001:=by have:=Tx (n / 10);rw[D7];omega
   have HL:=zh hlt;have HI:=zh (ih (n / 10) (by omega) (by omega));clear hlt ih;go_enter Tryz.func19,Tryz.ntmps19
   go_wp2_with fail
   refine(HI.out _).mono ?_;rintro e w1 ⟨rfl,hb⟩;go_wp2_with fail
   go_ret
   refine⟨?_,?_⟩
   ·rw[Am0 HL.out,←Gn,←HLL.out];rfl
   ·exact((zb _ _).alloc (zn _) _).trans (hb.mono (by simp))
def Aj6(s:zN):Value:=match Gt s.toList with
 |some (a,r)=> .tuple #[.string (bs a),.string (bs r),.bool true]
 |none=> .tuple #[.string s,.string ⟨#[]⟩,.bool false]
theorem Amz:∀ {l:List UInt8} {k:Nat},(∀j b,j < k→l[j]? =some b→b≠32)→l[k]? =some 32→Gt l=some (l.take k,l.drop (k+1))
 | [],_,_,h=>by simp at h
 |b::l,0,_,h=>by
  simp only[zJ,Option.some.injEq] at h;subst h;rfl
 |b::l,k+1,hall,h=>by
  have h0:b≠32:=hall 0 b (by omega) rfl;have ih:=Amz (l:=l) (k:=k) (fun j y hj hy=>hall (j+1) y (by omega) hy) (by simpa using h);unfold Gt;rw[zq h0,ih];rfl
theorem Asr{l:List UInt8}(h:∀j b,j < l.length→l[j]? =some b→b≠32):Gt l=none:=by
 rw[Aea];intro hm;obtain⟨j,hj⟩:=List.getElem?_of_mem hm;exact h j 32 (List.getElem?_eq_some_iff.1 hj).1 hj rfl
def Avu(s:zN)(w:zW)(i:Value)(wr:zW):Prop:=
 ∃k:Nat,k≤s.size∧i= .int .i64 k∧wr=w∧∀j b,j < k→s.toList[j]? =some b→b≠32
theorem Sy{s:zN}{k:Nat}(h:k < s.size):s.toList[k]? =some s[k]:=by
 rw[ByteArray.toList_eq,zG (by simpa using h)];rfl
theorem Eo(s:zN):s.toList.length=s.size:=by rw[ByteArray.toList_eq];exact Array.length_toList
theorem Ale(s:zN)(a b:Nat):s.extract a b=bs ((s.toList.drop a).take (b - a)):=by
 rw[←J1,Agw]
theorem Aik(s:zN)(k:Nat):s.extract 0 k=bs (s.toList.take k):=by rw[Ale,List.drop_zero,Nat.sub_zero]
theorem Ail(s:zN)(k:Nat):s.extract k s.size=bs (s.toList.drop k):=by rw[Ale,List.take_of_length_le (by rw[List.length_drop,Eo];exact zn _)]
theorem Tl(s:zN)(hs:s.size≤4294967296)(w:zW):Calls Tryz.prog 59 #[.string s] w fun e w'=>e= .returned (Aj6 s)∧Below w.heap.size w w':=by
 go_enter Tryz.func59,Tryz.ntmps59
 go_wp2_with fail
 go_loopw [5] (fun i wr=>Avu s w i wr) (fun i _=>s.size - (intOf i).toNat)
 case atStart=>exact⟨0,by omega,rfl,rfl,fun j b hj=>absurd hj (by omega)⟩
 case round=>
  obtain⟨k,hk,rfl,rfl,hall⟩:=hrel;have HA:=zh hall;clear hall
  by_cases hlt:k < s.size
  ·have HG:=zh (Sy hlt)
   by_cases hb:s[k]=32
   ·have HB:=zh hb
    have hb':(s[k].toNat:Int)=32:=by rw[hb];rfl
    clear hb;go_wp2_with fail
    go_quiet (fail)
    all_goals go_wp2_with fail
    all_goals go_ret3
    all_goals
     refine⟨?_,below_draws (zb _ _) _⟩;unfold Aj6;rw[Amz (k:=k) HA.out (by rw[HG.out,HB.out])]
     show _=Ending.returned (.tuple #[.string (bs (s.toList.take k)),.string (bs (s.toList.drop (k+1))),.bool true])
     rw[←Aik,←Ail];rfl
   ·have HB:=zh hb
    have hb':¬ (s[k].toNat:Int)=32:=fun h=>hb (UInt8.toNat_inj.1 (by simpa using(by omega:s[k].toNat=32)));clear hb;go_wp2_with fail
    exact⟨⟨k+1,hlt,by go_num,rfl,fun j b hj hy=>by
     rcases Nat.lt_or_ge j k with h|h
     ·exact HA.out j b h hy
     ·obtain rfl:j=k:=by omega
      rw[HG.out] at hy
      cases hy
      exact HB.out⟩,by simp[intOf];omega⟩
  ·obtain rfl:k=s.size:=by omega
   have HR:=zh (Asr (l:=s.toList) (by rw[Eo];exact HA.out));go_wp2_with fail
   go_ret3
   exact⟨by unfold Aj6;rw[HR.out];rfl,zb _ _⟩
theorem P7(p:Ab)(name:zN)(p1 p2 p3:zZ)(q1 q2 q3:Nat)(w:zW)(hp:Au w 0 w.heap.size p1 p2 p3 p)(hps:Ai p):
  Calls Tryz.prog 63 #[Ay p p1 p2 p3 q1 q2 q3,.string name] w fun e w'=>e= .returned (.int .i64 (Cl p name.toList))∧Below w.heap.size w w':=by
 unfold Ay;have hl:p.ag.length≤4294967296:=by have:=hps.ag;omega
 have hx:=hp.ag;obtain⟨W1,hW1⟩:=zo (w.alloc (.cells (zP p p1 p2 p3 q1 q2 q3) 26));have hk:=zw hW1
 have hb:=zu hW1
 have n0:W1.cell? ⟨w.heap.size,1,none⟩=some (.slice p2 p.ag.length q2):=hk.cell 1;have HX:=zh (hx.below hb (zn _));have HB:=zh hb;clear hp hps hx hk hb;go_enter Tryz.func63,Tryz.ntmps63
 go_wp2_with fail
 clear hW1
 go_loopw [5] (fun i wr=>Ky (fun x=>x.name.toList == name.toList) p.ag W1.heap.size W1 i wr∧wr=W1) (fun i _=>p.ag.length - (intOf i).toNat)
 case atStart=>exact⟨⟨0,by omega,rfl,zb _ _,fun j x hj=>absurd hj (by omega)⟩,rfl⟩
 case round=>
  obtain⟨⟨k,hk,rfl,hB,hall⟩,rfl⟩:=hrel;have HA:=zh hall;clear hall hB
  by_cases hlt:k < p.ag.length
  ·obtain⟨b,o,rfl,_,hb,hc⟩:=Bf (enc:=Gw) (size:=3) (fun _=>rfl) (by decide) HX.out hlt
   have e0:wr.cell? ⟨b,o+k * 3,none⟩=some (.string p.ag[k].name):=by
    have:=hc 0 _ rfl;simpa using this
   clear hc
   cases hq:(p.ag[k].name.toList == name.toList)
   ·have HQ:=zh hq
    go_wp2_with fail
    exact⟨⟨E0 HA.out hlt HQ.out (zb _ _),trivial⟩,by simp[intOf];omega⟩
   ·have HQ:Hid (Cl p name.toList=(k:Int)):=zh (idxOf_hit HA.out hlt hq)
    go_wp2_with fail
    go_ret
    exact⟨by rw[HQ.out];rfl,HB.out⟩
  ·have HQ:Hid (Cl p name.toList= -1):=zh (idxOf_miss HA.out (by omega))
   go_wp2_with fail
   go_ret
   exact⟨by rw[HQ.out];rfl,HB.out⟩
theorem Y8(p:Ab)(name:zN)(p1 p2 p3:zZ)(q1 q2 q3:Nat)(w:zW)(hp:Au w 0 w.heap.size p1 p2 p3 p)(hps:Ai p):
  Calls Tryz.prog 60 #[Ay p p1 p2 p3 q1 q2 q3,.string name] w fun e w'=>e= .returned (.int .i64 (Fz p name.toList))∧Below w.heap.size w w':=by
 unfold Ay;have hl:p.aj.length≤4294967296:=by have:=hps.aj;omega
 have hx:=hp.aj;obtain⟨W1,hW1⟩:=zo (w.alloc (.cells (zP p p1 p2 p3 q1 q2 q3) 26));have hk:=zw hW1
 have hb:=zu hW1
 have n0:W1.cell? ⟨w.heap.size,0,none⟩=some (.slice p1 p.aj.length q1):=hk.cell 0;have HX:=zh (hx.below hb (zn _));have HB:=zh hb;clear hp hps hx hk hb;go_enter Tryz.func60,Tryz.ntmps60
 go_wp2_with fail
 clear hW1
 go_loopw [5] (fun i wr=>Ky (fun x=>x.name.toList == name.toList) p.aj W1.heap.size W1 i wr∧wr=W1) (fun i _=>p.aj.length - (intOf i).toNat)
 case atStart=>exact⟨⟨0,by omega,rfl,zb _ _,fun j x hj=>absurd hj (by omega)⟩,rfl⟩
 case round=>
  obtain⟨⟨k,hk,rfl,hB,hall⟩,rfl⟩:=hrel;have HA:=zh hall;clear hall hB
  by_cases hlt:k < p.aj.length
  ·obtain⟨b,o,rfl,_,hb,hc⟩:=Bf (enc:=I7) (size:=2) (fun _=>rfl) (by decide) HX.out hlt
   have e0:wr.cell? ⟨b,o+k * 2,none⟩=some (.string p.aj[k].name):=by
    have:=hc 0 _ rfl;simpa using this
   clear hc
   cases hq:(p.aj[k].name.toList == name.toList)
   ·have HQ:=zh hq
    go_wp2_with fail
    exact⟨⟨E0 HA.out hlt HQ.out (zb _ _),trivial⟩,by simp[intOf];omega⟩
   ·have HQ:Hid (Fz p name.toList=(k:Int)):=zh (idxOf_hit HA.out hlt hq)
    go_wp2_with fail
    go_ret
    exact⟨by rw[HQ.out];rfl,HB.out⟩
  ·have HQ:Hid (Fz p name.toList= -1):=zh (idxOf_miss HA.out (by omega))
   go_wp2_with fail
   go_ret
   exact⟨by rw[HQ.out];rfl,HB.out⟩
theorem Ah7{b:UInt8} :La b↔¬ ((b.toNat:Int) < 48)∧¬ (57 < (b.toNat:Int)):=by unfold La;omega
theorem Awy{l:List UInt8}{k:Nat}{b:UInt8}(h:l[k]? =some b)(hb:¬ La b):Dp l= -1:=by
 unfold Dp;refine zq fun hc=>hb ?_;have hm:=List.mem_of_getElem? h;rw[←hc.2.2] at hm;exact(Wk _).1 b hm
theorem Aqq{l:List UInt8}{k:Nat}{b:UInt8}(h:l[k]? =some b):Nj (l.take (k+1))=10 * Nj (l.take k)+(b.toNat - 48):=by
 obtain⟨h1,rfl⟩:=List.getElem?_eq_some_iff.1 h;rw[zj h1,Afr]
theorem Aa9{l:List UInt8}(h:∀b∈l,La b):Nj l < 10 ^ l.length:=by
 have key:∀(l:List UInt8)(acc:Nat),(∀b∈l,La b)→Auv acc l < (acc+1) * 10 ^ l.length:=by
  intro l
  induction l with
  |nil=>intro acc _;show acc < (acc+1) * 1;omega
  |cons c r ih=>
   intro acc h;have hc:=h c (List.mem_cons_self ..);unfold La at hc;refine Nat.lt_of_lt_of_le (ih (10 * acc+(c.toNat - 48)) fun b hb=>h b (List.mem_cons_of_mem _ hb)) ?_;rw[List.length_cons,Nat.pow_succ,Nat.mul_comm (10 ^ r.length) 10,←Nat.mul_assoc];exact Nat.mul_le_mul_right _ (by omega)
 have:=key l 0 h;rw[Ahj];omega
def Afy(s:zN)(w:zW)(v i:Value)(wr:zW):Prop:=
 ∃k:Nat,k≤s.size∧i= .int .i64 k∧v= .int .i64 (Nj (s.toList.take k):Nat)∧wr=w∧∀b∈s.toList.take k,La b
theorem Afy.next{s:zN}{w:zW}{k:Nat}(hlt:k < s.size)(ha:∀b∈s.toList.take k,La b)(hd:La s[k]){v i:Int}(hi:i=(k:Int)+1)(hv:v=(Nj (s.toList.take (k+1)):Nat)):Afy s w (.int .i64 v) (.int .i64 i) w:=by
 refine⟨k+1,hlt,by rw[hi];rfl,by rw[hv],rfl,fun b hb=> ?_⟩;rw[zj (by rw[Eo];exact hlt)] at hb;rcases List.mem_append.1 hb with h|h
 ·exact ha b h
 ·have:=Sy hlt
  rw[zG (by rw[Eo];exact hlt)] at this;rw[List.mem_singleton.1 h,Option.some.inj this];exact hd
theorem Lh(s:zN)(hs:s.size≤4294967296)(w:zW):Calls Tryz.prog 62 #[.string s] w fun e w'=>e= .returned (.int .i64 (Dp s.toList))∧Below w.heap.size w w':=by
 go_enter Tryz.func62,Tryz.ntmps62
 go_wp2_with fail
 refine(Cc s.size 1 6 w).mono ?_;rintro e w2 ⟨rfl,rfl⟩;by_cases h6:1≤s.size∧s.size≤6
 ·have hb:(decide ((1:Int)≤(s.size:Int)) && decide ((s.size:Int)≤6))=true:=by simp;omega
  rw[hb];clear hb;obtain⟨h1,h6⟩:=h6;go_wp2_with fail
  go_loopw [3,4] (fun v i wr=>Afy s w v i wr) (fun _ i _=>s.size - (intOf i).toNat)
  case atStart=>exact⟨0,by omega,rfl,rfl,rfl,fun b hb=>by simp at hb⟩
  case round=>
   obtain⟨k,hk,rfl,rfl,rfl,hall⟩:=hrel;have HA:=zh hall;by_cases hlt:k < s.size
   ·have HG:=zh (Sy hlt)
    by_cases hd:La s[k]
    ·have HD:=zh hd
     obtain⟨d1,d2⟩:=Ah7.1 hd;have hvl:=Aa9 hall;have hv:Nj (s.toList.take k) < 1000000:=Nat.lt_of_lt_of_le hvl (by
      have:(s.toList.take k).length≤6:=by rw[List.length_take];omega
      exact Nat.pow_le_pow_right (by decide) this)
     have HV:=zh (Aqq HG.out);have e1:((s[k].toNat:Int) - 48) % 256=(s[k].toNat:Int) - 48:=by omega
     clear hd hall hvl;generalize Nj (s.toList.take k)=n at *;have e2:wrap64 (10 * (n:Int))=10 * (n:Int):=by unfold wrap64;omega
     have e3:wrap64 ((s[k].toNat:Int) - 48)=(s[k].toNat:Int) - 48:=by have:=(s[k]).toNat_lt;unfold wrap64;omega
     have e4:wrap64 (10 * (n:Int)+((s[k].toNat:Int) - 48))=10 * (n:Int)+((s[k].toNat:Int) - 48):=by have:=(s[k]).toNat_lt;unfold wrap64;omega
     go_wp2_with fail
     exact⟨Afy.next hlt HA.out HD.out (by go_num) (by rw[HV.out];omega),by simp[intOf];omega⟩
    ·have HD:=zh (Awy HG.out hd)
     by_cases h48:(s[k].toNat:Int) < 48
     ·clear hd hall
      go_wp2_with fail
      go_ret
      exact⟨by rw[HD.out];rfl,zb _ _⟩
     ·have h57:57 < (s[k].toNat:Int):=Decidable.not_not.1 fun h=>hd (Ah7.2 ⟨h48,h⟩)
      clear hd hall;go_wp2_with fail
      go_ret
      exact⟨by rw[HD.out];rfl,zb _ _⟩
   ·obtain rfl:k=s.size:=by omega
    have ht:s.toList.take s.size=s.toList:=List.take_of_length_le (by rw[Eo];exact zn _);have hvl:=Aa9 hall;have hv:Nj (s.toList.take s.size) < 1000000:=Nat.lt_of_lt_of_le hvl (by
     have:(s.toList.take s.size).length≤6:=by rw[List.length_take];omega
     exact Nat.pow_le_pow_right (by decide) this)
    have HT:=zh ht;have HN:Hid (Dp s.toList=if Lib.decDigits (Nj (s.toList.take s.size))=s.toList then (Nj (s.toList.take s.size):Int) else -1):=by
     refine(?_:Dp s.toList=_);rw[ht];unfold Dp;rw[Eo];by_cases hc:Lib.decDigits (Nj s.toList)=s.toList
     ·rw[zp ⟨h1,h6,hc⟩,zp hc]
     ·rw[zq fun h=>hc h.2.2,zq hc]
    clear hall hvl ht;generalize Nj (s.toList.take s.size)=n at *;go_wp2_with fail
    refine(I9 n (by omega) _).mono ?_;rintro e w3 ⟨rfl,hb3⟩;have HB:=zh hb3;by_cases hc:Lib.decDigits n=s.toList
    ·have hq:((bs (Lib.decDigits n)).toList == s.toList)=true:=by rw[Di,hc];simp
     have HC:=zh hc;clear hc hb3;go_wp2_with fail
     go_ret
     exact⟨by rw[HN.out,zp HC.out];rfl,HB.out⟩
    ·have hq:((bs (Lib.decDigits n)).toList == s.toList)=false:=by rw[Di];simpa using hc
     have HC:=zh hc;clear hc hb3;go_wp2_with fail
     go_ret
     exact⟨by rw[HN.out,zq HC.out];rfl,HB.out⟩
 ·have hb:(decide ((1:Int)≤(s.size:Int)) && decide ((s.size:Int)≤6))=false:=by(rw[←Bool.not_eq_true];intro h;apply h6;simp at h;omega)
  rw[hb];have HN:Hid (Dp s.toList= -1):=by
   refine(?_:Dp s.toList=_);unfold Dp;rw[Eo];exact zq fun h=>h6 ⟨h.1,h.2.1⟩
  clear hb h6;go_wp2_with fail
  go_ret
  exact⟨by rw[HN.out];rfl,zb _ _⟩
theorem Xc:∀(l:List Int)(x:Int),Dr (l++[x])=if l=[] then Lib.itoa x else Dr l++32::Lib.itoa x
 | [],x=>rfl
 | [y],x=>rfl
 |y::z::l,x=>by
  have ih:=Xc (z::l) x;rw[zq (by simp)] at ih⊢
  show Lib.itoa y++32::Dr ((z::l)++[x])=(Lib.itoa y++32::Dr (z::l))++32::Lib.itoa x
  rw[ih];simp
def Abl(l:List Int):Prop:=l.length≤1048576∧∀x∈l,0≤x∧x < 1000000000000
theorem Ab3{x:Int}(h:0≤x∧x < 1000000000000):(Lib.itoa x).length≤1000000000000:=by
 obtain⟨n,rfl⟩:=Int.eq_ofNat_of_zero_le h.1;rw[Lib.itoa_nonneg];have:=Tx n;omega
theorem Ow:∀(l:List Int),(∀x∈l,0≤x∧x < 1000000000000)→(Dr l).length≤l.length * 1000000000001
 | [],_=>Nat.zero_le _
 | [y],h=>by
  have:=Ab3 (h y (List.mem_cons_self ..))
  show(Lib.itoa y).length≤1 * _
  omega
 |y::z::l,h=>by
  have ih:=Ow (z::l) fun x hx=>h x (List.mem_cons_of_mem _ hx);have:=Ab3 (h y (List.mem_cons_self ..))
  show(Lib.itoa y++32::Dr (z::l)).length≤_
  rw[ze,List.length_cons,List.length_cons,Nat.add_mul];omega
def Avp(xs:List Int)(w:zW)(v i:Value)(wr:zW):Prop:=
 ∃k:Nat,k≤xs.length∧i= .int .i64 k∧v= .string (bs (Dr (xs.take k)))∧Below w.heap.size w wr
theorem Vy(xs:List Int)(a:zZ)(c lo:Nat)(w:zW)(hx:Abl xs)(hs:Sl w lo w.heap.size a (xs.map (Value.int .i64))):
  Calls Tryz.prog 57 #[.slice a xs.length c] w fun e w'=>e= .returned (.string (bs (Dr xs)))∧Below w.heap.size w w':=by
 have HS:=zh hs;have HX:=zh hx;have hl:=hx.1;clear hs hx;go_enter Tryz.func57,Tryz.ntmps57
 go_wp2_with fail
 go_loopw [3,4] (fun v i wr=>Avp xs w v i wr) (fun _ i _=>xs.length - (intOf i).toNat)
 case atStart=>exact⟨0,by omega,rfl,rfl,zb _ _⟩
 case round=>
  obtain⟨k,hk,rfl,rfl,hB⟩:=hrel;have hsz:=Ow (xs.take k) fun x hx=>HX.out.2 x (List.mem_of_mem_take hx);rw[List.length_take,Nat.min_eq_left hk] at hsz;obtain⟨t,ht⟩:∃t,t=bs (Dr (xs.take k)):=⟨_,rfl⟩;have hts:t.size≤1048577000000000000:=by rw[ht,D7];omega
  have HT:=zh ht;rw[←ht];clear ht hsz;by_cases hlt:k < xs.length
  ·obtain⟨g,o,rfl,_,hb,hc⟩:=HS.out.at_ (k:=k) (by simpa using hlt)
   have hn:=HX.out.2 xs[k] (zg hlt);have HSN:=zh (show Dr (xs.take (k+1))=if xs.take k=[] then Lib.itoa xs[k] else Dr (xs.take k)++32::Lib.itoa xs[k] by rw[zj hlt,Xc]);have e0:wr.cell? ⟨g,o+k,none⟩=some (.int .i64 xs[k]):=(hB.cell (p:=⟨g,_,none⟩) hb).trans (hc k _ (by simp[hlt]));generalize xs[k]=x at *;obtain⟨n,rfl⟩:=Int.eq_ofNat_of_zero_le hn.1;have hn2:n < 1000000000000:=by omega
   have hds:(bs (Lib.decDigits n)).size≤1000000000000:=by have:=Tx n;rw[D7];omega
   have HB:=zh hB;clear hc hn hB;by_cases h0:k=0
   ·subst h0
    simp only[Nat.add_zero] at e0;go_wp2_with fail
    refine(I9 n hn2 _).mono ?_;rintro e w1 ⟨rfl,hb1⟩;have H1:=zm HB hb1;have ht0:t=⟨#[]⟩:=HT.out;subst ht0;clear hb1;go_wp2_with fail
    refine⟨⟨1,hlt,rfl,?_,H1.out⟩,by simp[intOf];omega⟩;rw[HSN.out,List.take_zero,zp rfl,Lib.itoa_nonneg];exact congrArg Value.string (Gn [] (Lib.decDigits n))
   ·have hk0:(0:Int) < (k:Int):=by omega
    have HK:Hid (¬ xs.take k=[]):=zh fun h=>by
     have:=congrArg List.length h;rw[List.length_take,Nat.min_eq_left hk] at this;exact h0 this
    go_wp2_with fail
    refine(I9 n hn2 _).mono ?_;rintro e w1 ⟨rfl,hb1⟩;have H1:=zm HB hb1;clear hb1;go_wp2_with fail
    refine⟨⟨k+1,hlt,by go_num,?_,H1.out⟩,by simp[intOf];omega⟩;rw[HSN.out,zq HK.out,Lib.itoa_nonneg,HT.out,←Gn,show bs (32::Lib.decDigits n)=bs [32]++bs (Lib.decDigits n) from(Gn [32] _).symm,←ByteArray.append_assoc];rfl
  ·obtain rfl:k=xs.length:=by omega
   have HT2:Hid (t=bs (Dr xs)):=zh (by rw[HT.out,List.take_length]);go_wp2_with fail
   go_ret
   exact⟨by rw[←HT2.out];rfl,hB⟩
end Go.Proofs.YtpkneogjdfolaaaGreatDoor
