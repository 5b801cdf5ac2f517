/-
  Walks: lines.Shed; the reference's ShedOf.
-/
import Derived.Test.YtbdikenloklhaaaDoorLinesF
namespace Go.Proofs.YtbdikenloklhaaaDoor
open Go.RowKit
set_option maxRecDepth 100000

def ShedPost (l : List ItemD) (limit : Int) (w : World) (e : Ending) (w' : World) : Prop :=
  ∃ a c b d, e = .returned (.tuple #[.slice a (shedStay l limit).length c, .slice b (shedOff l limit).length d, .int .i64 (shedErr l limit)]) ∧ Sl w' w.heap.size w'.heap.size a ((shedStay l limit).flatMap vItem) ∧ (shedStay l limit).length ≤ c ∧
    Sl w' w.heap.size w'.heap.size b ((shedOff l limit).flatMap vItem) ∧ (shedOff l limit).length ≤ d ∧ Below w.heap.size w w'

theorem shed_bad {l : List ItemD} {limit : Int} (h : lineFine l = false) : shedErr l limit = 1 ∧ shedStay l limit = [] ∧ shedOff l limit = [] := by
  have : shedErr l limit = 1 := by simp [shedErr, h]
  exact ⟨this, by simp [shedStay, this], by simp [shedOff, this]⟩
theorem shed_neg {l : List ItemD} {limit : Int} (h : lineFine l = true) (hn : limit < 0) : shedErr l limit = 3 ∧ shedStay l limit = [] ∧ shedOff l limit = [] := by
  have : shedErr l limit = 3 := by simp [shedErr, h, hn]
  exact ⟨this, by simp [shedStay, this], by simp [shedOff, this]⟩
theorem shed_ok {l : List ItemD} {limit : Int} (h : lineFine l = true) (hn : 0 ≤ limit) : shedErr l limit = 0 ∧ shedStay l limit = l.drop (shedN l limit) ∧ shedOff l limit = l.take (shedN l limit) := by
  have : shedErr l limit = 0 := by simp [shedErr, h]; omega
  exact ⟨this, by simp [shedStay, this], by simp [shedOff, this]⟩
theorem shed_bads {l : List ItemD} {limit : Int} {n : Int} (h : shedErr l limit = n ∧ shedStay l limit = [] ∧ shedOff l limit = []) {w w' : World} (hb : Below w.heap.size w w') : ShedPost l limit w (.returned (.tuple #[.slice none 0 0, .slice none 0 0, .int .i64 n])) w' :=
  ⟨none, 0, none, 0, by rw [h.1, h.2.1, h.2.2]; rfl, by rw [h.2.1]; exact Sl.nil _ _ _ _, by rw [h.2.1]; simp, by rw [h.2.2]; exact Sl.nil _ _ _ _, by rw [h.2.2]; simp, hb⟩

/-- Parts of a line that reads. -/
theorem line_drop {w : World} {lo hi : Nat} {a : Option Addr} {l : List ItemD} {c k : Nat} (h : Sl w lo hi a (l.flatMap vItem)) (hk : k ≤ l.length) (hc : l.length ≤ c) : Sl w lo hi (cutA a c k 5) ((l.drop k).flatMap vItem) := by
  rw [← flat_dropN vItem_len]
  exact h.cut (flat_len vItem_len l) hk hc
theorem line_take {w : World} {lo hi : Nat} {a : Option Addr} {l : List ItemD} {k : Nat} (h : Sl w lo hi a (l.flatMap vItem)) : Sl w lo hi a ((l.take k).flatMap vItem) := by
  rw [← flat_takeN vItem_len]
  exact h.take _

theorem run_cutHi {P : Program} {t size : Nat} (ht : P.underlying t = some (.slice (P.elem t))) (hs : ∀ w, (sizeOf (P.elem t)).run P w = .ok size w) (a : Option Addr) (len cap k : Nat) (i : Int) (hi : i = (k : Int)) (hk : k ≤ cap) (w : World) :
    (Instr.slice t (.slice a len cap) none (some (.int .i64 i)) none).run P w = .ok (.slice a k cap) w := by
  subst hi
  rw [run_slice_h w t a len cap ht .i64 k (by omega) (by omega), hs]
  cases a with
  | none => simp [sliced, Result.andThen]
  | some a => simp [sliced, Result.andThen, Addr.add]

theorem shed_keep {w W : World} (h : Below w.heap.size w W) : True ∧ Below w.heap.size w W := ⟨trivial, h⟩
theorem shed_draw {w W : World} (h : True ∧ Below w.heap.size w W) : True ∧ Below w.heap.size w W.drew := ⟨trivial, h.2.drew⟩
theorem shed_alloc {w W : World} (h : True ∧ Below w.heap.size w W) (o : Obj) : True ∧ Below w.heap.size w (W.alloc o) := ⟨trivial, h.2.alloc h.2.size o⟩

/-- The parts of a line, cloned. -/
theorem shed_c1 {w : World} {a : Option Addr} {c : Nat} {l : List ItemD} {k lo : Nat} (hl : Sl w lo w.heap.size a (l.flatMap vItem)) (hk : k ≤ l.length) (hc : l.length ≤ c) (hll : l.length ≤ 1048576) (W : World) (hW : True ∧ Below w.heap.size w W) :
    Calls Tryd.prog 88 #[.slice (cutA a c k 5) (l.length - k) (c - k)] W fun e w' => ∃ v, e = .returned v ∧ w'.ownsRow w.heap.size 45 5 v (l.drop k).length ((l.drop k).flatMap vItem) ∧ Below w.heap.size w w' ∧ Below W.heap.size W w' := by
  have h := Clone_any (cutA a c k 5) (c - k) (l.drop k) 0 W (((line_drop hl hk hc).below hW.2 (Nat.le_refl _)).wider (Nat.zero_le _) hW.2.size) (by rw [List.length_drop]; omega)
  rw [List.length_drop] at h
  refine h.mono ?_
  rintro e w' ⟨v, rfl, ho, hb⟩
  exact ⟨v, rfl, by rw [List.length_drop]; exact own_mono ho hW.2.size, hW.2.trans (hb.mono hW.2.size), hb⟩
theorem shed_c2 {w : World} {a : Option Addr} {c : Nat} {l : List ItemD} {k lo : Nat} (hl : Sl w lo w.heap.size a (l.flatMap vItem)) (hk : k ≤ l.length) (hll : l.length ≤ 1048576) (W : World) (hW : True ∧ Below w.heap.size w W) :
    Calls Tryd.prog 88 #[.slice a k c] W fun e w' => ∃ v, e = .returned v ∧ w'.ownsRow w.heap.size 45 5 v (l.take k).length ((l.take k).flatMap vItem) ∧ Below w.heap.size w w' ∧ Below W.heap.size W w' := by
  have hlk : (l.take k).length = k := by rw [List.length_take]; omega
  have h := Clone_any a c (l.take k) 0 W (((line_take hl).below hW.2 (Nat.le_refl _)).wider (Nat.zero_le _) hW.2.size) (by omega)
  rw [hlk] at h
  refine h.mono ?_
  rintro e w' ⟨v, rfl, ho, hb⟩
  exact ⟨v, rfl, by rw [hlk]; exact own_mono ho hW.2.size, hW.2.trans (hb.mono hW.2.size), hb⟩

theorem shed_fin {w w' : World} {l : List ItemD} {limit : Int} {k : Nat} {v1 v2 : Value} (h : shedErr l limit = 0 ∧ shedStay l limit = l.drop k ∧ shedOff l limit = l.take k) (h1 : w'.ownsRow w.heap.size 45 5 v1 (l.drop k).length ((l.drop k).flatMap vItem))
    (h2 : w'.ownsRow w.heap.size 45 5 v2 (l.take k).length ((l.take k).flatMap vItem)) (hb : Below w.heap.size w w') : ShedPost l limit w (.returned (.tuple #[v1, v2, .int .i64 0])) w' := by
  obtain ⟨a1, c1, rfl, hc1⟩ := own_slice h1
  obtain ⟨a2, c2, rfl, hc2⟩ := own_slice h2
  exact ⟨a1, c1, a2, c2, by rw [h.1, h.2.1, h.2.2], by rw [h.2.1]; exact Sl.of_own h1, by rw [h.2.1]; exact hc1, by rw [h.2.2]; exact Sl.of_own h2, by rw [h.2.2]; exact hc2, hb⟩

set_option maxHeartbeats 4000000 in
theorem Shed_any (a : Option Addr) (c : Nat) (l : List ItemD) (limit : Int) (lo : Nat) (w : World) (hv : Env w) (hl : Sl w lo w.heap.size a (l.flatMap vItem)) (hs : LineSmall l) (hc : l.length ≤ c) (hlim : -9223372036854775808 ≤ limit ∧ limit ≤ 9223372036854775807) :
    Calls Tryd.prog 32 #[.slice a l.length c, .int .i64 limit] w (ShedPost l limit w) := by
  have hll := hs.len
  have HC := Lib.hid (LCheck_any a c l lo w hv hl hs)
  obtain ⟨k, hk⟩ : ∃ k, shedN l limit = k := ⟨_, rfl⟩
  have hkl0 : 0 ≤ limit → k ≤ l.length := by rw [← hk]; unfold shedN; omega
  have HC1 : Hid (k ≤ l.length → ∀ W, True ∧ Below w.heap.size w W → Calls Tryd.prog 88 #[.slice (cutA a c k 5) (l.length - k) (c - k)] W fun e w' => ∃ v, e = .returned v ∧ w'.ownsRow w.heap.size 45 5 v (l.drop k).length ((l.drop k).flatMap vItem) ∧ Below w.heap.size w w' ∧ Below W.heap.size W w') := fun h => shed_c1 hl h hc hll
  have HC2 : Hid (k ≤ l.length → ∀ W, True ∧ Below w.heap.size w W → Calls Tryd.prog 88 #[.slice a k c] W fun e w' => ∃ v, e = .returned v ∧ w'.ownsRow w.heap.size 45 5 v (l.take k).length ((l.take k).flatMap vItem) ∧ Below w.heap.size w w' ∧ Below W.heap.size W w') := fun h => shed_c2 hl h hll
  clear hl hv hs
  go_enter Tryd.func32, Tryd.ntmps32
  go_wp2_with fail
  refine HC.out.mono ?_
  rintro e W1 ⟨rfl, hb1⟩
  have HB1 := Lib.hid hb1; clear hb1
  cases hq : lineFine l
  · have HR := Lib.hid (shed_bad (limit := limit) hq)
    have HE : Hid (lineErr l = 1) := (by simp [lineErr, hq] : lineErr l = 1)
    clear hq
    rw [HE.out]
    go_wp2_with fail
    go_ret3
    exact shed_bads HR.out HB1.out
  · have HE : Hid (lineErr l = 0) := (by simp [lineErr, hq] : lineErr l = 0)
    rw [HE.out]
    by_cases hn : limit < 0
    · have HR := Lib.hid (shed_neg hq hn)
      clear hq
      go_wp2_with fail
      go_ret3
      exact shed_bads HR.out HB1.out
    · have hn0 : 0 ≤ limit := by omega
      have HR := Lib.hid (shed_ok hq hn0)
      clear hq hn
      have hkl := hkl0 hn0
      have hkc : k ≤ c := by omega
      rw [hk] at HR
      have HK : Hid (((l.length : Int) - limit).toNat = k) := hk
      clear hk hkl0
      have hcut := fun W => run_cut (P := Tryd.prog) (t := 43) (size := 5) Tryd.underlying43 eg_sizeItem a l.length c k (k : Int) rfl hkl W
      have hcut2 := fun W => run_cutHi (P := Tryd.prog) (t := 43) (size := 5) Tryd.underlying43 eg_sizeItem a l.length c k (k : Int) rfl hkc W
      obtain ⟨unfolded1, unfolded2⟩ := hlim
      have hmax : max (0 : Int) ((l.length : Int) - min limit (l.length : Int)) = (k : Int) := by have := HK.out; omega
      have hk1 : (0 : Int) ≤ (k : Int) := by omega
      have hk2 : (k : Int) ≤ (l.length : Int) := by omega
      have hk3 : (k : Int) ≤ (c : Int) := by omega
      have HKL := Lib.hid hkl
      go_wp2_with fail
      go_region_held3 (fun W => True ∧ Below w.heap.size w W)
        (first | exact shed_keep (by assumption) | exact shed_keep HB1.out.drew | exact shed_draw (by assumption) | exact shed_alloc (by assumption) _)
        (first
          | (go_at_call 88; have hins := HC1.out HKL.out _ (by assumption); with_reducible refine hins.mono ?_; clear hins; rintro e w1 ⟨v1, rfl, ho1, hx1, hb1⟩)
          | (go_at_call 88; have hins := HC2.out HKL.out _ (by assumption); with_reducible refine hins.mono ?_; clear hins; rintro e w2 ⟨v2, rfl, ho2, hx2, hb2⟩))
      all_goals go_wp2
      all_goals go_ret3
      exact shed_fin HR.out (own_below ho1 hb2) ho2 hx2

/-- append of a part to a row of no element: as one step of a drawn region. -/
theorem zero_wp {w W : World} {o : Oper} {a : Act} {K : Act → World → Prop} {Q : Exit → Act → World → Prop} (s x : Operand) (ho : o.op = .call { callee := .builtin .append, args := #[s, x], argTypes := #[43, 43] }) {b0 : Addr} {ad : Option Addr} {m c : Nat} (hs : a.eval s = .slice (some b0) 0 0) (hx : a.eval x = .slice ad m c)
    (hW : True ∧ Below w.heap.size w W) {news : List Value} (hn : news.length = m * 5 ∧ m ≤ 1048576) (hsl : Sl w 0 w.heap.size ad news)
    (h : ∀ v' w', Below W.heap.size W w' → Below w.heap.size w w' → (∃ a' c', v' = .slice a' m c' ∧ m ≤ c' ∧ Sl w' w.heap.size w'.heap.size a' news) → K (a.put o.dst v') w') : o.wp Tryd.prog a W K Q := by
  obtain ⟨v', w', hr, hb, hx'⟩ := run_append_zero (P := Tryd.prog) W 43 o.type 45 Tryd.underlying43 infoItem rfl (by decide) (by decide) b0 0 w.heap.size ad m c news hn.1 (hsl.below hW.2 (Nat.le_refl _)) (by omega)
  obtain ⟨a', c', rfl, h1, h2⟩ := zero_reads hn.1 hx'
  exact Lib.wp_append_run W s x _ _ ho _ _ hs hx _ _ hr (h _ w' hb (hW.2.trans (hb.mono hW.2.size)) ⟨a', c', rfl, h1, h2.wider hW.2.size (Nat.le_refl _)⟩)

theorem shed_fin2 {w w' : World} {l : List ItemD} {limit : Int} {k c1 c2 : Nat} {a1 a2 : Option Addr} (h : shedErr l limit = 0 ∧ shedStay l limit = l.drop k ∧ shedOff l limit = l.take k) (hk : k ≤ l.length) (h1 : Sl w' w.heap.size w'.heap.size a1 ((l.drop k).flatMap vItem)) (hc1 : l.length - k ≤ c1)
    (h2 : Sl w' w.heap.size w'.heap.size a2 ((l.take k).flatMap vItem)) (hc2 : k ≤ c2) (hb : Below w.heap.size w w') : ShedPost l limit w (.returned (.tuple #[.slice a1 (l.length - k) c1, .slice a2 k c2, .int .i64 0])) w' := by
  have e1 : (l.drop k).length = l.length - k := List.length_drop
  have e2 : (l.take k).length = k := by rw [List.length_take]; omega
  exact ⟨a1, c1, a2, c2, by rw [h.1, h.2.1, h.2.2, e1, e2], by rw [h.2.1]; exact h1, by rw [h.2.1, e1]; exact hc1, by rw [h.2.2]; exact h2, by rw [h.2.2, e2]; exact hc2, hb⟩
theorem sl_later {w1 x w2 : World} {B : Nat} {a : Option Addr} {us : List Value} (h : Sl w1 B w1.heap.size a us) (hb : Below x.heap.size x w2) (hx : Below w1.heap.size w1 x) : Sl w2 B w2.heap.size a us :=
  have hb2 := hx.trans (hb.mono hx.size)
  (h.below hb2 (Nat.le_refl _)).wider (Nat.le_refl _) hb2.size

set_option maxHeartbeats 4000000 in
theorem ShedOf_any (a : Option Addr) (c : Nat) (l : List ItemD) (limit : Int) (lo : Nat) (w : World) (hl : Sl w lo w.heap.size a (l.flatMap vItem)) (hs : LineSmall l) (hc : l.length ≤ c) (hlim : -9223372036854775808 ≤ limit ∧ limit ≤ 9223372036854775807) :
    Calls Tryd.prog 33 #[.slice a l.length c, .int .i64 limit] w (ShedPost l limit w) := by
  have hll := hs.len
  have HC := Lib.hid (LineFine_any a c l lo w hl hs)
  obtain ⟨k, hk⟩ : ∃ k, shedN l limit = k := ⟨_, rfl⟩
  have hkl0 : 0 ≤ limit → k ≤ l.length := by rw [← hk]; unfold shedN; omega
  have HL := Lib.hid hl
  clear hl hs
  go_enter Tryd.func33, Tryd.ntmps33
  go_wp2_with fail
  refine HC.out.mono ?_
  rintro e W1 ⟨rfl, hb1⟩
  have HB1 := Lib.hid hb1; clear hb1
  cases hq : lineFine l
  · have HR := Lib.hid (shed_bad (limit := limit) hq)
    clear hq
    go_wp2_with fail
    go_ret3
    exact shed_bads HR.out HB1.out
  · by_cases hn : limit < 0
    · have HR := Lib.hid (shed_neg hq hn)
      clear hq
      go_wp2_with fail
      go_ret3
      exact shed_bads HR.out HB1.out
    · have hn0 : 0 ≤ limit := by omega
      have HR := Lib.hid (shed_ok hq hn0)
      clear hq hn
      have hkl := hkl0 hn0
      have hkc : k ≤ c := by omega
      rw [hk] at HR
      have HK : Hid (((l.length : Int) - limit).toNat = k) := hk
      clear hk hkl0
      have hcut := fun W => run_cut (P := Tryd.prog) (t := 43) (size := 5) Tryd.underlying43 eg_sizeItem a l.length c k (k : Int) rfl hkl W
      have hcut2 := fun W => run_cutHi (P := Tryd.prog) (t := 43) (size := 5) Tryd.underlying43 eg_sizeItem a l.length c k (k : Int) rfl hkc W
      obtain ⟨u1, u2⟩ := hlim
      have hk1 : (0 : Int) ≤ (k : Int) := by omega
      have hk2 : (k : Int) ≤ (l.length : Int) := by omega
      have hk3 : (k : Int) ≤ (c : Int) := by omega
      have hlt1 : ((l.drop k).flatMap vItem).length = (l.length - k) * 5 := by rw [flat_len vItem_len, List.length_drop]
      have hlt2 : ((l.take k).flatMap vItem).length = k * 5 := by rw [flat_len vItem_len, List.length_take, Nat.min_eq_left hkl]
      have HKL := Lib.hid (And.intro hkl (And.intro hlt1 hlt2))
      have HN1 : Hid (l.length - k ≤ 1048576) := (by omega : l.length - k ≤ 1048576)
      have HN2 : Hid (k ≤ 1048576) := (by omega : k ≤ 1048576)
      have HL1 : Hid (Sl w 0 w.heap.size (cutA a c k 5) ((l.drop k).flatMap vItem)) := (line_drop HL.out hkl hc).wider (Nat.zero_le _) (Nat.le_refl _)
      have HL2 : Hid (Sl w 0 w.heap.size a ((l.take k).flatMap vItem)) := (line_take HL.out).wider (Nat.zero_le _) (Nat.le_refl _)
      clear hlt1 hlt2
      by_cases hlt : limit < (l.length : Int)
      · have hmax : (l.length : Int) - limit = (k : Int) := by have := HK.out; omega
        go_wp2_with fail
        go_region_held3 (fun W => True ∧ Below w.heap.size w W)
          (first | exact shed_keep (by assumption) | exact shed_keep HB1.out.drew | exact shed_draw (by assumption) | exact shed_alloc (by assumption) _)
          (first
            | (rw [if_pos (by rfl)]; refine zero_wp (w := w) (.tmp 21) (.tmp 24) rfl rfl rfl (by assumption) (And.intro HKL.out.2.1 HN1.out) HL1.out ?_; rintro _ w1 hb1 hx1 ⟨a1, c1, rfl, hc1, hs1⟩)
            | (rw [if_pos (by rfl)]; refine zero_wp (w := w) (.tmp 26) (.tmp 29) rfl rfl rfl (by assumption) (And.intro HKL.out.2.2 HN2.out) HL2.out ?_; rintro _ w2 hb2 hx2 ⟨a2, c2, rfl, hc2, hs2⟩))
        all_goals go_wp2
        all_goals go_ret3
        all_goals first
          | exact shed_fin2 HR.out hkl (sl_later hs1 hb2 (by repeat' (first | exact Below.refl _ _ | refine Below.drew ?_ | refine Below.alloc ?_ (by simp) _))) hc1 hs2 hc2 hx2
          | exact shed_fin2 HR.out hkl hs1 hc1 (sl_later hs2 hb1 (by repeat' (first | exact Below.refl _ _ | refine Below.drew ?_ | refine Below.alloc ?_ (by simp) _))) hc2 hx1
      · have hmax : k = 0 := by have := HK.out; omega
        have hcut0 := fun W => run_cut (P := Tryd.prog) (t := 43) (size := 5) Tryd.underlying43 eg_sizeItem a l.length c k (0 : Int) (by omega) hkl W
        have hcut02 := fun W => run_cutHi (P := Tryd.prog) (t := 43) (size := 5) Tryd.underlying43 eg_sizeItem a l.length c k (0 : Int) (by omega) hkc W
        clear hmax
        go_wp2_with fail
        go_region_held3 (fun W => True ∧ Below w.heap.size w W)
          (first | exact shed_keep (by assumption) | exact shed_keep HB1.out.drew | exact shed_draw (by assumption) | exact shed_alloc (by assumption) _)
          (first
            | (rw [if_pos (by rfl)]; refine zero_wp (w := w) (.tmp 21) (.tmp 24) rfl rfl rfl (by assumption) (And.intro HKL.out.2.1 HN1.out) HL1.out ?_; rintro _ w1 hb1 hx1 ⟨a1, c1, rfl, hc1, hs1⟩)
            | (rw [if_pos (by rfl)]; refine zero_wp (w := w) (.tmp 26) (.tmp 29) rfl rfl rfl (by assumption) (And.intro HKL.out.2.2 HN2.out) HL2.out ?_; rintro _ w2 hb2 hx2 ⟨a2, c2, rfl, hc2, hs2⟩))
        all_goals go_wp2
        all_goals go_ret3
        all_goals first
          | exact shed_fin2 HR.out hkl (sl_later hs1 hb2 (by repeat' (first | exact Below.refl _ _ | refine Below.drew ?_ | refine Below.alloc ?_ (by simp) _))) hc1 hs2 hc2 hx2
          | exact shed_fin2 HR.out hkl hs1 hc1 (sl_later hs2 hb1 (by repeat' (first | exact Below.refl _ _ | refine Below.drew ?_ | refine Below.alloc ?_ (by simp) _))) hc2 hx1

end Go.Proofs.YtbdikenloklhaaaDoor
