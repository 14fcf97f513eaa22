/- The variables of things. -/
import Derived.Test.YtojkakpkmfopbaaEngH
import Derived.Test.YtojkakpkmfopbaaF5
set_option linter.unusedVariables false
set_option maxRecDepth 20000
namespace Go.Ped
open Go Go.Eng Go.RowKit Go.Proofs

theorem ta81 : aggB Try.prog 81 = some false := by kernel_rfl
theorem ko9 : KeyOk Try.prog 9 Value.string := keyOk_string tu9
theorem tu81 : Try.prog.underlying 81 = some (.map 9 3) := by kernel_rfl
theorem tz3 : zeroB Try.prog 3 = some (.int .i64 (0)) := by kernel_rfl
theorem ta68 : aggB Try.prog 68 = some false := by kernel_rfl
theorem tu68 : Try.prog.underlying 68 = some (.slice 9) := by kernel_rfl
theorem ts9 : sizeB Try.prog 9 = some 1 := by kernel_rfl
theorem tz9 : zeroB Try.prog 9 = some (.string (⟨#[]⟩ : ByteArray)) := by kernel_rfl
theorem tb9 : (Try.prog.info? 9).map (·.bytes) = some 16 := by kernel_rfl
theorem ts68 : sizeB Try.prog 68 = some 1 := by kernel_rfl
instance memBA (v : ByteArray) (l : List ByteArray) : Decidable (v ∈ l) := decidable_of_iff (l.any (fun y => decide (y = v)) = true) (by simp)
def addVar (l : List ByteArray) (v : ByteArray) : List ByteArray := if v = ⟨#[]⟩ ∨ v = ⟨#[95]⟩ ∨ v ∈ l then l else l ++ [v]
def fm (l : List ByteArray) : List (ByteArray × Int) := l.zipIdx.map (fun p => (p.1, ((p.2 + 1 : Nat) : Int)))
theorem fm_find (k : ByteArray) : ∀ (l : List ByteArray) (i : Nat), ((l.zipIdx i).map (fun p => (p.1, ((p.2 + 1 : Nat) : Int)))).find? (fun p => decide (p.1 = k)) = (l.findIdx? (fun x => decide (x = k))).map (fun j => (k, ((i + j + 1 : Nat) : Int)))
  | [], i => rfl
  | x :: l, i => by
    simp only [List.zipIdx_cons, List.map_cons, List.find?_cons, List.findIdx?_cons]
    by_cases h : x = k
    · simp [h]
    · simp only [h, decide_false, Bool.false_eq_true, if_false]
      rw [fm_find k l (i + 1)]
      cases l.findIdx? (fun x => decide (x = k)) <;> simp
      omega
theorem fm_pos (l : List ByteArray) (k : ByteArray) : 0 < (mget (fm l) k).getD 0 ↔ k ∈ l := by
  unfold mget fm
  rw [fm_find]
  cases h : l.findIdx? (fun x => decide (x = k)) with
  | none =>
    have := List.findIdx?_eq_none_iff.1 h
    simp
    intro hk
    simpa using this k hk
  | some j =>
    obtain ⟨hj, hp, _⟩ := List.findIdx?_eq_some_iff_getElem.1 h
    simp at hp
    simp
    exact hp ▸ List.getElem_mem hj
theorem fm_idx (k : ByteArray) : ∀ (l : List ByteArray) (i : Nat), k ∉ l → ((l.zipIdx i).map (fun p => (p.1, ((p.2 + 1 : Nat) : Int)))).findIdx? (fun p => decide (p.1 = k)) = none := by
  intro l i h
  rw [List.findIdx?_eq_none_iff]
  intro p hp
  obtain ⟨q, hq, rfl⟩ := List.mem_map.1 hp
  have := List.fst_mem_of_mem_zipIdx hq
  simp
  rintro rfl
  exact h this
theorem fm_set (l : List ByteArray) (k : ByteArray) (h : k ∉ l) : mset (fm l) k ((l.length + 1 : Nat) : Int) = fm (l ++ [k]) := by
  unfold mset
  have e := fm_idx k l 0 h
  have e' : (fm l).findIdx? (fun p => decide (p.1 = k)) = none := e
  rw [e']
  simp [fm, List.zipIdx_append]
abbrev VS (lb tb mb : Nat) (lv : Value) (l : List ByteArray) (L : List Res) : List Res := Blk lb 68 [lv] :: Blk tb 81 [(.map (some mb))] :: Row 9 1 lv l.length (l.map Value.string) :: Mp Value.string (Value.int .i64) mb (fm l) :: L
theorem vars1_spec {Z : Nat → Prop} {w0 w : World} {L : List Res} {lb tb mb : Nat} {lv : Value} {l : List ByteArray} (st : St Z w0 w (VS lb tb mb lv l L)) (hl : l.length < 1073741824) (x : Trm) (ad : Addr) (hr : RowZ Z w0 ad [(.string x.var), (.int .i8 x.val.kind), (.int .i64 x.val.num), (.string x.val.text)]) : Calls Try.prog 47 #[(.pointer (some ad)), (pt tb 0), (pt lb 0)] w (Ret fun r w' => r = .tuple #[] ∧ ∃ lv', St Z w0 w' (VS lb tb mb lv' (addVar l x.var) L)) := by
 have olv := st.rowOne (i := 2) rfl
 have clv := st.rowCel (i := 2) rfl
 refine calls_of_WC (m := 39) (rs := []) Try.func47 rfl rfl rfl rfl ?_
 refine WC.seq ?_
 refine WC.seq ?_
 by_cases h1 : x.var = (⟨#[]⟩ : ByteArray)
 ·refine WC.draw 21 (fun jj vv => match jj with | 0 => vv = (.pointer (some ad)) | 1 => vv = (.pointer (some ad)) | 2 => vv = (.pointer (some ad)) | 3 => vv = (.string x.var) | 4 => vv = (.bool (decide (x.var = (⟨#[]⟩ : ByteArray)))) | 5 => vv = (.bool (decide (x.var = (⟨#[]⟩ : ByteArray)))) | 6 => vv = undef | 7 => vv = undef | 8 => vv = undef | 9 => vv = undef | 10 => vv = undef | 11 => vv = (.bool true) | 12 => vv = (.bool true) | 13 => vv = undef | 14 => vv = undef | 15 => vv = undef | 16 => vv = undef | 17 => vv = undef | 18 => vv = undef | 19 => vv = undef | 20 => vv = (.bool true) | _ => True) (fun _ _ => []) st fmix (by kernel_rfl) ((obS (obS (obS (obS (obS (obS (obS (obS (obS (obS (obS (obS (obS (obS (obS (obS (obS (obS (obS (obS (obS ob0 ?_) ?_) ?_) ?_) ?_) ?_) ?_) ?_) ?_) ?_) ?_) ?_) ?_) ?_) ?_) ?_) ?_) ?_) ?_) ?_) ?_)) ?_
  ·intro vals ρ w3 X hd h0 st2
   have e4 : ρ 0 = (.pointer (some ad)) := (h0 0 rfl).trans rfl
   refine W1 (OpT.move (.pointer (some ad)) e4 ?_)
   refine WL.nil ?_
   exact oneQ.mk ⟨rfl, st2⟩
  ·intro vals ρ w6 X hd h0 st5
   have e7 : ρ 4 = (.pointer (some ad)) := ((hd 0 rfl).2 4 rfl).trans (hd 0 rfl).1
   refine W1 (OpT.nilc ad e7 ?_)
   refine WL.nil ?_
   exact oneQ.mk ⟨rfl, st5⟩
  ·intro vals ρ w9 X hd h0 st8
   have e10 : ρ 5 = (.pointer (some ad)) := ((hd 1 rfl).2 5 rfl).trans (hd 1 rfl).1
   refine W1 (OpT.field 0 ad ad tf38_0 e10 rfl ?_)
   refine WL.nil ?_
   exact oneQ.mk ⟨rfl, st8⟩
  ·intro vals ρ w12 X hd h0 st11
   have e13 : ρ 6 = (.pointer (some ad)) := ((hd 2 rfl).2 6 rfl).trans (hd 2 rfl).1
   refine W1 (OpT.loadS ad (.string x.var) ta9 e13 (hr.cell st11 (j := 0) rfl) ?_)
   refine WL.nil ?_
   exact oneQ.mk ⟨rfl, st11⟩
  ·intro vals ρ w15 X hd h0 st14
   have e16 : ρ 7 = (.string x.var) := ((hd 3 rfl).2 7 rfl).trans (hd 3 rfl).1
   refine W1 (OpT.seq (x.var) ((⟨#[]⟩ : ByteArray)) e16 rfl ?_)
   refine WL.nil ?_
   exact oneQ.mk ⟨rfl, st14⟩
  ·intro vals ρ w18 X hd h0 st17
   have e19 : ρ 8 = (.bool (decide (x.var = (⟨#[]⟩ : ByteArray)))) := ((hd 4 rfl).2 8 rfl).trans (hd 4 rfl).1
   refine W1 (OpT.move (.bool (decide (x.var = (⟨#[]⟩ : ByteArray)))) e19 ?_)
   refine WL.nil ?_
   exact oneQ.mk ⟨rfl, st17⟩
  ·intro vals ρ w21 X hd h0 st20
   have e22 : ρ 0 = (.pointer (some ad)) := (h0 0 rfl).trans rfl
   have e23 : ρ 9 = (.bool (decide (x.var = (⟨#[]⟩ : ByteArray)))) := ((hd 5 rfl).2 9 rfl).trans (hd 5 rfl).1
   refine WL.pass (dj := 9) (c := true) rfl rfl rfl (e23.trans (bT h1)) rfl ?_
   refine WL.nil ?_
   exact oneQ.mk ⟨rfl, st20⟩
  ·intro vals ρ w25 X hd h0 st24
   have e26 : ρ 9 = (.bool (decide (x.var = (⟨#[]⟩ : ByteArray)))) := ((hd 5 rfl).2 9 rfl).trans (hd 5 rfl).1
   have e27 : ρ 10 = undef := ((hd 6 rfl).2 10 rfl).trans (hd 6 rfl).1
   refine WL.pass (dj := 9) (c := true) rfl rfl rfl (e26.trans (bT h1)) rfl ?_
   refine WL.nil ?_
   exact oneQ.mk ⟨rfl, st24⟩
  ·intro vals ρ w29 X hd h0 st28
   have e30 : ρ 9 = (.bool (decide (x.var = (⟨#[]⟩ : ByteArray)))) := ((hd 5 rfl).2 9 rfl).trans (hd 5 rfl).1
   have e31 : ρ 11 = undef := ((hd 7 rfl).2 11 rfl).trans (hd 7 rfl).1
   refine WL.pass (dj := 9) (c := true) rfl rfl rfl (e30.trans (bT h1)) rfl ?_
   refine WL.nil ?_
   exact oneQ.mk ⟨rfl, st28⟩
  ·intro vals ρ w33 X hd h0 st32
   have e34 : ρ 9 = (.bool (decide (x.var = (⟨#[]⟩ : ByteArray)))) := ((hd 5 rfl).2 9 rfl).trans (hd 5 rfl).1
   have e35 : ρ 12 = undef := ((hd 8 rfl).2 12 rfl).trans (hd 8 rfl).1
   refine WL.pass (dj := 9) (c := true) rfl rfl rfl (e34.trans (bT h1)) rfl ?_
   refine WL.nil ?_
   exact oneQ.mk ⟨rfl, st32⟩
  ·intro vals ρ w37 X hd h0 st36
   have e38 : ρ 9 = (.bool (decide (x.var = (⟨#[]⟩ : ByteArray)))) := ((hd 5 rfl).2 9 rfl).trans (hd 5 rfl).1
   have e39 : ρ 13 = undef := ((hd 9 rfl).2 13 rfl).trans (hd 9 rfl).1
   refine WL.pass (dj := 9) (c := true) rfl rfl rfl (e38.trans (bT h1)) rfl ?_
   refine WL.nil ?_
   exact oneQ.mk ⟨rfl, st36⟩
  ·intro vals ρ w41 X hd h0 st40
   have e42 : ρ 9 = (.bool (decide (x.var = (⟨#[]⟩ : ByteArray)))) := ((hd 5 rfl).2 9 rfl).trans (hd 5 rfl).1
   have e43 : ρ 14 = undef := ((hd 10 rfl).2 14 rfl).trans (hd 10 rfl).1
   refine W1 (OpT.pickT (.bool true) (e42.trans (bT h1)) rfl ?_)
   refine WL.nil ?_
   exact oneQ.mk ⟨rfl, st40⟩
  ·intro vals ρ w45 X hd h0 st44
   have e46 : ρ 15 = (.bool true) := ((hd 11 rfl).2 15 rfl).trans (hd 11 rfl).1
   refine W1 (OpT.move (.bool true) e46 ?_)
   refine WL.nil ?_
   exact oneQ.mk ⟨rfl, st44⟩
  ·intro vals ρ w48 X hd h0 st47
   have e49 : ρ 1 = (pt tb 0) := (h0 1 rfl).trans rfl
   have e50 : ρ 16 = (.bool true) := ((hd 12 rfl).2 16 rfl).trans (hd 12 rfl).1
   refine WL.pass (dj := 16) (c := true) rfl rfl rfl e50 rfl ?_
   refine WL.nil ?_
   exact oneQ.mk ⟨rfl, st47⟩
  ·intro vals ρ w52 X hd h0 st51
   have e53 : ρ 0 = (.pointer (some ad)) := (h0 0 rfl).trans rfl
   have e54 : ρ 16 = (.bool true) := ((hd 12 rfl).2 16 rfl).trans (hd 12 rfl).1
   refine WL.pass (dj := 16) (c := true) rfl rfl rfl e54 rfl ?_
   refine WL.nil ?_
   exact oneQ.mk ⟨rfl, st51⟩
  ·intro vals ρ w56 X hd h0 st55
   have e57 : ρ 16 = (.bool true) := ((hd 12 rfl).2 16 rfl).trans (hd 12 rfl).1
   have e58 : ρ 18 = undef := ((hd 14 rfl).2 18 rfl).trans (hd 14 rfl).1
   refine WL.pass (dj := 16) (c := true) rfl rfl rfl e57 rfl ?_
   refine WL.nil ?_
   exact oneQ.mk ⟨rfl, st55⟩
  ·intro vals ρ w60 X hd h0 st59
   have e61 : ρ 16 = (.bool true) := ((hd 12 rfl).2 16 rfl).trans (hd 12 rfl).1
   have e62 : ρ 19 = undef := ((hd 15 rfl).2 19 rfl).trans (hd 15 rfl).1
   refine WL.pass (dj := 16) (c := true) rfl rfl rfl e61 rfl ?_
   refine WL.nil ?_
   exact oneQ.mk ⟨rfl, st59⟩
  ·intro vals ρ w64 X hd h0 st63
   have e65 : ρ 16 = (.bool true) := ((hd 12 rfl).2 16 rfl).trans (hd 12 rfl).1
   have e66 : ρ 20 = undef := ((hd 16 rfl).2 20 rfl).trans (hd 16 rfl).1
   refine WL.pass (dj := 16) (c := true) rfl rfl rfl e65 rfl ?_
   refine WL.nil ?_
   exact oneQ.mk ⟨rfl, st63⟩
  ·intro vals ρ w68 X hd h0 st67
   have e69 : ρ 16 = (.bool true) := ((hd 12 rfl).2 16 rfl).trans (hd 12 rfl).1
   have e70 : ρ 17 = undef := ((hd 13 rfl).2 17 rfl).trans (hd 13 rfl).1
   have e71 : ρ 21 = undef := ((hd 17 rfl).2 21 rfl).trans (hd 17 rfl).1
   refine WL.pass (dj := 16) (c := true) rfl rfl rfl e69 rfl ?_
   refine WL.nil ?_
   exact oneQ.mk ⟨rfl, st67⟩
  ·intro vals ρ w73 X hd h0 st72
   have e74 : ρ 16 = (.bool true) := ((hd 12 rfl).2 16 rfl).trans (hd 12 rfl).1
   have e75 : ρ 22 = undef := ((hd 18 rfl).2 22 rfl).trans (hd 18 rfl).1
   refine WL.pass (dj := 16) (c := true) rfl rfl rfl e74 rfl ?_
   refine WL.nil ?_
   exact oneQ.mk ⟨rfl, st72⟩
  ·intro vals ρ w77 X hd h0 st76
   have e78 : ρ 16 = (.bool true) := ((hd 12 rfl).2 16 rfl).trans (hd 12 rfl).1
   have e79 : ρ 23 = undef := ((hd 19 rfl).2 23 rfl).trans (hd 19 rfl).1
   refine W1 (OpT.pickT (.bool true) e78 rfl ?_)
   refine WL.nil ?_
   exact oneQ.mk ⟨rfl, st76⟩
  intro vals ρ82 w81 hv h0 st80
  replace st80 : St Z w0 w81 (Blk lb 68 [lv] :: Blk tb 81 [(.map (some mb))] :: Row 9 1 lv l.length (l.map Value.string) :: Mp Value.string (Value.int .i64) mb (fm l) :: L) := st80
  have e83 : ρ82 0 = (.pointer (some ad)) := (h0 0 rfl).trans rfl
  have e84 : ρ82 1 = (pt tb 0) := (h0 1 rfl).trans rfl
  have e85 : ρ82 2 = (pt lb 0) := (h0 2 rfl).trans rfl
  have e86 : ρ82 24 = (.bool true) := ((hv 20 rfl).2 24 rfl).trans (hv 20 rfl).1
  clear hv h0
  refine Wnt ?_
  refine WC.condT e86 ?_
  refine WC.ret <| thenQ_r <| retQ.none (.inr rfl) ?_
  exact ⟨_, rfl, rfl, lv, by rw [show addVar l x.var = l from by simp_all [addVar, fm_pos]]; exact st80⟩
 by_cases h87 : x.var = (⟨#[95]⟩ : ByteArray)
 ·refine WC.draw 21 (fun jj vv => match jj with | 0 => vv = (.pointer (some ad)) | 1 => vv = (.pointer (some ad)) | 2 => vv = (.pointer (some ad)) | 3 => vv = (.string x.var) | 4 => vv = (.bool (decide (x.var = (⟨#[]⟩ : ByteArray)))) | 5 => vv = (.bool (decide (x.var = (⟨#[]⟩ : ByteArray)))) | 6 => vv = (.pointer (some ad)) | 7 => vv = (.pointer (some ad)) | 8 => vv = (.pointer (some ad)) | 9 => vv = (.string x.var) | 10 => vv = (.bool (decide (x.var = (⟨#[95]⟩ : ByteArray)))) | 11 => vv = (.bool (decide (x.var = (⟨#[95]⟩ : ByteArray)))) | 12 => vv = (.bool (decide (x.var = (⟨#[95]⟩ : ByteArray)))) | 13 => vv = undef | 14 => vv = undef | 15 => vv = undef | 16 => vv = undef | 17 => vv = undef | 18 => vv = undef | 19 => vv = undef | 20 => vv = (.bool true) | _ => True) (fun _ _ => []) st fmix (by kernel_rfl) ((obS (obS (obS (obS (obS (obS (obS (obS (obS (obS (obS (obS (obS (obS (obS (obS (obS (obS (obS (obS (obS ob0 ?_) ?_) ?_) ?_) ?_) ?_) ?_) ?_) ?_) ?_) ?_) ?_) ?_) ?_) ?_) ?_) ?_) ?_) ?_) ?_) ?_)) ?_
  ·intro vals ρ w89 X hd h0 st88
   have e90 : ρ 0 = (.pointer (some ad)) := (h0 0 rfl).trans rfl
   refine W1 (OpT.move (.pointer (some ad)) e90 ?_)
   refine WL.nil ?_
   exact oneQ.mk ⟨rfl, st88⟩
  ·intro vals ρ w92 X hd h0 st91
   have e93 : ρ 4 = (.pointer (some ad)) := ((hd 0 rfl).2 4 rfl).trans (hd 0 rfl).1
   refine W1 (OpT.nilc ad e93 ?_)
   refine WL.nil ?_
   exact oneQ.mk ⟨rfl, st91⟩
  ·intro vals ρ w95 X hd h0 st94
   have e96 : ρ 5 = (.pointer (some ad)) := ((hd 1 rfl).2 5 rfl).trans (hd 1 rfl).1
   refine W1 (OpT.field 0 ad ad tf38_0 e96 rfl ?_)
   refine WL.nil ?_
   exact oneQ.mk ⟨rfl, st94⟩
  ·intro vals ρ w98 X hd h0 st97
   have e99 : ρ 6 = (.pointer (some ad)) := ((hd 2 rfl).2 6 rfl).trans (hd 2 rfl).1
   refine W1 (OpT.loadS ad (.string x.var) ta9 e99 (hr.cell st97 (j := 0) rfl) ?_)
   refine WL.nil ?_
   exact oneQ.mk ⟨rfl, st97⟩
  ·intro vals ρ w101 X hd h0 st100
   have e102 : ρ 7 = (.string x.var) := ((hd 3 rfl).2 7 rfl).trans (hd 3 rfl).1
   refine W1 (OpT.seq (x.var) ((⟨#[]⟩ : ByteArray)) e102 rfl ?_)
   refine WL.nil ?_
   exact oneQ.mk ⟨rfl, st100⟩
  ·intro vals ρ w104 X hd h0 st103
   have e105 : ρ 8 = (.bool (decide (x.var = (⟨#[]⟩ : ByteArray)))) := ((hd 4 rfl).2 8 rfl).trans (hd 4 rfl).1
   refine W1 (OpT.move (.bool (decide (x.var = (⟨#[]⟩ : ByteArray)))) e105 ?_)
   refine WL.nil ?_
   exact oneQ.mk ⟨rfl, st103⟩
  ·intro vals ρ w107 X hd h0 st106
   have e108 : ρ 0 = (.pointer (some ad)) := (h0 0 rfl).trans rfl
   have e109 : ρ 9 = (.bool (decide (x.var = (⟨#[]⟩ : ByteArray)))) := ((hd 5 rfl).2 9 rfl).trans (hd 5 rfl).1
   refine W2 (dj := 9) (e109.trans (bF h1)) (OpT.move (.pointer (some ad)) e108 ?_)
   refine WL.nil ?_
   exact oneQ.mk ⟨rfl, st106⟩
  ·intro vals ρ w111 X hd h0 st110
   have e112 : ρ 9 = (.bool (decide (x.var = (⟨#[]⟩ : ByteArray)))) := ((hd 5 rfl).2 9 rfl).trans (hd 5 rfl).1
   have e113 : ρ 10 = (.pointer (some ad)) := ((hd 6 rfl).2 10 rfl).trans (hd 6 rfl).1
   refine W2 (dj := 9) (e112.trans (bF h1)) (OpT.nilc ad e113 ?_)
   refine WL.nil ?_
   exact oneQ.mk ⟨rfl, st110⟩
  ·intro vals ρ w115 X hd h0 st114
   have e116 : ρ 9 = (.bool (decide (x.var = (⟨#[]⟩ : ByteArray)))) := ((hd 5 rfl).2 9 rfl).trans (hd 5 rfl).1
   have e117 : ρ 11 = (.pointer (some ad)) := ((hd 7 rfl).2 11 rfl).trans (hd 7 rfl).1
   refine W2 (dj := 9) (e116.trans (bF h1)) (OpT.field 0 ad ad tf38_0 e117 rfl ?_)
   refine WL.nil ?_
   exact oneQ.mk ⟨rfl, st114⟩
  ·intro vals ρ w119 X hd h0 st118
   have e120 : ρ 9 = (.bool (decide (x.var = (⟨#[]⟩ : ByteArray)))) := ((hd 5 rfl).2 9 rfl).trans (hd 5 rfl).1
   have e121 : ρ 12 = (.pointer (some ad)) := ((hd 8 rfl).2 12 rfl).trans (hd 8 rfl).1
   refine W2 (dj := 9) (e120.trans (bF h1)) (OpT.loadS ad (.string x.var) ta9 e121 (hr.cell st118 (j := 0) rfl) ?_)
   refine WL.nil ?_
   exact oneQ.mk ⟨rfl, st118⟩
  ·intro vals ρ w123 X hd h0 st122
   have e124 : ρ 9 = (.bool (decide (x.var = (⟨#[]⟩ : ByteArray)))) := ((hd 5 rfl).2 9 rfl).trans (hd 5 rfl).1
   have e125 : ρ 13 = (.string x.var) := ((hd 9 rfl).2 13 rfl).trans (hd 9 rfl).1
   refine W2 (dj := 9) (e124.trans (bF h1)) (OpT.seq (x.var) ((⟨#[95]⟩ : ByteArray)) e125 rfl ?_)
   refine WL.nil ?_
   exact oneQ.mk ⟨rfl, st122⟩
  ·intro vals ρ w127 X hd h0 st126
   have e128 : ρ 9 = (.bool (decide (x.var = (⟨#[]⟩ : ByteArray)))) := ((hd 5 rfl).2 9 rfl).trans (hd 5 rfl).1
   have e129 : ρ 14 = (.bool (decide (x.var = (⟨#[95]⟩ : ByteArray)))) := ((hd 10 rfl).2 14 rfl).trans (hd 10 rfl).1
   refine W1 (OpT.pickF (.bool (decide (x.var = (⟨#[95]⟩ : ByteArray)))) (e128.trans (bF h1)) e129 ?_)
   refine WL.nil ?_
   exact oneQ.mk ⟨rfl, st126⟩
  ·intro vals ρ w131 X hd h0 st130
   have e132 : ρ 15 = (.bool (decide (x.var = (⟨#[95]⟩ : ByteArray)))) := ((hd 11 rfl).2 15 rfl).trans (hd 11 rfl).1
   refine W1 (OpT.move (.bool (decide (x.var = (⟨#[95]⟩ : ByteArray)))) e132 ?_)
   refine WL.nil ?_
   exact oneQ.mk ⟨rfl, st130⟩
  ·intro vals ρ w134 X hd h0 st133
   have e135 : ρ 1 = (pt tb 0) := (h0 1 rfl).trans rfl
   have e136 : ρ 16 = (.bool (decide (x.var = (⟨#[95]⟩ : ByteArray)))) := ((hd 12 rfl).2 16 rfl).trans (hd 12 rfl).1
   refine WL.pass (dj := 16) (c := true) rfl rfl rfl (e136.trans (bT h87)) rfl ?_
   refine WL.nil ?_
   exact oneQ.mk ⟨rfl, st133⟩
  ·intro vals ρ w138 X hd h0 st137
   have e139 : ρ 0 = (.pointer (some ad)) := (h0 0 rfl).trans rfl
   have e140 : ρ 16 = (.bool (decide (x.var = (⟨#[95]⟩ : ByteArray)))) := ((hd 12 rfl).2 16 rfl).trans (hd 12 rfl).1
   refine WL.pass (dj := 16) (c := true) rfl rfl rfl (e140.trans (bT h87)) rfl ?_
   refine WL.nil ?_
   exact oneQ.mk ⟨rfl, st137⟩
  ·intro vals ρ w142 X hd h0 st141
   have e143 : ρ 16 = (.bool (decide (x.var = (⟨#[95]⟩ : ByteArray)))) := ((hd 12 rfl).2 16 rfl).trans (hd 12 rfl).1
   have e144 : ρ 18 = undef := ((hd 14 rfl).2 18 rfl).trans (hd 14 rfl).1
   refine WL.pass (dj := 16) (c := true) rfl rfl rfl (e143.trans (bT h87)) rfl ?_
   refine WL.nil ?_
   exact oneQ.mk ⟨rfl, st141⟩
  ·intro vals ρ w146 X hd h0 st145
   have e147 : ρ 16 = (.bool (decide (x.var = (⟨#[95]⟩ : ByteArray)))) := ((hd 12 rfl).2 16 rfl).trans (hd 12 rfl).1
   have e148 : ρ 19 = undef := ((hd 15 rfl).2 19 rfl).trans (hd 15 rfl).1
   refine WL.pass (dj := 16) (c := true) rfl rfl rfl (e147.trans (bT h87)) rfl ?_
   refine WL.nil ?_
   exact oneQ.mk ⟨rfl, st145⟩
  ·intro vals ρ w150 X hd h0 st149
   have e151 : ρ 16 = (.bool (decide (x.var = (⟨#[95]⟩ : ByteArray)))) := ((hd 12 rfl).2 16 rfl).trans (hd 12 rfl).1
   have e152 : ρ 20 = undef := ((hd 16 rfl).2 20 rfl).trans (hd 16 rfl).1
   refine WL.pass (dj := 16) (c := true) rfl rfl rfl (e151.trans (bT h87)) rfl ?_
   refine WL.nil ?_
   exact oneQ.mk ⟨rfl, st149⟩
  ·intro vals ρ w154 X hd h0 st153
   have e155 : ρ 16 = (.bool (decide (x.var = (⟨#[95]⟩ : ByteArray)))) := ((hd 12 rfl).2 16 rfl).trans (hd 12 rfl).1
   have e156 : ρ 17 = undef := ((hd 13 rfl).2 17 rfl).trans (hd 13 rfl).1
   have e157 : ρ 21 = undef := ((hd 17 rfl).2 21 rfl).trans (hd 17 rfl).1
   refine WL.pass (dj := 16) (c := true) rfl rfl rfl (e155.trans (bT h87)) rfl ?_
   refine WL.nil ?_
   exact oneQ.mk ⟨rfl, st153⟩
  ·intro vals ρ w159 X hd h0 st158
   have e160 : ρ 16 = (.bool (decide (x.var = (⟨#[95]⟩ : ByteArray)))) := ((hd 12 rfl).2 16 rfl).trans (hd 12 rfl).1
   have e161 : ρ 22 = undef := ((hd 18 rfl).2 22 rfl).trans (hd 18 rfl).1
   refine WL.pass (dj := 16) (c := true) rfl rfl rfl (e160.trans (bT h87)) rfl ?_
   refine WL.nil ?_
   exact oneQ.mk ⟨rfl, st158⟩
  ·intro vals ρ w163 X hd h0 st162
   have e164 : ρ 16 = (.bool (decide (x.var = (⟨#[95]⟩ : ByteArray)))) := ((hd 12 rfl).2 16 rfl).trans (hd 12 rfl).1
   have e165 : ρ 23 = undef := ((hd 19 rfl).2 23 rfl).trans (hd 19 rfl).1
   refine W1 (OpT.pickT (.bool true) (e164.trans (bT h87)) rfl ?_)
   refine WL.nil ?_
   exact oneQ.mk ⟨rfl, st162⟩
  intro vals ρ168 w167 hv h0 st166
  replace st166 : St Z w0 w167 (Blk lb 68 [lv] :: Blk tb 81 [(.map (some mb))] :: Row 9 1 lv l.length (l.map Value.string) :: Mp Value.string (Value.int .i64) mb (fm l) :: L) := st166
  have e169 : ρ168 0 = (.pointer (some ad)) := (h0 0 rfl).trans rfl
  have e170 : ρ168 1 = (pt tb 0) := (h0 1 rfl).trans rfl
  have e171 : ρ168 2 = (pt lb 0) := (h0 2 rfl).trans rfl
  have e172 : ρ168 24 = (.bool true) := ((hv 20 rfl).2 24 rfl).trans (hv 20 rfl).1
  clear hv h0
  refine Wnt ?_
  refine WC.condT e172 ?_
  refine WC.ret <| thenQ_r <| retQ.none (.inr rfl) ?_
  exact ⟨_, rfl, rfl, lv, by rw [show addVar l x.var = l from by simp_all [addVar, fm_pos]]; exact st166⟩
 refine WC.draw 21 (fun jj vv => match jj with | 0 => vv = (.pointer (some ad)) | 1 => vv = (.pointer (some ad)) | 2 => vv = (.pointer (some ad)) | 3 => vv = (.string x.var) | 4 => vv = (.bool (decide (x.var = (⟨#[]⟩ : ByteArray)))) | 5 => vv = (.bool (decide (x.var = (⟨#[]⟩ : ByteArray)))) | 6 => vv = (.pointer (some ad)) | 7 => vv = (.pointer (some ad)) | 8 => vv = (.pointer (some ad)) | 9 => vv = (.string x.var) | 10 => vv = (.bool (decide (x.var = (⟨#[95]⟩ : ByteArray)))) | 11 => vv = (.bool (decide (x.var = (⟨#[95]⟩ : ByteArray)))) | 12 => vv = (.bool (decide (x.var = (⟨#[95]⟩ : ByteArray)))) | 13 => vv = (.map (some mb)) | 14 => vv = (.pointer (some ad)) | 15 => vv = (.pointer (some ad)) | 16 => vv = (.pointer (some ad)) | 17 => vv = (.string x.var) | 18 => vv = (.int .i64 (((mget (fm l) x.var).getD 0))) | 19 => vv = (.bool (decide (0 < ((mget (fm l) x.var).getD 0)))) | 20 => vv = (.bool (decide (0 < ((mget (fm l) x.var).getD 0)))) | _ => True) (fun _ _ => []) st fmix (by kernel_rfl) ((obS (obS (obS (obS (obS (obS (obS (obS (obS (obS (obS (obS (obS (obS (obS (obS (obS (obS (obS (obS (obS ob0 ?_) ?_) ?_) ?_) ?_) ?_) ?_) ?_) ?_) ?_) ?_) ?_) ?_) ?_) ?_) ?_) ?_) ?_) ?_) ?_) ?_)) ?_
 ·intro vals ρ w174 X hd h0 st173
  have e175 : ρ 0 = (.pointer (some ad)) := (h0 0 rfl).trans rfl
  refine W1 (OpT.move (.pointer (some ad)) e175 ?_)
  refine WL.nil ?_
  exact oneQ.mk ⟨rfl, st173⟩
 ·intro vals ρ w177 X hd h0 st176
  have e178 : ρ 4 = (.pointer (some ad)) := ((hd 0 rfl).2 4 rfl).trans (hd 0 rfl).1
  refine W1 (OpT.nilc ad e178 ?_)
  refine WL.nil ?_
  exact oneQ.mk ⟨rfl, st176⟩
 ·intro vals ρ w180 X hd h0 st179
  have e181 : ρ 5 = (.pointer (some ad)) := ((hd 1 rfl).2 5 rfl).trans (hd 1 rfl).1
  refine W1 (OpT.field 0 ad ad tf38_0 e181 rfl ?_)
  refine WL.nil ?_
  exact oneQ.mk ⟨rfl, st179⟩
 ·intro vals ρ w183 X hd h0 st182
  have e184 : ρ 6 = (.pointer (some ad)) := ((hd 2 rfl).2 6 rfl).trans (hd 2 rfl).1
  refine W1 (OpT.loadS ad (.string x.var) ta9 e184 (hr.cell st182 (j := 0) rfl) ?_)
  refine WL.nil ?_
  exact oneQ.mk ⟨rfl, st182⟩
 ·intro vals ρ w186 X hd h0 st185
  have e187 : ρ 7 = (.string x.var) := ((hd 3 rfl).2 7 rfl).trans (hd 3 rfl).1
  refine W1 (OpT.seq (x.var) ((⟨#[]⟩ : ByteArray)) e187 rfl ?_)
  refine WL.nil ?_
  exact oneQ.mk ⟨rfl, st185⟩
 ·intro vals ρ w189 X hd h0 st188
  have e190 : ρ 8 = (.bool (decide (x.var = (⟨#[]⟩ : ByteArray)))) := ((hd 4 rfl).2 8 rfl).trans (hd 4 rfl).1
  refine W1 (OpT.move (.bool (decide (x.var = (⟨#[]⟩ : ByteArray)))) e190 ?_)
  refine WL.nil ?_
  exact oneQ.mk ⟨rfl, st188⟩
 ·intro vals ρ w192 X hd h0 st191
  have e193 : ρ 0 = (.pointer (some ad)) := (h0 0 rfl).trans rfl
  have e194 : ρ 9 = (.bool (decide (x.var = (⟨#[]⟩ : ByteArray)))) := ((hd 5 rfl).2 9 rfl).trans (hd 5 rfl).1
  refine W2 (dj := 9) (e194.trans (bF h1)) (OpT.move (.pointer (some ad)) e193 ?_)
  refine WL.nil ?_
  exact oneQ.mk ⟨rfl, st191⟩
 ·intro vals ρ w196 X hd h0 st195
  have e197 : ρ 9 = (.bool (decide (x.var = (⟨#[]⟩ : ByteArray)))) := ((hd 5 rfl).2 9 rfl).trans (hd 5 rfl).1
  have e198 : ρ 10 = (.pointer (some ad)) := ((hd 6 rfl).2 10 rfl).trans (hd 6 rfl).1
  refine W2 (dj := 9) (e197.trans (bF h1)) (OpT.nilc ad e198 ?_)
  refine WL.nil ?_
  exact oneQ.mk ⟨rfl, st195⟩
 ·intro vals ρ w200 X hd h0 st199
  have e201 : ρ 9 = (.bool (decide (x.var = (⟨#[]⟩ : ByteArray)))) := ((hd 5 rfl).2 9 rfl).trans (hd 5 rfl).1
  have e202 : ρ 11 = (.pointer (some ad)) := ((hd 7 rfl).2 11 rfl).trans (hd 7 rfl).1
  refine W2 (dj := 9) (e201.trans (bF h1)) (OpT.field 0 ad ad tf38_0 e202 rfl ?_)
  refine WL.nil ?_
  exact oneQ.mk ⟨rfl, st199⟩
 ·intro vals ρ w204 X hd h0 st203
  have e205 : ρ 9 = (.bool (decide (x.var = (⟨#[]⟩ : ByteArray)))) := ((hd 5 rfl).2 9 rfl).trans (hd 5 rfl).1
  have e206 : ρ 12 = (.pointer (some ad)) := ((hd 8 rfl).2 12 rfl).trans (hd 8 rfl).1
  refine W2 (dj := 9) (e205.trans (bF h1)) (OpT.loadS ad (.string x.var) ta9 e206 (hr.cell st203 (j := 0) rfl) ?_)
  refine WL.nil ?_
  exact oneQ.mk ⟨rfl, st203⟩
 ·intro vals ρ w208 X hd h0 st207
  have e209 : ρ 9 = (.bool (decide (x.var = (⟨#[]⟩ : ByteArray)))) := ((hd 5 rfl).2 9 rfl).trans (hd 5 rfl).1
  have e210 : ρ 13 = (.string x.var) := ((hd 9 rfl).2 13 rfl).trans (hd 9 rfl).1
  refine W2 (dj := 9) (e209.trans (bF h1)) (OpT.seq (x.var) ((⟨#[95]⟩ : ByteArray)) e210 rfl ?_)
  refine WL.nil ?_
  exact oneQ.mk ⟨rfl, st207⟩
 ·intro vals ρ w212 X hd h0 st211
  have e213 : ρ 9 = (.bool (decide (x.var = (⟨#[]⟩ : ByteArray)))) := ((hd 5 rfl).2 9 rfl).trans (hd 5 rfl).1
  have e214 : ρ 14 = (.bool (decide (x.var = (⟨#[95]⟩ : ByteArray)))) := ((hd 10 rfl).2 14 rfl).trans (hd 10 rfl).1
  refine W1 (OpT.pickF (.bool (decide (x.var = (⟨#[95]⟩ : ByteArray)))) (e213.trans (bF h1)) e214 ?_)
  refine WL.nil ?_
  exact oneQ.mk ⟨rfl, st211⟩
 ·intro vals ρ w216 X hd h0 st215
  have e217 : ρ 15 = (.bool (decide (x.var = (⟨#[95]⟩ : ByteArray)))) := ((hd 11 rfl).2 15 rfl).trans (hd 11 rfl).1
  refine W1 (OpT.move (.bool (decide (x.var = (⟨#[95]⟩ : ByteArray)))) e217 ?_)
  refine WL.nil ?_
  exact oneQ.mk ⟨rfl, st215⟩
 ·intro vals ρ w219 X hd h0 st218
  have e220 : ρ 1 = (pt tb 0) := (h0 1 rfl).trans rfl
  have e221 : ρ 16 = (.bool (decide (x.var = (⟨#[95]⟩ : ByteArray)))) := ((hd 12 rfl).2 16 rfl).trans (hd 12 rfl).1
  refine W2 (dj := 16) (e221.trans (bF h87)) (OpT.loadS ⟨tb, 0, none⟩ (.map (some mb)) ta81 e220 (st218.cellB (i := 1) rfl rfl) ?_)
  refine WL.nil ?_
  exact oneQ.mk ⟨rfl, st218⟩
 ·intro vals ρ w223 X hd h0 st222
  have e224 : ρ 0 = (.pointer (some ad)) := (h0 0 rfl).trans rfl
  have e225 : ρ 16 = (.bool (decide (x.var = (⟨#[95]⟩ : ByteArray)))) := ((hd 12 rfl).2 16 rfl).trans (hd 12 rfl).1
  refine W2 (dj := 16) (e225.trans (bF h87)) (OpT.move (.pointer (some ad)) e224 ?_)
  refine WL.nil ?_
  exact oneQ.mk ⟨rfl, st222⟩
 ·intro vals ρ w227 X hd h0 st226
  have e228 : ρ 16 = (.bool (decide (x.var = (⟨#[95]⟩ : ByteArray)))) := ((hd 12 rfl).2 16 rfl).trans (hd 12 rfl).1
  have e229 : ρ 18 = (.pointer (some ad)) := ((hd 14 rfl).2 18 rfl).trans (hd 14 rfl).1
  refine W2 (dj := 16) (e228.trans (bF h87)) (OpT.nilc ad e229 ?_)
  refine WL.nil ?_
  exact oneQ.mk ⟨rfl, st226⟩
 ·intro vals ρ w231 X hd h0 st230
  have e232 : ρ 16 = (.bool (decide (x.var = (⟨#[95]⟩ : ByteArray)))) := ((hd 12 rfl).2 16 rfl).trans (hd 12 rfl).1
  have e233 : ρ 19 = (.pointer (some ad)) := ((hd 15 rfl).2 19 rfl).trans (hd 15 rfl).1
  refine W2 (dj := 16) (e232.trans (bF h87)) (OpT.field 0 ad ad tf38_0 e233 rfl ?_)
  refine WL.nil ?_
  exact oneQ.mk ⟨rfl, st230⟩
 ·intro vals ρ w235 X hd h0 st234
  have e236 : ρ 16 = (.bool (decide (x.var = (⟨#[95]⟩ : ByteArray)))) := ((hd 12 rfl).2 16 rfl).trans (hd 12 rfl).1
  have e237 : ρ 20 = (.pointer (some ad)) := ((hd 16 rfl).2 20 rfl).trans (hd 16 rfl).1
  refine W2 (dj := 16) (e236.trans (bF h87)) (OpT.loadS ad (.string x.var) ta9 e237 (hr.cell st234 (j := 0) rfl) ?_)
  refine WL.nil ?_
  exact oneQ.mk ⟨rfl, st234⟩
 ·intro vals ρ w239 X hd h0 st238
  have e240 : ρ 16 = (.bool (decide (x.var = (⟨#[95]⟩ : ByteArray)))) := ((hd 12 rfl).2 16 rfl).trans (hd 12 rfl).1
  have e241 : ρ 17 = (.map (some mb)) := ((hd 13 rfl).2 17 rfl).trans (hd 13 rfl).1
  have e242 : ρ 21 = (.string x.var) := ((hd 17 rfl).2 21 rfl).trans (hd 17 rfl).1
  refine W2 (dj := 16) (e240.trans (bF h87)) (OpT.lookupI st238 3 rfl ko9 tu81 tz3 (x.var) e241 e242 ?_)
  refine WL.nil ?_
  exact oneQ.mk ⟨rfl, st238⟩
 ·intro vals ρ w244 X hd h0 st243
  have e245 : ρ 16 = (.bool (decide (x.var = (⟨#[95]⟩ : ByteArray)))) := ((hd 12 rfl).2 16 rfl).trans (hd 12 rfl).1
  have e246 : ρ 22 = (.int .i64 (((mget (fm l) x.var).getD 0))) := ((hd 18 rfl).2 22 rfl).trans (hd 18 rfl).1
  refine W2 (dj := 16) (e245.trans (bF h87)) (OpT.igt .i64 (((mget (fm l) x.var).getD 0)) (0) e246 rfl ?_)
  refine WL.nil ?_
  exact oneQ.mk ⟨rfl, st243⟩
 ·intro vals ρ w248 X hd h0 st247
  have e249 : ρ 16 = (.bool (decide (x.var = (⟨#[95]⟩ : ByteArray)))) := ((hd 12 rfl).2 16 rfl).trans (hd 12 rfl).1
  have e250 : ρ 23 = (.bool (decide (0 < ((mget (fm l) x.var).getD 0)))) := ((hd 19 rfl).2 23 rfl).trans (hd 19 rfl).1
  refine W1 (OpT.pickF (.bool (decide (0 < ((mget (fm l) x.var).getD 0)))) (e249.trans (bF h87)) e250 ?_)
  refine WL.nil ?_
  exact oneQ.mk ⟨rfl, st247⟩
 intro vals ρ253 w252 hv h0 st251
 replace st251 : St Z w0 w252 (Blk lb 68 [lv] :: Blk tb 81 [(.map (some mb))] :: Row 9 1 lv l.length (l.map Value.string) :: Mp Value.string (Value.int .i64) mb (fm l) :: L) := st251
 have e254 : ρ253 0 = (.pointer (some ad)) := (h0 0 rfl).trans rfl
 have e255 : ρ253 1 = (pt tb 0) := (h0 1 rfl).trans rfl
 have e256 : ρ253 2 = (pt lb 0) := (h0 2 rfl).trans rfl
 have e257 : ρ253 24 = (.bool (decide (0 < ((mget (fm l) x.var).getD 0)))) := ((hv 20 rfl).2 24 rfl).trans (hv 20 rfl).1
 clear hv h0
 refine Wnt ?_
 refine WC.condP (0 < ((mget (fm l) x.var).getD 0)) e257 (fun h258 => ?_) (fun h258 => ?_)
 ·refine WC.ret <| thenQ_r <| retQ.none (.inr rfl) ?_
  exact ⟨_, rfl, rfl, lv, by rw [show addVar l x.var = l from by simp_all [addVar, fm_pos]]; exact st251⟩
 refine WC.skip ?_
 refine thenQ_n ?_
 refine WC.seq ?_
 refine WC.draw 6 (fun jj vv => match jj with | 0 => vv = lv | 1 => vv = (.pointer (some ad)) | 2 => vv = (.pointer (some ad)) | 3 => vv = (.pointer (some ad)) | 4 => vv = (.string x.var) | 5 => vv = (.slice (some ⟨(bk vv), 0, none⟩) 1 1) | _ => True) (fun jj vv => match jj with | 5 => [Blk (bk vv) 9 [(.string x.var)]] | _ => []) st251 fmix (by kernel_rfl) ((obS (obS (obS (obS (obS (obS ob0 ?_) ?_) ?_) ?_) ?_) ?_)) ?_
 ·intro vals ρ w260 X hd h0 st259
  have e261 : ρ 2 = (pt lb 0) := (h0 2 rfl).trans e256
  refine W1 (OpT.loadS ⟨lb, 0, none⟩ lv ta68 e261 (st259.cellB (i := 0) rfl rfl) ?_)
  refine WL.nil ?_
  exact oneQ.mk ⟨rfl, st259⟩
 ·intro vals ρ w263 X hd h0 st262
  have e264 : ρ 0 = (.pointer (some ad)) := (h0 0 rfl).trans e254
  refine W1 (OpT.move (.pointer (some ad)) e264 ?_)
  refine WL.nil ?_
  exact oneQ.mk ⟨rfl, st262⟩
 ·intro vals ρ w266 X hd h0 st265
  have e267 : ρ 26 = (.pointer (some ad)) := ((hd 1 rfl).2 26 rfl).trans (hd 1 rfl).1
  refine W1 (OpT.nilc ad e267 ?_)
  refine WL.nil ?_
  exact oneQ.mk ⟨rfl, st265⟩
 ·intro vals ρ w269 X hd h0 st268
  have e270 : ρ 27 = (.pointer (some ad)) := ((hd 2 rfl).2 27 rfl).trans (hd 2 rfl).1
  refine W1 (OpT.field 0 ad ad tf38_0 e270 rfl ?_)
  refine WL.nil ?_
  exact oneQ.mk ⟨rfl, st268⟩
 ·intro vals ρ w272 X hd h0 st271
  have e273 : ρ 28 = (.pointer (some ad)) := ((hd 3 rfl).2 28 rfl).trans (hd 3 rfl).1
  refine W1 (OpT.loadS ad (.string x.var) ta9 e273 (hr.cell st271 (j := 0) rfl) ?_)
  refine WL.nil ?_
  exact oneQ.mk ⟨rfl, st271⟩
 ·intro vals ρ w275 X hd h0 st274
  have e276 : ρ 29 = (.string x.var) := ((hd 4 rfl).2 29 rfl).trans (hd 4 rfl).1
  refine W1 (OpT.buildSlice st274 [(0, (.string x.var))] [(.string x.var)] tu68 ts9 tz9 (mp1 e276) (by kernel_rfl) (by decide) (fun b277 w278 st279 => ?_))
  refine WL.nil ?_
  exact oneQ.mk ⟨rfl, st279⟩
 intro vals ρ282 w281 hv h0 st280
 replace st280 : St Z w0 w281 (Blk (bk (vals 5)) 9 [(.string x.var)] :: Blk lb 68 [lv] :: Blk tb 81 [(.map (some mb))] :: Row 9 1 lv l.length (l.map Value.string) :: Mp Value.string (Value.int .i64) mb (fm l) :: L) := st280
 have e284 : ρ282 0 = (.pointer (some ad)) := (h0 0 rfl).trans e254
 have e285 : ρ282 1 = (pt tb 0) := (h0 1 rfl).trans e255
 have e286 : ρ282 2 = (pt lb 0) := (h0 2 rfl).trans e256
 have e287 : ρ282 25 = lv := ((hv 0 rfl).2 25 rfl).trans (hv 0 rfl).1
 have e288 : ρ282 30 = (.slice (some ⟨(bk (vals 5)), 0, none⟩) 1 1) := ((hv 5 rfl).2 30 rfl).trans (hv 5 rfl).1
 clear hv h0
 generalize bk (vals 5) = b283 at *
 have st289 : St Z w0 w281 (Blk b283 9 [(.string x.var)] :: Row 9 1 lv l.length (l.map Value.string) :: Blk lb 68 [lv] :: Blk tb 81 [(.map (some mb))] :: Mp Value.string (Value.int .i64) mb (fm l) :: L) := St.selT [Blk b283 9 [(.string x.var)], Blk lb 68 [lv], Blk tb 81 [(.map (some mb))], Row 9 1 lv l.length (l.map Value.string), Mp Value.string (Value.int .i64) mb (fm l)] [0, 3, 1, 2, 4] rfl (by decide) st280
 refine W1 (OpT.append st289 1 tu68 ts9 tz9 rfl tb9 (by decide) e287 e288 rfl rfl (by omega) (by omega) (fun v290 w291 st292 hn293 => ?_))
 have o294 := st292.rowOne (i := 0) rfl
 have c295 := st292.rowCel (i := 0) rfl
 refine WL.stepN (OpT.storeS st292 1 v290 rfl ts68 e286 rfl o294 c295 rfl (fun w296 st297 => ?_))
 refine Wnt ?_
 refine WC.draw 7 (fun jj vv => match jj with | 0 => vv = (.map (some mb)) | 1 => vv = (.pointer (some ad)) | 2 => vv = (.pointer (some ad)) | 3 => vv = (.pointer (some ad)) | 4 => vv = (.string x.var) | 5 => vv = v290 | 6 => vv = (.int .i64 ((((l.length + 1) : Nat) : Int))) | _ => True) (fun _ _ => []) st297 fmix (by kernel_rfl) ((obS (obS (obS (obS (obS (obS (obS ob0 ?_) ?_) ?_) ?_) ?_) ?_) ?_)) ?_
 ·intro vals ρ w299 X hd h0 st298
  have e300 : ρ 1 = (pt tb 0) := (h0 1 rfl).trans e285
  refine W1 (OpT.loadS ⟨tb, 0, none⟩ (.map (some mb)) ta81 e300 (st298.cellB (i := 2) rfl rfl) ?_)
  refine WL.nil ?_
  exact oneQ.mk ⟨rfl, st298⟩
 ·intro vals ρ w302 X hd h0 st301
  have e303 : ρ 0 = (.pointer (some ad)) := (h0 0 rfl).trans e284
  refine W1 (OpT.move (.pointer (some ad)) e303 ?_)
  refine WL.nil ?_
  exact oneQ.mk ⟨rfl, st301⟩
 ·intro vals ρ w305 X hd h0 st304
  have e306 : ρ 33 = (.pointer (some ad)) := ((hd 1 rfl).2 33 rfl).trans (hd 1 rfl).1
  refine W1 (OpT.nilc ad e306 ?_)
  refine WL.nil ?_
  exact oneQ.mk ⟨rfl, st304⟩
 ·intro vals ρ w308 X hd h0 st307
  have e309 : ρ 34 = (.pointer (some ad)) := ((hd 2 rfl).2 34 rfl).trans (hd 2 rfl).1
  refine W1 (OpT.field 0 ad ad tf38_0 e309 rfl ?_)
  refine WL.nil ?_
  exact oneQ.mk ⟨rfl, st307⟩
 ·intro vals ρ w311 X hd h0 st310
  have e312 : ρ 35 = (.pointer (some ad)) := ((hd 3 rfl).2 35 rfl).trans (hd 3 rfl).1
  refine W1 (OpT.loadS ad (.string x.var) ta9 e312 (hr.cell st310 (j := 0) rfl) ?_)
  refine WL.nil ?_
  exact oneQ.mk ⟨rfl, st310⟩
 ·intro vals ρ w314 X hd h0 st313
  have e315 : ρ 2 = (pt lb 0) := (h0 2 rfl).trans e286
  refine W1 (OpT.loadS ⟨lb, 0, none⟩ v290 ta68 e315 (st313.cellB (i := 1) rfl rfl) ?_)
  refine WL.nil ?_
  exact oneQ.mk ⟨rfl, st313⟩
 ·intro vals ρ w317 X hd h0 st316
  have e318 : ρ 37 = v290 := ((hd 5 rfl).2 37 rfl).trans (hd 5 rfl).1
  refine W1 (OpT.lenRow st316 0 rfl rfl tu68 e318 ?_)
  refine WL.nil ?_
  exact oneQ.mk ⟨rfl, st316⟩
 intro vals ρ321 w320 hv h0 st319
 replace st319 : St Z w0 w320 (Row 9 1 v290 (l.length + 1) ((l.map Value.string) ++ [(.string x.var)]) :: Blk lb 68 [v290] :: Blk tb 81 [(.map (some mb))] :: Mp Value.string (Value.int .i64) mb (fm l) :: L) := st319
 have e322 : ρ321 32 = (.map (some mb)) := ((hv 0 rfl).2 32 rfl).trans (hv 0 rfl).1
 have e323 : ρ321 36 = (.string x.var) := ((hv 4 rfl).2 36 rfl).trans (hv 4 rfl).1
 have e324 : ρ321 38 = (.int .i64 ((((l.length + 1) : Nat) : Int))) := ((hv 6 rfl).2 38 rfl).trans (hv 6 rfl).1
 clear hv h0
 refine WL.stepN (OpT.mapSet st319 3 rfl ko9 tu81 (x.var) ((((l.length + 1) : Nat) : Int)) e322 e323 e324 (fun w325 st326 => ?_))
 refine WL.nil ?_
 refine retQ.none (.inl rfl) ?_
 have hm : x.var ∉ l := fun h => h258 ((fm_pos l x.var).2 h)
 have e1 : addVar l x.var = l ++ [x.var] := by simp_all [addVar]
 refine ⟨_, rfl, rfl, v290, ?_⟩
 unfold VS; rw [e1, ← fm_set l x.var hm]
 simp only [List.map_append, List.map_cons, List.map_nil, List.length_append, List.length_cons, List.length_nil]
 exact (St.selT [Row 9 1 v290 (l.length + 1) ((l.map Value.string) ++ [(.string x.var)]), Blk lb 68 [v290], Blk tb 81 [(.map (some mb))], Mp Value.string (Value.int .i64) mb (mset (fm l) x.var (((l.length + 1) : Nat) : Int))] [1, 2, 0, 3] rfl (by decide) st326)

end Go.Ped
