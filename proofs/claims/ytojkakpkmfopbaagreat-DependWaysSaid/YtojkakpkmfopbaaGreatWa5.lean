/- Parts F37, F38, F39, F40, F23, F41, TjJ, F42, F43, TjK, F44 of the proof. -/
import Derived.Test.YtojkakpkmfopbaaGreatWa4
import Derived.Test.YtojkakpkmfopbaaGreatWa3
import Derived.Test.YtojkakpkmfopbaaGreatWa1
set_option linter.unusedVariables false
set_option maxRecDepth 20000
namespace Go.Ped
open Go Go.Eng Go.RowKit Go.Proofs

theorem tb3 : (Tryz.prog.info? 3).map (·.bytes) = some 8 := by kernel_rfl
theorem tu120 : Tryz.prog.underlying 120 = some (.slice 3) := by kernel_rfl
theorem tb120 : (Tryz.prog.info? 120).map (·.bytes) = some 24 := by kernel_rfl
theorem tu121 : Tryz.prog.underlying 121 = some (.slice 120) := by kernel_rfl
theorem ts120 : sizeB Tryz.prog 120 = some 1 := by kernel_rfl
theorem tz120 : zeroB Tryz.prog 120 = some (.slice none 0 0) := by kernel_rfl
theorem tp90 : placesB Tryz.prog 90 = some [] := by kernel_rfl
theorem tz90 : zeroB Tryz.prog 90 = some (.agg #[]) := by kernel_rfl
theorem tu3 : Tryz.prog.underlying 3 = some (.int .i64) := by kernel_rfl
theorem ko3 : KeyOk Tryz.prog 3 (Value.int .i64) := keyOk_int tu3
theorem tu122 : Tryz.prog.underlying 122 = some (.map 3 90) := by kernel_rfl
theorem ta120 : aggB Tryz.prog 120 = some false := by kernel_rfl
theorem add_at (b k : Nat) : (⟨b, 0, none⟩ : Addr).add (((k : Nat) : Int).toNat * 1) = ⟨b, k, none⟩ := by
  rw [Int.toNat_natCast, Nat.mul_one]
  unfold Addr.add
  split
  · rename_i h; rw [h]
  · simp
theorem fold_take {α β : Type} {f : β → α → β} {xs : List α} {i : Nat} {x : α} (hx : xs[i]? = some x) (b : β) : (xs.take (i + 1)).foldl f b = f ((xs.take i).foldl f b) x := by
  rw [List.take_add_one, hx, List.foldl_append]; rfl
theorem lwAt_eq {g : Gm} {σ : TS} {i : Nat} {p : List ByteArray} (h : σ.out[i]? = some p) : lwAt g σ i = lwF g σ.inn i p := by unfold lwAt; rw [h]; rfl
theorem mod_get {κ α : Type} {A B : List (κ × α)} {p : κ × α} (h : ((A ++ p :: B).map Prod.fst).Nodup) : ((A ++ B).map Prod.fst).Nodup := by
  simp only [List.map_append, List.map_cons, List.nodup_append, List.nodup_cons, List.mem_cons] at h ⊢
  exact ⟨h.1, h.2.1.2, fun a ha b hb => h.2.2 a ha b (.inr hb)⟩
theorem Parts_spec {Z : Nat → Prop} {w0 w : World} {L : List Res} (st : St Z w0 w L) (rv : Value) (rs : List Rul) (hr : rRul.sl Z w0 rv rs) (HB : Bnd rs) (ok : GOk (drawF rs)) {oo : List (List ByteArray)} (ho : partsO (drawF rs) = some oo) : Calls Tryz.prog 34 #[(.agg #[rv])] w (Ret fun r w' => ∃ (cells : List Value) (Z1 : Nat → Prop) (w1 : World), Ext Z w0 Z1 w1 ∧ RowsOf (rSls.R Z1 w1) 1 cells oo ∧ St Z1 w1 w' (Row 37 1 r oo.length cells :: L)) := by
 have hal0 := Rl.sl_le hr
 obtain ⟨σ, hp, hne, hrng, q, hall, rfl⟩ := partsO_inv ho
 have hnl : σ.out.length < 2097152 := (parts_inv hp).2
 refine calls_of_WC (m := 153) (rs := [.tmp 2]) Tryz.func34 rfl rfl rfl rfl ?_
 refine Wsr ?_
 refine W1 (OpT.box st (.agg #[rv]) [rv] rfl rfl (fun b1 w2 st3 => ?_))
 refine W1 (OpT.assign vn rfl ?_)
 refine Wns ?_
 refine W1 (OpT.loadA ⟨b1, 0, none⟩ 1 [rv] ta25 ts25 rfl ((st3.rowB (i := 0) rfl).part 0 1) rfl ?_)
 refine W1 (OpT.callS cal26 [] [] [(.agg #[rv])] rfl (ca1 rfl) (draw_spec st3 _ rs hr HB) ?_)
 rintro v10 w11 ⟨mb4, mv5, Z6, w7, hx8, rfl, hg9, st12⟩
 have hL13 := hx8.sl hr
 refine W1 (OpT.assign (.map (some mb4)) rfl ?_)
 refine Wns ?_
 refine W1 (OpT.move (.map (some mb4)) rfl ?_)
 refine W1 (OpT.callS cal27 [] [] [(.map (some mb4))] rfl (ca1 rfl) (parts_spec hg9 ok hp st12) ?_)
 rintro v20 w21 ⟨im14, ov15, Z16, w17, rfl, hx18, hs19, st22⟩
 have hg23 := hg9.ext hx18
 have hL24 := hx18.sl hL13
 refine W1 (OpT.move (.tuple #[(.map (some im14)), ov15]) rfl ?_)
 refine W1 (OpT.extract [(.map (some im14)), ov15] (.map (some im14)) rfl rfl ?_)
 refine W1 (OpT.extract [(.map (some im14)), ov15] ov15 rfl rfl ?_)
 refine W1 (OpT.assign (.map (some im14)) rfl ?_)
 refine W1 (OpT.assign ov15 rfl ?_)
 refine Wns ?_
 refine W1 (OpT.move ov15 rfl ?_)
 refine W1 (OpT.lenR rfl tu80 hs19 rfl ?_)
 refine W1 (OpT.makeSliceN (σ.out.length) _ st22 tu120 ts3 tz3 tb3 rfl rfl (made_rep _ _) (by omega) (by omega) (by omega) (fun b25 w26 st27 => ?_))
 refine W1 (OpT.assign (sl b25 σ.out.length σ.out.length) rfl ?_)
 refine Wns ?_
 refine W1 (OpT.move ov15 rfl ?_)
 refine W1 (OpT.lenR rfl tu80 hs19 rfl ?_)
 refine W1 (OpT.makeSliceN (σ.out.length) _ st27 tu121 ts120 tz120 tb120 rfl rfl (made_rep _ _) (by omega) (by omega) (by omega) (fun b28 w29 st30 => ?_))
 refine W1 (OpT.assign (sl b28 σ.out.length σ.out.length) rfl ?_)
 refine Wnt ?_
 refine WC.seq ?_
 refine Wsr ?_
 refine W1 (OpT.move ov15 rfl ?_)
 refine W1 (OpT.lenR rfl tu80 hs19 rfl ?_)
 refine W1 (OpT.move (ii 0) rfl ?_)
 refine Wnt ?_
 refine WC.block ?_
 obtain ⟨wb, rfl⟩ : ∃ x, x = b25 := ⟨_, rfl⟩
 obtain ⟨ab, rfl⟩ : ∃ x, x = b28 := ⟨_, rfl⟩
 obtain ⟨mb, rfl⟩ : ∃ x, x = mb4 := ⟨_, rfl⟩
 obtain ⟨im, rfl⟩ : ∃ x, x = im14 := ⟨_, rfl⟩
 have st31 : St Z16 w17 w29 (Abv 120 ab (abvP (lwAt (drawF rs) σ) σ.out.length 0) :: Blk wb 3 ((waitP (fun iq => (lwAt (drawF rs) σ iq).length) σ.out.length 0).map (Value.int .i64)) :: Mi im σ.inn :: Mv mb mv5 :: L) := by
  rw [waitP_zero, abvP_zero, List.map_replicate]
  exact St.abvNil ((St.selD 5 [0, 1, 2, 3] rfl rfl (by decide) st30) : St Z16 w17 w29 (Blk ab 120 (List.replicate σ.out.length vn) :: Blk wb 3 (List.replicate σ.out.length (ii 0)) :: Mi im σ.inn :: Mv mb mv5 :: L))
 refine WC.loop (fun m ρ wz => ∃ (i : Nat), m = σ.out.length - i ∧ i ≤ σ.out.length ∧ ρ 37 = (ni i) ∧ ρ 3 = (.map (some mb)) ∧ ρ 4 = (.map (some im)) ∧ ρ 5 = ov15 ∧ ρ 6 = (sl wb σ.out.length σ.out.length) ∧ ρ 7 = (sl ab σ.out.length σ.out.length) ∧ ρ 35 = ov15 ∧ ρ 36 = (ni (σ.out.length)) ∧ St Z16 w17 wz (Abv 120 ab (abvP (lwAt (drawF rs) σ) σ.out.length i) :: Blk wb 3 ((waitP (fun iq => (lwAt (drawF rs) σ iq).length) σ.out.length i).map (Value.int .i64)) :: Mi im σ.inn :: Mv mb mv5 :: L)) _ ⟨0, rfl, by omega, rfl, rfl, rfl, rfl, rfl, rfl, rfl, rfl, st31⟩ ?_
 rintro m32 ρ33 w34 ⟨i, hm45, hp36, hs37, hs38, hs39, hs40, hs41, hs42, hs43, hs44, st35⟩
 refine Wsr ?_
 refine W1 (OpT.ilt .i64 (((i : Nat) : Int)) (((σ.out.length : Nat) : Int)) hs37 hs44 ?_)
 refine Wnt ?_
 refine WC.seq ?_
 refine WC.condP (((i : Nat) : Int) < ((σ.out.length : Nat) : Int)) rfl (fun h46 => ?_) (fun h46 => ?_)
 ·refine WC.skip ?_
  refine thenQ_n ?_
  refine WC.seq ?_
  refine WC.block ?_
  refine WC.seq ?_
  obtain ⟨prt, hprt⟩ : ∃ x, σ.out[i]? = some x := ⟨_, List.getElem?_eq_getElem (by omega)⟩
  refine WC.region ?_
  refine W1 (OpT.move (ni i) hs37 ?_)
  refine W1 (OpT.idxX tu80 ts37 hs19 hs43 .i64 (i) hs37 hprt (fun ad48 cs49 hr50 hR51 => ?_))
  have hR51c := hR51
  obtain ⟨sv52, rfl, hs53⟩ := hR51
  refine W1 (OpT.loadS ad48 sv52 ta37 rfl (hr50.cell st35 (j := 0) rfl) ?_)
  refine W1 (OpT.assign (ni i) rfl ?_)
  refine W1 (OpT.assign sv52 rfl ?_)
  refine Wns ?_
  refine W1 (OpT.makeMap (Value.int .i64) (fun _ : Unit => Value.agg #[]) st35 (fun b54 w55 st56 => ?_))
  refine W1 (OpT.assign (.map (some b54)) rfl ?_)
  refine Wnt ?_
  refine WC.seq ?_
  refine Wsr ?_
  refine W1 (OpT.move sv52 rfl ?_)
  refine W1 (OpT.lenR rfl tu37 hs53 rfl ?_)
  refine W1 (OpT.move (ii 0) rfl ?_)
  refine Wnt ?_
  refine WC.block ?_
  obtain ⟨lb, rfl⟩ : ∃ x, x = b54 := ⟨_, rfl⟩
  refine WC.loop (fun m ρ wz => ∃ (k : Nat), m = prt.length - k ∧ k ≤ prt.length ∧ ρ 45 = (ni k) ∧ ρ 3 = (.map (some mb)) ∧ ρ 4 = (.map (some im)) ∧ ρ 5 = ov15 ∧ ρ 6 = (sl wb σ.out.length σ.out.length) ∧ ρ 7 = (sl ab σ.out.length σ.out.length) ∧ ρ 8 = (ni i) ∧ ρ 10 = (.map (some lb)) ∧ ρ 35 = ov15 ∧ ρ 36 = (ni (σ.out.length)) ∧ ρ 37 = (ni i) ∧ ρ 43 = sv52 ∧ ρ 44 = (ni (prt.length)) ∧ St Z16 w17 wz (Mp (Value.int .i64) (fun _ : Unit => Value.agg #[]) lb ((prt.take k).foldl (lwS (drawF rs) σ.inn i) []) :: Abv 120 ab (abvP (lwAt (drawF rs) σ) σ.out.length i) :: Blk wb 3 ((waitP (fun iq => (lwAt (drawF rs) σ iq).length) σ.out.length i).map (Value.int .i64)) :: Mi im σ.inn :: Mv mb mv5 :: L)) _ ⟨0, rfl, by omega, rfl, hs38, hs39, hs40, hs41, hs42, rfl, rfl, hs43, hs44, hs37, rfl, rfl, st56⟩ ?_
  rintro m57 ρ58 w59 ⟨k, hm75, hp61, hs62, hs63, hs64, hs65, hs66, hs67, hs68, hs69, hs70, hs71, hs72, hs73, hs74, st60⟩
  have halp := Rl.sl_le hs53
  refine Wsr ?_
  refine W1 (OpT.ilt .i64 (((k : Nat) : Int)) (((prt.length : Nat) : Int)) hs62 hs74 ?_)
  refine Wnt ?_
  refine WC.seq ?_
  refine WC.condP (((k : Nat) : Int) < ((prt.length : Nat) : Int)) rfl (fun h76 => ?_) (fun h76 => ?_)
  ·refine WC.skip ?_
   refine thenQ_n ?_
   refine WC.seq ?_
   refine WC.block ?_
   refine WC.seq ?_
   obtain ⟨sx, hsx⟩ : ∃ x, prt[k]? = some x := ⟨_, List.getElem?_eq_getElem (by omega)⟩
   refine WC.region ?_
   refine W1 (OpT.idxX tu37 ts9 hs53 hs73 .i64 (k) hs62 hsx (fun ad78 cs79 hr80 hR81 => ?_))
   have hR81c := hR81
   obtain rfl := hR81
   refine W1 (OpT.loadS ad78 (.string sx) ta9 rfl (hr80.cell st60 (j := 0) rfl) ?_)
   refine W1 (OpT.assign (.string sx) rfl ?_)
   refine Wns ?_
   refine W1 (OpT.move (.map (some mb)) hs63 ?_)
   refine W1 (OpT.move (.string sx) rfl ?_)
   refine W1 (OpT.lookupV st60 4 rfl ko9 tu77 tz37 (sx) rfl rfl ?_)
   refine W1 (OpT.lenR rfl tu37 (hg23.rd sx) rfl ?_)
   refine W1 (OpT.move (ii 0) rfl ?_)
   refine Wnt ?_
   refine WC.block ?_
   refine WC.loop (fun m ρ wz => ∃ (j : Nat), m = (gSuc (drawF rs) sx).length - j ∧ j ≤ (gSuc (drawF rs) sx).length ∧ ρ 53 = (ni j) ∧ ρ 3 = (.map (some mb)) ∧ ρ 4 = (.map (some im)) ∧ ρ 5 = ov15 ∧ ρ 6 = (sl wb σ.out.length σ.out.length) ∧ ρ 7 = (sl ab σ.out.length σ.out.length) ∧ ρ 8 = (ni i) ∧ ρ 10 = (.map (some lb)) ∧ ρ 35 = ov15 ∧ ρ 36 = (ni (σ.out.length)) ∧ ρ 37 = (ni i) ∧ ρ 43 = sv52 ∧ ρ 44 = (ni (prt.length)) ∧ ρ 45 = (ni k) ∧ ρ 51 = ((mget mv5 sx).getD vn) ∧ ρ 52 = (.int .i64 ((((gSuc (drawF rs) sx).length : Nat) : Int))) ∧ St Z16 w17 wz (Mp (Value.int .i64) (fun _ : Unit => Value.agg #[]) lb (((gSuc (drawF rs) sx).take j).foldl (lwT σ.inn i) ((prt.take k).foldl (lwS (drawF rs) σ.inn i) [])) :: Abv 120 ab (abvP (lwAt (drawF rs) σ) σ.out.length i) :: Blk wb 3 ((waitP (fun iq => (lwAt (drawF rs) σ iq).length) σ.out.length i).map (Value.int .i64)) :: Mi im σ.inn :: Mv mb mv5 :: L)) _ ⟨0, rfl, by omega, rfl, hs63, hs64, hs65, hs66, hs67, hs68, hs69, hs70, hs71, hs72, hs73, hs74, hs62, rfl, rfl, st60⟩ ?_
   rintro m83 ρ84 w85 ⟨j, hm104, hp87, hs88, hs89, hs90, hs91, hs92, hs93, hs94, hs95, hs96, hs97, hs98, hs99, hs100, hs101, hs102, hs103, st86⟩
   have halt := Rl.sl_le (hg23.rd sx)
   replace halt : (gSuc (drawF rs) sx).length ≤ 140737488355328 := halt
   refine Wsr ?_
   refine W1 (OpT.ilt .i64 (((j : Nat) : Int)) ((((gSuc (drawF rs) sx).length : Nat) : Int)) hs88 hs103 ?_)
   refine Wnt ?_
   refine WC.seq ?_
   refine WC.condP (((j : Nat) : Int) < (((gSuc (drawF rs) sx).length : Nat) : Int)) rfl (fun h105 => ?_) (fun h105 => ?_)
   ·refine WC.skip ?_
    refine thenQ_n ?_
    refine WC.seq ?_
    refine WC.block ?_
    refine Wsr ?_
    obtain ⟨x106, hx106⟩ : ∃ x, (gSuc (drawF rs) sx)[j]? = some x := ⟨_, List.getElem?_eq_getElem (by omega)⟩
    refine W1 (OpT.idxX tu37 ts9 (hg23.rd sx) hs102 .i64 (j) hs88 hx106 (fun ad107 cs108 hr109 hR110 => ?_))
    have hR110c := hR110
    obtain rfl := hR110
    refine W1 (OpT.loadS ad107 (.string x106) ta9 rfl (hr109.cell st86 (j := 0) rfl) ?_)
    refine W1 (OpT.assign (.string x106) rfl ?_)
    refine Wns ?_
    refine W1 (OpT.move (.map (some im)) hs90 ?_)
    refine W1 (OpT.move (.string x106) rfl ?_)
    refine W1 (OpT.lookupI st86 3 rfl ko9 tu79 tz3 (x106) rfl rfl ?_)
    refine W1 (OpT.move (ni i) hs94 ?_)
    refine W1 (OpT.ine .i64 (((mget σ.inn x106).getD 0)) (((i : Nat) : Int)) rfl rfl ?_)
    refine Wnt ?_
    refine WC.condP (((mget σ.inn x106).getD 0) ≠ ((i : Nat) : Int)) rfl (fun h111 => ?_) (fun h111 => ?_)
    ·refine WC.region ?_
     refine W1 (OpT.move (.map (some lb)) hs95 ?_)
     refine W1 (OpT.move (.map (some im)) hs90 ?_)
     refine W1 (OpT.move (.string x106) rfl ?_)
     refine W1 (OpT.lookupI st86 3 rfl ko9 tu79 tz3 (x106) rfl rfl ?_)
     refine W1 (OpT.build [] [] tz90 tp90 mp0 rfl ?_)
     refine WL.stepN (OpT.mapSet st86 0 rfl ko3 tu122 (((mget σ.inn x106).getD 0)) (()) rfl rfl rfl (fun w112 st113 => ?_))
     refine WL.nil ?_
     refine blkQ_n ?_
     refine thenQ_n ?_
     refine WC.region ?_
     refine W1 (OpT.iadd .i64 (((j : Nat) : Int)) (1) (((j + 1 : Nat) : Int)) hs88 rfl (wadd (a := j) (b := 1) (by omega)) ?_)
     refine W1 (OpT.move (ni (j + 1)) rfl ?_)
     refine WL.nil ?_
     have st114 : St Z16 w17 w112 (Mp (Value.int .i64) (fun _ : Unit => Value.agg #[]) lb (((gSuc (drawF rs) sx).take (j + 1)).foldl (lwT σ.inn i) ((prt.take k).foldl (lwS (drawF rs) σ.inn i) [])) :: Abv 120 ab (abvP (lwAt (drawF rs) σ) σ.out.length i) :: Blk wb 3 ((waitP (fun iq => (lwAt (drawF rs) σ iq).length) σ.out.length i).map (Value.int .i64)) :: Mi im σ.inn :: Mv mb mv5 :: L) := by
       rw [fold_take hx106]; unfold lwT iget; rw [if_pos h111]; exact st113
     exact loopQ_n _ (by omega) ⟨j + 1, rfl, by omega, rfl, hs89, hs90, hs91, hs92, hs93, hs94, hs95, hs96, hs97, hs98, hs99, hs100, hs101, hs102, hs103, st114⟩
    refine WC.skip ?_
    refine blkQ_n ?_
    refine thenQ_n ?_
    refine WC.region ?_
    refine W1 (OpT.iadd .i64 (((j : Nat) : Int)) (1) (((j + 1 : Nat) : Int)) hs88 rfl (wadd (a := j) (b := 1) (by omega)) ?_)
    refine W1 (OpT.move (ni (j + 1)) rfl ?_)
    refine WL.nil ?_
    have st115 : St Z16 w17 w85 (Mp (Value.int .i64) (fun _ : Unit => Value.agg #[]) lb (((gSuc (drawF rs) sx).take (j + 1)).foldl (lwT σ.inn i) ((prt.take k).foldl (lwS (drawF rs) σ.inn i) [])) :: Abv 120 ab (abvP (lwAt (drawF rs) σ) σ.out.length i) :: Blk wb 3 ((waitP (fun iq => (lwAt (drawF rs) σ iq).length) σ.out.length i).map (Value.int .i64)) :: Mi im σ.inn :: Mv mb mv5 :: L) := by
      rw [fold_take hx106]; unfold lwT iget; rw [if_neg h111]; exact st86
    exact loopQ_n _ (by omega) ⟨j + 1, rfl, by omega, rfl, hs89, hs90, hs91, hs92, hs93, hs94, hs95, hs96, hs97, hs98, hs99, hs100, hs101, hs102, hs103, st115⟩
   refine WC.exit ?_
   refine thenQ_x ?_
   refine loopQ_x ?_
   refine blkQ_hit ?_
   refine blkQ_n ?_
   refine thenQ_n ?_
   refine WC.region ?_
   refine W1 (OpT.iadd .i64 (((k : Nat) : Int)) (1) (((k + 1 : Nat) : Int)) hs101 rfl (wadd (a := k) (b := 1) (by omega)) ?_)
   refine W1 (OpT.move (ni (k + 1)) rfl ?_)
   refine WL.nil ?_
   have eTst116 : (gSuc (drawF rs) sx).take j = gSuc (drawF rs) sx := List.take_of_length_le (by omega)
   have st116 : St Z16 w17 w85 (Mp (Value.int .i64) (fun _ : Unit => Value.agg #[]) lb ((prt.take (k + 1)).foldl (lwS (drawF rs) σ.inn i) []) :: Abv 120 ab (abvP (lwAt (drawF rs) σ) σ.out.length i) :: Blk wb 3 ((waitP (fun iq => (lwAt (drawF rs) σ iq).length) σ.out.length i).map (Value.int .i64)) :: Mi im σ.inn :: Mv mb mv5 :: L) := by
     rw [fold_take hsx]; unfold lwS; rw [eTst116] at st86; exact st86
   exact loopQ_n _ (by omega) ⟨k + 1, rfl, by omega, rfl, hs89, hs90, hs91, hs92, hs93, hs94, hs95, hs96, hs97, hs98, hs99, hs100, st116⟩
  refine WC.exit ?_
  refine thenQ_x ?_
  refine loopQ_x ?_
  refine blkQ_hit ?_
  refine thenQ_n ?_
  refine WC.seq ?_
  have eTp : prt.take k = prt := List.take_of_length_le (by omega)
  have st117 : St Z16 w17 w59 (Mp (Value.int .i64) (fun _ : Unit => Value.agg #[]) lb (lwAt (drawF rs) σ i) :: Abv 120 ab (abvP (lwAt (drawF rs) σ) σ.out.length i) :: Blk wb 3 ((waitP (fun iq => (lwAt (drawF rs) σ iq).length) σ.out.length i).map (Value.int .i64)) :: Mi im σ.inn :: Mv mb mv5 :: L) := by
   rw [lwAt_eq hprt]; unfold lwF; rw [eTp] at st60; exact st60
  refine WC.region ?_
  refine W1 (OpT.move (sl wb σ.out.length σ.out.length) hs66 ?_)
  refine W1 (OpT.move (ni i) hs68 ?_)
  refine W1 (OpT.move (.map (some lb)) hs69 ?_)
  refine W1 (OpT.lenMap st117 0 rfl rfl tu122 rfl ?_)
  refine W1 (OpT.idx 1 ⟨wb, 0, none⟩ ⟨wb, i, none⟩ (σ.out.length) (σ.out.length) .i64 (((i : Nat) : Int)) tu120 ts3 rfl rfl (by omega) (by omega) (add_at _ _) ?_)
  refine WL.stepN (OpT.storeS st117 2 (.int .i64 ((((lwAt (drawF rs) σ i).length : Nat) : Int))) rfl ts3 rfl rfl rfl rfl (by rw [Nat.blt_eq]; simp only [List.length_map, waitP_len, List.length_set]; omega) (fun w118 st119 => ?_))
  refine Wns ?_
  refine W1 (OpT.move (.map (some lb)) hs69 ?_)
  refine W1 (OpT.range (st119 : St Z16 w17 w118 (Mp (Value.int .i64) (fun _ : Unit => Value.agg #[]) lb (lwAt (drawF rs) σ i) :: Abv 120 ab (abvP (lwAt (drawF rs) σ) σ.out.length i) :: Blk wb 3 (((waitP (fun iq => (lwAt (drawF rs) σ iq).length) σ.out.length i).map (Value.int .i64)).set i (.int .i64 ((((lwAt (drawF rs) σ i).length : Nat) : Int)))) :: Mi im σ.inn :: Mv mb mv5 :: L)) tu122 rfl (fun r120 w121 st122 => ?_))
  refine Wnt ?_
  refine WC.block ?_
  obtain ⟨rb, rfl⟩ : ∃ x, x = r120 := ⟨_, rfl⟩
  have st123 : St Z16 w17 w121 (MpIt (Value.int .i64) (fun _ : Unit => Value.agg #[]) lb rb (lwAt (drawF rs) σ i) (lwAt (drawF rs) σ i) none :: Abv 120 ab (abvQ (lwAt (drawF rs) σ) σ.out.length i (lwAt (drawF rs) σ i)) :: Blk wb 3 (((waitP (fun iq => (lwAt (drawF rs) σ iq).length) σ.out.length i).map (Value.int .i64)).set i (.int .i64 ((((lwAt (drawF rs) σ i).length : Nat) : Int)))) :: Mi im σ.inn :: Mv mb mv5 :: L) := by rw [abvQ_full]; exact st122
  refine WC.loop (fun m ρ wz => ∃ (left : List (Int × Unit)), ∃ (cur : Option (Int × Unit)), m = left.length ∧ (left.map Prod.fst).Nodup ∧ (∀ p ∈ left, p.1 ∈ (lwAt (drawF rs) σ i).map Prod.fst) ∧ ρ 3 = (.map (some mb)) ∧ ρ 4 = (.map (some im)) ∧ ρ 5 = ov15 ∧ ρ 6 = (sl wb σ.out.length σ.out.length) ∧ ρ 7 = (sl ab σ.out.length σ.out.length) ∧ ρ 8 = (ni i) ∧ ρ 35 = ov15 ∧ ρ 36 = (ni (σ.out.length)) ∧ ρ 37 = (ni i) ∧ ρ 75 = (pt rb 0) ∧ St Z16 w17 wz (MpIt (Value.int .i64) (fun _ : Unit => Value.agg #[]) lb rb (lwAt (drawF rs) σ i) left cur :: Abv 120 ab (abvQ (lwAt (drawF rs) σ) σ.out.length i left) :: Blk wb 3 (((waitP (fun iq => (lwAt (drawF rs) σ iq).length) σ.out.length i).map (Value.int .i64)).set i (.int .i64 ((((lwAt (drawF rs) σ i).length : Nat) : Int)))) :: Mi im σ.inn :: Mv mb mv5 :: L)) _ ⟨lwAt (drawF rs) σ i, none, rfl, lwF_nodup _ _ _ _, fun p hp => List.mem_map_of_mem hp, hs63, hs64, hs65, hs66, hs67, hs68, hs70, hs71, hs72, rfl, st123⟩ ?_
  rintro m124 ρ125 w126 ⟨left, cur, hm138, HLn, HLm, hs128, hs129, hs130, hs131, hs132, hs133, hs134, hs135, hs136, hs137, st127⟩
  refine Wsr ?_
  refine W1 (OpT.next st127 hs137 (fun hl => ?_) ?_)
  ·subst hl
   have st139 : St Z16 w17 w126 (Mp (Value.int .i64) (fun _ : Unit => Value.agg #[]) lb (lwAt (drawF rs) σ i) :: Abv 120 ab (abvQ (lwAt (drawF rs) σ) σ.out.length i []) :: Blk wb 3 (((waitP (fun iq => (lwAt (drawF rs) σ iq).length) σ.out.length i).map (Value.int .i64)).set i (.int .i64 ((((lwAt (drawF rs) σ i).length : Nat) : Int)))) :: Mi im σ.inn :: Mv mb mv5 :: L) := st127.endIt
   refine W1 (OpT.extract [(.bool false)] (.bool false) rfl rfl ?_)
   refine Wnt ?_
   refine WC.seq ?_
   refine WC.condF rfl ?_
   refine WC.exit ?_
   refine thenQ_x ?_
   refine loopQ_x ?_
   refine blkQ_hit ?_
   refine blkQ_n ?_
   refine thenQ_n ?_
   refine WC.region ?_
   refine W1 (OpT.iadd .i64 (((i : Nat) : Int)) (1) (((i + 1 : Nat) : Int)) hs136 rfl (wadd (a := i) (b := 1) (by omega)) ?_)
   refine W1 (OpT.move (ni (i + 1)) rfl ?_)
   refine WL.nil ?_
   have st140 : St Z16 w17 w126 (Abv 120 ab (abvP (lwAt (drawF rs) σ) σ.out.length (i + 1)) :: Blk wb 3 ((waitP (fun iq => (lwAt (drawF rs) σ iq).length) σ.out.length (i + 1)).map (Value.int .i64)) :: Mi im σ.inn :: Mv mb mv5 :: L) := by
     rw [← abvQ_nil, ← waitP_set (by omega), List.map_set]
     exact (St.selD 5 [1, 2, 3, 4] rfl rfl (by decide) st139)
   exact loopQ_n _ (by omega) ⟨i + 1, rfl, by omega, rfl, hs128, hs129, hs130, hs131, hs132, hs134, hs135, st140⟩
  rintro A141 p142 B143 w144 hl145 st146
  obtain ⟨p1, u1⟩ := p142
  obtain ⟨qn, rfl, hqn⟩ : ∃ k : Nat, p1 = (k : Int) ∧ k < σ.out.length := by
    obtain ⟨y, hy, hy2⟩ := List.mem_map.1 (HLm (p1, u1) (by rw [hl145]; simp))
    have h0 := hrng i (by omega) y hy
    simp only at hy2; exact ⟨p1.toNat, by omega, by omega⟩
  subst hl145
  replace st146 : St Z16 w17 w144 (MpIt (Value.int .i64) (fun _ : Unit => Value.agg #[]) lb rb (lwAt (drawF rs) σ i) (A141 ++ B143) (some (((qn : Nat) : Int), u1)) :: Abv 120 ab (abvQ (lwAt (drawF rs) σ) σ.out.length i (A141 ++ (((qn : Nat) : Int), u1) :: B143)) :: Blk wb 3 (((waitP (fun iq => (lwAt (drawF rs) σ iq).length) σ.out.length i).map (Value.int .i64)).set i (.int .i64 ((((lwAt (drawF rs) σ i).length : Nat) : Int)))) :: Mi im σ.inn :: Mv mb mv5 :: L) := st146
  refine W1 (OpT.extract [(.bool true), (ni qn), (.agg #[])] (.bool true) rfl rfl ?_)
  refine Wnt ?_
  refine WC.seq ?_
  refine WC.condT rfl ?_
  refine WC.skip ?_
  refine thenQ_n ?_
  refine WC.block ?_
  refine Wsr ?_
  refine W1 (OpT.entry st146 hs137 ?_)
  refine W1 (OpT.extract [(ni qn), (.agg #[])] (ni qn) rfl rfl ?_)
  refine W1 (OpT.assign (ni qn) rfl ?_)
  refine Wnt ?_
  obtain ⟨e1, rv, xs, e2, hq1, hq2, hq3, hq4, hq5, st147⟩ := St.abvOpen (K := [MpIt (Value.int .i64) (fun _ : Unit => Value.agg #[]) lb rb (lwAt (drawF rs) σ i) (A141 ++ B143) (some (((qn : Nat) : Int), u1)), Blk wb 3 (((waitP (fun iq => (lwAt (drawF rs) σ iq).length) σ.out.length i).map (Value.int .i64)).set i (.int .i64 ((((lwAt (drawF rs) σ i).length : Nat) : Int)))), Mi im σ.inn, Mv mb mv5]) (k := qn) (by rw [abvQ_len]; exact hqn) ((St.selD 5 [1, 0, 2, 3, 4] rfl rfl (by decide) st146) : St Z16 w17 w144 (Abv 120 ab (abvQ (lwAt (drawF rs) σ) σ.out.length i (A141 ++ (((qn : Nat) : Int), u1) :: B143)) :: MpIt (Value.int .i64) (fun _ : Unit => Value.agg #[]) lb rb (lwAt (drawF rs) σ i) (A141 ++ B143) (some (((qn : Nat) : Int), u1)) :: Blk wb 3 (((waitP (fun iq => (lwAt (drawF rs) σ iq).length) σ.out.length i).map (Value.int .i64)).set i (.int .i64 ((((lwAt (drawF rs) σ i).length : Nat) : Int)))) :: Mi im σ.inn :: Mv mb mv5 :: L))
  replace st147 : St Z16 w17 w144 (Blk ab 120 (abC (e1 ++ (rv, xs) :: e2)) :: Row 3 1 rv xs.length (xs.map (Value.int .i64)) :: MpIt (Value.int .i64) (fun _ : Unit => Value.agg #[]) lb rb (lwAt (drawF rs) σ i) (A141 ++ B143) (some (((qn : Nat) : Int), u1)) :: Blk wb 3 (((waitP (fun iq => (lwAt (drawF rs) σ iq).length) σ.out.length i).map (Value.int .i64)).set i (.int .i64 ((((lwAt (drawF rs) σ i).length : Nat) : Int)))) :: Mi im σ.inn :: Mv mb mv5 :: (abR e1 ++ (abR e2 ++ L))) := st147
  have orv := st147.rowOne (i := 1) rfl
  have crv := st147.rowCel (i := 1) rfl
  have hxl : xs.length ≤ i + 1 := abvQ_le (List.mem_of_getElem? hq3)
  rw [abvQ_len] at hq5
  refine WC.region ?_
  refine W1 (OpT.move (sl ab σ.out.length σ.out.length) hs132 ?_)
  refine W1 (OpT.move (ni qn) rfl ?_)
  refine W1 (OpT.move (sl ab σ.out.length σ.out.length) hs132 ?_)
  refine W1 (OpT.move (ni qn) rfl ?_)
  refine W1 (OpT.idx 1 ⟨ab, 0, none⟩ ⟨ab, qn, none⟩ (σ.out.length) (σ.out.length) .i64 (((qn : Nat) : Int)) tu121 ts120 rfl rfl (by omega) (by omega) (add_at _ _) ?_)
  refine W1 (OpT.loadS ⟨ab, qn, none⟩ rv ta120 rfl (st147.cellB (i := 0) rfl hq4) ?_)
  refine W1 (OpT.move (ni i) hs133 ?_)
  refine W1 (OpT.buildSlice st147 [(0, (ni i))] [(ni i)] tu120 ts3 tz3 (mp1 rfl) (by kernel_rfl) (by decide) (fun b148 w149 st150 => ?_))
  have st151 : St Z16 w17 w149 (Blk b148 3 [(ni i)] :: Row 3 1 rv xs.length (xs.map (Value.int .i64)) :: Blk ab 120 (abC (e1 ++ (rv, xs) :: e2)) :: MpIt (Value.int .i64) (fun _ : Unit => Value.agg #[]) lb rb (lwAt (drawF rs) σ i) (A141 ++ B143) (some (((qn : Nat) : Int), u1)) :: Blk wb 3 (((waitP (fun iq => (lwAt (drawF rs) σ iq).length) σ.out.length i).map (Value.int .i64)).set i (.int .i64 ((((lwAt (drawF rs) σ i).length : Nat) : Int)))) :: Mi im σ.inn :: Mv mb mv5 :: (abR e1 ++ (abR e2 ++ L))) := St.selT [Blk b148 3 [(ni i)], Blk ab 120 (abC (e1 ++ (rv, xs) :: e2)), Row 3 1 rv xs.length (xs.map (Value.int .i64)), MpIt (Value.int .i64) (fun _ : Unit => Value.agg #[]) lb rb (lwAt (drawF rs) σ i) (A141 ++ B143) (some (((qn : Nat) : Int), u1)), Blk wb 3 (((waitP (fun iq => (lwAt (drawF rs) σ iq).length) σ.out.length i).map (Value.int .i64)).set i (.int .i64 ((((lwAt (drawF rs) σ i).length : Nat) : Int)))), Mi im σ.inn, Mv mb mv5] [0, 2, 1, 3, 4, 5, 6] rfl (by decide) st150
  refine W1 (OpT.append st151 1 tu120 ts3 tz3 rfl tb3 (by decide) rfl rfl rfl rfl (by omega) (by omega) (fun v152 w153 st154 hn155 => ?_))
  have o156 := st154.rowOne (i := 0) rfl
  have c157 := st154.rowCel (i := 0) rfl
  refine W1 (OpT.idx 1 ⟨ab, 0, none⟩ ⟨ab, qn, none⟩ (σ.out.length) (σ.out.length) .i64 (((qn : Nat) : Int)) tu121 ts120 rfl rfl (by omega) (by omega) (add_at _ _) ?_)
  refine WL.stepN (OpT.storeS st154 1 v152 rfl ts120 rfl rfl o156 c157 (by rw [Nat.blt_eq, hq5]; exact hqn) (fun w158 st159 => ?_))
  refine WL.nil ?_
  have st160 := St.abvShut (K := [MpIt (Value.int .i64) (fun _ : Unit => Value.agg #[]) lb rb (lwAt (drawF rs) σ i) (A141 ++ B143) (some (((qn : Nat) : Int), u1)), Blk wb 3 (((waitP (fun iq => (lwAt (drawF rs) σ iq).length) σ.out.length i).map (Value.int .i64)).set i (.int .i64 ((((lwAt (drawF rs) σ i).length : Nat) : Int)))), Mi im σ.inn, Mv mb mv5]) (i := ((i : Nat) : Int)) hq1 hq2 ((St.selD 6 [1, 0, 2, 3, 4, 5] rfl rfl (by decide) st159) : St Z16 w17 w158 (Blk ab 120 ((abC (e1 ++ (rv, xs) :: e2)).set qn v152) :: Row 3 1 v152 (xs.length + 1) ((xs.map (Value.int .i64)) ++ [(ni i)]) :: MpIt (Value.int .i64) (fun _ : Unit => Value.agg #[]) lb rb (lwAt (drawF rs) σ i) (A141 ++ B143) (some (((qn : Nat) : Int), u1)) :: Blk wb 3 (((waitP (fun iq => (lwAt (drawF rs) σ iq).length) σ.out.length i).map (Value.int .i64)).set i (.int .i64 ((((lwAt (drawF rs) σ i).length : Nat) : Int)))) :: Mi im σ.inn :: Mv mb mv5 :: (abR e1 ++ (abR e2 ++ L))))
  rw [abvQ_set HLn (HLm (((qn : Nat) : Int), u1) (by simp)) hq3] at st160
  replace st160 : St Z16 w17 w158 (Abv 120 ab (abvQ (lwAt (drawF rs) σ) σ.out.length i (A141 ++ B143)) :: MpIt (Value.int .i64) (fun _ : Unit => Value.agg #[]) lb rb (lwAt (drawF rs) σ i) (A141 ++ B143) (some (((qn : Nat) : Int), u1)) :: Blk wb 3 (((waitP (fun iq => (lwAt (drawF rs) σ iq).length) σ.out.length i).map (Value.int .i64)).set i (.int .i64 ((((lwAt (drawF rs) σ i).length : Nat) : Int)))) :: Mi im σ.inn :: Mv mb mv5 :: L) := st160
  refine blkQ_n ?_
  have st161 : St Z16 w17 w158 (MpIt (Value.int .i64) (fun _ : Unit => Value.agg #[]) lb rb (lwAt (drawF rs) σ i) (A141 ++ B143) (some (((qn : Nat) : Int), u1)) :: Abv 120 ab (abvQ (lwAt (drawF rs) σ) σ.out.length i (A141 ++ B143)) :: Blk wb 3 (((waitP (fun iq => (lwAt (drawF rs) σ iq).length) σ.out.length i).map (Value.int .i64)).set i (.int .i64 ((((lwAt (drawF rs) σ i).length : Nat) : Int)))) :: Mi im σ.inn :: Mv mb mv5 :: L) := St.selT [Abv 120 ab (abvQ (lwAt (drawF rs) σ) σ.out.length i (A141 ++ B143)), MpIt (Value.int .i64) (fun _ : Unit => Value.agg #[]) lb rb (lwAt (drawF rs) σ i) (A141 ++ B143) (some (((qn : Nat) : Int), u1)), Blk wb 3 (((waitP (fun iq => (lwAt (drawF rs) σ iq).length) σ.out.length i).map (Value.int .i64)).set i (.int .i64 ((((lwAt (drawF rs) σ i).length : Nat) : Int)))), Mi im σ.inn, Mv mb mv5] [1, 0, 2, 3, 4] rfl (by decide) st160
  exact loopQ_n _ (by simp only [List.length_append, List.length_cons] at *; omega) ⟨A141 ++ B143, some (((qn : Nat) : Int), u1), rfl, mod_get HLn, fun p hp => HLm p (by rcases List.mem_append.1 hp with hp | hp; exact List.mem_append_left _ hp; exact List.mem_append_right _ (List.mem_cons_of_mem _ hp)), hs128, hs129, hs130, hs131, hs132, hs133, hs134, hs135, hs136, hs137, st161⟩
 refine WC.exit ?_
 refine thenQ_x ?_
 refine loopQ_x ?_
 refine blkQ_hit ?_
 refine thenQ_n ?_
 refine WC.seq ?_
 have ei : i = σ.out.length := by omega
 subst ei
 obtain ⟨Z162, hx163, ha164, st165⟩ := St.abvF (st35 : St Z16 w17 w34 (Abv 120 ab (abvP (lwAt (drawF rs) σ) σ.out.length σ.out.length) :: Blk wb 3 ((waitP (fun iq => (lwAt (drawF rs) σ iq).length) σ.out.length σ.out.length).map (Value.int .i64)) :: Mi im σ.inn :: Mv mb mv5 :: L)) (fun x hx => by rw [← abvQ_full] at hx; have := abvQ_le hx; omega) (by rw [abvP_len]; omega) σ.out.length
 rw [abvP_len] at ha164
 have hg166 := hg23.ext hx163
 have hL167 := hx163.sl hs19
 refine WC.region ?_
 refine W1 (OpT.assign vn rfl ?_)
 refine Wnt ?_
 refine WC.seq ?_
 refine Wsr ?_
 refine W1 (OpT.move ov15 hs40 ?_)
 refine W1 (OpT.lenR rfl tu80 hL167 rfl ?_)
 refine W1 (OpT.move (ii 0) rfl ?_)
 refine Wnt ?_
 refine WC.block ?_
 have st168 : St Z162 w34 w34 (Row 37 1 vn ([] : List (List ByteArray)).length [] :: Blk wb 3 ((waitP (fun iq => (lwAt (drawF rs) σ iq).length) σ.out.length σ.out.length).map (Value.int .i64)) :: L) := St.rowNil 37 1 (St.selD 3 [0] rfl rfl (by decide) st165)
 refine WC.loop (fun m ρ wz => ∃ (jj : Nat), ∃ (ws : List Int), ∃ (o : List (List ByteArray)), ∃ (ov : Value), ∃ (cells : List Value), m = σ.out.length - jj ∧ jj ≤ σ.out.length ∧ ((List.range σ.out.length).take jj).foldlM (selS σ.out (abvP (lwAt (drawF rs) σ) σ.out.length σ.out.length)) ⟨waitP (fun iq => (lwAt (drawF rs) σ iq).length) σ.out.length σ.out.length, []⟩ = some ⟨ws, o⟩ ∧ ws.length = σ.out.length ∧ o.length = jj ∧ RowsOf (rSls.R Z162 w34) 1 cells o ∧ ρ 16 = ov ∧ ρ 93 = (ni jj) ∧ ρ 5 = ov15 ∧ ρ 6 = (sl wb σ.out.length σ.out.length) ∧ ρ 7 = (sl ab σ.out.length σ.out.length) ∧ ρ 92 = (ni (σ.out.length)) ∧ St Z162 w34 wz (Row 37 1 ov o.length cells :: Blk wb 3 ((ws).map (Value.int .i64)) :: L)) _ ⟨0, waitP (fun iq => (lwAt (drawF rs) σ iq).length) σ.out.length σ.out.length, [], vn, [], rfl, by omega, rfl, waitP_len _ _ _, rfl, RowsOf.nil, rfl, rfl, hs40, hs41, hs42, rfl, st168⟩ ?_
 rintro m169 ρ170 w171 ⟨jj, ws, o, ov, cells, hm180, hp173, HF, hwl, hoj, HR, hs175, hs174, hs176, hs177, hs178, hs179, st172⟩
 have oov := st172.rowOne (i := 0) rfl
 have cov := st172.rowCel (i := 0) rfl
 refine Wsr ?_
 refine W1 (OpT.ilt .i64 (((jj : Nat) : Int)) (((σ.out.length : Nat) : Int)) hs174 hs179 ?_)
 refine Wnt ?_
 refine WC.seq ?_
 refine WC.condP (((jj : Nat) : Int) < ((σ.out.length : Nat) : Int)) rfl (fun h181 => ?_) (fun h181 => ?_)
 ·refine WC.skip ?_
  refine thenQ_n ?_
  refine WC.seq ?_
  refine WC.block ?_
  refine WC.seq ?_
  obtain ⟨q1, hq1, hq2⟩ := fold_at hall HF (List.getElem?_range (by omega))
  obtain ⟨hp0, w2, hdec, rfl⟩ := selS_inv hq1
  refine WC.region ?_
  refine W1 (OpT.assign (ii (-1)) rfl ?_)
  refine Wnt ?_
  refine WC.seq ?_
  refine Wsr ?_
  refine W1 (OpT.move (sl wb σ.out.length σ.out.length) hs177 ?_)
  refine W1 (OpT.lenS _ (σ.out.length) (σ.out.length) rfl tu120 rfl ?_)
  refine W1 (OpT.move (ii 0) rfl ?_)
  refine Wnt ?_
  refine WC.block ?_
  refine WC.loop (fun m ρ wz => ∃ (b : Nat), ∃ (nx : Int), m = σ.out.length - b ∧ b ≤ σ.out.length ∧ nx = pickP σ.out ws b ∧ (nx = -1 ∨ ∃ k : Nat, nx = (k : Int) ∧ k < σ.out.length) ∧ ρ 17 = (.int .i64 (nx)) ∧ ρ 97 = (ni b) ∧ ρ 5 = ov15 ∧ ρ 6 = (sl wb σ.out.length σ.out.length) ∧ ρ 7 = (sl ab σ.out.length σ.out.length) ∧ ρ 16 = ov ∧ ρ 92 = (ni (σ.out.length)) ∧ ρ 93 = (ni jj) ∧ ρ 95 = (sl wb σ.out.length σ.out.length) ∧ ρ 96 = (ni (σ.out.length)) ∧ St Z162 w34 wz (Row 37 1 ov o.length cells :: Blk wb 3 ((ws).map (Value.int .i64)) :: L)) _ ⟨0, -1, rfl, by omega, rfl, .inl rfl, rfl, rfl, hs176, hs177, hs178, hs175, hs179, hs174, rfl, rfl, st172⟩ ?_
  rintro m182 ρ183 w184 ⟨b, nx, hm197, hp186, HP, hnx, hs188, hs187, hs189, hs190, hs191, hs192, hs193, hs194, hs195, hs196, st185⟩
  refine Wsr ?_
  refine W1 (OpT.ilt .i64 (((b : Nat) : Int)) (((σ.out.length : Nat) : Int)) hs187 hs196 ?_)
  refine Wnt ?_
  refine WC.seq ?_
  refine WC.condP (((b : Nat) : Int) < ((σ.out.length : Nat) : Int)) rfl (fun h198 => ?_) (fun h198 => ?_)
  ·refine WC.skip ?_
   refine thenQ_n ?_
   refine WC.seq ?_
   refine WC.block ?_
   refine WC.seq ?_
   obtain ⟨wv, hwv⟩ : ∃ x, ws[b]? = some x := ⟨_, List.getElem?_eq_getElem (by omega)⟩
   refine WC.region ?_
   refine W1 (OpT.move (ni b) hs187 ?_)
   refine W1 (OpT.idx 1 ⟨wb, 0, none⟩ ⟨wb, b, none⟩ (σ.out.length) (σ.out.length) .i64 (((b : Nat) : Int)) tu120 ts3 hs195 hs187 (by omega) (by omega) (add_at _ _) ?_)
   refine W1 (OpT.loadS ⟨wb, b, none⟩ (.int .i64 (wv)) ta3 rfl (st185.cellB (i := 1) rfl (map_get hwv)) ?_)
   refine W1 (OpT.assign (ni b) rfl ?_)
   refine W1 (OpT.assign (.int .i64 (wv)) rfl ?_)
   refine Wnt ?_
   refine WC.seq ?_
   by_cases h199 : wv = 0
   ·by_cases h200 : nx < 0
    ·refine WC.draw 21 (fun jj vv => match jj with | 0 => vv = (.int .i64 (wv)) | 1 => vv = (.bool (decide (wv = 0))) | 2 => vv = (.bool (decide (wv = 0))) | 3 => vv = (.int .i64 (nx)) | 4 => vv = (.bool (decide (nx < 0))) | 5 => vv = (.bool (decide (nx < 0))) | 6 => vv = undef | 7 => vv = undef | 8 => vv = undef | 9 => vv = undef | 10 => vv = undef | 11 => vv = undef | 12 => vv = undef | 13 => vv = undef | 14 => vv = undef | 15 => vv = undef | 16 => vv = undef | 17 => vv = undef | 18 => vv = undef | 19 => vv = (.bool true) | 20 => vv = (.bool true) | _ => True) (fun _ _ => []) st185 fmix (by kernel_rfl) ((obS (obS (obS (obS (obS (obS (obS (obS (obS (obS (obS (obS (obS (obS (obS (obS (obS (obS (obS (obS (obS ob0 ?_) ?_) ?_) ?_) ?_) ?_) ?_) ?_) ?_) ?_) ?_) ?_) ?_) ?_) ?_) ?_) ?_) ?_) ?_) ?_) ?_)) ?_
     ·intro vals ρ w202 X hd h0 st201
      have e203 : ρ 19 = (.int .i64 (wv)) := (h0 19 rfl).trans rfl
      refine W1 (OpT.move (.int .i64 (wv)) e203 ?_)
      refine WL.nil ?_
      exact oneQ.mk ⟨rfl, st201⟩
     ·intro vals ρ w205 X hd h0 st204
      have e206 : ρ 102 = (.int .i64 (wv)) := ((hd 0 rfl).2 102 rfl).trans (hd 0 rfl).1
      refine W1 (OpT.ieq .i64 (wv) (0) e206 rfl ?_)
      refine WL.nil ?_
      exact oneQ.mk ⟨rfl, st204⟩
     ·intro vals ρ w208 X hd h0 st207
      have e209 : ρ 103 = (.bool (decide (wv = 0))) := ((hd 1 rfl).2 103 rfl).trans (hd 1 rfl).1
      refine W1 (OpT.move (.bool (decide (wv = 0))) e209 ?_)
      refine WL.nil ?_
      exact oneQ.mk ⟨rfl, st207⟩
     ·intro vals ρ w211 X hd h0 st210
      have e212 : ρ 17 = (.int .i64 (nx)) := (h0 17 rfl).trans hs188
      have e213 : ρ 104 = (.bool (decide (wv = 0))) := ((hd 2 rfl).2 104 rfl).trans (hd 2 rfl).1
      refine W2 (dj := 104) (e213.trans (bT h199)) (OpT.move (.int .i64 (nx)) e212 ?_)
      refine WL.nil ?_
      exact oneQ.mk ⟨rfl, st210⟩
     ·intro vals ρ w215 X hd h0 st214
      have e216 : ρ 104 = (.bool (decide (wv = 0))) := ((hd 2 rfl).2 104 rfl).trans (hd 2 rfl).1
      have e217 : ρ 105 = (.int .i64 (nx)) := ((hd 3 rfl).2 105 rfl).trans (hd 3 rfl).1
      refine W2 (dj := 104) (e216.trans (bT h199)) (OpT.ilt .i64 (nx) (0) e217 rfl ?_)
      refine WL.nil ?_
      exact oneQ.mk ⟨rfl, st214⟩
     ·intro vals ρ w219 X hd h0 st218
      have e220 : ρ 104 = (.bool (decide (wv = 0))) := ((hd 2 rfl).2 104 rfl).trans (hd 2 rfl).1
      have e221 : ρ 106 = (.bool (decide (nx < 0))) := ((hd 4 rfl).2 106 rfl).trans (hd 4 rfl).1
      refine W2 (dj := 104) (e220.trans (bT h199)) (OpT.move (.bool (decide (nx < 0))) e221 ?_)
      refine WL.nil ?_
      exact oneQ.mk ⟨rfl, st218⟩
     ·intro vals ρ w223 X hd h0 st222
      have e224 : ρ 5 = ov15 := (h0 5 rfl).trans hs189
      have e225 : ρ 107 = (.bool (decide (nx < 0))) := ((hd 5 rfl).2 107 rfl).trans (hd 5 rfl).1
      refine WL.pass (dj := 107) (c := true) rfl rfl rfl (e225.trans (bT h200)) rfl ?_
      refine WL.nil ?_
      exact oneQ.mk ⟨rfl, st222⟩
     ·intro vals ρ w227 X hd h0 st226
      have e228 : ρ 18 = (ni b) := (h0 18 rfl).trans rfl
      have e229 : ρ 107 = (.bool (decide (nx < 0))) := ((hd 5 rfl).2 107 rfl).trans (hd 5 rfl).1
      refine WL.pass (dj := 107) (c := true) rfl rfl rfl (e229.trans (bT h200)) rfl ?_
      refine WL.nil ?_
      exact oneQ.mk ⟨rfl, st226⟩
     ·intro vals ρ w231 X hd h0 st230
      have e232 : ρ 107 = (.bool (decide (nx < 0))) := ((hd 5 rfl).2 107 rfl).trans (hd 5 rfl).1
      have e233 : ρ 108 = undef := ((hd 6 rfl).2 108 rfl).trans (hd 6 rfl).1
      have e234 : ρ 109 = undef := ((hd 7 rfl).2 109 rfl).trans (hd 7 rfl).1
      refine WL.pass (dj := 107) (c := true) rfl rfl rfl (e232.trans (bT h200)) rfl ?_
      refine WL.nil ?_
      exact oneQ.mk ⟨rfl, st230⟩
     ·intro vals ρ w236 X hd h0 st235
      have e237 : ρ 107 = (.bool (decide (nx < 0))) := ((hd 5 rfl).2 107 rfl).trans (hd 5 rfl).1
      have e238 : ρ 110 = undef := ((hd 8 rfl).2 110 rfl).trans (hd 8 rfl).1
      refine WL.pass (dj := 107) (c := true) rfl rfl rfl (e237.trans (bT h200)) rfl ?_
      refine WL.nil ?_
      exact oneQ.mk ⟨rfl, st235⟩
     ·intro vals ρ w240 X hd h0 st239
      have e241 : ρ 107 = (.bool (decide (nx < 0))) := ((hd 5 rfl).2 107 rfl).trans (hd 5 rfl).1
      have e242 : ρ 111 = undef := ((hd 9 rfl).2 111 rfl).trans (hd 9 rfl).1
      refine WL.pass (dj := 107) (c := true) rfl rfl rfl (e241.trans (bT h200)) rfl ?_
      refine WL.nil ?_
      exact oneQ.mk ⟨rfl, st239⟩
     ·intro vals ρ w244 X hd h0 st243
      have e245 : ρ 107 = (.bool (decide (nx < 0))) := ((hd 5 rfl).2 107 rfl).trans (hd 5 rfl).1
      have e246 : ρ 112 = undef := ((hd 10 rfl).2 112 rfl).trans (hd 10 rfl).1
      refine WL.pass (dj := 107) (c := true) rfl rfl rfl (e245.trans (bT h200)) rfl ?_
      refine WL.nil ?_
      exact oneQ.mk ⟨rfl, st243⟩
     ·intro vals ρ w248 X hd h0 st247
      have e249 : ρ 5 = ov15 := (h0 5 rfl).trans hs189
      have e250 : ρ 107 = (.bool (decide (nx < 0))) := ((hd 5 rfl).2 107 rfl).trans (hd 5 rfl).1
      refine WL.pass (dj := 107) (c := true) rfl rfl rfl (e250.trans (bT h200)) rfl ?_
      refine WL.nil ?_
      exact oneQ.mk ⟨rfl, st247⟩
     ·intro vals ρ w252 X hd h0 st251
      have e253 : ρ 17 = (.int .i64 (nx)) := (h0 17 rfl).trans hs188
      have e254 : ρ 107 = (.bool (decide (nx < 0))) := ((hd 5 rfl).2 107 rfl).trans (hd 5 rfl).1
      refine WL.pass (dj := 107) (c := true) rfl rfl rfl (e254.trans (bT h200)) rfl ?_
      refine WL.nil ?_
      exact oneQ.mk ⟨rfl, st251⟩
     ·intro vals ρ w256 X hd h0 st255
      have e257 : ρ 107 = (.bool (decide (nx < 0))) := ((hd 5 rfl).2 107 rfl).trans (hd 5 rfl).1
      have e258 : ρ 114 = undef := ((hd 12 rfl).2 114 rfl).trans (hd 12 rfl).1
      have e259 : ρ 115 = undef := ((hd 13 rfl).2 115 rfl).trans (hd 13 rfl).1
      refine WL.pass (dj := 107) (c := true) rfl rfl rfl (e257.trans (bT h200)) rfl ?_
      refine WL.nil ?_
      exact oneQ.mk ⟨rfl, st255⟩
     ·intro vals ρ w261 X hd h0 st260
      have e262 : ρ 107 = (.bool (decide (nx < 0))) := ((hd 5 rfl).2 107 rfl).trans (hd 5 rfl).1
      have e263 : ρ 116 = undef := ((hd 14 rfl).2 116 rfl).trans (hd 14 rfl).1
      refine WL.pass (dj := 107) (c := true) rfl rfl rfl (e262.trans (bT h200)) rfl ?_
      refine WL.nil ?_
      exact oneQ.mk ⟨rfl, st260⟩
     ·intro vals ρ w265 X hd h0 st264
      have e266 : ρ 107 = (.bool (decide (nx < 0))) := ((hd 5 rfl).2 107 rfl).trans (hd 5 rfl).1
      have e267 : ρ 117 = undef := ((hd 15 rfl).2 117 rfl).trans (hd 15 rfl).1
      refine WL.pass (dj := 107) (c := true) rfl rfl rfl (e266.trans (bT h200)) rfl ?_
      refine WL.nil ?_
      exact oneQ.mk ⟨rfl, st264⟩
     ·intro vals ρ w269 X hd h0 st268
      have e270 : ρ 107 = (.bool (decide (nx < 0))) := ((hd 5 rfl).2 107 rfl).trans (hd 5 rfl).1
      have e271 : ρ 118 = undef := ((hd 16 rfl).2 118 rfl).trans (hd 16 rfl).1
      refine WL.pass (dj := 107) (c := true) rfl rfl rfl (e270.trans (bT h200)) rfl ?_
      refine WL.nil ?_
      exact oneQ.mk ⟨rfl, st268⟩
     ·intro vals ρ w273 X hd h0 st272
      have e274 : ρ 107 = (.bool (decide (nx < 0))) := ((hd 5 rfl).2 107 rfl).trans (hd 5 rfl).1
      have e275 : ρ 113 = undef := ((hd 11 rfl).2 113 rfl).trans (hd 11 rfl).1
      have e276 : ρ 119 = undef := ((hd 17 rfl).2 119 rfl).trans (hd 17 rfl).1
      refine WL.pass (dj := 107) (c := true) rfl rfl rfl (e274.trans (bT h200)) rfl ?_
      refine WL.nil ?_
      exact oneQ.mk ⟨rfl, st272⟩
     ·intro vals ρ w278 X hd h0 st277
      have e279 : ρ 104 = (.bool (decide (wv = 0))) := ((hd 2 rfl).2 104 rfl).trans (hd 2 rfl).1
      have e280 : ρ 107 = (.bool (decide (nx < 0))) := ((hd 5 rfl).2 107 rfl).trans (hd 5 rfl).1
      have e281 : ρ 120 = undef := ((hd 18 rfl).2 120 rfl).trans (hd 18 rfl).1
      refine W2 (dj := 104) (e279.trans (bT h199)) (OpT.pickT (.bool true) (e280.trans (bT h200)) rfl ?_)
      refine WL.nil ?_
      exact oneQ.mk ⟨rfl, st277⟩
     ·intro vals ρ w283 X hd h0 st282
      have e284 : ρ 104 = (.bool (decide (wv = 0))) := ((hd 2 rfl).2 104 rfl).trans (hd 2 rfl).1
      have e285 : ρ 121 = (.bool true) := ((hd 19 rfl).2 121 rfl).trans (hd 19 rfl).1
      refine W1 (OpT.pickT (.bool true) (e284.trans (bT h199)) e285 ?_)
      refine WL.nil ?_
      exact oneQ.mk ⟨rfl, st282⟩
     intro vals ρ288 w287 hv h0 st286
     replace st286 : St Z162 w34 w287 (Row 37 1 ov o.length cells :: Blk wb 3 ((ws).map (Value.int .i64)) :: L) := st286
     have e289 : ρ288 5 = ov15 := (h0 5 rfl).trans hs189
     have e290 : ρ288 6 = (sl wb σ.out.length σ.out.length) := (h0 6 rfl).trans hs190
     have e291 : ρ288 7 = (sl ab σ.out.length σ.out.length) := (h0 7 rfl).trans hs191
     have e292 : ρ288 16 = ov := (h0 16 rfl).trans hs192
     have e293 : ρ288 17 = (.int .i64 (nx)) := (h0 17 rfl).trans hs188
     have e294 : ρ288 18 = (ni b) := (h0 18 rfl).trans rfl
     have e295 : ρ288 92 = (ni (σ.out.length)) := (h0 92 rfl).trans hs193
     have e296 : ρ288 93 = (ni jj) := (h0 93 rfl).trans hs194
     have e297 : ρ288 95 = (sl wb σ.out.length σ.out.length) := (h0 95 rfl).trans hs195
     have e298 : ρ288 96 = (ni (σ.out.length)) := (h0 96 rfl).trans hs196
     have e299 : ρ288 97 = (ni b) := (h0 97 rfl).trans hs187
     have e300 : ρ288 122 = (.bool true) := ((hv 20 rfl).2 122 rfl).trans (hv 20 rfl).1
     clear hv h0
     refine Wnt ?_
     refine WC.condT e300 ?_
     refine WC.region ?_
     refine W1 (OpT.move (ni b) e294 ?_)
     refine W1 (OpT.assign (ni b) rfl ?_)
     refine WL.nil ?_
     refine blkQ_n ?_
     refine thenQ_n ?_
     refine WC.region ?_
     refine W1 (OpT.iadd .i64 (((b : Nat) : Int)) (1) (((b + 1 : Nat) : Int)) e299 rfl (wadd (a := b) (b := 1) (by omega)) ?_)
     refine W1 (OpT.move (ni (b + 1)) rfl ?_)
     refine WL.nil ?_
     have e301 : pickP σ.out ws (b + 1) = ((b : Nat) : Int) := by
       rw [pick_step, ← HP]; unfold pickS
       exact if_pos ⟨by rw [hwv]; exact h199, .inl h200⟩
     exact loopQ_n _ (by clear hnx; omega) ⟨b + 1, ((b : Nat) : Int), rfl, by omega, e301.symm, .inr ⟨b, rfl, (show b < σ.out.length by omega)⟩, rfl, rfl, e289, e290, e291, e292, e295, e296, e297, e298, st286⟩
    obtain ⟨nk, rfl, hnk⟩ := nxNat hnx h200
    obtain ⟨pb, hpb⟩ : ∃ x, σ.out[b]? = some x := ⟨_, List.getElem?_eq_getElem (by omega)⟩
    have hlpb := List.length_pos_iff.2 (hne pb (List.mem_of_getElem? hpb))
    obtain ⟨spb, hspb⟩ : ∃ x, pb[0]? = some x := ⟨_, List.getElem?_eq_getElem (by omega)⟩
    obtain ⟨pn, hpn⟩ : ∃ x, σ.out[nk]? = some x := ⟨_, List.getElem?_eq_getElem (by omega)⟩
    have hlpn := List.length_pos_iff.2 (hne pn (List.mem_of_getElem? hpn))
    obtain ⟨spn, hspn⟩ : ∃ x, pn[0]? = some x := ⟨_, List.getElem?_eq_getElem (by omega)⟩
    obtain ⟨adq1, csq1, hEq1, hrq1, hRq1⟩ := Rl.sl_el hL167 hpb
    have hRq1c := hRq1
    obtain ⟨sv100021, rfl, hs100022⟩ := hRq1
    obtain ⟨adq2, csq2, hEq2, hrq2, hRq2⟩ := Rl.sl_el hs100022 hspb
    have hRq2c := hRq2
    obtain rfl := hRq2
    obtain ⟨adq3, csq3, hEq3, hrq3, hRq3⟩ := Rl.sl_el hL167 hpn
    have hRq3c := hRq3
    obtain ⟨sv100061, rfl, hs100062⟩ := hRq3
    obtain ⟨adq4, csq4, hEq4, hrq4, hRq4⟩ := Rl.sl_el hs100062 hspn
    have hRq4c := hRq4
    obtain rfl := hRq4
    refine WC.draw 21 (fun jj vv => match jj with | 0 => vv = (.int .i64 (wv)) | 1 => vv = (.bool (decide (wv = 0))) | 2 => vv = (.bool (decide (wv = 0))) | 3 => vv = (ni nk) | 4 => vv = (.bool (decide (((nk : Nat) : Int) < 0))) | 5 => vv = (.bool (decide (((nk : Nat) : Int) < 0))) | 6 => vv = ov15 | 7 => vv = (ni b) | 8 => vv = (.pointer (some adq1)) | 9 => vv = sv100021 | 10 => vv = (.pointer (some adq2)) | 11 => vv = (.string spb) | 12 => vv = ov15 | 13 => vv = (ni nk) | 14 => vv = (.pointer (some adq3)) | 15 => vv = sv100061 | 16 => vv = (.pointer (some adq4)) | 17 => vv = (.string spn) | 18 => vv = (.bool (Op.bytesLess (spb).toList (spn).toList)) | 19 => vv = (.bool (Op.bytesLess (spb).toList (spn).toList)) | 20 => vv = (.bool (Op.bytesLess (spb).toList (spn).toList)) | _ => True) (fun _ _ => []) st185 fmix (by kernel_rfl) ((obS (obS (obS (obS (obS (obS (obS (obS (obS (obS (obS (obS (obS (obS (obS (obS (obS (obS (obS (obS (obS ob0 ?_) ?_) ?_) ?_) ?_) ?_) ?_) ?_) ?_) ?_) ?_) ?_) ?_) ?_) ?_) ?_) ?_) ?_) ?_) ?_) ?_)) ?_
    ·intro vals ρ w303 X hd h0 st302
     have e304 : ρ 19 = (.int .i64 (wv)) := (h0 19 rfl).trans rfl
     refine W1 (OpT.move (.int .i64 (wv)) e304 ?_)
     refine WL.nil ?_
     exact oneQ.mk ⟨rfl, st302⟩
    ·intro vals ρ w306 X hd h0 st305
     have e307 : ρ 102 = (.int .i64 (wv)) := ((hd 0 rfl).2 102 rfl).trans (hd 0 rfl).1
     refine W1 (OpT.ieq .i64 (wv) (0) e307 rfl ?_)
     refine WL.nil ?_
     exact oneQ.mk ⟨rfl, st305⟩
    ·intro vals ρ w309 X hd h0 st308
     have e310 : ρ 103 = (.bool (decide (wv = 0))) := ((hd 1 rfl).2 103 rfl).trans (hd 1 rfl).1
     refine W1 (OpT.move (.bool (decide (wv = 0))) e310 ?_)
     refine WL.nil ?_
     exact oneQ.mk ⟨rfl, st308⟩
    ·intro vals ρ w312 X hd h0 st311
     have e313 : ρ 17 = (ni nk) := (h0 17 rfl).trans hs188
     have e314 : ρ 104 = (.bool (decide (wv = 0))) := ((hd 2 rfl).2 104 rfl).trans (hd 2 rfl).1
     refine W2 (dj := 104) (e314.trans (bT h199)) (OpT.move (ni nk) e313 ?_)
     refine WL.nil ?_
     exact oneQ.mk ⟨rfl, st311⟩
    ·intro vals ρ w316 X hd h0 st315
     have e317 : ρ 104 = (.bool (decide (wv = 0))) := ((hd 2 rfl).2 104 rfl).trans (hd 2 rfl).1
     have e318 : ρ 105 = (ni nk) := ((hd 3 rfl).2 105 rfl).trans (hd 3 rfl).1
     refine W2 (dj := 104) (e317.trans (bT h199)) (OpT.ilt .i64 (((nk : Nat) : Int)) (0) e318 rfl ?_)
     refine WL.nil ?_
     exact oneQ.mk ⟨rfl, st315⟩
    ·intro vals ρ w320 X hd h0 st319
     have e321 : ρ 104 = (.bool (decide (wv = 0))) := ((hd 2 rfl).2 104 rfl).trans (hd 2 rfl).1
     have e322 : ρ 106 = (.bool (decide (((nk : Nat) : Int) < 0))) := ((hd 4 rfl).2 106 rfl).trans (hd 4 rfl).1
     refine W2 (dj := 104) (e321.trans (bT h199)) (OpT.move (.bool (decide (((nk : Nat) : Int) < 0))) e322 ?_)
     refine WL.nil ?_
     exact oneQ.mk ⟨rfl, st319⟩
    ·intro vals ρ w324 X hd h0 st323
     have e325 : ρ 5 = ov15 := (h0 5 rfl).trans hs189
     have e326 : ρ 107 = (.bool (decide (((nk : Nat) : Int) < 0))) := ((hd 5 rfl).2 107 rfl).trans (hd 5 rfl).1
     refine W2 (dj := 107) (e326.trans (bF h200)) (OpT.move ov15 e325 ?_)
     refine WL.nil ?_
     exact oneQ.mk ⟨rfl, st323⟩
    ·intro vals ρ w328 X hd h0 st327
     have e329 : ρ 18 = (ni b) := (h0 18 rfl).trans rfl
     have e330 : ρ 107 = (.bool (decide (((nk : Nat) : Int) < 0))) := ((hd 5 rfl).2 107 rfl).trans (hd 5 rfl).1
     refine W2 (dj := 107) (e330.trans (bF h200)) (OpT.move (ni b) e329 ?_)
     refine WL.nil ?_
     exact oneQ.mk ⟨rfl, st327⟩
    ·intro vals ρ w332 X hd h0 st331
     have e333 : ρ 107 = (.bool (decide (((nk : Nat) : Int) < 0))) := ((hd 5 rfl).2 107 rfl).trans (hd 5 rfl).1
     have e334 : ρ 108 = ov15 := ((hd 6 rfl).2 108 rfl).trans (hd 6 rfl).1
     have e335 : ρ 109 = (ni b) := ((hd 7 rfl).2 109 rfl).trans (hd 7 rfl).1
     refine W2 (dj := 107) (e333.trans (bF h200)) (OpT.idxE tu80 ts37 e334 .i64 (b) e335 hEq1 ?_)
     refine WL.nil ?_
     exact oneQ.mk ⟨rfl, st331⟩
    ·intro vals ρ w342 X hd h0 st341
     have e343 : ρ 107 = (.bool (decide (((nk : Nat) : Int) < 0))) := ((hd 5 rfl).2 107 rfl).trans (hd 5 rfl).1
     have e344 : ρ 110 = (.pointer (some adq1)) := ((hd 8 rfl).2 110 rfl).trans (hd 8 rfl).1
     refine W2 (dj := 107) (e343.trans (bF h200)) (OpT.loadS adq1 sv100021 ta37 e344 (hrq1.cell st341 (j := 0) rfl) ?_)
     refine WL.nil ?_
     exact oneQ.mk ⟨rfl, st341⟩
    ·intro vals ρ w346 X hd h0 st345
     have e347 : ρ 107 = (.bool (decide (((nk : Nat) : Int) < 0))) := ((hd 5 rfl).2 107 rfl).trans (hd 5 rfl).1
     have e348 : ρ 111 = sv100021 := ((hd 9 rfl).2 111 rfl).trans (hd 9 rfl).1
     refine W2 (dj := 107) (e347.trans (bF h200)) (OpT.idxE tu37 ts9 e348 .i64 (0) rfl hEq2 ?_)
     refine WL.nil ?_
     exact oneQ.mk ⟨rfl, st345⟩
    ·intro vals ρ w355 X hd h0 st354
     have e356 : ρ 107 = (.bool (decide (((nk : Nat) : Int) < 0))) := ((hd 5 rfl).2 107 rfl).trans (hd 5 rfl).1
     have e357 : ρ 112 = (.pointer (some adq2)) := ((hd 10 rfl).2 112 rfl).trans (hd 10 rfl).1
     refine W2 (dj := 107) (e356.trans (bF h200)) (OpT.loadS adq2 (.string spb) ta9 e357 (hrq2.cell st354 (j := 0) rfl) ?_)
     refine WL.nil ?_
     exact oneQ.mk ⟨rfl, st354⟩
    ·intro vals ρ w359 X hd h0 st358
     have e360 : ρ 5 = ov15 := (h0 5 rfl).trans hs189
     have e361 : ρ 107 = (.bool (decide (((nk : Nat) : Int) < 0))) := ((hd 5 rfl).2 107 rfl).trans (hd 5 rfl).1
     refine W2 (dj := 107) (e361.trans (bF h200)) (OpT.move ov15 e360 ?_)
     refine WL.nil ?_
     exact oneQ.mk ⟨rfl, st358⟩
    ·intro vals ρ w363 X hd h0 st362
     have e364 : ρ 17 = (ni nk) := (h0 17 rfl).trans hs188
     have e365 : ρ 107 = (.bool (decide (((nk : Nat) : Int) < 0))) := ((hd 5 rfl).2 107 rfl).trans (hd 5 rfl).1
     refine W2 (dj := 107) (e365.trans (bF h200)) (OpT.move (ni nk) e364 ?_)
     refine WL.nil ?_
     exact oneQ.mk ⟨rfl, st362⟩
    ·intro vals ρ w367 X hd h0 st366
     have e368 : ρ 107 = (.bool (decide (((nk : Nat) : Int) < 0))) := ((hd 5 rfl).2 107 rfl).trans (hd 5 rfl).1
     have e369 : ρ 114 = ov15 := ((hd 12 rfl).2 114 rfl).trans (hd 12 rfl).1
     have e370 : ρ 115 = (ni nk) := ((hd 13 rfl).2 115 rfl).trans (hd 13 rfl).1
     refine W2 (dj := 107) (e368.trans (bF h200)) (OpT.idxE tu80 ts37 e369 .i64 (nk) e370 hEq3 ?_)
     refine WL.nil ?_
     exact oneQ.mk ⟨rfl, st366⟩
    ·intro vals ρ w377 X hd h0 st376
     have e378 : ρ 107 = (.bool (decide (((nk : Nat) : Int) < 0))) := ((hd 5 rfl).2 107 rfl).trans (hd 5 rfl).1
     have e379 : ρ 116 = (.pointer (some adq3)) := ((hd 14 rfl).2 116 rfl).trans (hd 14 rfl).1
     refine W2 (dj := 107) (e378.trans (bF h200)) (OpT.loadS adq3 sv100061 ta37 e379 (hrq3.cell st376 (j := 0) rfl) ?_)
     refine WL.nil ?_
     exact oneQ.mk ⟨rfl, st376⟩
    ·intro vals ρ w381 X hd h0 st380
     have e382 : ρ 107 = (.bool (decide (((nk : Nat) : Int) < 0))) := ((hd 5 rfl).2 107 rfl).trans (hd 5 rfl).1
     have e383 : ρ 117 = sv100061 := ((hd 15 rfl).2 117 rfl).trans (hd 15 rfl).1
     refine W2 (dj := 107) (e382.trans (bF h200)) (OpT.idxE tu37 ts9 e383 .i64 (0) rfl hEq4 ?_)
     refine WL.nil ?_
     exact oneQ.mk ⟨rfl, st380⟩
    ·intro vals ρ w390 X hd h0 st389
     have e391 : ρ 107 = (.bool (decide (((nk : Nat) : Int) < 0))) := ((hd 5 rfl).2 107 rfl).trans (hd 5 rfl).1
     have e392 : ρ 118 = (.pointer (some adq4)) := ((hd 16 rfl).2 118 rfl).trans (hd 16 rfl).1
     refine W2 (dj := 107) (e391.trans (bF h200)) (OpT.loadS adq4 (.string spn) ta9 e392 (hrq4.cell st389 (j := 0) rfl) ?_)
     refine WL.nil ?_
     exact oneQ.mk ⟨rfl, st389⟩
    ·intro vals ρ w394 X hd h0 st393
     have e395 : ρ 107 = (.bool (decide (((nk : Nat) : Int) < 0))) := ((hd 5 rfl).2 107 rfl).trans (hd 5 rfl).1
     have e396 : ρ 113 = (.string spb) := ((hd 11 rfl).2 113 rfl).trans (hd 11 rfl).1
     have e397 : ρ 119 = (.string spn) := ((hd 17 rfl).2 119 rfl).trans (hd 17 rfl).1
     refine W2 (dj := 107) (e395.trans (bF h200)) (OpT.slt (spb) (spn) e396 e397 ?_)
     refine WL.nil ?_
     exact oneQ.mk ⟨rfl, st393⟩
    ·intro vals ρ w399 X hd h0 st398
     have e400 : ρ 104 = (.bool (decide (wv = 0))) := ((hd 2 rfl).2 104 rfl).trans (hd 2 rfl).1
     have e401 : ρ 107 = (.bool (decide (((nk : Nat) : Int) < 0))) := ((hd 5 rfl).2 107 rfl).trans (hd 5 rfl).1
     have e402 : ρ 120 = (.bool (Op.bytesLess (spb).toList (spn).toList)) := ((hd 18 rfl).2 120 rfl).trans (hd 18 rfl).1
     refine W2 (dj := 104) (e400.trans (bT h199)) (OpT.pickF (.bool (Op.bytesLess (spb).toList (spn).toList)) (e401.trans (bF h200)) e402 ?_)
     refine WL.nil ?_
     exact oneQ.mk ⟨rfl, st398⟩
    ·intro vals ρ w404 X hd h0 st403
     have e405 : ρ 104 = (.bool (decide (wv = 0))) := ((hd 2 rfl).2 104 rfl).trans (hd 2 rfl).1
     have e406 : ρ 121 = (.bool (Op.bytesLess (spb).toList (spn).toList)) := ((hd 19 rfl).2 121 rfl).trans (hd 19 rfl).1
     refine W1 (OpT.pickT (.bool (Op.bytesLess (spb).toList (spn).toList)) (e405.trans (bT h199)) e406 ?_)
     refine WL.nil ?_
     exact oneQ.mk ⟨rfl, st403⟩
    intro vals ρ409 w408 hv h0 st407
    replace st407 : St Z162 w34 w408 (Row 37 1 ov o.length cells :: Blk wb 3 ((ws).map (Value.int .i64)) :: L) := st407
    have e410 : ρ409 5 = ov15 := (h0 5 rfl).trans hs189
    have e411 : ρ409 6 = (sl wb σ.out.length σ.out.length) := (h0 6 rfl).trans hs190
    have e412 : ρ409 7 = (sl ab σ.out.length σ.out.length) := (h0 7 rfl).trans hs191
    have e413 : ρ409 16 = ov := (h0 16 rfl).trans hs192
    have e414 : ρ409 17 = (ni nk) := (h0 17 rfl).trans hs188
    have e415 : ρ409 18 = (ni b) := (h0 18 rfl).trans rfl
    have e416 : ρ409 92 = (ni (σ.out.length)) := (h0 92 rfl).trans hs193
    have e417 : ρ409 93 = (ni jj) := (h0 93 rfl).trans hs194
    have e418 : ρ409 95 = (sl wb σ.out.length σ.out.length) := (h0 95 rfl).trans hs195
    have e419 : ρ409 96 = (ni (σ.out.length)) := (h0 96 rfl).trans hs196
    have e420 : ρ409 97 = (ni b) := (h0 97 rfl).trans hs187
    have e421 : ρ409 122 = (.bool (Op.bytesLess (spb).toList (spn).toList)) := ((hv 20 rfl).2 122 rfl).trans (hv 20 rfl).1
    clear hv h0
    refine Wnt ?_
    refine WC.cond ((Op.bytesLess (spb).toList (spn).toList)) e421 (fun h422 => ?_) (fun h422 => ?_)
    ·refine WC.region ?_
     refine W1 (OpT.move (ni b) e415 ?_)
     refine W1 (OpT.assign (ni b) rfl ?_)
     refine WL.nil ?_
     refine blkQ_n ?_
     refine thenQ_n ?_
     refine WC.region ?_
     refine W1 (OpT.iadd .i64 (((b : Nat) : Int)) (1) (((b + 1 : Nat) : Int)) e420 rfl (wadd (a := b) (b := 1) (by omega)) ?_)
     refine W1 (OpT.move (ni (b + 1)) rfl ?_)
     refine WL.nil ?_
     have e423 : pickP σ.out ws (b + 1) = ((b : Nat) : Int) := by
       rw [pick_step, ← HP]; unfold pickS
       simp only [Int.toNat_natCast, hpb, hpn, hdS, Option.getD_some, hspb, hspn]
       exact if_pos ⟨by rw [hwv]; exact h199, .inr h422⟩
     exact loopQ_n _ (by clear hnx; omega) ⟨b + 1, ((b : Nat) : Int), rfl, by omega, e423.symm, .inr ⟨b, rfl, (show b < σ.out.length by omega)⟩, rfl, rfl, e410, e411, e412, e413, e416, e417, e418, e419, st407⟩
    refine WC.skip ?_
    refine blkQ_n ?_
    refine thenQ_n ?_
    refine WC.region ?_
    refine W1 (OpT.iadd .i64 (((b : Nat) : Int)) (1) (((b + 1 : Nat) : Int)) e420 rfl (wadd (a := b) (b := 1) (by omega)) ?_)
    refine W1 (OpT.move (ni (b + 1)) rfl ?_)
    refine WL.nil ?_
    have e424 : pickP σ.out ws (b + 1) = ((nk : Nat) : Int) := by
      rw [pick_step, ← HP]; unfold pickS
      simp only [Int.toNat_natCast, hpb, hpn, hdS, Option.getD_some, hspb, hspn]
      exact if_neg (fun h => h.2.elim h200 (fun h2 => by rw [h422] at h2; cases h2))
    exact loopQ_n _ (by clear hnx; omega) ⟨b + 1, ((nk : Nat) : Int), rfl, by omega, e424.symm, .inr ⟨nk, rfl, hnk⟩, e414, rfl, e410, e411, e412, e413, e416, e417, e418, e419, st407⟩
   refine WC.draw 21 (fun jj vv => match jj with | 0 => vv = (.int .i64 (wv)) | 1 => vv = (.bool (decide (wv = 0))) | 2 => vv = (.bool (decide (wv = 0))) | 3 => vv = undef | 4 => vv = undef | 5 => vv = undef | 6 => vv = undef | 7 => vv = undef | 8 => vv = undef | 9 => vv = undef | 10 => vv = undef | 11 => vv = undef | 12 => vv = undef | 13 => vv = undef | 14 => vv = undef | 15 => vv = undef | 16 => vv = undef | 17 => vv = undef | 18 => vv = undef | 19 => vv = undef | 20 => vv = (.bool false) | _ => True) (fun _ _ => []) st185 fmix (by kernel_rfl) ((obS (obS (obS (obS (obS (obS (obS (obS (obS (obS (obS (obS (obS (obS (obS (obS (obS (obS (obS (obS (obS ob0 ?_) ?_) ?_) ?_) ?_) ?_) ?_) ?_) ?_) ?_) ?_) ?_) ?_) ?_) ?_) ?_) ?_) ?_) ?_) ?_) ?_)) ?_
   ·intro vals ρ w426 X hd h0 st425
    have e427 : ρ 19 = (.int .i64 (wv)) := (h0 19 rfl).trans rfl
    refine W1 (OpT.move (.int .i64 (wv)) e427 ?_)
    refine WL.nil ?_
    exact oneQ.mk ⟨rfl, st425⟩
   ·intro vals ρ w429 X hd h0 st428
    have e430 : ρ 102 = (.int .i64 (wv)) := ((hd 0 rfl).2 102 rfl).trans (hd 0 rfl).1
    refine W1 (OpT.ieq .i64 (wv) (0) e430 rfl ?_)
    refine WL.nil ?_
    exact oneQ.mk ⟨rfl, st428⟩
   ·intro vals ρ w432 X hd h0 st431
    have e433 : ρ 103 = (.bool (decide (wv = 0))) := ((hd 1 rfl).2 103 rfl).trans (hd 1 rfl).1
    refine W1 (OpT.move (.bool (decide (wv = 0))) e433 ?_)
    refine WL.nil ?_
    exact oneQ.mk ⟨rfl, st431⟩
   ·intro vals ρ w435 X hd h0 st434
    have e436 : ρ 17 = (.int .i64 (nx)) := (h0 17 rfl).trans hs188
    have e437 : ρ 104 = (.bool (decide (wv = 0))) := ((hd 2 rfl).2 104 rfl).trans (hd 2 rfl).1
    refine WL.pass (dj := 104) (c := false) rfl rfl rfl (e437.trans (bF h199)) rfl ?_
    refine WL.nil ?_
    exact oneQ.mk ⟨rfl, st434⟩
   ·intro vals ρ w439 X hd h0 st438
    have e440 : ρ 104 = (.bool (decide (wv = 0))) := ((hd 2 rfl).2 104 rfl).trans (hd 2 rfl).1
    have e441 : ρ 105 = undef := ((hd 3 rfl).2 105 rfl).trans (hd 3 rfl).1
    refine WL.pass (dj := 104) (c := false) rfl rfl rfl (e440.trans (bF h199)) rfl ?_
    refine WL.nil ?_
    exact oneQ.mk ⟨rfl, st438⟩
   ·intro vals ρ w443 X hd h0 st442
    have e444 : ρ 104 = (.bool (decide (wv = 0))) := ((hd 2 rfl).2 104 rfl).trans (hd 2 rfl).1
    have e445 : ρ 106 = undef := ((hd 4 rfl).2 106 rfl).trans (hd 4 rfl).1
    refine WL.pass (dj := 104) (c := false) rfl rfl rfl (e444.trans (bF h199)) rfl ?_
    refine WL.nil ?_
    exact oneQ.mk ⟨rfl, st442⟩
   ·intro vals ρ w447 X hd h0 st446
    have e448 : ρ 5 = ov15 := (h0 5 rfl).trans hs189
    have e449 : ρ 107 = undef := ((hd 5 rfl).2 107 rfl).trans (hd 5 rfl).1
    refine WL.passU (dj := 107) rfl rfl e449 ?_
    refine WL.nil ?_
    exact oneQ.mk ⟨rfl, st446⟩
   ·intro vals ρ w451 X hd h0 st450
    have e452 : ρ 18 = (ni b) := (h0 18 rfl).trans rfl
    have e453 : ρ 107 = undef := ((hd 5 rfl).2 107 rfl).trans (hd 5 rfl).1
    refine WL.passU (dj := 107) rfl rfl e453 ?_
    refine WL.nil ?_
    exact oneQ.mk ⟨rfl, st450⟩
   ·intro vals ρ w455 X hd h0 st454
    have e456 : ρ 107 = undef := ((hd 5 rfl).2 107 rfl).trans (hd 5 rfl).1
    have e457 : ρ 108 = undef := ((hd 6 rfl).2 108 rfl).trans (hd 6 rfl).1
    have e458 : ρ 109 = undef := ((hd 7 rfl).2 109 rfl).trans (hd 7 rfl).1
    refine WL.passU (dj := 107) rfl rfl e456 ?_
    refine WL.nil ?_
    exact oneQ.mk ⟨rfl, st454⟩
   ·intro vals ρ w460 X hd h0 st459
    have e461 : ρ 107 = undef := ((hd 5 rfl).2 107 rfl).trans (hd 5 rfl).1
    have e462 : ρ 110 = undef := ((hd 8 rfl).2 110 rfl).trans (hd 8 rfl).1
    refine WL.passU (dj := 107) rfl rfl e461 ?_
    refine WL.nil ?_
    exact oneQ.mk ⟨rfl, st459⟩
   ·intro vals ρ w464 X hd h0 st463
    have e465 : ρ 107 = undef := ((hd 5 rfl).2 107 rfl).trans (hd 5 rfl).1
    have e466 : ρ 111 = undef := ((hd 9 rfl).2 111 rfl).trans (hd 9 rfl).1
    refine WL.passU (dj := 107) rfl rfl e465 ?_
    refine WL.nil ?_
    exact oneQ.mk ⟨rfl, st463⟩
   ·intro vals ρ w468 X hd h0 st467
    have e469 : ρ 107 = undef := ((hd 5 rfl).2 107 rfl).trans (hd 5 rfl).1
    have e470 : ρ 112 = undef := ((hd 10 rfl).2 112 rfl).trans (hd 10 rfl).1
    refine WL.passU (dj := 107) rfl rfl e469 ?_
    refine WL.nil ?_
    exact oneQ.mk ⟨rfl, st467⟩
   ·intro vals ρ w472 X hd h0 st471
    have e473 : ρ 5 = ov15 := (h0 5 rfl).trans hs189
    have e474 : ρ 107 = undef := ((hd 5 rfl).2 107 rfl).trans (hd 5 rfl).1
    refine WL.passU (dj := 107) rfl rfl e474 ?_
    refine WL.nil ?_
    exact oneQ.mk ⟨rfl, st471⟩
   ·intro vals ρ w476 X hd h0 st475
    have e477 : ρ 17 = (.int .i64 (nx)) := (h0 17 rfl).trans hs188
    have e478 : ρ 107 = undef := ((hd 5 rfl).2 107 rfl).trans (hd 5 rfl).1
    refine WL.passU (dj := 107) rfl rfl e478 ?_
    refine WL.nil ?_
    exact oneQ.mk ⟨rfl, st475⟩
   ·intro vals ρ w480 X hd h0 st479
    have e481 : ρ 107 = undef := ((hd 5 rfl).2 107 rfl).trans (hd 5 rfl).1
    have e482 : ρ 114 = undef := ((hd 12 rfl).2 114 rfl).trans (hd 12 rfl).1
    have e483 : ρ 115 = undef := ((hd 13 rfl).2 115 rfl).trans (hd 13 rfl).1
    refine WL.passU (dj := 107) rfl rfl e481 ?_
    refine WL.nil ?_
    exact oneQ.mk ⟨rfl, st479⟩
   ·intro vals ρ w485 X hd h0 st484
    have e486 : ρ 107 = undef := ((hd 5 rfl).2 107 rfl).trans (hd 5 rfl).1
    have e487 : ρ 116 = undef := ((hd 14 rfl).2 116 rfl).trans (hd 14 rfl).1
    refine WL.passU (dj := 107) rfl rfl e486 ?_
    refine WL.nil ?_
    exact oneQ.mk ⟨rfl, st484⟩
   ·intro vals ρ w489 X hd h0 st488
    have e490 : ρ 107 = undef := ((hd 5 rfl).2 107 rfl).trans (hd 5 rfl).1
    have e491 : ρ 117 = undef := ((hd 15 rfl).2 117 rfl).trans (hd 15 rfl).1
    refine WL.passU (dj := 107) rfl rfl e490 ?_
    refine WL.nil ?_
    exact oneQ.mk ⟨rfl, st488⟩
   ·intro vals ρ w493 X hd h0 st492
    have e494 : ρ 107 = undef := ((hd 5 rfl).2 107 rfl).trans (hd 5 rfl).1
    have e495 : ρ 118 = undef := ((hd 16 rfl).2 118 rfl).trans (hd 16 rfl).1
    refine WL.passU (dj := 107) rfl rfl e494 ?_
    refine WL.nil ?_
    exact oneQ.mk ⟨rfl, st492⟩
   ·intro vals ρ w497 X hd h0 st496
    have e498 : ρ 107 = undef := ((hd 5 rfl).2 107 rfl).trans (hd 5 rfl).1
    have e499 : ρ 113 = undef := ((hd 11 rfl).2 113 rfl).trans (hd 11 rfl).1
    have e500 : ρ 119 = undef := ((hd 17 rfl).2 119 rfl).trans (hd 17 rfl).1
    refine WL.passU (dj := 107) rfl rfl e498 ?_
    refine WL.nil ?_
    exact oneQ.mk ⟨rfl, st496⟩
   ·intro vals ρ w502 X hd h0 st501
    have e503 : ρ 104 = (.bool (decide (wv = 0))) := ((hd 2 rfl).2 104 rfl).trans (hd 2 rfl).1
    have e504 : ρ 107 = undef := ((hd 5 rfl).2 107 rfl).trans (hd 5 rfl).1
    have e505 : ρ 120 = undef := ((hd 18 rfl).2 120 rfl).trans (hd 18 rfl).1
    refine WL.pass (dj := 104) (c := false) rfl rfl rfl (e503.trans (bF h199)) rfl ?_
    refine WL.nil ?_
    exact oneQ.mk ⟨rfl, st501⟩
   ·intro vals ρ w507 X hd h0 st506
    have e508 : ρ 104 = (.bool (decide (wv = 0))) := ((hd 2 rfl).2 104 rfl).trans (hd 2 rfl).1
    have e509 : ρ 121 = undef := ((hd 19 rfl).2 121 rfl).trans (hd 19 rfl).1
    refine W1 (OpT.pickF (.bool false) (e508.trans (bF h199)) rfl ?_)
    refine WL.nil ?_
    exact oneQ.mk ⟨rfl, st506⟩
   intro vals ρ512 w511 hv h0 st510
   replace st510 : St Z162 w34 w511 (Row 37 1 ov o.length cells :: Blk wb 3 ((ws).map (Value.int .i64)) :: L) := st510
   have e513 : ρ512 5 = ov15 := (h0 5 rfl).trans hs189
   have e514 : ρ512 6 = (sl wb σ.out.length σ.out.length) := (h0 6 rfl).trans hs190
   have e515 : ρ512 7 = (sl ab σ.out.length σ.out.length) := (h0 7 rfl).trans hs191
   have e516 : ρ512 16 = ov := (h0 16 rfl).trans hs192
   have e517 : ρ512 17 = (.int .i64 (nx)) := (h0 17 rfl).trans hs188
   have e518 : ρ512 18 = (ni b) := (h0 18 rfl).trans rfl
   have e519 : ρ512 92 = (ni (σ.out.length)) := (h0 92 rfl).trans hs193
   have e520 : ρ512 93 = (ni jj) := (h0 93 rfl).trans hs194
   have e521 : ρ512 95 = (sl wb σ.out.length σ.out.length) := (h0 95 rfl).trans hs195
   have e522 : ρ512 96 = (ni (σ.out.length)) := (h0 96 rfl).trans hs196
   have e523 : ρ512 97 = (ni b) := (h0 97 rfl).trans hs187
   have e524 : ρ512 122 = (.bool false) := ((hv 20 rfl).2 122 rfl).trans (hv 20 rfl).1
   clear hv h0
   refine Wnt ?_
   refine WC.condF e524 ?_
   refine WC.skip ?_
   refine blkQ_n ?_
   refine thenQ_n ?_
   refine WC.region ?_
   refine W1 (OpT.iadd .i64 (((b : Nat) : Int)) (1) (((b + 1 : Nat) : Int)) e523 rfl (wadd (a := b) (b := 1) (by omega)) ?_)
   refine W1 (OpT.move (ni (b + 1)) rfl ?_)
   refine WL.nil ?_
   have e525 : pickP σ.out ws (b + 1) = nx := by
     rw [pick_step, ← HP]; unfold pickS
     exact if_neg (fun h => h199 (by have h1 := h.1; rw [hwv] at h1; exact h1))
   exact loopQ_n _ (by clear hnx; omega) ⟨b + 1, nx, rfl, by omega, e525.symm, hnx, e517, rfl, e513, e514, e515, e516, e519, e520, e521, e522, st510⟩
  refine WC.exit ?_
  refine thenQ_x ?_
  refine loopQ_x ?_
  refine blkQ_hit ?_
  refine thenQ_n ?_
  refine WC.seq ?_
  have eb : b = σ.out.length := by omega
  subst eb
  have hp1 := hp0
  rw [hwl, ← HP] at hp1
  obtain ⟨nk, rfl, hnk⟩ := nxNat hnx (by omega)
  obtain ⟨pk, hpk⟩ : ∃ x, σ.out[nk]? = some x := ⟨_, List.getElem?_eq_getElem (by omega)⟩
  obtain ⟨ax, hax⟩ : ∃ x, (abvP (lwAt (drawF rs) σ) σ.out.length σ.out.length)[nk]? = some x := ⟨_, List.getElem?_eq_getElem (by rw [abvP_len]; exact hnk)⟩
  rw [hwl, ← HP, Int.toNat_natCast, hax] at hdec
  simp only [Option.getD_some] at hdec
  rw [hwl, ← HP, Int.toNat_natCast, hpk] at hq2
  simp only [Option.getD_some] at hq2
  refine WC.region ?_
  refine W1 (OpT.move (sl wb σ.out.length σ.out.length) hs190 ?_)
  refine W1 (OpT.move (ni nk) hs188 ?_)
  refine W1 (OpT.idx 1 ⟨wb, 0, none⟩ ⟨wb, nk, none⟩ (σ.out.length) (σ.out.length) .i64 (((nk : Nat) : Int)) tu120 ts3 rfl rfl (by omega) (by omega) (add_at _ _) ?_)
  refine WL.stepN (OpT.storeS st185 1 (ii (-1)) rfl ts3 rfl rfl rfl rfl (by rw [Nat.blt_eq]; simp only [List.length_map, waitP_len, List.length_set]; omega) (fun w526 st527 => ?_))
  refine Wnt ?_
  refine WC.seq ?_
  refine Wsr ?_
  refine W1 (OpT.move (sl ab σ.out.length σ.out.length) hs191 ?_)
  refine W1 (OpT.move (ni nk) hs188 ?_)
  refine W1 (OpT.idxX tu121 ts120 ha164 rfl .i64 (nk) rfl hax (fun ad529 cs530 hr531 hR532 => ?_))
  have hR532c := hR532
  obtain ⟨iv533, rfl, hi534⟩ := hR532
  refine W1 (OpT.loadS ad529 iv533 ta120 rfl (hr531.cell st527 (j := 0) rfl) ?_)
  refine W1 (OpT.lenR rfl tu120 hi534 rfl ?_)
  refine W1 (OpT.move (ii 0) rfl ?_)
  refine Wnt ?_
  refine WC.block ?_
  have st535 : St Z162 w34 w526 (Row 37 1 ov o.length cells :: Blk wb 3 ((ws.set nk (-1)).map (Value.int .i64)) :: L) := by rw [List.map_set]; exact st527
  refine WC.loop (fun m ρ wz => ∃ (d : Nat), ∃ (wd : List Int), m = ax.length - d ∧ d ≤ ax.length ∧ (ax.take d).foldlM decS (ws.set nk (-1)) = some wd ∧ wd.length = σ.out.length ∧ ρ 133 = (ni d) ∧ ρ 5 = ov15 ∧ ρ 6 = (sl wb σ.out.length σ.out.length) ∧ ρ 7 = (sl ab σ.out.length σ.out.length) ∧ ρ 16 = ov ∧ ρ 17 = (ni nk) ∧ ρ 92 = (ni (σ.out.length)) ∧ ρ 93 = (ni jj) ∧ ρ 131 = iv533 ∧ ρ 132 = (ni (ax.length)) ∧ St Z162 w34 wz (Row 37 1 ov o.length cells :: Blk wb 3 ((wd).map (Value.int .i64)) :: L)) _ ⟨0, ws.set nk (-1), rfl, by omega, rfl, by rw [List.length_set]; exact hwl, rfl, hs189, hs190, hs191, hs192, hs188, hs193, hs194, rfl, rfl, st535⟩ ?_
  rintro m536 ρ537 w538 ⟨d, wd, hm551, hp540, HD, hwd, hs541, hs542, hs543, hs544, hs545, hs546, hs547, hs548, hs549, hs550, st539⟩
  have hala := Rl.sl_le hi534
  refine Wsr ?_
  refine W1 (OpT.ilt .i64 (((d : Nat) : Int)) (((ax.length : Nat) : Int)) hs541 hs550 ?_)
  refine Wnt ?_
  refine WC.seq ?_
  refine WC.condP (((d : Nat) : Int) < ((ax.length : Nat) : Int)) rfl (fun h552 => ?_) (fun h552 => ?_)
  ·refine WC.skip ?_
   refine thenQ_n ?_
   refine WC.seq ?_
   refine WC.block ?_
   refine WC.seq ?_
   obtain ⟨jx, hjx⟩ : ∃ x, ax[d]? = some x := ⟨_, List.getElem?_eq_getElem (by omega)⟩
   obtain ⟨wq, hwq1, hwq2⟩ := fold_at hdec HD hjx
   obtain ⟨kq, rfl, hkq, dv, hdv, hd1, hd2, rfl⟩ := decS_inv hwq1
   refine WC.region ?_
   refine W1 (OpT.idxX tu120 ts3 hi534 hs549 .i64 (d) hs541 hjx (fun ad554 cs555 hr556 hR557 => ?_))
   have hR557c := hR557
   obtain rfl := hR557
   refine W1 (OpT.loadS ad554 (ni kq) ta3 rfl (hr556.cell st539 (j := 0) rfl) ?_)
   refine W1 (OpT.assign (ni kq) rfl ?_)
   refine Wnr ?_
   refine W1 (OpT.move (sl wb σ.out.length σ.out.length) hs543 ?_)
   refine W1 (OpT.move (ni kq) rfl ?_)
   refine W1 (OpT.idx 1 ⟨wb, 0, none⟩ ⟨wb, kq, none⟩ (σ.out.length) (σ.out.length) .i64 (((kq : Nat) : Int)) tu120 ts3 rfl rfl (by omega) (by omega) (add_at _ _) ?_)
   refine W1 (OpT.loadS ⟨wb, kq, none⟩ (.int .i64 (dv)) ta3 rfl (st539.cellB (i := 1) rfl (map_get hdv)) ?_)
   refine W1 (OpT.isub .i64 (dv) (1) (dv - 1) rfl rfl (wrapI_i64 (by omega) (by omega)) ?_)
   refine W1 (OpT.idx 1 ⟨wb, 0, none⟩ ⟨wb, kq, none⟩ (σ.out.length) (σ.out.length) .i64 (((kq : Nat) : Int)) tu120 ts3 rfl rfl (by omega) (by omega) (add_at _ _) ?_)
   refine WL.stepN (OpT.storeS st539 1 (.int .i64 (dv - 1)) rfl ts3 rfl rfl rfl rfl (by rw [Nat.blt_eq]; simp only [List.length_map, waitP_len, List.length_set]; omega) (fun w558 st559 => ?_))
   refine WL.nil ?_
   refine blkQ_n ?_
   refine thenQ_n ?_
   refine WC.region ?_
   refine W1 (OpT.iadd .i64 (((d : Nat) : Int)) (1) (((d + 1 : Nat) : Int)) hs541 rfl (wadd (a := d) (b := 1) (by omega)) ?_)
   refine W1 (OpT.move (ni (d + 1)) rfl ?_)
   refine WL.nil ?_
   have st560 : St Z162 w34 w558 (Row 37 1 ov o.length cells :: Blk wb 3 ((wd.set kq (dv - 1)).map (Value.int .i64)) :: L) := by rw [List.map_set]; exact st559
   exact loopQ_n _ (by omega) ⟨d + 1, wd.set kq (dv - 1), rfl, by omega, hwq2, by rw [List.length_set]; exact hwd, rfl, hs542, hs543, hs544, hs545, hs546, hs547, hs548, hs549, hs550, st560⟩
  refine WC.exit ?_
  refine thenQ_x ?_
  refine loopQ_x ?_
  refine blkQ_hit ?_
  refine thenQ_n ?_
  have eTd : ax.take d = ax := List.take_of_length_le (by omega)
  rw [eTd] at HD
  have e9 : wd = w2 := Option.some.inj (HD.symm.trans hdec)
  subst e9
  refine WC.region ?_
  refine W1 (OpT.move ov hs545 ?_)
  refine W1 (OpT.move ov15 hs542 ?_)
  refine W1 (OpT.move (ni nk) hs546 ?_)
  refine W1 (OpT.idxX tu80 ts37 hL167 rfl .i64 (nk) rfl hpk (fun ad562 cs563 hr564 hR565 => ?_))
  have hR565c := hR565
  obtain ⟨sv566, rfl, hs567⟩ := hR565
  refine W1 (OpT.loadS ad562 sv566 ta37 rfl (hr564.cell st539 (j := 0) rfl) ?_)
  refine W1 (OpT.buildSlice st539 [(0, sv566)] [sv566] tu80 ts37 tz37 (mp1 rfl) (by first | (simp [Instr.fill, (Rl.sl_cells hs567)]; done) | (simp [Instr.fill, (Rl.sl_cells hs567)]; kernel_rfl)) (by decide) (fun b568 w569 st570 => ?_))
  have st571 : St Z162 w34 w569 (Blk b568 37 [sv566] :: Row 37 1 ov o.length cells :: Blk wb 3 ((wd).map (Value.int .i64)) :: L) := St.selT [Blk b568 37 [sv566], Row 37 1 ov o.length cells, Blk wb 3 ((wd).map (Value.int .i64))] [0, 1, 2] rfl (by decide) st570
  refine W1 (OpT.append st571 1 tu80 ts37 tz37 rfl tb37 (by decide) rfl rfl rfl (aC (Rl.sl_one hs567) aN) (by omega) (by omega) (fun v572 w573 st574 hn575 => ?_))
  have o576 := st574.rowOne (i := 0) rfl
  have c577 := st574.rowCel (i := 0) rfl
  refine W1 (OpT.assign v572 rfl ?_)
  refine WL.nil ?_
  refine blkQ_n ?_
  refine thenQ_n ?_
  refine WC.region ?_
  refine W1 (OpT.iadd .i64 (((jj : Nat) : Int)) (1) (((jj + 1 : Nat) : Int)) hs548 rfl (wadd (a := jj) (b := 1) (by omega)) ?_)
  refine W1 (OpT.move (ni (jj + 1)) rfl ?_)
  refine WL.nil ?_
  have st578 : St Z162 w34 w573 (Row 37 1 v572 (o ++ [pk]).length (cells ++ [sv566]) :: Blk wb 3 ((wd).map (Value.int .i64)) :: L) := by simp only [List.length_append, List.length_cons, List.length_nil]; exact st574
  exact loopQ_n _ (by omega) ⟨jj + 1, wd, o ++ [pk], v572, (cells ++ [sv566]), rfl, by omega, hq2, hwd, by simp [hoj], HR.snoc rfl ⟨_, rfl, hs567⟩, rfl, rfl, hs542, hs543, hs544, hs547, st578⟩
 refine WC.exit ?_
 refine thenQ_x ?_
 refine loopQ_x ?_
 refine blkQ_hit ?_
 refine thenQ_n ?_
 refine Wsr ?_
 refine W1 (OpT.move ov hs175 ?_)
 refine W1 (OpT.assign ov rfl ?_)
 refine Wnt ?_
 refine WC.ret <| retQ.one ov rfl ?_
 have eTj : (List.range σ.out.length).take jj = List.range σ.out.length := List.take_of_length_le (by rw [List.length_range]; omega)
 rw [eTj, hall] at HF
 have e8 := Option.some.inj HF
 subst e8
 exact ⟨_, rfl, cells, _, _, (hx8.trans (hx18.trans hx163)), HR, (St.selD 2 [0] rfl rfl (by decide) st172)⟩

end Go.Ped
set_option linter.unusedVariables false
set_option maxRecDepth 20000
namespace Go.Ped
open Go Go.Eng Go.RowKit Go.Proofs

theorem cal55 : CallOk Tryz.prog 55 := ⟨⟨Tryz.f55, Tryz.func55, rfl, by decide⟩⟩
open Go.Maps Go.Sort Go.Shelf
abbrev cmpL8 (x y : List UInt8) : Int := Lib.compareBytes x y
theorem cmp_lt : ∀ x y : List UInt8, ltOf cmpL8 x y = decide (x < y)
  | [], [] => by simp [ltOf, cmpL8, Lib.compareBytes]
  | [], _ :: _ => by simp [ltOf, cmpL8, Lib.compareBytes]
  | _ :: _, [] => by simp [ltOf, cmpL8, Lib.compareBytes]
  | a :: x, b :: y => by
    have ih := cmp_lt x y
    unfold ltOf cmpL8 at *
    rw [Lib.compareBytes]
    by_cases h1 : a < b
    · rw [if_pos h1]; simp [List.cons_lt_cons_iff, h1]
    · rw [if_neg h1]
      by_cases h2 : b < a
      · have h3 : ¬ a = b := fun e => by subst e; exact h1 h2
        rw [if_pos h2]; simp [List.cons_lt_cons_iff, h1, h3]
      · have h3 : a = b := UInt8.le_antisymm (UInt8.not_lt.1 h2) (UInt8.not_lt.1 h1)
        subst h3
        rw [if_neg h2, ih]; simp [List.cons_lt_cons_iff]
theorem cmp_swo : SWO (ltOf cmpL8) where
  irrefl x := by rw [cmp_lt]; simp [List.lt_irrefl]
  trans x y z h1 h2 := by rw [cmp_lt] at *; simp only [decide_eq_true_eq] at *; exact List.lt_trans h1 h2
  ntrans x y z h1 h2 := by
    rw [cmp_lt] at *
    simp only [decide_eq_false_iff_not, List.not_lt] at *
    exact List.le_trans h2 h1
theorem cmp_ge (x y : List UInt8) : (!(ltOf cmpL8) y x) = leB x y := by
  rw [cmp_lt]
  show _ = decide (x ≤ y)
  rw [← decide_not]
  simp only [List.not_lt]
theorem cmp_reads (blk off size : Nat) (w : World) : CmpLays1 Tryz.prog 32 #[] encStr cmpL8 blk off size w := by
  refine CmpReads.lays (fun m os dk hs x y => ?_)
  refine (Any.strings_Compare Tryz.lays106 ⟨x.toArray⟩ ⟨y.toArray⟩ _).mono ?_
  rintro e w' ⟨rfl, rfl⟩
  exact ⟨rfl, 0, rfl⟩
def keyU (m : Se) : List (List UInt8) := m.map fun p => p.1.data.toList
section
variable {Z : Nat → Prop} {w0 w : World} {L : List Res}
theorem SortF_spec {v : Value} {ss : List (List UInt8)} (st : St Z w0 w (Row 9 1 v ss.length (ss.map encStr) :: L)) (hl : ss.length < 4294967296) (hne : ss ≠ []) : Calls Tryz.prog 55 #[v, .func (.func 32) #[] #[]] w (Ret fun r w' => r = .tuple #[] ∧ St Z w0 w' (Row 9 1 v ss.length ((ss.mergeSort leB).map encStr) :: L)) := by
  obtain ⟨S, ⟨hS, hrow⟩, hlt, H⟩ := st.focus (i := 0) rfl
  rcases hrow.2 with ⟨_, hz⟩ | ⟨gb, cap, cur, rfl, hbase, hgb, r1, r2, r3, r4⟩
  · exact absurd (List.eq_nil_of_length_eq_zero hz) hne
  · have hH : Holds encStr w gb 0 ss.toArray := holds_of_block hgb (by simpa using r4)
    have hgl : gb < w.heap.size := (Array.getElem?_eq_some_iff.1 hgb).1
    have hc := Any.slices_SortFunc_total Tryz.sortf55 encStr (fun _ => rfl) cmpL8 cmp_swo 32 #[] gb 0 cap ss.toArray w (enters_of Tryz.func32 (by kernel_rfl) rfl) (cmp_reads gb 0 ss.toArray.size w) hH hgl (by simp; omega) (fun x y h1 h2 => by
      rw [cmp_lt] at h1 h2
      simp only [decide_eq_false_iff_not, List.not_lt] at h1 h2
      exact List.le_antisymm h2 h1)
    refine (show Calls Tryz.prog 55 #[.slice (some ⟨gb, 0, none⟩) ss.length cap, .func (.func 32) #[] #[]] w _ from hc).mono ?_
    rintro e w' ⟨rfl, nn, os, rfl⟩
    refine ⟨_, rfl, rfl, ?_⟩
    have e1 : (fun x y => !(ltOf cmpL8) y x) = leB := by funext x y; exact cmp_ge x y
    rw [e1]
    have hg := grownBy_sorted (w := w) (g := gb) (n := nn) (os := os) (ss.mergeSort leB).toArray
    have hr := ownsRow_sorted (w := w) (n := nn) (os := os) (ss := ss) (ts := ss.mergeSort leB) (by simp) hbase hgb r1 r2 r3
    refine H _ (Row 9 1 (.slice (some ⟨gb, 0, none⟩) ss.length cap) ss.length ((ss.mergeSort leB).map encStr)) S hg.os hg.tape hg.output hg.size (fun k hk hn => hg.block k hk (fun e => hn ((hS k).2 e.symm))) ⟨hS, hr⟩ (fun k hk => ⟨Nat.lt_of_lt_of_le (hlt k hk).1 hg.size, .inl hk⟩)
theorem Mp_own {α : Type} {vf : α → Value} {mb i : Nat} {m : List (ByteArray × α)} (st : St Z w0 w L) (hi : L[i]? = some (Mp Value.string vf mb m)) (hk : ∀ k ∈ m.map Prod.fst, k.size ≤ maxLen) (hd : (m.map Prod.fst).Nodup) (hl : m.length < 4294967296) :
    ∃ n D, w.ownsMap (H := Unit) Tryz.prog 9 (fun _ => some (.nil, [])) mb n D ∧ (strKeys D).Perm (m.map fun p => p.1.data.toList) ∧ Maps.size D = m.length := by
  obtain ⟨S, ⟨hS, es, clock, hb, hm, hp, hc⟩, _⟩ := st.focus hi
  have hks : es.toList.map (fun e => e.key) = m.map (fun p => Value.string p.1) := by
    have := congrArg (List.map Prod.fst) hm
    simpa [List.map_map, Function.comp_def] using this
  have hsz : es.size = m.length := by have := congrArg List.length hm; simpa using this
  have hkey : ∀ x ∈ es.toList, ∃ p ∈ m, x.key = .string p.1 := by
    intro x hx
    have : x.key ∈ m.map (fun p => Value.string p.1) := by rw [← hks]; exact List.mem_map_of_mem hx
    obtain ⟨p, hp, e⟩ := List.mem_map.1 this
    exact ⟨p, hp, e.symm⟩
  have hu : Tryz.prog.underlying 9 = some .string := Tryz.underlying9
  have hrd : ∀ x ∈ es.toList, ∀ s, x.key = .string s → WideElems.rd (H := Unit) Tryz.prog 9 (fun _ => some (.nil, [])) x = some (.string s.data.toList, .nil) := by
    intro x hx s hs
    obtain ⟨p, hpm, e⟩ := hkey x hx
    have es' : p.1 = s := by rw [hs] at e; exact (Value.string.inj e).symm
    have := WideMaps.keyOf_string_mk hu (hk p.1 (List.mem_map_of_mem hpm))
    rw [es'] at this
    simp [WideElems.rd, hs, this]
  have F : WideElems.Fit (H := Unit) Tryz.prog 9 (fun _ => some (.nil, [])) es clock := by
    refine ⟨by rw [hsz]; simp only [maxLen]; omega, ⟨hc, hp.imp (fun h => Nat.ne_of_lt h), ?_⟩, ?_⟩
    · show (es.toList.map (fun e => e.key)).Nodup
      rw [hks, show (m.map fun p => Value.string p.1) = (m.map Prod.fst).map Value.string from by rw [List.map_map]; rfl]
      exact List.pairwise_map.2 (hd.imp (fun h e => h (by injection e)))
    · intro x hx
      obtain ⟨p, _, e⟩ := hkey x hx
      exact ⟨_, hrd x hx _ e⟩
  refine ⟨es.size, .map ((es.toList.map (WideElems.rg Tryz.prog 9 (fun _ => some (.nil, [])))).foldr DataW.insert []), ⟨es, clock, hb, F, Nat.le_refl _, rfl⟩, ?_, ?_⟩
  · show List.Perm (List.map (fun p : Lit × DataW Unit => strOf p.1) _) _
    refine ((WideShapes.sorted_perm _).map _).trans (List.Perm.of_eq ?_)
    rw [List.map_map]
    have e : es.toList.map ((fun p : Lit × DataW Unit => strOf p.1) ∘ WideElems.rg Tryz.prog 9 (fun _ => some (.nil, []))) = es.toList.map (fun e => match e.key with | .string s => s.data.toList | _ => []) := by
      refine List.map_congr_left (fun x hx => ?_)
      obtain ⟨p, _, e⟩ := hkey x hx
      simp only [Function.comp_def, WideElems.rg, hrd x hx _ e, Option.getD_some, e, strOf]
    rw [e]
    have := congrArg (List.map (fun v => match v with | Value.string s => s.data.toList | _ => [])) hks
    simpa [List.map_map, Function.comp_def] using this
  · rw [Maps.size_eq, (WideShapes.sorted_perm _).length_eq, List.length_map, Array.length_toList, hsz]
abbrev Ms (mb : Nat) (m : Se) : Res := Mp Value.string (fun _ : Unit => Value.agg #[]) mb m
theorem KeysS_spec {mb : Nat} (st : St Z w0 w L) : Calls Tryz.prog 30 #[.map (some mb)] w (Ret fun r w' => ∃ B, r = .func (.func 56) #[] #[.pointer (some ⟨B, 0, none⟩)] ∧ St Z w0 w' (Blk B 89 [.map (some mb)] :: L)) := by
  refine (callsIn_wide.1 (Tryz.maps_Keys_30 (some mb) w)).mono ?_
  rintro e w' ⟨rfl, rfl⟩
  exact ⟨_, rfl, _, rfl, st.alloc _ _⟩
theorem SF_spec {B mb : Nat} {m : Se} (st : St Z w0 w (Blk B 89 [.map (some mb)] :: Ms mb m :: L)) (hk : ∀ k ∈ sk m, k.size ≤ maxLen) (hd : (sk m).Nodup) (hl : m.length < 4294967296) (hne : m ≠ []) :
    Calls Tryz.prog 29 #[.func (.func 56) #[] #[.pointer (some ⟨B, 0, none⟩)], .func (.func 32) #[] #[]] w (Ret fun r w' => r.oneCell' = true ∧ r.cells = #[r] ∧ St Z w0 w' (Row 9 1 r m.length ((isort (sk m)).map Value.string) :: L)) := by
  obtain ⟨n, D, own, hperm0, hsz⟩ := Mp_own st (i := 1) rfl hk hd hl
  have hB := st.blk (i := 0) rfl
  have hBl : B < w.heap.size := (Array.getElem?_eq_some_iff.1 hB).1
  have hseq : SeqGives Fence.wide (5 - 1 - 1) Tryz.prog 56 #[.pointer (some ⟨B, 0, none⟩)] encStr (fun ss => ss.Perm (strKeys D)) (Maps.size D) w :=
    AnyZ.keys_gives (ρ := Tryz.keys30_ren) { Tryz.keys30 with } Fence.wide _ trivial rfl (by omega) B mb n D w hBl (by simp [World.cell?, hB]) own
  have cC := callsIn_wide.1 (AnyZ.collect_in Tryz.collect54 Fence.wide 5 trivial trivial rfl (by omega) 56 #[.pointer (some ⟨B, 0, none⟩)] trivial (enters_of Tryz.func56 (by kernel_rfl) rfl) _ _ (by rw [hsz]; simp only [maxLen]; omega) (by rw [hsz]; omega) w hseq)
  refine calls_of_WC (m := 12) (rs := [.tmp 4]) Tryz.func29 rfl rfl rfl rfl ?_
  refine WC.seq ?_
  refine WC.region ?_
  refine WL.step rfl (OpT.assign (.slice none 0 0) rfl ?_)
  refine WL.nil ?_
  refine thenQ_n ?_
  refine WC.seq ?_
  refine WC.region ?_
  refine WL.step rfl (OpT.move (.func (.func 56) #[] #[.pointer (some ⟨B, 0, none⟩)]) rfl ?_)
  refine WL.step rfl (OpT.callC cal54 [] [] [.func (.func 56) #[] #[.pointer (some ⟨B, 0, none⟩)]] rfl (ca1 rfl) (cC.mono ?_))
  rintro e w1 ⟨v, ss, rfl, hperm, hrow, hnil, hbel⟩
  refine ⟨_, rfl, ?_⟩
  refine WL.step rfl (OpT.assign v rfl ?_)
  refine WL.nil ?_
  refine thenQ_n ?_
  have hp2 : ss.Perm (keyU m) := hperm.trans hperm0
  have hlen : ss.length = m.length := by rw [hp2.length_eq, keyU, List.length_map]
  have st1 := (st.tl.tl.cons (L := L) hbel (Row 9 1 v ss.length (ss.map encStr)) (fun k => v.ownBlock = some k) ⟨fun _ => Iff.rfl, ownsRow_base_a hrow (Nat.zero_le _)⟩ (fun k hk => hrow.lt k hk))
  refine WC.seq ?_
  refine WC.region ?_
  refine WL.step rfl (OpT.move v rfl ?_)
  refine WL.step rfl (OpT.move (.func (.func 32) #[] #[]) rfl ?_)
  refine WL.step rfl (OpT.callS cal55 [] [] [v, .func (.func 32) #[] #[]] rfl (ca2 rfl rfl) (SortF_spec st1 (by omega) (fun e => hne (List.eq_nil_of_length_eq_zero (by rw [← hlen, e]; rfl)))) ?_)
  rintro u w2 ⟨rfl, st2⟩
  refine WL.nil ?_
  refine thenQ_n ?_
  refine WC.seq ?_
  refine WC.region ?_
  refine WL.step rfl (OpT.move v rfl ?_)
  refine WL.step rfl (OpT.assign v rfl ?_)
  refine WL.nil ?_
  refine thenQ_n ?_
  refine WC.ret <| retQ.one v rfl ?_
  rw [show ss.mergeSort leB = (keyU m).mergeSort leB from mergeSort_of_perm hp2, show keyU m = (sk m).map tlB from by simp [keyU, tlB, List.map_map, Function.comp_def], sorted_strs, hlen] at st2
  exact ⟨_, rfl, st2.rowOne (i := 0) rfl, st2.rowCel (i := 0) rfl, st2⟩
end
end Go.Ped
set_option linter.unusedVariables false
set_option maxRecDepth 20000
namespace Go.Ped
open Go Go.Eng Go.RowKit Go.Proofs

theorem tu89 : Tryz.prog.underlying 89 = some (.map 9 90) := by kernel_rfl
theorem ts90 : sizeB Tryz.prog 90 = some 0 := by kernel_rfl
theorem cal31 : CallOk Tryz.prog 31 := ⟨⟨Tryz.f31, Tryz.func31, rfl, by decide⟩⟩
theorem cal30 : CallOk Tryz.prog 30 := ⟨⟨Tryz.f30, Tryz.func30, rfl, by decide⟩⟩
theorem cal29 : CallOk Tryz.prog 29 := ⟨⟨Tryz.f29, Tryz.func29, rfl, by decide⟩⟩
theorem last_of {l : List ByteArray} (h : 0 < l.length) : ∃ l2 s, l = l2 ++ [s] := by
  rcases List.eq_nil_or_concat l with rfl | ⟨l2, s, rfl⟩
  · simp at h
  · exact ⟨l2, s, by simp⟩
theorem lastc {l : List ByteArray} {s : ByteArray} {ex : List Value} : ((l.map Value.string ++ [.string s]) ++ ex)[l.length]? = some (.string s) := by
  rw [List.append_assoc, List.getElem?_append_right (by simp)]; simp
theorem reach_spec {Z : Nat → Prop} {w0 w : World} {L : List Res} {mb : Nat} {mv : List (ByteArray × Value)} {rs : List Rul} {F : List ByteArray} {fv : Value} (hg : GF Z w0 mv (drawF rs)) (HB : Bnd rs) (hN : NOk rs) (hF : F.length < 4194304) (st : St Z w0 w (Row 9 1 fv F.length (F.map Value.string) :: Mv mb mv :: L)) : Calls Tryz.prog 31 #[(.map (some mb)), fv] w (Ret fun r w' => ∃ (sb : Nat) (m : Se), r = .map (some sb) ∧ RI rs F m [] ∧ St Z w0 w' (Ms sb m :: Mv mb mv :: L)) := by
 have ofv := st.rowOne (i := 0) rfl
 have cfv := st.rowCel (i := 0) rfl
 have hgl := hN.g.len
 have hsl : ∀ x, (gSuc (drawF rs) x).length < 1048576 := fun x => by have h := suc_sum rs (l := [x]) (by simp); have h2 := HB.b; rw [List.map_cons, List.map_nil, List.sum_cons, List.sum_nil] at h; omega
 refine calls_of_WC (m := 41) (rs := [.tmp 4]) Tryz.func31 rfl rfl rfl rfl ?_
 refine Wsr ?_
 refine W1 (OpT.assign (.map none) rfl ?_)
 refine Wns ?_
 refine W1 (OpT.makeMap Value.string (fun _ : Unit => Value.agg #[]) st (fun b1 w2 st3 => ?_))
 refine W1 (OpT.assign (.map (some b1)) rfl ?_)
 refine Wnt ?_
 refine WC.seq ?_
 refine WC.block ?_
 obtain ⟨sb, rfl⟩ : ∃ x, x = b1 := ⟨_, rfl⟩
 have st4 : St Z w0 w2 (Row 9 1 fv F.length (F.map Value.string) :: (Mp Value.string (fun _ : Unit => Value.agg #[]) sb ([] : List (ByteArray × Unit))) :: Mv mb mv :: L) := St.selT [(Mp Value.string (fun _ : Unit => Value.agg #[]) sb ([] : List (ByteArray × Unit))), Row 9 1 fv F.length (F.map Value.string), Mv mb mv] [1, 0, 2] rfl (by decide) st3
 refine WC.loop (fun m ρ wz => ∃ (l : List ByteArray), ∃ (sm : Se), ∃ (lv : Value), m = (F.length + (drawF rs).length - sm.length) * 16777216 + l.length ∧ RI rs F sm l ∧ ρ 1 = lv ∧ ρ 0 = (.map (some mb)) ∧ ρ 5 = (.map (some sb)) ∧ St Z w0 wz (Row 9 1 lv l.length (l.map Value.string) :: Ms sb sm :: Mv mb mv :: L)) _ ⟨F, [], fv, rfl, RI.start rs F, rfl, rfl, rfl, st4⟩ ?_
 rintro m5 ρ6 w7 ⟨l, sm, lv, hm12, HI, hs9, hs10, hs11, st8⟩
 have olv := st8.rowOne (i := 0) rfl
 have clv := st8.rowCel (i := 0) rfl
 have hlb := HI.lt hF HB.b
 have hle := HI.le
 have hle2 : sm.length ≤ F.length + (drawF rs).length := by simpa using hle
 refine WC.seq ?_
 refine Wsr ?_
 refine W1 (OpT.move lv hs9 ?_)
 refine W1 (OpT.lenRow st8 0 rfl rfl tu37 rfl ?_)
 refine W1 (OpT.igt .i64 (((l.length : Nat) : Int)) (0) rfl rfl ?_)
 refine Wnt ?_
 refine WC.condP (0 < ((l.length : Nat) : Int)) rfl (fun h13 => ?_) (fun h13 => ?_)
 ·refine WC.skip ?_
  refine thenQ_n ?_
  refine WC.block ?_
  refine WC.seq ?_
  obtain ⟨l2, s, hl3⟩ := last_of (l := l) (by have := h13; omega)
  have st14 : St Z w0 w7 (Row 9 1 lv (l2.length + 1) (l2.map Value.string ++ [.string s]) :: Ms sb sm :: Mv mb mv :: L) := by have e := (st8 : St Z w0 w7 (Row 9 1 lv l.length (l.map Value.string) :: Ms sb sm :: Mv mb mv :: L)); rw [hl3] at e; simpa using e
  rw [hl3] at HI
  have hl5 : l2.length + 1 = l.length := by rw [hl3]; simp
  have hsx := hsl s
  obtain ⟨gk, cap, ex, rfl, hE, hc, hm9, st15⟩ := St.openRow (by omega) st14
  refine WC.region ?_
  refine W1 (OpT.move (sl gk (l2.length + 1) cap) hs9 ?_)
  refine W1 (OpT.move (sl gk (l2.length + 1) cap) hs9 ?_)
  refine W1 (OpT.lenS _ (l2.length + 1) cap rfl tu37 rfl ?_)
  refine W1 (OpT.isub .i64 (((l2.length + 1 : Nat) : Int)) (1) (((l2.length : Nat) : Int)) rfl rfl (wsub1 (by omega)) ?_)
  refine W1 (OpT.idx 1 ⟨gk, 0, none⟩ ⟨gk, l2.length, none⟩ (l2.length + 1) cap .i64 (((l2.length : Nat) : Int)) tu37 ts9 rfl rfl (by omega) (by omega) (add_at _ _) ?_)
  refine W1 (OpT.loadS ⟨gk, l2.length, none⟩ (.string s) ta9 rfl (st15.cellB (i := 0) rfl lastc) ?_)
  refine W1 (OpT.assign (.string s) rfl ?_)
  refine Wns ?_
  refine W1 (OpT.move (sl gk (l2.length + 1) cap) hs9 ?_)
  refine W1 (OpT.move (sl gk (l2.length + 1) cap) hs9 ?_)
  refine W1 (OpT.lenS _ (l2.length + 1) cap rfl tu37 rfl ?_)
  refine W1 (OpT.isub .i64 (((l2.length + 1 : Nat) : Int)) (1) (((l2.length : Nat) : Int)) rfl rfl (wsub1 (by omega)) ?_)
  refine W1 (OpT.sliceHi (l2.length) tu37 ts9 rfl rfl (by omega) rfl ?_)
  refine W1 (OpT.assign (sl gk l2.length cap) rfl ?_)
  refine Wnt ?_
  refine WC.seq ?_
  have hE2 := hE
  have st16 := St.shutRow (n := l2.length) (sz := 1) (cap := cap) (cs := l2.map Value.string) (st15 : St Z w0 w7 (Blk gk 9 ((l2.map Value.string ++ [.string s]) ++ ex) :: Ms sb sm :: Mv mb mv :: L)) (by simp only [List.length_append, List.length_map, List.length_cons, List.length_nil] at *; omega) (by omega) hm9 (by rw [Nat.mul_one, List.append_assoc, List.take_append_of_le_length (by simp), List.take_of_length_le (by simp)])
  refine WC.region ?_
  refine W1 (OpT.move (.map (some sb)) hs11 ?_)
  refine W1 (OpT.move (.string s) rfl ?_)
  refine W1 (OpT.lookupOkU st16 1 rfl ko9 tu89 tz90 (s) rfl rfl ?_)
  refine W1 (OpT.move (.tuple #[(.agg #[]), (.bool ((mget sm s).isSome))]) rfl ?_)
  refine W1 (OpT.extract [(.agg #[]), (.bool ((mget sm s).isSome))] (.agg #[]) rfl rfl ?_)
  refine W1 (OpT.extract [(.agg #[]), (.bool ((mget sm s).isSome))] (.bool ((mget sm s).isSome)) rfl rfl ?_)
  refine W1 (OpT.alloc st16 (.agg #[]) [] tz90 rfl (fun b17 w18 st19 => ?_))
  refine WL.stepN (OpT.storeA st19 0 0 [] rfl ts90 rfl rfl rfl rfl rfl (fun w20 st21 => ?_))
  refine W1 (OpT.assign (.bool ((mget sm s).isSome)) rfl ?_)
  refine Wns ?_
  refine W1 (OpT.move (.bool ((mget sm s).isSome)) rfl ?_)
  refine W1 (OpT.not ((mget sm s).isSome) rfl ?_)
  refine Wnt ?_
  refine WC.cond ((!((mget sm s).isSome))) rfl (fun h22 => ?_) (fun h22 => ?_)
  ·refine WC.seq ?_
   refine WC.region ?_
   refine W1 (OpT.move (.map (some sb)) hs11 ?_)
   refine W1 (OpT.move (.string s) rfl ?_)
   refine W1 (OpT.build [] [] tz90 tp90 mp0 rfl ?_)
   refine WL.stepN (OpT.mapSet st21 2 rfl ko9 tu89 (s) (()) rfl rfl rfl (fun w23 st24 => ?_))
   refine Wnr ?_
   refine W1 (OpT.move (sl gk l2.length cap) rfl ?_)
   refine W1 (OpT.move (.map (some mb)) hs10 ?_)
   refine W1 (OpT.move (.string s) rfl ?_)
   refine W1 (OpT.lookupV st24 3 rfl ko9 tu77 tz37 (s) rfl rfl ?_)
   have st26 : St Z w0 w23 (Row 9 1 (sl gk l2.length cap) l2.length (l2.map Value.string) :: Blk b17 90 [] :: Mp Value.string (fun _ : Unit => Value.agg #[]) sb (mset sm s ()) :: Mv mb mv :: L) := (St.selD 4 [1, 0, 2, 3] rfl rfl (by decide) st24)
   have hq32 : rStr.sl Z w0 ((mget mv s).getD vn) (gSuc (drawF rs) s) := (hg.rd s)
   refine W1 (OpT.appendR (xs := gSuc (drawF rs) s) st26 tu37 ts9 tz9 rfl tb9 rfl rfl hq32 (by omega) (by omega) (fun v27 w28 st29 => ?_))
   have o30 := st29.rowOne (i := 0) rfl
   have c31 := st29.rowCel (i := 0) rfl
   refine W1 (OpT.assign v27 rfl ?_)
   refine WL.nil ?_
   refine blkQ_n ?_
   have hsm : (mget sm s).isSome = false := by simpa using h22
   have st33 : St Z w0 w28 (Row 9 1 v27 ((l2 ++ gSuc (drawF rs) s).length) ((l2 ++ gSuc (drawF rs) s).map Value.string) :: Ms sb (mset sm s ()) :: Mv mb mv :: L) := by rw [List.length_append, List.map_append]; exact (St.selD 4 [0, 2, 3] rfl rfl (by decide) st29)
   have HI2 := HI.new hsm
   have hg5 := HI2.lt hF HB.b
   have hg6 : (mset sm s ()).length = sm.length + 1 := by rw [mset_new hsm]; simp
   have hg7 : (mset sm s ()).length ≤ F.length + (drawF rs).length := by have := HI2.le; simpa using this
   exact loopQ_n _ (by have hl4 := congrArg List.length hl3; simp only [List.length_append, List.length_cons, List.length_nil] at *; omega) ⟨(l2 ++ gSuc (drawF rs) s), (mset sm s ()), v27, rfl, HI2, rfl, hs10, hs11, st33⟩
  refine WC.skip ?_
  refine blkQ_n ?_
  have hsm : (mget sm s).isSome = true := by simpa using h22
  have st34 : St Z w0 w20 (Row 9 1 (sl gk l2.length cap) l2.length (l2.map Value.string) :: Ms sb sm :: Mv mb mv :: L) := by exact (St.selD 4 [1, 2, 3] rfl rfl (by decide) st21)
  have HI2 := HI.old hsm
  exact loopQ_n _ (by have hl4 := congrArg List.length hl3; simp only [List.length_append, List.length_cons, List.length_nil] at *; omega) ⟨l2, sm, (sl gk l2.length cap), rfl, HI2, rfl, hs10, hs11, st34⟩
 refine WC.exit ?_
 refine thenQ_x ?_
 refine loopQ_x ?_
 refine blkQ_hit ?_
 refine thenQ_n ?_
 refine Wsr ?_
 refine W1 (OpT.move (.map (some sb)) hs11 ?_)
 refine W1 (OpT.assign (.map (some sb)) rfl ?_)
 refine Wnt ?_
 refine WC.ret <| retQ.one (.map (some sb)) rfl ?_
 have e0 : l = [] := List.eq_nil_of_length_eq_zero (by have := h13; omega)
 subst e0
 exact ⟨_, rfl, sb, sm, rfl, HI, (St.selD 3 [1, 2] rfl rfl (by decide) st8)⟩

theorem reach_sizes {rs : List Rul} {x : ByteArray} {m : Se} (h : RI rs [x] m []) (hx : x.size ≤ maxLen) (hN : NOk rs) : ∀ k ∈ sk m, k.size ≤ maxLen := by
  intro k hk
  rcases List.mem_append.1 (h.in_ k (.inl hk)) with h1 | h1
  · rw [List.mem_singleton.1 h1]; exact hx
  · exact hN.g.size k h1
theorem reach_ne {rs : List Rul} {x : ByteArray} {m : Se} (h : RI rs [x] m []) : m ≠ [] := by
  intro e
  subst e
  have := (h.fin x).2 ⟨x, by simp, .refl x⟩
  cases this
theorem reach_len {rs : List Rul} {x : ByteArray} {m : Se} (h : RI rs [x] m []) (hN : NOk rs) : m.length < 4294967296 := by
  have h1 : (sk m).length ≤ [x].length + (drawF rs).length := h.le
  have h2 := hN.g.len
  rw [List.length_map] at h1
  simp only [List.length_cons, List.length_nil] at h1
  omega
theorem Reach_spec {Z : Nat → Prop} {w0 w : World} {L : List Res} (st : St Z w0 w L) (rv : Value) (rs : List Rul) (hr : rRul.sl Z w0 rv rs) (HB : Bnd rs) (hN : NOk rs) (x : ByteArray) (hxs : x.size ≤ maxLen) : Calls Tryz.prog 10 #[(.agg #[rv]), (.string x)] w (Ret fun r w' => ∃ xs, RchL rs x xs ∧ r.oneCell' = true ∧ r.cells = #[r] ∧ St Z w0 w' (Row 9 1 r xs.length (xs.map Value.string) :: L)) := by
 have hal0 := Rl.sl_le hr
 refine calls_of_WC (m := 12) (rs := [.tmp 4]) Tryz.func10 rfl rfl rfl rfl ?_
 refine Wsr ?_
 refine W1 (OpT.box st (.agg #[rv]) [rv] rfl rfl (fun b1 w2 st3 => ?_))
 refine W1 (OpT.assign vn rfl ?_)
 refine Wns ?_
 refine W1 (OpT.loadA ⟨b1, 0, none⟩ 1 [rv] ta25 ts25 rfl ((st3.rowB (i := 0) rfl).part 0 1) rfl ?_)
 refine W1 (OpT.callS cal26 [] [] [(.agg #[rv])] rfl (ca1 rfl) (draw_spec st3 _ rs hr HB) ?_)
 rintro v10 w11 ⟨mb4, mv5, Z6, w7, hx8, rfl, hg9, st12⟩
 have hL13 := hx8.sl hr
 refine W1 (OpT.move (.string x) rfl ?_)
 refine W1 (OpT.buildSlice st12 [(0, (.string x))] [(.string x)] tu37 ts9 tz9 (mp1 rfl) (by kernel_rfl) (by decide) (fun b14 w15 st16 => ?_))
 have st17 := St.blkRow (n := 1) (st16 : St Z6 w7 w15 (Blk b14 9 [(.string x)] :: Mv mb4 mv5 :: Blk b1 25 [rv] :: L)) rfl (by decide)
 refine W1 (OpT.callS cal31 [] [] [(.map (some mb4)), (.slice (some ⟨b14, 0, none⟩) 1 1)] rfl (ca2 rfl rfl) (reach_spec (F := [x]) hg9 HB hN (by simp) st17) ?_)
 rintro v21 w22 ⟨sb18, sm19, rfl, hi20, st23⟩
 refine W1 (OpT.callS cal30 [] [] [(.map (some sb18))] rfl (ca1 rfl) (KeysS_spec st23) ?_)
 rintro v25 w26 ⟨B24, rfl, st27⟩
 refine W1 (OpT.callS cal29 [] [] [(.func (.func 56) #[] #[(pt B24 0)]), (.func (.func 32) #[] #[])] rfl (ca2 rfl rfl) (SF_spec st27 (reach_sizes hi20 hxs hN) hi20.nod (reach_len hi20 hN) (reach_ne hi20)) ?_)
 rintro v30 w31 ⟨o28, c29, st32⟩
 rw [show sm19.length = (isort (sk sm19)).length from by rw [isort_len, List.length_map]] at st32
 refine W1 (OpT.assign v30 rfl ?_)
 refine Wnt ?_
 refine WC.ret <| retQ.one v30 rfl ?_
 exact ⟨_, rfl, _, RI.list hi20, o28, c29, (hx8.back (St.selD 3 [0] rfl rfl (by decide) st32))⟩

end Go.Ped
set_option linter.unusedVariables false
set_option maxRecDepth 20000
namespace Go.Ped
open Go Go.Eng Go.RowKit Go.Proofs

theorem tp25 : placesB Tryz.prog 25 = some [(0, 1)] := by kernel_rfl
theorem tz25 : zeroB Tryz.prog 25 = some (.agg #[(.slice none 0 0)]) := by kernel_rfl
theorem cal40 : CallOk Tryz.prog 40 := ⟨⟨Tryz.f40, Tryz.func40, rfl, by decide⟩⟩
theorem cal35 : CallOk Tryz.prog 35 := ⟨⟨Tryz.f35, Tryz.func35, rfl, by decide⟩⟩
def hdF (rs : List Rul) : Se := rs.foldl (fun m r => mset m r.pred ()) []
theorem hd_mem2 (q : ByteArray) : ∀ (rs : List Rul) (m : Se), (mget (rs.foldl (fun m r => mset m r.pred ()) m) q).isSome = ((mget m q).isSome || rs.any fun r => decide (q = r.pred))
  | [], m => by simp
  | r :: rs, m => by rw [List.foldl_cons, hd_mem2 q rs, isSome_mset, List.any_cons, Bool.or_comm (decide (q = r.pred)), Bool.or_assoc]
theorem hd_some (rs : List Rul) (q : ByteArray) : (mget (hdF rs) q).isSome = rs.any fun r => decide (q = r.pred) := by
  unfold hdF; rw [hd_mem2]; rfl
def oneE (rs : List Rul) (e : Edg) : Bool := (mget (hdF rs) e.to).isSome && decide (e.kind ≠ 1)
def oneB (rs : List Rul) : Bool := rs.all (fun r => !aggsB r) && (edgesF rs).all (fun e => !oneE rs e)
def plainB (rs : List Rul) : Bool := !(rs.any makesB) && oneB rs
theorem one_agg {rs : List Rul} {i : Nat} {x : Rul} (hx : rs[i]? = some x) (h : aggsB x = true) : oneB rs = false := by
  unfold oneB
  have : rs.all (fun r => !aggsB r) = false := by
    rw [Bool.eq_false_iff]; intro hh
    have := List.all_eq_true.1 hh x (List.mem_of_getElem? hx)
    rw [h] at this; cases this
  rw [this]; rfl
theorem one_edge {rs : List Rul} {i : Nat} {x : Edg} (hx : (edgesF rs)[i]? = some x) (h : oneE rs x = true) : oneB rs = false := by
  unfold oneB
  have : (edgesF rs).all (fun e => !oneE rs e) = false := by
    rw [Bool.eq_false_iff]; intro hh
    have := List.all_eq_true.1 hh x (List.mem_of_getElem? hx)
    rw [h] at this; cases this
  rw [this, Bool.and_false]
theorem OneLevel_spec {Z : Nat → Prop} {w0 w : World} {L : List Res} (st : St Z w0 w L) (rv : Value) (rs : List Rul) (hr : rRul.sl Z w0 rv rs) (HB : Bnd rs) : Calls Tryz.prog 35 #[rv] w (Ret fun r w' => r = .bool (oneB rs) ∧ St Z w0 w' L) := by
 have hal0 := Rl.sl_le hr
 refine calls_of_WC (m := 46) (rs := [.tmp 2]) Tryz.func35 rfl rfl rfl rfl ?_
 refine Wsr ?_
 refine W1 (OpT.assign (.bool false) rfl ?_)
 refine Wns ?_
 refine W1 (OpT.makeMap Value.string (fun _ : Unit => Value.agg #[]) st (fun b1 w2 st3 => ?_))
 refine W1 (OpT.assign (.map (some b1)) rfl ?_)
 refine Wnt ?_
 refine WC.seq ?_
 refine Wsr ?_
 refine W1 (OpT.move rv rfl ?_)
 refine W1 (OpT.lenR rfl tu22 hr rfl ?_)
 refine W1 (OpT.move (ii 0) rfl ?_)
 refine Wnt ?_
 refine WC.block ?_
 obtain ⟨sb, rfl⟩ : ∃ x, x = b1 := ⟨_, rfl⟩
 have st4 : St Z w0 w2 (Ms sb (hdF (rs.take 0)) :: L) := st3
 refine WC.loop (fun m ρ wz => ∃ (i : Nat), m = rs.length - i ∧ i ≤ rs.length ∧ (rs.take i).all (fun r => !aggsB r) = true ∧ ρ 13 = (ni i) ∧ ρ 0 = rv ∧ ρ 3 = (.map (some sb)) ∧ ρ 11 = rv ∧ ρ 12 = (ni (rs.length)) ∧ St Z w0 wz (Ms sb (hdF (rs.take i)) :: L)) _ ⟨0, rfl, by omega, rfl, rfl, rfl, rfl, rfl, rfl, st4⟩ ?_
 rintro m5 ρ6 w7 ⟨i, hm15, hp9, HA, hs10, hs11, hs12, hs13, hs14, st8⟩
 refine Wsr ?_
 refine W1 (OpT.ilt .i64 (((i : Nat) : Int)) (((rs.length : Nat) : Int)) hs10 hs14 ?_)
 refine Wnt ?_
 refine WC.seq ?_
 refine WC.condP (((i : Nat) : Int) < ((rs.length : Nat) : Int)) rfl (fun h16 => ?_) (fun h16 => ?_)
 ·refine WC.skip ?_
  refine thenQ_n ?_
  refine WC.seq ?_
  refine WC.block ?_
  refine Wsr ?_
  obtain ⟨x17, hx17⟩ : ∃ x, (rs)[i]? = some x := ⟨_, List.getElem?_eq_getElem (by omega)⟩
  refine W1 (OpT.idxX tu22 ts54 hr hs13 .i64 (i) hs10 hx17 (fun ad18 cs19 hr20 hR21 => ?_))
  have hR21c := hR21
  obtain ⟨hv22, bv23, rfl, hh24, hb25⟩ := hR21
  refine W1 (OpT.loadA ad18 3 [(.string x17.pred), hv22, bv23] ta54 ts54 rfl ((hr20.at st8).part 0 3) rfl ?_)
  refine W1 (OpT.alloc st8 (.agg #[ve, vn, vn]) [ve, vn, vn] tz54 rfl (fun b26 w27 st28 => ?_))
  refine WL.stepN (OpT.storeA st28 0 3 [(.string x17.pred), hv22, bv23] rfl ts54 rfl rfl (aC rfl (aC (Rl.sl_one hh24) (aC (Rl.sl_one hb25) aN))) rfl rfl (fun w29 st30 => ?_))
  refine Wnt ?_
  refine WC.seq ?_
  refine Wsr ?_
  refine W1 (OpT.loadA ⟨b26, 0, none⟩ 3 [(.string x17.pred), hv22, bv23] ta54 ts54 rfl ((st30.rowB (i := 0) rfl).part 0 3) rfl ?_)
  refine W1 (OpT.callS cal22 [] [] [(.agg #[(.string x17.pred), hv22, bv23])] rfl (ca1 rfl) (aggregates_spec st30 x17 _ _ hh24 hb25) ?_)
  rintro v31 w32 ⟨rfl, st33⟩
  refine Wnt ?_
  refine WC.cond ((aggsB x17)) rfl (fun h34 => ?_) (fun h34 => ?_)
  ·refine WC.seq ?_
   refine WC.region ?_
   refine W1 (OpT.assign (.bool false) rfl ?_)
   refine Wnt ?_
   refine WC.ret <| thenQ_r <| blkQ_r <| thenQ_r <| loopQ_r <| blkQ_r <| thenQ_r <| retQ.one (.bool false) rfl ?_
   exact ⟨_, rfl, by rw [one_agg hx17 h34], (St.selD 2 [] rfl rfl (by decide) st33)⟩
  refine WC.skip ?_
  refine thenQ_n ?_
  refine WC.region ?_
  refine W1 (OpT.move (.map (some sb)) hs12 ?_)
  refine W1 (OpT.field 0 ⟨b26, 0, none⟩ ⟨b26, 0, none⟩ tf54_0 rfl rfl ?_)
  refine W1 (OpT.loadS ⟨b26, 0, none⟩ (.string x17.pred) ta9 rfl (st33.cellB (i := 0) rfl rfl) ?_)
  refine W1 (OpT.build [] [] tz90 tp90 mp0 rfl ?_)
  refine WL.stepN (OpT.mapSet st33 1 rfl ko9 tu89 (x17.pred) (()) rfl rfl rfl (fun w35 st36 => ?_))
  refine WL.nil ?_
  refine blkQ_n ?_
  refine thenQ_n ?_
  refine WC.region ?_
  refine W1 (OpT.iadd .i64 (((i : Nat) : Int)) (1) (((i + 1 : Nat) : Int)) hs10 rfl (wadd (a := i) (b := 1) (by omega)) ?_)
  refine W1 (OpT.move (ni (i + 1)) rfl ?_)
  refine WL.nil ?_
  have st37 : St Z w0 w35 (Ms sb (hdF (rs.take (i + 1))) :: L) := by unfold hdF; rw [fold_take hx17]; exact (St.selD 2 [1] rfl rfl (by decide) st36)
  exact loopQ_n _ (by omega) ⟨i + 1, rfl, by omega, all_step (p := aggsB) hx17 HA h34, rfl, hs11, hs12, hs13, hs14, st37⟩
 refine WC.exit ?_
 refine thenQ_x ?_
 refine loopQ_x ?_
 refine blkQ_hit ?_
 refine thenQ_n ?_
 refine WC.seq ?_
 refine Wsr ?_
 refine W1 (OpT.move rv hs11 ?_)
 refine W1 (OpT.build [(0, rv)] [rv] tz25 tp25 (mp1 rfl) (by first | (simp [Instr.fill, Value.cells, (Rl.sl_cells hr)]; done) | simp [Instr.fill, (Rl.sl_cells hr), Value.cells.eq_2, show ∀ cs, (Value.agg cs).cells = cs from fun _ => rfl]) ?_)
 refine W1 (OpT.callS cal7 [] [] [(.agg #[rv])] rfl (ca1 rfl) (Edges_spec st8 _ rs hr HB) ?_)
 rintro v40 w41 ⟨o38, c39, st42⟩
 refine W1 (OpT.lenRow st42 0 rfl rfl tu26 rfl ?_)
 refine W1 (OpT.move (ii 0) rfl ?_)
 refine Wnt ?_
 refine WC.block ?_
 have eT : rs.take i = rs := List.take_of_length_le (by omega)
 rw [eT] at HA
 obtain ⟨Z43, hx44, hs45, st46⟩ := St.freezeRow (r := rEdg) (xs := (edgesF rs)) (st42 : St Z w0 w41 (Row 35 4 v40 (edgesF rs).length ((edgesF rs).flatMap ecs) :: Ms sb (hdF (rs.take i)) :: L)) (by have := edgesF_len rs; have := HB.b; omega) (rowsE ((edgesF rs))).2
 have hL47 := hx44.sl hr
 have st48 : St Z43 w41 w41 (Ms sb (hdF rs) :: L) := by rw [eT] at st46; exact st46
 refine WC.loop (fun m ρ wz => ∃ (j : Nat), m = (edgesF rs).length - j ∧ j ≤ (edgesF rs).length ∧ ((edgesF rs).take j).all (fun e => !oneE rs e) = true ∧ ρ 28 = (ni j) ∧ ρ 3 = (.map (some sb)) ∧ ρ 26 = v40 ∧ ρ 27 = (.int .i64 ((((edgesF rs).length : Nat) : Int))) ∧ St Z43 w41 wz (Ms sb (hdF rs) :: L)) _ ⟨0, rfl, by omega, rfl, rfl, hs12, rfl, rfl, st48⟩ ?_
 rintro m49 ρ50 w51 ⟨j, hm58, hp53, HE, hs54, hs55, hs56, hs57, st52⟩
 have hal := Rl.sl_le hs45
 refine Wsr ?_
 refine W1 (OpT.ilt .i64 (((j : Nat) : Int)) ((((edgesF rs).length : Nat) : Int)) hs54 hs57 ?_)
 refine Wnt ?_
 refine WC.seq ?_
 refine WC.condP (((j : Nat) : Int) < (((edgesF rs).length : Nat) : Int)) rfl (fun h59 => ?_) (fun h59 => ?_)
 ·refine WC.skip ?_
  refine thenQ_n ?_
  refine WC.seq ?_
  refine WC.block ?_
  refine Wsr ?_
  obtain ⟨x60, hx60⟩ : ∃ x, ((edgesF rs))[j]? = some x := ⟨_, List.getElem?_eq_getElem (by omega)⟩
  refine W1 (OpT.idxX tu26 ts35 hs45 hs56 .i64 (j) hs54 hx60 (fun ad61 cs62 hr63 hR64 => ?_))
  have hR64c := hR64
  obtain rfl := hR64
  refine W1 (OpT.loadA ad61 4 [(.string x60.frm), (.string x60.to), (.int .i8 (x60.kind)), (.int .i64 (x60.rule))] ta35 ts35 rfl ((hr63.at st52).part 0 4) rfl ?_)
  refine W1 (OpT.alloc st52 (.agg #[ve, ve, (.int .i8 (0)), (ii 0)]) [ve, ve, (.int .i8 (0)), (ii 0)] tz35 rfl (fun b65 w66 st67 => ?_))
  refine WL.stepN (OpT.storeA st67 0 4 [(.string x60.frm), (.string x60.to), (.int .i8 (x60.kind)), (.int .i64 (x60.rule))] rfl ts35 rfl rfl rfl rfl rfl (fun w68 st69 => ?_))
  refine Wns ?_
  refine W1 (OpT.move (.map (some sb)) hs55 ?_)
  refine W1 (OpT.field 1 ⟨b65, 0, none⟩ ⟨b65, 1, none⟩ tf35_1 rfl rfl ?_)
  refine W1 (OpT.loadS ⟨b65, 1, none⟩ (.string x60.to) ta9 rfl (st69.cellB (i := 0) rfl rfl) ?_)
  refine W1 (OpT.lookupOkU st69 1 rfl ko9 tu89 tz90 (x60.to) rfl rfl ?_)
  refine W1 (OpT.move (.tuple #[(.agg #[]), (.bool ((mget (hdF rs) x60.to).isSome))]) rfl ?_)
  refine W1 (OpT.extract [(.agg #[]), (.bool ((mget (hdF rs) x60.to).isSome))] (.agg #[]) rfl rfl ?_)
  refine W1 (OpT.extract [(.agg #[]), (.bool ((mget (hdF rs) x60.to).isSome))] (.bool ((mget (hdF rs) x60.to).isSome)) rfl rfl ?_)
  refine W1 (OpT.alloc st69 (.agg #[]) [] tz90 rfl (fun b70 w71 st72 => ?_))
  refine WL.stepN (OpT.storeA st72 0 0 [] rfl ts90 rfl rfl rfl rfl rfl (fun w73 st74 => ?_))
  refine W1 (OpT.assign (.bool ((mget (hdF rs) x60.to).isSome)) rfl ?_)
  refine Wns ?_
  refine W1 (OpT.move (.bool ((mget (hdF rs) x60.to).isSome)) rfl ?_)
  refine W1 (OpT.move (.bool ((mget (hdF rs) x60.to).isSome)) rfl ?_)
  by_cases h75 : (mget (hdF rs) x60.to).isSome = true
  ·refine W2 (dj := 40) (congrArg Value.bool h75) (OpT.field 2 ⟨b65, 0, none⟩ ⟨b65, 2, none⟩ tf35_2 rfl rfl ?_)
   refine W2 (dj := 40) (congrArg Value.bool h75) (OpT.loadS ⟨b65, 2, none⟩ (.int .i8 (x60.kind)) ta33 rfl (st74.cellB (i := 1) rfl rfl) ?_)
   refine W2 (dj := 40) (congrArg Value.bool h75) (OpT.ine .i8 (x60.kind) (1) rfl rfl ?_)
   refine W1 (OpT.pickT (.bool (decide (x60.kind ≠ 1))) (congrArg Value.bool h75) rfl ?_)
   refine Wnt ?_
   refine WC.condP (x60.kind ≠ 1) rfl (fun h76 => ?_) (fun h76 => ?_)
   ·refine WC.seq ?_
    refine WC.region ?_
    refine W1 (OpT.assign (.bool false) rfl ?_)
    refine Wnt ?_
    refine WC.ret <| blkQ_r <| thenQ_r <| loopQ_r <| blkQ_r <| thenQ_r <| retQ.one (.bool false) rfl ?_
    exact ⟨_, rfl, by rw [one_edge hx60 (by unfold oneE; simp [h75, h76])], (hx44.back (St.selD 3 [] rfl rfl (by decide) st74))⟩
   refine WC.skip ?_
   refine blkQ_n ?_
   refine thenQ_n ?_
   refine WC.region ?_
   refine W1 (OpT.iadd .i64 (((j : Nat) : Int)) (1) (((j + 1 : Nat) : Int)) hs54 rfl (wadd (a := j) (b := 1) (by omega)) ?_)
   refine W1 (OpT.move (ni (j + 1)) rfl ?_)
   refine WL.nil ?_
   have st77 : St Z43 w41 w73 (Ms sb (hdF rs) :: L) := St.selT [Blk b70 90 [], Blk b65 35 [(.string x60.frm), (.string x60.to), (.int .i8 (x60.kind)), (.int .i64 (x60.rule))], Ms sb (hdF rs)] [2] rfl (by decide) st74
   exact loopQ_n _ (by omega) ⟨j + 1, rfl, by omega, all_step (p := oneE rs) hx60 HE (by unfold oneE; simp [h75, (Classical.not_not.1 h76)]), rfl, hs55, hs56, hs57, st77⟩
  have h75 := Bool.eq_false_iff.2 h75
  refine WL.pass (dj := 40) (c := false) rfl rfl rfl (congrArg Value.bool h75) rfl ?_
  refine WL.pass (dj := 40) (c := false) rfl rfl rfl (congrArg Value.bool h75) rfl ?_
  refine WL.pass (dj := 40) (c := false) rfl rfl rfl (congrArg Value.bool h75) rfl ?_
  refine W1 (OpT.pickF (.bool false) (congrArg Value.bool h75) rfl ?_)
  refine Wnt ?_
  refine WC.condF rfl ?_
  refine WC.skip ?_
  refine blkQ_n ?_
  refine thenQ_n ?_
  refine WC.region ?_
  refine W1 (OpT.iadd .i64 (((j : Nat) : Int)) (1) (((j + 1 : Nat) : Int)) hs54 rfl (wadd (a := j) (b := 1) (by omega)) ?_)
  refine W1 (OpT.move (ni (j + 1)) rfl ?_)
  refine WL.nil ?_
  have st78 : St Z43 w41 w73 (Ms sb (hdF rs) :: L) := St.selT [Blk b70 90 [], Blk b65 35 [(.string x60.frm), (.string x60.to), (.int .i8 (x60.kind)), (.int .i64 (x60.rule))], Ms sb (hdF rs)] [2] rfl (by decide) st74
  exact loopQ_n _ (by omega) ⟨j + 1, rfl, by omega, all_step (p := oneE rs) hx60 HE (by unfold oneE; simp [h75]), rfl, hs55, hs56, hs57, st78⟩
 refine WC.exit ?_
 refine thenQ_x ?_
 refine loopQ_x ?_
 refine blkQ_hit ?_
 refine thenQ_n ?_
 refine Wsr ?_
 refine W1 (OpT.assign (.bool true) rfl ?_)
 refine Wnt ?_
 refine WC.ret <| retQ.one (.bool true) rfl ?_
 have eE : (edgesF rs).take j = edgesF rs := List.take_of_length_le (by omega)
 rw [eE] at HE
 exact ⟨_, rfl, by unfold oneB; rw [HA, HE]; rfl, (hx44.back (St.selD 1 [] rfl rfl (by decide) st52))⟩

theorem Plain_spec {Z : Nat → Prop} {w0 w : World} {L : List Res} (st : St Z w0 w L) (rv : Value) (rs : List Rul) (hr : rRul.sl Z w0 rv rs) (HB : Bnd rs) : Calls Tryz.prog 18 #[rv] w (Ret fun r w' => r = .bool (plainB rs) ∧ St Z w0 w' L) := by
 have hal0 := Rl.sl_le hr
 refine calls_of_WC (m := 10) (rs := [.tmp 2]) Tryz.func18 rfl rfl rfl rfl ?_
 refine Wsr ?_
 refine W1 (OpT.assign (.bool false) rfl ?_)
 refine Wns ?_
 refine W1 (OpT.move rv rfl ?_)
 refine W1 (OpT.callS cal40 [] [] [rv, (.func (.func 23) #[] #[])] rfl (ca2 rfl rfl) (ContainsFunc_Rul st hr 23 cal23 [] makesB (fun w' cs x hx st' hR => by obtain ⟨a, b, rfl, h1, h2⟩ := hR; exact Makes_spec st' x (HB.t x hx) _ _ h1 h2)) ?_)
 rintro v1 w2 ⟨rfl, st3⟩
 refine W1 (OpT.not (rs.any makesB) rfl ?_)
 refine W1 (OpT.move (.bool (!(rs.any makesB))) rfl ?_)
 by_cases h4 : (!(rs.any makesB)) = true
 ·refine W2 (dj := 6) (congrArg Value.bool h4) (OpT.move rv rfl ?_)
  refine W2 (dj := 6) (congrArg Value.bool h4) (OpT.callS cal35 [] [] [rv] rfl (ca1 rfl) (OneLevel_spec st3 _ rs hr HB) ?_)
  rintro v5 w6 ⟨rfl, st7⟩
  refine W1 (OpT.pickT (.bool (oneB rs)) (congrArg Value.bool h4) rfl ?_)
  refine W1 (OpT.assign (.bool (oneB rs)) rfl ?_)
  refine Wnt ?_
  refine WC.ret <| retQ.one (.bool (oneB rs)) rfl ?_
  have hq : rs.any makesB = false := by simpa only [Bool.not_eq_true', Bool.not_eq_false'] using h4
  exact ⟨_, rfl, by unfold plainB; rw [hq]; rfl, st7⟩
 have h4 := Bool.eq_false_iff.2 h4
 refine WL.pass (dj := 6) (c := false) rfl rfl rfl (congrArg Value.bool h4) rfl ?_
 refine WL.pass (dj := 6) (c := false) rfl rfl rfl (congrArg Value.bool h4) rfl ?_
 refine W1 (OpT.pickF (.bool false) (congrArg Value.bool h4) rfl ?_)
 refine W1 (OpT.assign (.bool false) rfl ?_)
 refine Wnt ?_
 refine WC.ret <| retQ.one (.bool false) rfl ?_
 have hq : rs.any makesB = true := by simpa only [Bool.not_eq_true', Bool.not_eq_false'] using h4
 exact ⟨_, rfl, by unfold plainB; rw [hq]; rfl, st3⟩

end Go.Ped
set_option linter.unusedVariables false
set_option maxRecDepth 20000
namespace Go.Ped
open Go Go.Eng Go.RowKit Go.Proofs

theorem cal58 : CallOk Tryz.prog 58 := ⟨⟨Tryz.f58, Tryz.func58, rfl, by decide⟩⟩
def zExp : Exp := .mk 0 zTrm []
def lOf (k : Int) (p : ByteArray) : Ltr := ⟨k, ⟨p, []⟩, 0, zExp, zExp⟩
def rZ : Rul := ⟨⟨#[122]⟩, [], [lOf 2 ⟨#[121]⟩, lOf 1 ⟨#[122]⟩]⟩
def rY : Rul := ⟨⟨#[121]⟩, [], [lOf 1 ⟨#[120]⟩]⟩
abbrev otherR : List Rul := [rZ, rY]
theorem rLtr_lOf {Z : Nat → Prop} {w : World} (k : Int) (p : ByteArray) : rLtr.R Z w [.int .i8 k, .string p, .slice none 0 0, .int .i8 0, .int .i8 0, .string ⟨#[]⟩, .int .i8 0, .int .i64 0, .string ⟨#[]⟩, .slice none 0 0, .int .i8 0, .string ⟨#[]⟩, .int .i8 0, .int .i64 0, .string ⟨#[]⟩, .slice none 0 0] (lOf k p) :=
  ⟨_, _, _, rfl, Rl.sl_nil _ _ _ _ _, Rl.sl_nil _ _ _ _ _, Rl.sl_nil _ _ _ _ _⟩
set_option maxHeartbeats 8000000 in
theorem other_spec {Z : Nat → Prop} {w0 w : World} {L : List Res} (st : St Z w0 w L) : Calls Tryz.prog 33 #[] w (Ret fun r w' => ∃ b Z' w1, Ext Z w0 Z' w1 ∧ r = .agg #[.slice (some ⟨b, 0, none⟩) 2 2] ∧ rRul.sl Z' w1 (.slice (some ⟨b, 0, none⟩) 2 2) otherR ∧ St Z' w1 w' L) := by
 refine calls_of_WC (m := 10) (rs := [.cell 0 25]) Tryz.func33 rfl rfl rfl rfl ?_
 refine Wsr ?_
 refine W1 (OpT.alloc st (.agg #[vn]) [vn] tz25 rfl (fun b1 w2 st3 => ?_))
 refine Wns ?_
 refine W1 (OpT.callC cal58 [] [] [(.int .i8 (2)), (vs 121)] rfl (ca2 rfl rfl) ?_)
 refine calls_of_WC (m := 9) (rs := [.cell 4 74]) Tryz.func58 rfl rfl rfl rfl ?_
 refine Wsr ?_
 refine W1 (OpT.alloc st3 (.agg #[(.int .i8 (0)), ve, vn, (.int .i8 (0)), (.int .i8 (0)), ve, (.int .i8 (0)), (ii 0), ve, vn, (.int .i8 (0)), ve, (.int .i8 (0)), (ii 0), ve, vn]) [(.int .i8 (0)), ve, vn, (.int .i8 (0)), (.int .i8 (0)), ve, (.int .i8 (0)), (ii 0), ve, vn, (.int .i8 (0)), ve, (.int .i8 (0)), (ii 0), ve, vn] tz74 rfl (fun b4 w5 st6 => ?_))
 refine Wns ?_
 refine W1 (OpT.move (.int .i8 (2)) rfl ?_)
 refine W1 (OpT.move (vs 121) rfl ?_)
 refine W1 (OpT.build [(0, (vs 121))] [(vs 121), vn] tz62 tp62 (mp1 rfl) rfl ?_)
 refine W1 (OpT.build [(0, (.int .i8 (2))), (1, (.agg #[(vs 121), vn]))] [(.int .i8 (2)), (vs 121), vn, (.int .i8 (0)), (.int .i8 (0)), ve, (.int .i8 (0)), (ii 0), ve, vn, (.int .i8 (0)), ve, (.int .i8 (0)), (ii 0), ve, vn] tz74 tp74 (mp2 rfl rfl) rfl ?_)
 refine WL.stepN (OpT.storeA st6 0 16 [(.int .i8 (2)), (vs 121), vn, (.int .i8 (0)), (.int .i8 (0)), ve, (.int .i8 (0)), (ii 0), ve, vn, (.int .i8 (0)), ve, (.int .i8 (0)), (ii 0), ve, vn] rfl ts74 rfl rfl rfl rfl rfl (fun w7 st8 => ?_))
 refine Wnt ?_
 refine WC.ret <| retQ.cell (.agg #[(.int .i8 (2)), (vs 121), vn, (.int .i8 (0)), (.int .i8 (0)), ve, (.int .i8 (0)), (ii 0), ve, vn, (.int .i8 (0)), ve, (.int .i8 (0)), (ii 0), ve, vn]) ⟨b4, 0, none⟩ rfl (run_loadVarA ta74 ts74 (ad := ⟨b4, 0, none⟩) (cs := [(.int .i8 (2)), (vs 121), vn, (.int .i8 (0)), (.int .i8 (0)), ve, (.int .i8 (0)), (ii 0), ve, vn, (.int .i8 (0)), ve, (.int .i8 (0)), (ii 0), ve, vn]) ((st8.rowB (i := 0) rfl).part 0 16) rfl) ?_
 refine ⟨_, rfl, ?_⟩
 refine W1 (OpT.callC cal58 [] [] [(.int .i8 (1)), (vs 122)] rfl (ca2 rfl rfl) ?_)
 refine calls_of_WC (m := 9) (rs := [.cell 4 74]) Tryz.func58 rfl rfl rfl rfl ?_
 refine Wsr ?_
 refine W1 (OpT.alloc st8 (.agg #[(.int .i8 (0)), ve, vn, (.int .i8 (0)), (.int .i8 (0)), ve, (.int .i8 (0)), (ii 0), ve, vn, (.int .i8 (0)), ve, (.int .i8 (0)), (ii 0), ve, vn]) [(.int .i8 (0)), ve, vn, (.int .i8 (0)), (.int .i8 (0)), ve, (.int .i8 (0)), (ii 0), ve, vn, (.int .i8 (0)), ve, (.int .i8 (0)), (ii 0), ve, vn] tz74 rfl (fun b9 w10 st11 => ?_))
 refine Wns ?_
 refine W1 (OpT.move (.int .i8 (1)) rfl ?_)
 refine W1 (OpT.move (vs 122) rfl ?_)
 refine W1 (OpT.build [(0, (vs 122))] [(vs 122), vn] tz62 tp62 (mp1 rfl) rfl ?_)
 refine W1 (OpT.build [(0, (.int .i8 (1))), (1, (.agg #[(vs 122), vn]))] [(.int .i8 (1)), (vs 122), vn, (.int .i8 (0)), (.int .i8 (0)), ve, (.int .i8 (0)), (ii 0), ve, vn, (.int .i8 (0)), ve, (.int .i8 (0)), (ii 0), ve, vn] tz74 tp74 (mp2 rfl rfl) rfl ?_)
 refine WL.stepN (OpT.storeA st11 0 16 [(.int .i8 (1)), (vs 122), vn, (.int .i8 (0)), (.int .i8 (0)), ve, (.int .i8 (0)), (ii 0), ve, vn, (.int .i8 (0)), ve, (.int .i8 (0)), (ii 0), ve, vn] rfl ts74 rfl rfl rfl rfl rfl (fun w12 st13 => ?_))
 refine Wnt ?_
 refine WC.ret <| retQ.cell (.agg #[(.int .i8 (1)), (vs 122), vn, (.int .i8 (0)), (.int .i8 (0)), ve, (.int .i8 (0)), (ii 0), ve, vn, (.int .i8 (0)), ve, (.int .i8 (0)), (ii 0), ve, vn]) ⟨b9, 0, none⟩ rfl (run_loadVarA ta74 ts74 (ad := ⟨b9, 0, none⟩) (cs := [(.int .i8 (1)), (vs 122), vn, (.int .i8 (0)), (.int .i8 (0)), ve, (.int .i8 (0)), (ii 0), ve, vn, (.int .i8 (0)), ve, (.int .i8 (0)), (ii 0), ve, vn]) ((st13.rowB (i := 0) rfl).part 0 16) rfl) ?_
 refine ⟨_, rfl, ?_⟩
 refine W1 (OpT.buildSlice st13 [(0, (.agg #[(.int .i8 (2)), (vs 121), vn, (.int .i8 (0)), (.int .i8 (0)), ve, (.int .i8 (0)), (ii 0), ve, vn, (.int .i8 (0)), ve, (.int .i8 (0)), (ii 0), ve, vn])), (1, (.agg #[(.int .i8 (1)), (vs 122), vn, (.int .i8 (0)), (.int .i8 (0)), ve, (.int .i8 (0)), (ii 0), ve, vn, (.int .i8 (0)), ve, (.int .i8 (0)), (ii 0), ve, vn]))] [(.int .i8 (2)), (vs 121), vn, (.int .i8 (0)), (.int .i8 (0)), ve, (.int .i8 (0)), (ii 0), ve, vn, (.int .i8 (0)), ve, (.int .i8 (0)), (ii 0), ve, vn, (.int .i8 (1)), (vs 122), vn, (.int .i8 (0)), (.int .i8 (0)), ve, (.int .i8 (0)), (ii 0), ve, vn, (.int .i8 (0)), ve, (.int .i8 (0)), (ii 0), ve, vn] tu52 ts74 tz74 (mp2 rfl rfl) (by kernel_rfl) (by decide) (fun b14 w15 st16 => ?_))
 refine W1 (OpT.build [(0, (vs 122)), (2, (sl b14 2 2))] [(vs 122), vn, (sl b14 2 2)] tz54 tp54 (mp2 rfl rfl) rfl ?_)
 refine W1 (OpT.callC cal58 [] [] [(.int .i8 (1)), (vs 120)] rfl (ca2 rfl rfl) ?_)
 refine calls_of_WC (m := 9) (rs := [.cell 4 74]) Tryz.func58 rfl rfl rfl rfl ?_
 refine Wsr ?_
 refine W1 (OpT.alloc st16 (.agg #[(.int .i8 (0)), ve, vn, (.int .i8 (0)), (.int .i8 (0)), ve, (.int .i8 (0)), (ii 0), ve, vn, (.int .i8 (0)), ve, (.int .i8 (0)), (ii 0), ve, vn]) [(.int .i8 (0)), ve, vn, (.int .i8 (0)), (.int .i8 (0)), ve, (.int .i8 (0)), (ii 0), ve, vn, (.int .i8 (0)), ve, (.int .i8 (0)), (ii 0), ve, vn] tz74 rfl (fun b17 w18 st19 => ?_))
 refine Wns ?_
 refine W1 (OpT.move (.int .i8 (1)) rfl ?_)
 refine W1 (OpT.move (vs 120) rfl ?_)
 refine W1 (OpT.build [(0, (vs 120))] [(vs 120), vn] tz62 tp62 (mp1 rfl) rfl ?_)
 refine W1 (OpT.build [(0, (.int .i8 (1))), (1, (.agg #[(vs 120), vn]))] [(.int .i8 (1)), (vs 120), vn, (.int .i8 (0)), (.int .i8 (0)), ve, (.int .i8 (0)), (ii 0), ve, vn, (.int .i8 (0)), ve, (.int .i8 (0)), (ii 0), ve, vn] tz74 tp74 (mp2 rfl rfl) rfl ?_)
 refine WL.stepN (OpT.storeA st19 0 16 [(.int .i8 (1)), (vs 120), vn, (.int .i8 (0)), (.int .i8 (0)), ve, (.int .i8 (0)), (ii 0), ve, vn, (.int .i8 (0)), ve, (.int .i8 (0)), (ii 0), ve, vn] rfl ts74 rfl rfl rfl rfl rfl (fun w20 st21 => ?_))
 refine Wnt ?_
 refine WC.ret <| retQ.cell (.agg #[(.int .i8 (1)), (vs 120), vn, (.int .i8 (0)), (.int .i8 (0)), ve, (.int .i8 (0)), (ii 0), ve, vn, (.int .i8 (0)), ve, (.int .i8 (0)), (ii 0), ve, vn]) ⟨b17, 0, none⟩ rfl (run_loadVarA ta74 ts74 (ad := ⟨b17, 0, none⟩) (cs := [(.int .i8 (1)), (vs 120), vn, (.int .i8 (0)), (.int .i8 (0)), ve, (.int .i8 (0)), (ii 0), ve, vn, (.int .i8 (0)), ve, (.int .i8 (0)), (ii 0), ve, vn]) ((st21.rowB (i := 0) rfl).part 0 16) rfl) ?_
 refine ⟨_, rfl, ?_⟩
 refine W1 (OpT.buildSlice st21 [(0, (.agg #[(.int .i8 (1)), (vs 120), vn, (.int .i8 (0)), (.int .i8 (0)), ve, (.int .i8 (0)), (ii 0), ve, vn, (.int .i8 (0)), ve, (.int .i8 (0)), (ii 0), ve, vn]))] [(.int .i8 (1)), (vs 120), vn, (.int .i8 (0)), (.int .i8 (0)), ve, (.int .i8 (0)), (ii 0), ve, vn, (.int .i8 (0)), ve, (.int .i8 (0)), (ii 0), ve, vn] tu52 ts74 tz74 (mp1 rfl) (by kernel_rfl) (by decide) (fun b22 w23 st24 => ?_))
 refine W1 (OpT.build [(0, (vs 121)), (2, (sl b22 1 1))] [(vs 121), vn, (sl b22 1 1)] tz54 tp54 (mp2 rfl rfl) rfl ?_)
 refine W1 (OpT.buildSlice st24 [(0, (.agg #[(vs 122), vn, (sl b14 2 2)])), (1, (.agg #[(vs 121), vn, (sl b22 1 1)]))] [(vs 122), vn, (sl b14 2 2), (vs 121), vn, (sl b22 1 1)] tu22 ts54 tz54 (mp2 rfl rfl) (by kernel_rfl) (by decide) (fun b25 w26 st27 => ?_))
 refine W1 (OpT.build [(0, (sl b25 2 2))] [(sl b25 2 2)] tz25 tp25 (mp1 rfl) rfl ?_)
 refine WL.stepN (OpT.storeA st27 6 1 [(sl b25 2 2)] rfl ts25 rfl rfl rfl rfl rfl (fun w28 st29 => ?_))
 refine Wnt ?_
 refine WC.ret <| retQ.cell (.agg #[(sl b25 2 2)]) ⟨b1, 0, none⟩ rfl (run_loadVarA ta25 ts25 (ad := ⟨b1, 0, none⟩) (cs := [(sl b25 2 2)]) ((st29.rowB (i := 6) rfl).part 0 1) rfl) ?_
 obtain ⟨Z1, h1, r1, st1⟩ := St.freezeBX ((St.selD 7 [3, 1, 0] rfl rfl (by decide) st29) : St Z w0 w28 (Blk b14 74 [(.int .i8 (2)), (vs 121), vn, (.int .i8 (0)), (.int .i8 (0)), ve, (.int .i8 (0)), (ii 0), ve, vn, (.int .i8 (0)), ve, (.int .i8 (0)), (ii 0), ve, vn, (.int .i8 (1)), (vs 122), vn, (.int .i8 (0)), (.int .i8 (0)), ve, (.int .i8 (0)), (ii 0), ve, vn, (.int .i8 (0)), ve, (.int .i8 (0)), (ii 0), ve, vn] :: Blk b22 74 [(.int .i8 (1)), (vs 120), vn, (.int .i8 (0)), (.int .i8 (0)), ve, (.int .i8 (0)), (ii 0), ve, vn, (.int .i8 (0)), ve, (.int .i8 (0)), (ii 0), ve, vn] :: Blk b25 54 [(vs 122), vn, (sl b14 2 2), (vs 121), vn, (sl b22 1 1)] :: L))
 obtain ⟨Z2, h2, r2, st2⟩ := st1.freezeBX
 obtain ⟨Z3, h3, r3, st3⟩ := st2.freezeBX
 have e1 : rLtr.sl Z3 w28 (.slice (some ⟨b14, 0, none⟩) 2 2) rZ.body := Rl.sl_blk (xs := [lOf 2 ⟨#[121]⟩, lOf 1 ⟨#[122]⟩]) ((h2.trans h3).rowZ r1) (by decide) (((RowsOf.nil (P := rLtr.R Z3 w28) (sz := 16)).snoc rfl (rLtr_lOf 2 ⟨#[121]⟩)).snoc rfl (rLtr_lOf 1 ⟨#[122]⟩)).2
 have e2 : rLtr.sl Z3 w28 (.slice (some ⟨b22, 0, none⟩) 1 1) rY.body := Rl.sl_blk (xs := [lOf 1 ⟨#[120]⟩]) (h3.rowZ r2) (by decide) ((RowsOf.nil (P := rLtr.R Z3 w28) (sz := 16)).snoc rfl (rLtr_lOf 1 ⟨#[120]⟩)).2
 have e3 : rRul.sl Z3 w28 (.slice (some ⟨b25, 0, none⟩) 2 2) otherR := Rl.sl_blk (xs := [rZ, rY]) r3 (by decide) (((RowsOf.nil (P := rRul.R Z3 w28) (sz := 3)).snoc rfl ⟨_, _, rfl, Rl.sl_nil _ _ _ _ _, e1⟩).snoc rfl ⟨_, _, rfl, Rl.sl_nil _ _ _ _ _, e2⟩).2
 exact ⟨_, rfl, b25, Z3, _, h1.trans (h2.trans h3), rfl, e3, st3⟩

end Go.Ped
set_option linter.unusedVariables false
set_option maxRecDepth 20000
namespace Go.Ped
open Go Go.Eng Go.RowKit Go.Proofs

theorem ta21 : aggB Tryz.prog 21 = some false := by kernel_rfl
theorem cal33 : CallOk Tryz.prog 33 := ⟨⟨Tryz.f33, Tryz.func33, rfl, by decide⟩⟩
theorem cal8 : CallOk Tryz.prog 8 := ⟨⟨Tryz.f8, Tryz.func8, rfl, by decide⟩⟩
theorem cal34 : CallOk Tryz.prog 34 := ⟨⟨Tryz.f34, Tryz.func34, rfl, by decide⟩⟩
theorem ta41 : aggB Tryz.prog 41 = some true := by kernel_rfl
theorem tg41 : Tryz.prog.eqGuardType Tryz.prog.depth 41 = false := by kernel_rfl
theorem cal18 : CallOk Tryz.prog 18 := ⟨⟨Tryz.f18, Tryz.func18, rfl, by decide⟩⟩
theorem eqLvl (d : Nat) (w : World) (a b : Lvl) : (Op.equalIn (d + 2) 41 (.agg #[.string a.pred, .int .i32 a.n]) (.agg #[.string b.pred, .int .i32 b.n])).run Tryz.prog w = .ok (decide (a = b)) w := by
  have h : decide (a = b) = ((a.pred.toList == b.pred.toList) && ((a.n == b.n) && true)) := by
    rw [toList_eq_iff, Bool.eq_iff_iff]
    simp only [decide_eq_true_eq, Bool.and_eq_true, beq_iff_eq, and_true]
    cases a; cases b; simp
  rw [h]
  refine eqs_of Tryz.underlying41 (by kernel_rfl) ?_
  refine eqs_cons (by decide) (run_partS ta9 rfl) (run_partS ta9 rfl) (run_equalIn_string w _ 9 _ _ (by kernel_rfl)) ?_
  exact eqs_cons (by decide) (run_partS ta21 rfl) (run_partS ta21 rfl) (run_equalIn_int w _ 21 .i32 .i32 _ _ (by kernel_rfl)) eqs_nil
theorem bnd_other : Bnd otherR := by
  refine ⟨?_, by decide⟩
  intro r hr
  simp only [List.mem_cons, List.not_mem_nil, or_false] at hr
  rcases hr with rfl | rfl <;> simp [rulT, ltrT, atmT, expT, expsT, lOf, zExp, rZ, rY]
theorem bnd_y : Bnd [rY] := by
  refine ⟨?_, by decide⟩
  intro r hr
  simp only [List.mem_cons, List.not_mem_nil, or_false] at hr
  subst hr
  simp [rulT, ltrT, atmT, expT, expsT, lOf, zExp, rY]
theorem nok_other : NOk otherR := by
  refine ⟨?_, by decide⟩
  intro r hr
  simp only [List.mem_cons, List.not_mem_nil, or_false] at hr
  rcases hr with rfl | rfl <;> decide
theorem edges_other : edgesF otherR = [⟨⟨#[122]⟩, ⟨#[121]⟩, 2, 0⟩, ⟨⟨#[122]⟩, ⟨#[122]⟩, 1, 0⟩, ⟨⟨#[121]⟩, ⟨#[120]⟩, 1, 1⟩] := by
  simp [edgesF, edgesR, List.zipIdx, rZ, rY, lOf, isAtm, edgOf, kindOf, aggsB, makesB, wkB]
theorem edges_y : edgesF [rY] = [⟨⟨#[121]⟩, ⟨#[120]⟩, 1, 0⟩] := by
  simp [edgesF, edgesR, List.zipIdx, rY, lOf, isAtm, edgOf, kindOf, aggsB, makesB, wkB]
theorem makes_y : ([rY] : List Rul).any makesB = false := by
  simp [makesB, wkB, rY, lOf]
theorem lev_other : levF 5 otherR = some ([⟨⟨#[120]⟩, 0⟩, ⟨⟨#[121]⟩, 0⟩, ⟨⟨#[122]⟩, 1⟩], 0, 0) := by
  unfold levF
  rw [edges_other]
  kernel_rfl
theorem parts_other : partsO (drawF otherR) = some [[⟨#[120]⟩], [⟨#[121]⟩], [⟨#[122]⟩]] := by kernel_rfl
theorem plain_y : plainB [rY] = true := by
  unfold plainB oneB
  rw [makes_y, edges_y]
  kernel_rfl
theorem one_other : oneB otherR = false := by
  unfold oneB
  rw [edges_other]
  kernel_rfl
theorem ret_lit {P : Program} {k : Nat} {ar : Array Value} {w : World} {b c : Bool} {Q : World → Prop} (e : b = c) (h : Calls P k ar w (Ret fun r w' => r = .bool b ∧ Q w')) : Calls P k ar w (Ret fun r w' => r = .bool c ∧ Q w') := e ▸ h
set_option maxHeartbeats 8000000 in
theorem lives_spec {Z : Nat → Prop} {w0 w : World} {L : List Res} (st : St Z w0 w L) : Calls Tryz.prog 11 #[] w (Ret fun r w' => r = .bool true ∧ St Z w0 w' L) := by
 refine calls_of_WC (m := 70) (rs := [.tmp 0]) Tryz.func11 rfl rfl rfl rfl ?_
 refine Wsr ?_
 refine W1 (OpT.assign (.bool false) rfl ?_)
 refine Wns ?_
 refine W1 (OpT.callS cal33 [] [] [] rfl ca0 (other_spec st) ?_)
 rintro v6 w7 ⟨b1, Z2, w3, hx4, rfl, hs5, st8⟩
 refine W1 (OpT.callS cal8 [] [] [(.agg #[(sl b1 2 2)])] rfl (ca1 rfl) (Levels_spec (K := 5) st8 _ otherR hs5 bnd_other nok_other.g lev_other) ?_)
 rintro v12 w13 ⟨lv11, o9, c10, rfl, st14⟩
 replace st14 : St Z2 w3 w13 (Row 41 2 lv11 3 [(vs 120), (.int .i32 (0)), (vs 121), (.int .i32 (0)), (vs 122), (.int .i32 (1))] :: L) := st14
 obtain ⟨g15, cap16, ex17, rfl, hE18, hc19, hm20, st21⟩ := St.openRow (n := 3) (cs := [(vs 120), (.int .i32 (0)), (vs 121), (.int .i32 (0)), (vs 122), (.int .i32 (1))]) (by decide) st14
 replace st21 : St Z2 w3 w13 (Blk g15 41 (cx [(vs 120), (.int .i32 (0)), (vs 121), (.int .i32 (0)), (vs 122), (.int .i32 (1))] ex17) :: L) := st21
 refine W1 (OpT.move (.tuple #[(sl g15 3 cap16), (ii 0), (ii 0)]) rfl ?_)
 refine W1 (OpT.extract [(sl g15 3 cap16), (ii 0), (ii 0)] (sl g15 3 cap16) rfl rfl ?_)
 refine W1 (OpT.extract [(sl g15 3 cap16), (ii 0), (ii 0)] (ii 0) rfl rfl ?_)
 refine W1 (OpT.extract [(sl g15 3 cap16), (ii 0), (ii 0)] (ii 0) rfl rfl ?_)
 refine W1 (OpT.assign (sl g15 3 cap16) rfl ?_)
 refine W1 (OpT.assign (ii 0) rfl ?_)
 refine W1 (OpT.assign (ii 0) rfl ?_)
 refine Wns ?_
 refine W1 (OpT.callS cal33 [] [] [] rfl ca0 (other_spec st21) ?_)
 rintro v27 w28 ⟨b22, Z23, w24, hx25, rfl, hs26, st29⟩
 refine W1 (OpT.callS cal34 [] [] [(.agg #[(sl b22 2 2)])] rfl (ca1 rfl) (Parts_spec st29 _ otherR hs26 bnd_other nok_other.g parts_other) ?_)
 rintro v39 w40 ⟨cells30, Z31, w32, hx33, HR34, st41⟩
 obtain ⟨Z37, hx35, hs36, st38⟩ := St.freezeRow (r := rSls) (xs := [[⟨#[120]⟩], [⟨#[121]⟩], [⟨#[122]⟩]]) st41 (by decide) HR34.2
 have hx42 := hx33.trans hx35
 refine W1 (OpT.assign v39 rfl ?_)
 refine Wns ?_
 refine W1 (OpT.move (ii 0) rfl ?_)
 refine W1 (OpT.lit (b := (decide ((0 : Int) = (0 : Int)))) (c := true) (by decide) (fun hk => OpT.ieq .i64 (0) (0) rfl rfl hk) ?_)
 refine W1 (OpT.move (.bool true) rfl ?_)
 refine W2 (dj := 15) rfl (OpT.move (ii 0) rfl ?_)
 refine W2 (dj := 15) rfl (OpT.lit (b := (decide ((0 : Int) = (0 : Int)))) (c := true) (by decide) (fun hk => OpT.ieq .i64 (0) (0) rfl rfl hk) ?_)
 refine W1 (OpT.pickT (.bool true) rfl rfl ?_)
 refine W1 (OpT.move (.bool true) rfl ?_)
 refine W2 (dj := 19) rfl (OpT.move (sl g15 3 cap16) rfl ?_)
 refine W2 (dj := 19) rfl (OpT.litV (v := (ni 3)) (v' := (ii 3)) rfl (fun hk => OpT.lenS _ 3 cap16 rfl tu28 rfl hk) ?_)
 refine W2 (dj := 19) rfl (OpT.lit (b := (decide ((3 : Int) = (3 : Int)))) (c := true) (by decide) (fun hk => OpT.ieq .i64 (3) (3) rfl rfl hk) ?_)
 refine W1 (OpT.pickT (.bool true) rfl rfl ?_)
 refine W1 (OpT.move (.bool true) rfl ?_)
 refine W2 (dj := 24) rfl (OpT.move (sl g15 3 cap16) rfl ?_)
 refine W2 (dj := 24) rfl (OpT.idx 2 ⟨g15, 0, none⟩ ⟨g15, 0, none⟩ 3 cap16 .i64 0 tu28 ts41 rfl rfl (by decide) (by decide) rfl ?_)
 refine W2 (dj := 24) rfl (OpT.loadA ⟨g15, 0, none⟩ 2 [(vs 120), (.int .i32 (0))] ta41 ts41 rfl ((st38.rowB (i := 0) rfl).part 0 2) rfl ?_)
 refine W2 (dj := 24) rfl (OpT.build [(0, (vs 120))] [(vs 120), (.int .i32 (0))] tz41 tp41 (mp1 rfl) rfl ?_)
 refine W2 (dj := 24) rfl (OpT.lit (b := (decide ((⟨(⟨#[120]⟩ : ByteArray), 0⟩ : Lvl) = (⟨(⟨#[120]⟩ : ByteArray), 0⟩ : Lvl)))) (c := true) (by decide) (fun hk => OpT.aggEq [(vs 120), (.int .i32 (0))] [(vs 120), (.int .i32 (0))] (decide ((⟨(⟨#[120]⟩ : ByteArray), 0⟩ : Lvl) = (⟨(⟨#[120]⟩ : ByteArray), 0⟩ : Lvl))) tg41 (fun w => eqLvl 9998 w (⟨(⟨#[120]⟩ : ByteArray), 0⟩ : Lvl) (⟨(⟨#[120]⟩ : ByteArray), 0⟩ : Lvl)) rfl rfl hk) ?_)
 refine W1 (OpT.pickT (.bool true) rfl rfl ?_)
 refine W1 (OpT.move (.bool true) rfl ?_)
 refine W2 (dj := 31) rfl (OpT.move (sl g15 3 cap16) rfl ?_)
 refine W2 (dj := 31) rfl (OpT.idx 2 ⟨g15, 0, none⟩ ⟨g15, 4, none⟩ 3 cap16 .i64 2 tu28 ts41 rfl rfl (by decide) (by decide) rfl ?_)
 refine W2 (dj := 31) rfl (OpT.loadA ⟨g15, 4, none⟩ 2 [(vs 122), (.int .i32 (1))] ta41 ts41 rfl ((st38.rowB (i := 0) rfl).part 4 2) rfl ?_)
 refine W2 (dj := 31) rfl (OpT.build [(0, (vs 122)), (1, (.int .i32 (1)))] [(vs 122), (.int .i32 (1))] tz41 tp41 (mp2 rfl rfl) rfl ?_)
 refine W2 (dj := 31) rfl (OpT.lit (b := (decide ((⟨(⟨#[122]⟩ : ByteArray), 1⟩ : Lvl) = (⟨(⟨#[122]⟩ : ByteArray), 1⟩ : Lvl)))) (c := true) (by decide) (fun hk => OpT.aggEq [(vs 122), (.int .i32 (1))] [(vs 122), (.int .i32 (1))] (decide ((⟨(⟨#[122]⟩ : ByteArray), 1⟩ : Lvl) = (⟨(⟨#[122]⟩ : ByteArray), 1⟩ : Lvl))) tg41 (fun w => eqLvl 9998 w (⟨(⟨#[122]⟩ : ByteArray), 1⟩ : Lvl) (⟨(⟨#[122]⟩ : ByteArray), 1⟩ : Lvl)) rfl rfl hk) ?_)
 refine W1 (OpT.pickT (.bool true) rfl rfl ?_)
 refine W1 (OpT.move (.bool true) rfl ?_)
 refine W2 (dj := 38) rfl (OpT.move v39 rfl ?_)
 refine W2 (dj := 38) rfl (OpT.litV (v := (ni 3)) (v' := (ii 3)) rfl (fun hk => OpT.lenR rfl tu80 hs36 rfl hk) ?_)
 refine W2 (dj := 38) rfl (OpT.lit (b := (decide ((3 : Int) = (3 : Int)))) (c := true) (by decide) (fun hk => OpT.ieq .i64 (3) (3) rfl rfl hk) ?_)
 refine W1 (OpT.pickT (.bool true) rfl rfl ?_)
 refine W1 (OpT.move (.bool true) rfl ?_)
 refine W2 (dj := 43) rfl (OpT.move v39 rfl ?_)
 refine W2 (dj := 43) rfl (OpT.idxX tu80 ts37 hs36 rfl .i64 (0) rfl rfl (fun ad44 cs45 hr46 hR47 => ?_))
 have hR47c := hR47
 obtain ⟨sv48, rfl, hs49⟩ := hR47
 refine W2 (dj := 43) rfl (OpT.loadS ad44 sv48 ta37 rfl (hr46.cell st38 (j := 0) rfl) ?_)
 refine W2 (dj := 43) rfl (OpT.litV (v := (ni 1)) (v' := (ii 1)) rfl (fun hk => OpT.lenR rfl tu37 hs49 rfl hk) ?_)
 refine W2 (dj := 43) rfl (OpT.lit (b := (decide ((1 : Int) = (1 : Int)))) (c := true) (by decide) (fun hk => OpT.ieq .i64 (1) (1) rfl rfl hk) ?_)
 refine W1 (OpT.pickT (.bool true) rfl rfl ?_)
 refine W1 (OpT.move (.bool true) rfl ?_)
 refine W2 (dj := 50) rfl (OpT.move v39 rfl ?_)
 refine W2 (dj := 50) rfl (OpT.idxX tu80 ts37 hs36 rfl .i64 (0) rfl rfl (fun ad51 cs52 hr53 hR54 => ?_))
 have hR54c := hR54
 obtain ⟨sv55, rfl, hs56⟩ := hR54
 refine W2 (dj := 50) rfl (OpT.loadS ad51 sv55 ta37 rfl (hr53.cell st38 (j := 0) rfl) ?_)
 refine W2 (dj := 50) rfl (OpT.idxX tu37 ts9 hs56 rfl .i64 (0) rfl rfl (fun ad58 cs59 hr60 hR61 => ?_))
 have hR61c := hR61
 obtain rfl := hR61
 refine W2 (dj := 50) rfl (OpT.loadS ad58 (vs 120) ta9 rfl (hr60.cell st38 (j := 0) rfl) ?_)
 refine W2 (dj := 50) rfl (OpT.lit (b := (decide ((⟨#[120]⟩ : ByteArray) = (⟨#[120]⟩ : ByteArray)))) (c := true) (by decide) (fun hk => OpT.seq ((⟨#[120]⟩ : ByteArray)) ((⟨#[120]⟩ : ByteArray)) rfl rfl hk) ?_)
 refine W1 (OpT.pickT (.bool true) rfl rfl ?_)
 refine W1 (OpT.move (.bool true) rfl ?_)
 refine W2 (dj := 58) rfl (OpT.callS cal33 [] [] [] rfl ca0 (other_spec st38) ?_)
 rintro v67 w68 ⟨b62, Z63, w64, hx65, rfl, hs66, st69⟩
 refine W2 (dj := 58) rfl (OpT.fieldV [(sl b62 2 2)] (sl b62 2 2) ⟨_, _, Tryz.underlying25, rfl, ta22, rfl⟩ rfl rfl ?_)
 have hd70 := Rl.sl_drop hs66 1 (by decide) (by decide)
 replace hd70 : rRul.sl Z63 w64 (sliced (some ⟨b62, 0, none⟩) 1 2 2 3) [rY] := hd70
 refine W2 (dj := 58) rfl (OpT.sliceLo 1 tu22 ts54 rfl rfl (by decide) ?_)
 refine W2 (dj := 58) rfl (OpT.callS cal18 [] [] [(sliced (some ⟨b62, 0, none⟩) 1 2 2 3)] rfl (ca1 rfl) (ret_lit plain_y (Plain_spec st69 _ _ hd70 bnd_y)) ?_)
 rintro v71 w72 ⟨rfl, st73⟩
 refine W1 (OpT.pickT (.bool true) rfl rfl ?_)
 refine W1 (OpT.move (.bool true) rfl ?_)
 refine W2 (dj := 64) rfl (OpT.callS cal33 [] [] [] rfl ca0 (other_spec st73) ?_)
 rintro v79 w80 ⟨b74, Z75, w76, hx77, rfl, hs78, st81⟩
 refine W2 (dj := 64) rfl (OpT.fieldV [(sl b74 2 2)] (sl b74 2 2) ⟨_, _, Tryz.underlying25, rfl, ta22, rfl⟩ rfl rfl ?_)
 refine W2 (dj := 64) rfl (OpT.callS cal35 [] [] [(sl b74 2 2)] rfl (ca1 rfl) (ret_lit one_other (OneLevel_spec st81 _ _ hs78 bnd_other)) ?_)
 rintro v82 w83 ⟨rfl, st84⟩
 refine W2 (dj := 64) rfl (OpT.not false rfl ?_)
 refine W1 (OpT.pickT (.bool true) rfl rfl ?_)
 refine W1 (OpT.assign (.bool true) rfl ?_)
 refine Wnt ?_
 refine WC.ret <| retQ.one (.bool true) rfl ?_
 exact ⟨_, rfl, rfl, (hx4.back (hx25.back (hx42.back (hx65.back (hx77.back (St.selD 1 [] rfl rfl (by decide) st84))))))⟩

end Go.Ped
namespace Go.Ped
open Go Go.Eng Go.Maps Go.Sort
def hasB (l : List ByteArray) (s : ByteArray) : Bool := l.any fun y => decide (y = s)
theorem hasB_iff {l : List ByteArray} {s : ByteArray} : hasB l s = true ↔ s ∈ l := by
  unfold hasB
  rw [List.any_eq_true]
  constructor
  · rintro ⟨y, hy, h⟩; exact (of_decide_eq_true h) ▸ hy
  · intro h; exact ⟨s, h, decide_eq_true rfl⟩
theorem hasB_not {l : List ByteArray} {s : ByteArray} : hasB l s = false ↔ ¬ s ∈ l := by
  rw [← hasB_iff]; simp
def lvF (ls : List Lvl) (s : ByteArray) : Option Lvl := ls.find? fun x => decide (x.pred = s)
def rLvl : Rl Lvl where
  sz := 2
  R _ _ cs x := cs = [.string x.pred, .int .i32 x.n]
  len h := by rw [h]; rfl
  mono h _ _ := h
theorem rowsL {Z : Nat → Prop} {w0 : World} (es : List Lvl) : RowsOf (rLvl.R Z w0) 2 (es.flatMap lcs) es := by
  have : ∀ (es pre : List Lvl) (cs : List Value), RowsOf (rLvl.R Z w0) 2 cs pre → RowsOf (rLvl.R Z w0) 2 (cs ++ es.flatMap lcs) (pre ++ es) := by
    intro es
    induction es with
    | nil => intro pre cs h; simpa using h
    | cons e es ih =>
      intro pre cs h
      have := ih (pre ++ [e]) (cs ++ lcs e) (h.snoc rfl rfl)
      simpa using this
  simpa using this es [] [] RowsOf.nil
theorem lvF_names {f : ByteArray → Int} {l : List ByteArray} {s : ByteArray} (h : s ∈ l) : lvF (l.map fun s => ⟨s, f s⟩) s = some ⟨s, f s⟩ := by
  unfold lvF
  induction l with
  | nil => cases h
  | cons x l ih =>
    rw [List.map_cons]
    by_cases e : x = s
    · subst e; rw [List.find?_cons_of_pos (by simp)]
    · rw [List.find?_cons_of_neg (by simpa using e)]
      rcases List.mem_cons.1 h with h | h
      · exact absurd h.symm e
      · exact ih h
theorem find_none2 {α : Type} {p : α → Bool} {xs : List α} {i : Nat} (h : (xs.take i).all (fun x => !p x) = true) (hi : xs.length ≤ i) : xs.find? p = none := by
  rw [List.take_of_length_le hi] at h
  rw [List.find?_eq_none]
  intro x hx
  have := List.all_eq_true.1 h x hx
  simpa using this
theorem edge_names {rs : List Rul} {e : Edg} (he : e ∈ edgesF rs) : e.frm ∈ (drawF rs).map Prod.fst ∧ e.to ∈ (drawF rs).map Prod.fst := by
  obtain ⟨i, r, hi, y, hy, rfl⟩ := mem_edges.1 he
  exact ⟨mem_names.2 ⟨r, List.mem_of_getElem? hi, .inl rfl⟩, mem_names.2 ⟨r, List.mem_of_getElem? hi, .inr ⟨y, hy, rfl⟩⟩⟩
theorem some_list (p : ByteArray → Prop) : ∀ N : List ByteArray, ∃ l : List ByteArray, l.Nodup ∧ ∀ y, y ∈ l ↔ y ∈ N ∧ p y
  | [] => ⟨[], List.Pairwise.nil, fun y => by simp⟩
  | n :: N => by
    obtain ⟨l, h1, h2⟩ := some_list p N
    by_cases h : p n ∧ ¬ n ∈ l
    · refine ⟨n :: l, List.nodup_cons.2 ⟨h.2, h1⟩, fun y => ?_⟩
      rw [List.mem_cons, List.mem_cons, h2]
      constructor
      · rintro (rfl | ⟨a, b⟩)
        · exact ⟨.inl rfl, h.1⟩
        · exact ⟨.inr a, b⟩
      · rintro ⟨rfl | a, b⟩
        · exact .inl rfl
        · exact .inr ⟨a, b⟩
    · refine ⟨l, h1, fun y => ?_⟩
      rw [h2, List.mem_cons]
      constructor
      · rintro ⟨a, b⟩; exact ⟨.inr a, b⟩
      · rintro ⟨rfl | a, b⟩
        · exact (h2 y).1 (Classical.not_not.1 fun hn => h ⟨b, hn⟩)
        · exact ⟨a, b⟩
theorem reach_in {rs : List Rul} {x y : ByteArray} (h : Rch (gSuc (drawF rs)) x y) : y = x ∨ y ∈ (drawF rs).map Prod.fst := by
  refine Rch.closed (p := fun y => y = x ∨ y ∈ (drawF rs).map Prod.fst) (fun z _ t ht => ?_) h (.inl rfl)
  obtain ⟨e, he, h1, h2⟩ := mem_suc.1 ht
  rw [← h2]; exact .inr (edge_names he).2
/-- What each name comes to, rising. -/
theorem reach_all (rs : List Rul) : ∃ RL : ByteArray → List ByteArray, ∀ x, RchL rs x (RL x) := by
  refine Classical.axiomOfChoice (r := fun x xs => RchL rs x xs) (fun x => ?_)
  obtain ⟨l, h1, h2⟩ := some_list (fun y => Rch (gSuc (drawF rs)) x y) (x :: (drawF rs).map Prod.fst)
  refine ⟨isort l, (isort_perm l).nodup_iff.2 h1, isort_sorted l, fun y => ?_⟩
  rw [isort_mem, h2]
  constructor
  · exact fun h => h.2
  · refine fun h => ⟨?_, h⟩
    rcases reach_in h with rfl | h3
    · simp
    · exact List.mem_cons_of_mem _ h3
theorem NOk.edge {rs : List Rul} (h : NOk rs) {e : Edg} (he : e ∈ edgesF rs) : e.frm.size ≤ maxLen ∧ e.to.size ≤ maxLen := ⟨h.g.size _ (edge_names he).1, h.g.size _ (edge_names he).2⟩
/-- The search for a reason, between two steps. -/
structure RsI (es : List Edg) (f : ByteArray → Int) (N : List ByteArray) (s : ByteArray) (i : Nat) (S : List ByteArray) : Prop where
  nod : S.Nodup
  s0 : s ∈ S
  lev : ∀ x ∈ S, f x = f s ∧ x ∈ N
  old : ∀ (j : Nat) x, j < i → S[j]? = some x → ∀ e ∈ es, e.frm = x → (f e.to = f s → e.to ∈ S) ∧ ¬ (f e.to = f s - 1 ∧ e.kind ≠ 1)
def RsK (es : List Edg) (f : ByteArray → Int) (s x : ByteArray) (k : Nat) (S : List ByteArray) : Prop := ∀ (j : Nat) e, j < k → es[j]? = some e → e.frm = x → (f e.to = f s → e.to ∈ S) ∧ ¬ (f e.to = f s - 1 ∧ e.kind ≠ 1)
section
variable {es : List Edg} {f : ByteArray → Int} {N : List ByteArray} {s x : ByteArray} {i k : Nat} {S : List ByteArray} {e : Edg}
theorem RsI.start (h : s ∈ N) : RsI es f N s 0 [s] := ⟨by simp, by simp, fun x hx => by rw [List.mem_singleton.1 hx]; exact ⟨rfl, h⟩, fun j x hj => by omega⟩
theorem RsI.len (h : RsI es f N s i S) : S.length ≤ N.length := nd_le h.nod (fun x hx => (h.lev x hx).2)
theorem RsI.next (h : RsI es f N s i S) (hx : S[i]? = some x) (hk : RsK es f s x es.length S) : RsI es f N s (i + 1) S := by
  refine ⟨h.nod, h.s0, h.lev, fun j y hj hy e he hf => ?_⟩
  rcases Nat.lt_succ_iff_lt_or_eq.1 hj with hj | rfl
  · exact h.old j y hj hy e he hf
  · rw [hx] at hy; cases hy
    obtain ⟨a, ha⟩ := List.getElem?_of_mem he
    exact hk a e (List.getElem?_eq_some_iff.1 ha).1 ha hf
theorem RsI.put (h : RsI es f N s i S) {t : ByteArray} (ht : ¬ t ∈ S) (hl : f t = f s) (hn : t ∈ N) (hi : i < S.length) : RsI es f N s i (S ++ [t]) := by
  refine ⟨?_, List.mem_append_left _ h.s0, fun x hx => ?_, fun j x hj hx e he hf => ?_⟩
  · rw [List.nodup_append]
    exact ⟨h.nod, by simp, fun a ha b hb e => ht (by rw [← List.mem_singleton.1 hb, ← e]; exact ha)⟩
  · rcases List.mem_append.1 hx with hx | hx
    · exact h.lev x hx
    · rw [List.mem_singleton.1 hx]; exact ⟨hl, hn⟩
  · rw [List.getElem?_append_left (by omega)] at hx
    obtain ⟨a, b⟩ := h.old j x hj hx e he hf
    exact ⟨fun c => List.mem_append_left _ (a c), b⟩
theorem RsK.skip (h : RsK es f s x k S) (he : es[k]? = some e) (hn : e.frm ≠ x) : RsK es f s x (k + 1) S := by
  intro j d hj hd hf
  rcases Nat.lt_succ_iff_lt_or_eq.1 hj with hj | rfl
  · exact h j d hj hd hf
  · rw [he] at hd; cases hd; exact absurd hf hn
theorem RsK.keep (h : RsK es f s x k S) (he : es[k]? = some e) (h1 : f e.to = f s → e.to ∈ S) (h2 : ¬ (f e.to = f s - 1 ∧ e.kind ≠ 1)) : RsK es f s x (k + 1) S := by
  intro j d hj hd hf
  rcases Nat.lt_succ_iff_lt_or_eq.1 hj with hj | rfl
  · exact h j d hj hd hf
  · rw [he] at hd; cases hd; exact ⟨h1, h2⟩
theorem RsK.put (h : RsK es f s x k S) (t : ByteArray) : RsK es f s x k (S ++ [t]) := fun j d hj hd hf => ⟨fun a => List.mem_append_left _ ((h j d hj hd hf).1 a), (h j d hj hd hf).2⟩
theorem RsI.end_ (h : RsI es f N s i S) (hi : S.length ≤ i) (hl : Lev es f) (hs : 0 < f s) : False := by
  obtain ⟨e, he, h1, h2, h3⟩ := hl.reason hs (fun x => x ∈ S) h.s0 (fun x hx => (h.lev x hx).1) (fun e he hx ht => by
    obtain ⟨j, hj⟩ := List.getElem?_of_mem hx
    exact (h.old j _ (Nat.lt_of_lt_of_le (List.getElem?_eq_some_iff.1 hj).1 hi) hj e he rfl).1 ht)
  obtain ⟨j, hj⟩ := List.getElem?_of_mem h1
  exact (h.old j _ (Nat.lt_of_lt_of_le (List.getElem?_eq_some_iff.1 hj).1 hi) hj e he rfl).2 ⟨h2, h3⟩
end
/-- The first strict edge on a way back, as far as it was looked for. -/
def FB (rs : List Rul) (i : Nat) (b : Int) : Prop :=
  (b = -1 ∧ ∀ (j : Nat) d, j < i → (edgesF rs)[j]? = some d → ¬ Bad rs d) ∨ ∃ (k : Nat) (d : Edg), b = (k : Int) ∧ (edgesF rs)[k]? = some d ∧ Bad rs d ∧ ∀ (j : Nat) d, j < k → (edgesF rs)[j]? = some d → ¬ Bad rs d
theorem FB.step {rs : List Rul} {i : Nat} {e : Edg} (h : FB rs i (-1)) (he : (edgesF rs)[i]? = some e) (hn : ¬ Bad rs e) : FB rs (i + 1) (-1) := by
  rcases h with ⟨_, h⟩ | ⟨k, d, h, _⟩
  · refine .inl ⟨rfl, fun j d hj hd => ?_⟩
    rcases Nat.lt_succ_iff_lt_or_eq.1 hj with hj | rfl
    · exact h j d hj hd
    · rw [he] at hd; cases hd; exact hn
  · omega
theorem FB.hit {rs : List Rul} {i : Nat} {e : Edg} (h : FB rs i (-1)) (he : (edgesF rs)[i]? = some e) (hb : Bad rs e) (j : Nat) : FB rs j (i : Int) := by
  rcases h with ⟨_, h⟩ | ⟨k, d, h, _⟩
  · exact .inr ⟨i, e, rfl, he, hb, h⟩
  · omega
theorem FB.neg {rs : List Rul} {i : Nat} {b : Int} (h : FB rs i b) (hb : b < 0) : b = -1 := by
  rcases h with ⟨h, _⟩ | ⟨k, d, h, _⟩ <;> omega
/-- Together: what Levels answered and what was found. -/
theorem FB.bad {rs : List Rul} {i : Nat} {b n e : Int} {ls : List Lvl} (h : FB rs i b) (hi : (edgesF rs).length ≤ i ∨ 0 ≤ b) (ho : LvO rs ls n e) (he : e ≠ 0) : ls = [] ∧ ∃ (k : Nat) (d : Edg), b = (k : Int) ∧ (edgesF rs)[k]? = some d ∧ n = d.rule ∧ e = codeF d.kind ∧ d.kind ≠ 1 := by
  cases ho with
  | @bad k d hd hb hf =>
    refine ⟨rfl, ?_⟩
    rcases h with ⟨rfl, h⟩ | ⟨j, d2, rfl, h1, h2, h3⟩
    · exact absurd hb (h k d (by have := (List.getElem?_eq_some_iff.1 hd).1; omega) hd)
    · have : j = k := by
        rcases Nat.lt_trichotomy j k with hlt | e | hlt
        · exact absurd h2 (hf j d2 hlt h1)
        · exact e
        · exact absurd hb (h3 k d hlt hd)
      subst this
      rw [h1] at hd; cases hd
      exact ⟨j, _, rfl, h1, rfl, rfl, h2.1⟩
  | good _ _ _ => exact absurd rfl he
theorem FB.good {rs : List Rul} {i : Nat} {b n e : Int} {ls : List Lvl} (h : FB rs i b) (ho : LvO rs ls n e) (he : e = 0) : b = -1 ∧ n = 0 ∧ ∃ f, Lev (edgesF rs) f ∧ (∀ x, f x < 2097152) ∧ ls = (namesG (drawF rs)).map fun s => ⟨s, f s⟩ := by
  cases ho with
  | @bad k d hd hb hf => exact absurd he (codeF_ne _)
  | @good f hq hl hb =>
    refine ⟨?_, rfl, f, hl, hb, rfl⟩
    rcases h with ⟨rfl, _⟩ | ⟨j, d2, rfl, h1, h2, h3⟩
    · rfl
    · exact absurd h2 (hq d2 (List.mem_of_getElem? h1))
end Go.Ped
set_option linter.unusedVariables false
set_option maxRecDepth 20000
namespace Go.Ped
open Go Go.Eng Go.RowKit Go.Proofs

theorem tf41_0 : fieldB Tryz.prog 41 0 = some 0 := by kernel_rfl
theorem tf41_1 : fieldB Tryz.prog 41 1 = some 1 := by kernel_rfl
theorem cal13 : CallOk Tryz.prog 13 := ⟨⟨Tryz.f13, Tryz.func13, rfl, by decide⟩⟩
theorem cal9 : CallOk Tryz.prog 9 := ⟨⟨Tryz.f9, Tryz.func9, rfl, by decide⟩⟩
theorem lhas_spec {Z : Nat → Prop} {w0 w : World} {L : List Res} (st : St Z w0 w L) {v : Value} {xs : List ByteArray} (h : rStr.sl Z w0 v xs) (s : ByteArray) : Calls Tryz.prog 9 #[v, (.string s)] w (Ret fun r w' => r = .bool (hasB xs s) ∧ St Z w0 w' L) := by
 refine calls_of_WC (m := 18) (rs := [.tmp 4]) Tryz.func9 rfl rfl rfl rfl ?_
 refine Wsr ?_
 refine W1 (OpT.assign (.bool false) rfl ?_)
 refine Wnt ?_
 refine WC.seq ?_
 refine Wsr ?_
 refine W1 (OpT.assign (ii 0) rfl ?_)
 refine Wnt ?_
 refine WC.block ?_
 refine WC.loop (fun m ρ wz => ∃ (i : Nat), m = xs.length - i ∧ i ≤ xs.length ∧ (∀ (j : Nat) y, j < i → xs[j]? = some y → ¬ y = s) ∧ ρ 5 = (ni i) ∧ ρ 0 = v ∧ ρ 1 = (.string s) ∧ St Z w0 wz (L)) _ ⟨0, rfl, by omega, fun j y hj => absurd hj (Nat.not_lt_zero _), rfl, rfl, rfl, st⟩ ?_
 rintro m1 ρ2 w3 ⟨i, hm9, hp5, HP, hs6, hs7, hs8, st4⟩
 have hxl := Rl.sl_le h
 refine WC.seq ?_
 refine Wsr ?_
 refine W1 (OpT.move (ni i) hs6 ?_)
 refine W1 (OpT.move v hs7 ?_)
 refine W1 (OpT.lenR rfl tu37 h rfl ?_)
 refine W1 (OpT.ilt .i64 (((i : Nat) : Int)) (((xs.length : Nat) : Int)) rfl rfl ?_)
 refine Wnt ?_
 refine WC.condP (((i : Nat) : Int) < ((xs.length : Nat) : Int)) rfl (fun h10 => ?_) (fun h10 => ?_)
 ·refine WC.skip ?_
  refine thenQ_n ?_
  refine WC.seq ?_
  refine WC.block ?_
  refine Wsr ?_
  refine W1 (OpT.move v hs7 ?_)
  refine W1 (OpT.move (ni i) hs6 ?_)
  obtain ⟨x11, hx11⟩ : ∃ x, (xs)[i]? = some x := ⟨_, List.getElem?_eq_getElem (by omega)⟩
  refine W1 (OpT.idxX tu37 ts9 h rfl .i64 (i) rfl hx11 (fun ad12 cs13 hr14 hR15 => ?_))
  have hR15c := hR15
  obtain rfl := hR15
  refine W1 (OpT.loadS ad12 (.string x11) ta9 rfl (hr14.cell st4 (j := 0) rfl) ?_)
  refine W1 (OpT.move (.string s) hs8 ?_)
  refine W1 (OpT.seq (x11) (s) rfl rfl ?_)
  refine Wnt ?_
  refine WC.condP (x11 = s) rfl (fun h16 => ?_) (fun h16 => ?_)
  ·refine WC.seq ?_
   refine WC.region ?_
   refine W1 (OpT.assign (.bool true) rfl ?_)
   refine Wnt ?_
   refine WC.ret <| blkQ_r <| thenQ_r <| loopQ_r <| blkQ_r <| thenQ_r <| retQ.one (.bool true) rfl ?_
   exact ⟨_, rfl, by rw [show hasB xs s = true from hasB_iff.2 (h16 ▸ List.mem_of_getElem? hx11)], st4⟩
  refine WC.skip ?_
  refine blkQ_n ?_
  refine thenQ_n ?_
  refine WC.region ?_
  refine W1 (OpT.move (ni i) hs6 ?_)
  refine W1 (OpT.iadd .i64 (((i : Nat) : Int)) (1) (((i + 1 : Nat) : Int)) rfl rfl (wadd (a := i) (b := 1) (by omega)) ?_)
  refine W1 (OpT.assign (ni (i + 1)) rfl ?_)
  refine WL.nil ?_
  exact loopQ_n _ (by omega) ⟨i + 1, rfl, by omega, fun j y hj hy => by rcases Nat.lt_succ_iff_lt_or_eq.1 hj with hj | rfl; exact HP j y hj hy; rw [hx11] at hy; cases hy; exact h16, rfl, hs7, hs8, st4⟩
 refine WC.exit ?_
 refine thenQ_x ?_
 refine loopQ_x ?_
 refine blkQ_hit ?_
 refine thenQ_n ?_
 refine Wsr ?_
 refine W1 (OpT.assign (.bool false) rfl ?_)
 refine Wnt ?_
 refine WC.ret <| retQ.one (.bool false) rfl ?_
 exact ⟨_, rfl, by rw [show hasB xs s = false from hasB_not.2 (fun hm => by obtain ⟨j, hj⟩ := List.getElem?_of_mem hm; exact HP j s (Nat.lt_of_lt_of_le (List.getElem?_eq_some_iff.1 hj).1 (by omega)) hj rfl)], st4⟩

theorem level_spec {Z : Nat → Prop} {w0 w : World} {L : List Res} (st : St Z w0 w L) {v : Value} {ls : List Lvl} (h : rLvl.sl Z w0 v ls) (s : ByteArray) : Calls Tryz.prog 13 #[v, (.string s)] w (Ret fun r w' => r = .tuple #[.int .i32 (((lvF ls s).map Lvl.n).getD 0), .bool (lvF ls s).isSome] ∧ St Z w0 w' L) := by
 refine calls_of_WC (m := 25) (rs := [.tmp 4, .tmp 5]) Tryz.func13 rfl rfl rfl rfl ?_
 refine Wsr ?_
 refine W1 (OpT.assign (.int .i32 (0)) rfl ?_)
 refine W1 (OpT.assign (.bool false) rfl ?_)
 refine Wnt ?_
 refine WC.seq ?_
 refine Wsr ?_
 refine W1 (OpT.assign (ii 0) rfl ?_)
 refine Wnt ?_
 refine WC.block ?_
 refine WC.loop (fun m ρ wz => ∃ (i : Nat), m = ls.length - i ∧ i ≤ ls.length ∧ ((ls.take i).all (fun x => !decide (x.pred = s)) = true) ∧ ρ 6 = (ni i) ∧ ρ 0 = v ∧ ρ 1 = (.string s) ∧ St Z w0 wz (L)) _ ⟨0, rfl, by omega, rfl, rfl, rfl, rfl, st⟩ ?_
 rintro m1 ρ2 w3 ⟨i, hm9, hp5, HP, hs6, hs7, hs8, st4⟩
 have hxl := Rl.sl_le h
 refine WC.seq ?_
 refine Wsr ?_
 refine W1 (OpT.move (ni i) hs6 ?_)
 refine W1 (OpT.move v hs7 ?_)
 refine W1 (OpT.lenR rfl tu28 h rfl ?_)
 refine W1 (OpT.ilt .i64 (((i : Nat) : Int)) (((ls.length : Nat) : Int)) rfl rfl ?_)
 refine Wnt ?_
 refine WC.condP (((i : Nat) : Int) < ((ls.length : Nat) : Int)) rfl (fun h10 => ?_) (fun h10 => ?_)
 ·refine WC.skip ?_
  refine thenQ_n ?_
  refine WC.seq ?_
  refine WC.block ?_
  refine Wsr ?_
  refine W1 (OpT.move v hs7 ?_)
  refine W1 (OpT.move (ni i) hs6 ?_)
  obtain ⟨x11, hx11⟩ : ∃ x, (ls)[i]? = some x := ⟨_, List.getElem?_eq_getElem (by omega)⟩
  refine W1 (OpT.idxX tu28 ts41 h rfl .i64 (i) rfl hx11 (fun ad12 cs13 hr14 hR15 => ?_))
  have hR15c := hR15
  obtain rfl := hR15
  refine W1 (OpT.field 0 ad12 ad12 tf41_0 rfl rfl ?_)
  refine W1 (OpT.loadS ad12 (.string x11.pred) ta9 rfl (hr14.cell st4 (j := 0) rfl) ?_)
  refine W1 (OpT.move (.string s) hs8 ?_)
  refine W1 (OpT.seq (x11.pred) (s) rfl rfl ?_)
  refine Wnt ?_
  refine WC.condP (x11.pred = s) rfl (fun h16 => ?_) (fun h16 => ?_)
  ·refine WC.seq ?_
   refine WC.region ?_
   refine W1 (OpT.move v hs7 ?_)
   refine W1 (OpT.move (ni i) hs6 ?_)
   refine W1 (OpT.idxX tu28 ts41 h rfl .i64 (i) rfl hx11 (fun ad18 cs19 hr20 hR21 => ?_))
   have hR21c := hR21
   obtain rfl := hR21
   refine W1 (OpT.field 1 ad18 (ad18.add 1) tf41_1 rfl rfl ?_)
   refine W1 (OpT.loadS (ad18.add 1) (.int .i32 (x11.n)) ta21 rfl (hr20.cell st4 (j := 1) rfl) ?_)
   refine W1 (OpT.assign (.int .i32 (x11.n)) rfl ?_)
   refine W1 (OpT.assign (.bool true) rfl ?_)
   refine Wnt ?_
   refine WC.ret <| blkQ_r <| thenQ_r <| loopQ_r <| blkQ_r <| thenQ_r <| retQ.two (.int .i32 (x11.n)) (.bool true) rfl rfl ?_
   exact ⟨_, rfl, by unfold lvF; rw [find_at hx11 HP (decide_eq_true h16)]; rfl, st4⟩
  refine WC.skip ?_
  refine blkQ_n ?_
  refine thenQ_n ?_
  refine WC.region ?_
  refine W1 (OpT.move (ni i) hs6 ?_)
  refine W1 (OpT.iadd .i64 (((i : Nat) : Int)) (1) (((i + 1 : Nat) : Int)) rfl rfl (wadd (a := i) (b := 1) (by omega)) ?_)
  refine W1 (OpT.assign (ni (i + 1)) rfl ?_)
  refine WL.nil ?_
  exact loopQ_n _ (by omega) ⟨i + 1, rfl, by omega, all_step (p := fun x => decide (x.pred = s)) hx11 HP (decide_eq_false h16), rfl, hs7, hs8, st4⟩
 refine WC.exit ?_
 refine thenQ_x ?_
 refine loopQ_x ?_
 refine blkQ_hit ?_
 refine thenQ_n ?_
 refine Wsr ?_
 refine W1 (OpT.assign (.int .i32 (0)) rfl ?_)
 refine W1 (OpT.assign (.bool false) rfl ?_)
 refine Wnt ?_
 refine WC.ret <| retQ.two (.int .i32 (0)) (.bool false) rfl rfl ?_
 exact ⟨_, rfl, by unfold lvF; rw [find_none2 HP (by omega)]; rfl, st4⟩

theorem level_at {Z : Nat → Prop} {w0 w : World} {L : List Res} (st : St Z w0 w L) {v : Value} {l : List ByteArray} {f : ByteArray → Int} (h : rLvl.sl Z w0 v (l.map fun s => ⟨s, f s⟩)) {s : ByteArray} (hs : s ∈ l) : Calls Tryz.prog 13 #[v, .string s] w (Ret fun r w' => r = .tuple #[.int .i32 (f s), .bool true] ∧ St Z w0 w' L) := by
  refine (level_spec st h s).mono ?_
  rintro e w' ⟨r, rfl, rfl, st'⟩
  exact ⟨_, rfl, by rw [lvF_names hs]; rfl, st'⟩
theorem reason_spec {Z : Nat → Prop} {w0 w : World} {L : List Res} (st : St Z w0 w L) {ev lv : Value} {es : List Edg} {l : List ByteArray} {f : ByteArray → Int} (hes : rEdg.sl Z w0 ev es) (hls : rLvl.sl Z w0 lv (l.map fun s => ⟨s, f s⟩)) (hl : Lev es f) (hto : ∀ e ∈ es, e.to ∈ l) (hll : l.length < 2097152) (hfb : ∀ x, f x < 2097152) (s : ByteArray) (hs : s ∈ l) (hpos : 0 < f s) : Calls Tryz.prog 12 #[ev, lv, (.string s), (.int .i32 (f s))] w (Ret fun r w' => r = .bool true ∧ St Z w0 w' L) := by
 have hfs := hfb s
 refine calls_of_WC (m := 87) (rs := [.tmp 8]) Tryz.func12 rfl rfl rfl rfl ?_
 refine Wsr ?_
 refine W1 (OpT.assign (.bool false) rfl ?_)
 refine Wns ?_
 refine W1 (OpT.move (.string s) rfl ?_)
 refine W1 (OpT.buildSlice st [(0, (.string s))] [(.string s)] tu37 ts9 tz9 (mp1 rfl) (by kernel_rfl) (by decide) (fun b1 w2 st3 => ?_))
 refine W1 (OpT.assign (.slice (some ⟨b1, 0, none⟩) 1 1) rfl ?_)
 refine Wnt ?_
 refine WC.seq ?_
 refine Wsr ?_
 refine W1 (OpT.assign (ii 0) rfl ?_)
 refine Wnt ?_
 refine WC.block ?_
 have st4 := St.blkRow (n := 1) (st3 : St Z w0 w2 (Blk b1 9 [(.string s)] :: L)) rfl (by decide)
 replace st4 : St Z w0 w2 (Row 9 1 (.slice (some ⟨b1, 0, none⟩) 1 1) ([s]).length (([s]).map Value.string) :: L) := st4
 refine WC.loop (fun m ρ wz => ∃ (i : Nat), ∃ (S : List ByteArray), ∃ (sv : Value), m = l.length - i ∧ RsI es f l s i S ∧ ρ 9 = sv ∧ ρ 10 = (ni i) ∧ ρ 0 = ev ∧ ρ 1 = lv ∧ ρ 3 = (.int .i32 (f s)) ∧ St Z w0 wz (Row 9 1 sv S.length (S.map Value.string) :: L)) _ ⟨0, [s], (.slice (some ⟨b1, 0, none⟩) 1 1), rfl, RsI.start hs, rfl, rfl, rfl, rfl, rfl, st4⟩ ?_
 rintro m5 ρ6 w7 ⟨i, S, sv, hm14, HI, hs10, hs9, hs11, hs12, hs13, st8⟩
 have osv := st8.rowOne (i := 0) rfl
 have csv := st8.rowCel (i := 0) rfl
 have hSl := HI.len
 refine WC.seq ?_
 refine Wsr ?_
 refine W1 (OpT.move (ni i) hs9 ?_)
 refine W1 (OpT.move sv hs10 ?_)
 refine W1 (OpT.lenRow st8 0 rfl rfl tu37 rfl ?_)
 refine W1 (OpT.ilt .i64 (((i : Nat) : Int)) (((S.length : Nat) : Int)) rfl rfl ?_)
 refine Wnt ?_
 refine WC.condP (((i : Nat) : Int) < ((S.length : Nat) : Int)) rfl (fun h15 => ?_) (fun h15 => ?_)
 ·refine WC.skip ?_
  refine thenQ_n ?_
  refine WC.seq ?_
  refine WC.block ?_
  refine WC.seq ?_
  obtain ⟨sx, hsx⟩ : ∃ x, S[i]? = some x := ⟨_, List.getElem?_eq_getElem (by omega)⟩
  refine WC.region ?_
  refine W1 (OpT.assign (ii 0) rfl ?_)
  refine Wnt ?_
  refine WC.block ?_
  refine WC.loop (fun m ρ wz => ∃ (k : Nat), ∃ (S : List ByteArray), ∃ (sv : Value), m = es.length - k ∧ k ≤ es.length ∧ RsI es f l s i S ∧ RsK es f s sx k S ∧ S[i]? = some sx ∧ i < S.length ∧ ρ 9 = sv ∧ ρ 11 = (ni k) ∧ ρ 0 = ev ∧ ρ 1 = lv ∧ ρ 3 = (.int .i32 (f s)) ∧ ρ 10 = (ni i) ∧ St Z w0 wz (Row 9 1 sv S.length (S.map Value.string) :: L)) _ ⟨0, S, sv, rfl, by omega, HI, fun j e hj => absurd hj (Nat.not_lt_zero _), hsx, by omega, hs10, rfl, hs11, hs12, hs13, hs9, st8⟩ ?_
  rintro m16 ρ17 w18 ⟨k, S, sv, hm27, hp20, HI, HK, hsx, hil, hs22, hs21, hs23, hs24, hs25, hs26, st19⟩
  have osv := st19.rowOne (i := 0) rfl
  have csv := st19.rowCel (i := 0) rfl
  have hSl := HI.len
  have hesl := Rl.sl_le hes
  refine WC.seq ?_
  refine Wsr ?_
  refine W1 (OpT.move (ni k) hs21 ?_)
  refine W1 (OpT.move ev hs23 ?_)
  refine W1 (OpT.lenR rfl tu26 hes rfl ?_)
  refine W1 (OpT.ilt .i64 (((k : Nat) : Int)) (((es.length : Nat) : Int)) rfl rfl ?_)
  refine Wnt ?_
  refine WC.condP (((k : Nat) : Int) < ((es.length : Nat) : Int)) rfl (fun h28 => ?_) (fun h28 => ?_)
  ·refine WC.skip ?_
   refine thenQ_n ?_
   refine WC.seq ?_
   refine WC.block ?_
   refine WC.seq ?_
   refine WC.seq ?_
   obtain ⟨ce, hce⟩ : ∃ x, es[k]? = some x := ⟨_, List.getElem?_eq_getElem (by omega)⟩
   obtain ⟨gk, cap, ex, rfl, hE, hc, hm9, st29⟩ := St.openRow (by omega) st19
   replace st29 : St Z w0 w18 (Blk gk 9 (S.map Value.string ++ ex) :: L) := st29
   obtain ⟨adq1, csq1, hEq1, hrq1, hRq1⟩ := Rl.sl_el hes hce
   have hRq1c := hRq1
   obtain rfl := hRq1
   refine WC.draw 10 (fun jj vv => match jj with | 0 => vv = ev | 1 => vv = (ni k) | 2 => vv = (.pointer (some adq1)) | 3 => vv = (.pointer (some adq1)) | 4 => vv = (.string ce.frm) | 5 => vv = (sl gk S.length cap) | 6 => vv = (ni i) | 7 => vv = (.pointer (some ⟨gk, i, none⟩)) | 8 => vv = (.string sx) | 9 => vv = (.bool (decide (ce.frm ≠ sx))) | _ => True) (fun _ _ => []) st29 fmix (by kernel_rfl) ((obS (obS (obS (obS (obS (obS (obS (obS (obS (obS ob0 ?_) ?_) ?_) ?_) ?_) ?_) ?_) ?_) ?_) ?_)) ?_
   ·intro vals ρ w31 X hd h0 st30
    have e32 : ρ 0 = ev := (h0 0 rfl).trans hs23
    refine W1 (OpT.move ev e32 ?_)
    refine WL.nil ?_
    exact oneQ.mk ⟨rfl, st30⟩
   ·intro vals ρ w34 X hd h0 st33
    have e35 : ρ 11 = (ni k) := (h0 11 rfl).trans hs21
    refine W1 (OpT.move (ni k) e35 ?_)
    refine WL.nil ?_
    exact oneQ.mk ⟨rfl, st33⟩
   ·intro vals ρ w37 X hd h0 st36
    have e38 : ρ 28 = ev := ((hd 0 rfl).2 28 rfl).trans (hd 0 rfl).1
    have e39 : ρ 29 = (ni k) := ((hd 1 rfl).2 29 rfl).trans (hd 1 rfl).1
    refine W1 (OpT.idxE tu26 ts35 e38 .i64 (k) e39 hEq1 ?_)
    refine WL.nil ?_
    exact oneQ.mk ⟨rfl, st36⟩
   ·intro vals ρ w46 X hd h0 st45
    have e47 : ρ 30 = (.pointer (some adq1)) := ((hd 2 rfl).2 30 rfl).trans (hd 2 rfl).1
    refine W1 (OpT.field 0 adq1 adq1 tf35_0 e47 rfl ?_)
    refine WL.nil ?_
    exact oneQ.mk ⟨rfl, st45⟩
   ·intro vals ρ w49 X hd h0 st48
    have e50 : ρ 31 = (.pointer (some adq1)) := ((hd 3 rfl).2 31 rfl).trans (hd 3 rfl).1
    refine W1 (OpT.loadS adq1 (.string ce.frm) ta9 e50 (hrq1.cell st48 (j := 0) rfl) ?_)
    refine WL.nil ?_
    exact oneQ.mk ⟨rfl, st48⟩
   ·intro vals ρ w52 X hd h0 st51
    have e53 : ρ 9 = (sl gk S.length cap) := (h0 9 rfl).trans hs22
    refine W1 (OpT.move (sl gk S.length cap) e53 ?_)
    refine WL.nil ?_
    exact oneQ.mk ⟨rfl, st51⟩
   ·intro vals ρ w55 X hd h0 st54
    have e56 : ρ 10 = (ni i) := (h0 10 rfl).trans hs26
    refine W1 (OpT.move (ni i) e56 ?_)
    refine WL.nil ?_
    exact oneQ.mk ⟨rfl, st54⟩
   ·intro vals ρ w58 X hd h0 st57
    have e59 : ρ 33 = (sl gk S.length cap) := ((hd 5 rfl).2 33 rfl).trans (hd 5 rfl).1
    have e60 : ρ 34 = (ni i) := ((hd 6 rfl).2 34 rfl).trans (hd 6 rfl).1
    refine W1 (OpT.idx 1 ⟨gk, 0, none⟩ ⟨gk, i, none⟩ S.length cap .i64 (((i : Nat) : Int)) tu37 ts9 e59 e60 (by omega) (by omega) (add_at _ _) ?_)
    refine WL.nil ?_
    exact oneQ.mk ⟨rfl, st57⟩
   ·intro vals ρ w62 X hd h0 st61
    have e63 : ρ 35 = (.pointer (some ⟨gk, i, none⟩)) := ((hd 7 rfl).2 35 rfl).trans (hd 7 rfl).1
    refine W1 (OpT.loadS ⟨gk, i, none⟩ (.string sx) ta9 e63 (st61.cellB (i := 0) rfl (by rw [List.getElem?_append_left (by simpa using hil), List.getElem?_map, hsx]; rfl)) ?_)
    refine WL.nil ?_
    exact oneQ.mk ⟨rfl, st61⟩
   ·intro vals ρ w65 X hd h0 st64
    have e66 : ρ 32 = (.string ce.frm) := ((hd 4 rfl).2 32 rfl).trans (hd 4 rfl).1
    have e67 : ρ 36 = (.string sx) := ((hd 8 rfl).2 36 rfl).trans (hd 8 rfl).1
    refine W1 (OpT.sne (ce.frm) (sx) e66 e67 ?_)
    refine WL.nil ?_
    exact oneQ.mk ⟨rfl, st64⟩
   intro vals ρ70 w69 hv h0 st68
   replace st68 : St Z w0 w69 (Blk gk 9 (S.map Value.string ++ ex) :: L) := st68
   have e71 : ρ70 0 = ev := (h0 0 rfl).trans hs23
   have e72 : ρ70 1 = lv := (h0 1 rfl).trans hs24
   have e73 : ρ70 3 = (.int .i32 (f s)) := (h0 3 rfl).trans hs25
   have e74 : ρ70 9 = (sl gk S.length cap) := (h0 9 rfl).trans hs22
   have e75 : ρ70 10 = (ni i) := (h0 10 rfl).trans hs26
   have e76 : ρ70 11 = (ni k) := (h0 11 rfl).trans hs21
   have e77 : ρ70 37 = (.bool (decide (ce.frm ≠ sx))) := ((hv 9 rfl).2 37 rfl).trans (hv 9 rfl).1
   clear hv h0
   refine Wnt ?_
   refine WC.condP (ce.frm ≠ sx) e77 (fun h78 => ?_) (fun h78 => ?_)
   ·refine WC.exit ?_
    refine thenQ_x ?_
    refine blkQ_hit ?_
    refine thenQ_n ?_
    refine WC.region ?_
    refine W1 (OpT.move (ni k) e76 ?_)
    refine W1 (OpT.iadd .i64 (((k : Nat) : Int)) (1) (((k + 1 : Nat) : Int)) rfl rfl (wadd (a := k) (b := 1) (by omega)) ?_)
    refine W1 (OpT.assign (ni (k + 1)) rfl ?_)
    refine WL.nil ?_
    have st79 : St Z w0 w69 (Row 9 1 (sl gk S.length cap) S.length (S.map Value.string) :: L) := St.shutRow (cells := S.map Value.string ++ ex) st68 (by simp only [List.length_append, List.length_map]; omega) (by omega) hm9 (by rw [Nat.mul_one, List.take_append_of_le_length (by simp), List.take_of_length_le (by simp)])
    exact loopQ_n _ (by omega) ⟨k + 1, S, (sl gk S.length cap), rfl, by omega, HI, HK.skip hce h78, hsx, hil, e74, rfl, e71, e72, e73, e75, st79⟩
   refine WC.skip ?_
   refine thenQ_n ?_
   refine WC.seq ?_
   have st80 : St Z w0 w69 (Row 9 1 (sl gk S.length cap) S.length (S.map Value.string) :: L) := St.shutRow (cells := S.map Value.string ++ ex) st68 (by simp only [List.length_append, List.length_map]; omega) (by omega) hm9 (by rw [Nat.mul_one, List.take_append_of_le_length (by simp), List.take_of_length_le (by simp)])
   refine WC.region ?_
   refine W1 (OpT.move lv e72 ?_)
   refine W1 (OpT.move ev e71 ?_)
   refine W1 (OpT.move (ni k) e76 ?_)
   refine W1 (OpT.idxE tu26 ts35 rfl .i64 (k) rfl hEq1 ?_)
   refine W1 (OpT.field 1 adq1 (adq1.add 1) tf35_1 rfl rfl ?_)
   refine W1 (OpT.loadS (adq1.add 1) (.string ce.to) ta9 rfl (hrq1.cell st80 (j := 1) rfl) ?_)
   refine W1 (OpT.callS cal13 [] [] [lv, (.string ce.to)] rfl (ca2 rfl rfl) (level_at st80 hls (hto _ (List.mem_of_getElem? hce))) ?_)
   rintro v86 w87 ⟨rfl, st88⟩
   refine W1 (OpT.move (.tuple #[(.int .i32 (f ce.to)), (.bool true)]) rfl ?_)
   refine W1 (OpT.extract [(.int .i32 (f ce.to)), (.bool true)] (.int .i32 (f ce.to)) rfl rfl ?_)
   refine W1 (OpT.extract [(.int .i32 (f ce.to)), (.bool true)] (.bool true) rfl rfl ?_)
   refine W1 (OpT.assign (.int .i32 (f ce.to)) rfl ?_)
   refine W1 (OpT.assign (.bool true) rfl ?_)
   refine Wnt ?_
   refine WC.seq ?_
   refine Wsr ?_
   refine W1 (OpT.move (.bool true) rfl ?_)
   refine W1 (OpT.move (.bool true) rfl ?_)
   refine W2 (dj := 49) rfl (OpT.move (.int .i32 (f ce.to)) rfl ?_)
   refine W2 (dj := 49) rfl (OpT.move (.int .i32 (f s)) e73 ?_)
   refine W2 (dj := 49) rfl (OpT.isub .i32 (f s) (1) ((f s) - 1) rfl rfl (wrapI_i32 (by omega) (by omega)) ?_)
   refine W2 (dj := 49) rfl (OpT.ieq .i32 (f ce.to) ((f s) - 1) rfl rfl ?_)
   refine W1 (OpT.pickT (.bool (decide ((f ce.to) = ((f s) - 1)))) rfl rfl ?_)
   refine W1 (OpT.move (.bool (decide ((f ce.to) = ((f s) - 1)))) rfl ?_)
   by_cases h89 : (f ce.to) = ((f s) - 1)
   ·refine W2 (dj := 55) (bT h89) (OpT.move ev e71 ?_)
    refine W2 (dj := 55) (bT h89) (OpT.move (ni k) e76 ?_)
    refine W2 (dj := 55) (bT h89) (OpT.idxE tu26 ts35 rfl .i64 (k) rfl hEq1 ?_)
    refine W2 (dj := 55) (bT h89) (OpT.field 2 adq1 (adq1.add 2) tf35_2 rfl rfl ?_)
    refine W2 (dj := 55) (bT h89) (OpT.loadS (adq1.add 2) (.int .i8 (ce.kind)) ta33 rfl (hrq1.cell st88 (j := 2) rfl) ?_)
    refine W2 (dj := 55) (bT h89) (OpT.ine .i8 (ce.kind) (1) rfl rfl ?_)
    refine W1 (OpT.pickT (.bool (decide (ce.kind ≠ 1))) (bT h89) rfl ?_)
    refine Wnt ?_
    refine WC.condP (ce.kind ≠ 1) rfl (fun h95 => ?_) (fun h95 => ?_)
    ·refine WC.seq ?_
     refine WC.region ?_
     refine W1 (OpT.assign (.bool true) rfl ?_)
     refine Wnt ?_
     refine WC.ret <| thenQ_r <| blkQ_r <| thenQ_r <| loopQ_r <| blkQ_r <| blkQ_r <| thenQ_r <| loopQ_r <| blkQ_r <| thenQ_r <| retQ.one (.bool true) rfl ?_
     exact ⟨_, rfl, rfl, (St.selD 1 [] rfl rfl (by decide) st88)⟩
    refine WC.skip ?_
    refine thenQ_n ?_
    refine Wsr ?_
    refine W1 (OpT.move (.bool true) rfl ?_)
    refine W1 (OpT.move (.bool true) rfl ?_)
    refine W2 (dj := 64) rfl (OpT.move (.int .i32 (f ce.to)) rfl ?_)
    refine W2 (dj := 64) rfl (OpT.move (.int .i32 (f s)) e73 ?_)
    refine W2 (dj := 64) rfl (OpT.ieq .i32 (f ce.to) (f s) rfl rfl ?_)
    refine W1 (OpT.pickT (.bool (decide ((f ce.to) = (f s)))) rfl rfl ?_)
    refine W1 (OpT.move (.bool (decide ((f ce.to) = (f s)))) rfl ?_)
    by_cases h96 : (f ce.to) = (f s)
    ·refine W2 (dj := 69) (bT h96) (OpT.move (sl gk S.length cap) e74 ?_)
     refine W2 (dj := 69) (bT h96) (OpT.move ev e71 ?_)
     refine W2 (dj := 69) (bT h96) (OpT.move (ni k) e76 ?_)
     refine W2 (dj := 69) (bT h96) (OpT.idxE tu26 ts35 rfl .i64 (k) rfl hEq1 ?_)
     refine W2 (dj := 69) (bT h96) (OpT.field 1 adq1 (adq1.add 1) tf35_1 rfl rfl ?_)
     refine W2 (dj := 69) (bT h96) (OpT.loadS (adq1.add 1) (.string ce.to) ta9 rfl (hrq1.cell st88 (j := 1) rfl) ?_)
     obtain ⟨Z102, hz103, hw104, hr105, st106, bk107⟩ := St.freezeStr (xs := S) (st88 : St Z w0 w87 (Row 9 1 (sl gk S.length cap) S.length (S.map Value.string) :: L)) (by omega)
     refine W2 (dj := 69) (bT h96) (OpT.callS cal9 [] [] [(sl gk S.length cap), (.string ce.to)] rfl (ca2 rfl rfl) (lhas_spec st106 hr105 ce.to) ?_)
     rintro v108 w109 ⟨rfl, st110⟩
     replace st110 := bk107 _ _ st110
     refine W2 (dj := 69) (bT h96) (OpT.not (hasB S ce.to) rfl ?_)
     refine W1 (OpT.pickT (.bool (!(hasB S ce.to))) (bT h96) rfl ?_)
     refine Wnt ?_
     refine WC.cond ((!(hasB S ce.to))) rfl (fun h111 => ?_) (fun h111 => ?_)
     ·refine WC.region ?_
      refine W1 (OpT.move (sl gk S.length cap) e74 ?_)
      refine W1 (OpT.move ev e71 ?_)
      refine W1 (OpT.move (ni k) e76 ?_)
      refine W1 (OpT.idxE tu26 ts35 rfl .i64 (k) rfl hEq1 ?_)
      refine W1 (OpT.field 1 adq1 (adq1.add 1) tf35_1 rfl rfl ?_)
      refine W1 (OpT.loadS (adq1.add 1) (.string ce.to) ta9 rfl (hrq1.cell st110 (j := 1) rfl) ?_)
      refine W1 (OpT.buildSlice st110 [(0, (.string ce.to))] [(.string ce.to)] tu37 ts9 tz9 (mp1 rfl) (by kernel_rfl) (by decide) (fun b117 w118 st119 => ?_))
      have st120 : St Z w0 w118 (Blk b117 9 [(.string ce.to)] :: Row 9 1 (sl gk S.length cap) S.length (S.map Value.string) :: L) := St.selT [Blk b117 9 [(.string ce.to)], Row 9 1 (sl gk S.length cap) S.length (S.map Value.string)] [0, 1] rfl (by decide) st119
      refine W1 (OpT.append st120 1 tu37 ts9 tz9 rfl tb9 (by decide) rfl rfl rfl rfl (by omega) (by omega) (fun v121 w122 st123 hn124 => ?_))
      have o125 := st123.rowOne (i := 0) rfl
      have c126 := st123.rowCel (i := 0) rfl
      have st127 : St Z w0 w122 (Row 9 1 v121 (S ++ [ce.to]).length ((S ++ [ce.to]).map Value.string) :: L) := by rw [List.length_append, List.map_append]; exact st123
      refine W1 (OpT.assign v121 rfl ?_)
      refine WL.nil ?_
      refine blkQ_n ?_
      refine thenQ_n ?_
      refine WC.region ?_
      refine W1 (OpT.move (ni k) e76 ?_)
      refine W1 (OpT.iadd .i64 (((k : Nat) : Int)) (1) (((k + 1 : Nat) : Int)) rfl rfl (wadd (a := k) (b := 1) (by omega)) ?_)
      refine W1 (OpT.assign (ni (k + 1)) rfl ?_)
      refine WL.nil ?_
      have hhas : hasB S ce.to = false := by simpa using h111
      have HI2 := HI.put (t := ce.to) (hasB_not.1 hhas) h96 (hto _ (List.mem_of_getElem? hce)) (List.getElem?_eq_some_iff.1 hsx).1
      exact loopQ_n _ (by omega) ⟨k + 1, (S ++ [ce.to]), v121, rfl, by omega, HI2, (HK.put ce.to).keep hce (fun _ => List.mem_append_right _ (by simp)) (fun q => h95 q.2), by rw [List.getElem?_append_left (List.getElem?_eq_some_iff.1 hsx).1]; exact hsx, by simp; omega, rfl, rfl, e71, e72, e73, e75, st127⟩
     refine WC.skip ?_
     refine blkQ_n ?_
     refine thenQ_n ?_
     refine WC.region ?_
     refine W1 (OpT.move (ni k) e76 ?_)
     refine W1 (OpT.iadd .i64 (((k : Nat) : Int)) (1) (((k + 1 : Nat) : Int)) rfl rfl (wadd (a := k) (b := 1) (by omega)) ?_)
     refine W1 (OpT.assign (ni (k + 1)) rfl ?_)
     refine WL.nil ?_
     have hhas : hasB S ce.to = true := by simpa using h111
     exact loopQ_n _ (by omega) ⟨k + 1, S, (sl gk S.length cap), rfl, by omega, HI, HK.keep hce (fun _ => hasB_iff.1 hhas) (fun q => h95 q.2), hsx, hil, e74, rfl, e71, e72, e73, e75, st110⟩
    refine WL.pass (dj := 69) (c := false) rfl rfl rfl (bF h96) rfl ?_
    refine WL.pass (dj := 69) (c := false) rfl rfl rfl (bF h96) rfl ?_
    refine WL.pass (dj := 69) (c := false) rfl rfl rfl (bF h96) rfl ?_
    refine WL.pass (dj := 69) (c := false) rfl rfl rfl (bF h96) rfl ?_
    refine WL.pass (dj := 69) (c := false) rfl rfl rfl (bF h96) rfl ?_
    refine WL.pass (dj := 69) (c := false) rfl rfl rfl (bF h96) rfl ?_
    refine WL.pass (dj := 69) (c := false) rfl rfl rfl (bF h96) rfl ?_
    refine WL.pass (dj := 69) (c := false) rfl rfl rfl (bF h96) rfl ?_
    refine W1 (OpT.pickF (.bool false) (bF h96) rfl ?_)
    refine Wnt ?_
    refine WC.condF rfl ?_
    refine WC.skip ?_
    refine blkQ_n ?_
    refine thenQ_n ?_
    refine WC.region ?_
    refine W1 (OpT.move (ni k) e76 ?_)
    refine W1 (OpT.iadd .i64 (((k : Nat) : Int)) (1) (((k + 1 : Nat) : Int)) rfl rfl (wadd (a := k) (b := 1) (by omega)) ?_)
    refine W1 (OpT.assign (ni (k + 1)) rfl ?_)
    refine WL.nil ?_
    exact loopQ_n _ (by omega) ⟨k + 1, S, (sl gk S.length cap), rfl, by omega, HI, HK.keep hce (fun q => absurd q h96) (fun q => h95 q.2), hsx, hil, e74, rfl, e71, e72, e73, e75, st88⟩
   refine WL.pass (dj := 55) (c := false) rfl rfl rfl (bF h89) rfl ?_
   refine WL.pass (dj := 55) (c := false) rfl rfl rfl (bF h89) rfl ?_
   refine WL.pass (dj := 55) (c := false) rfl rfl rfl (bF h89) rfl ?_
   refine WL.pass (dj := 55) (c := false) rfl rfl rfl (bF h89) rfl ?_
   refine WL.pass (dj := 55) (c := false) rfl rfl rfl (bF h89) rfl ?_
   refine WL.pass (dj := 55) (c := false) rfl rfl rfl (bF h89) rfl ?_
   refine W1 (OpT.pickF (.bool false) (bF h89) rfl ?_)
   refine Wnt ?_
   refine WC.condF rfl ?_
   refine WC.skip ?_
   refine thenQ_n ?_
   refine Wsr ?_
   refine W1 (OpT.move (.bool true) rfl ?_)
   refine W1 (OpT.move (.bool true) rfl ?_)
   refine W2 (dj := 64) rfl (OpT.move (.int .i32 (f ce.to)) rfl ?_)
   refine W2 (dj := 64) rfl (OpT.move (.int .i32 (f s)) e73 ?_)
   refine W2 (dj := 64) rfl (OpT.ieq .i32 (f ce.to) (f s) rfl rfl ?_)
   refine W1 (OpT.pickT (.bool (decide ((f ce.to) = (f s)))) rfl rfl ?_)
   refine W1 (OpT.move (.bool (decide ((f ce.to) = (f s)))) rfl ?_)
   by_cases h128 : (f ce.to) = (f s)
   ·refine W2 (dj := 69) (bT h128) (OpT.move (sl gk S.length cap) e74 ?_)
    refine W2 (dj := 69) (bT h128) (OpT.move ev e71 ?_)
    refine W2 (dj := 69) (bT h128) (OpT.move (ni k) e76 ?_)
    refine W2 (dj := 69) (bT h128) (OpT.idxE tu26 ts35 rfl .i64 (k) rfl hEq1 ?_)
    refine W2 (dj := 69) (bT h128) (OpT.field 1 adq1 (adq1.add 1) tf35_1 rfl rfl ?_)
    refine W2 (dj := 69) (bT h128) (OpT.loadS (adq1.add 1) (.string ce.to) ta9 rfl (hrq1.cell st88 (j := 1) rfl) ?_)
    obtain ⟨Z134, hz135, hw136, hr137, st138, bk139⟩ := St.freezeStr (xs := S) (st88 : St Z w0 w87 (Row 9 1 (sl gk S.length cap) S.length (S.map Value.string) :: L)) (by omega)
    refine W2 (dj := 69) (bT h128) (OpT.callS cal9 [] [] [(sl gk S.length cap), (.string ce.to)] rfl (ca2 rfl rfl) (lhas_spec st138 hr137 ce.to) ?_)
    rintro v140 w141 ⟨rfl, st142⟩
    replace st142 := bk139 _ _ st142
    refine W2 (dj := 69) (bT h128) (OpT.not (hasB S ce.to) rfl ?_)
    refine W1 (OpT.pickT (.bool (!(hasB S ce.to))) (bT h128) rfl ?_)
    refine Wnt ?_
    refine WC.cond ((!(hasB S ce.to))) rfl (fun h143 => ?_) (fun h143 => ?_)
    ·refine WC.region ?_
     refine W1 (OpT.move (sl gk S.length cap) e74 ?_)
     refine W1 (OpT.move ev e71 ?_)
     refine W1 (OpT.move (ni k) e76 ?_)
     refine W1 (OpT.idxE tu26 ts35 rfl .i64 (k) rfl hEq1 ?_)
     refine W1 (OpT.field 1 adq1 (adq1.add 1) tf35_1 rfl rfl ?_)
     refine W1 (OpT.loadS (adq1.add 1) (.string ce.to) ta9 rfl (hrq1.cell st142 (j := 1) rfl) ?_)
     refine W1 (OpT.buildSlice st142 [(0, (.string ce.to))] [(.string ce.to)] tu37 ts9 tz9 (mp1 rfl) (by kernel_rfl) (by decide) (fun b149 w150 st151 => ?_))
     have st152 : St Z w0 w150 (Blk b149 9 [(.string ce.to)] :: Row 9 1 (sl gk S.length cap) S.length (S.map Value.string) :: L) := St.selT [Blk b149 9 [(.string ce.to)], Row 9 1 (sl gk S.length cap) S.length (S.map Value.string)] [0, 1] rfl (by decide) st151
     refine W1 (OpT.append st152 1 tu37 ts9 tz9 rfl tb9 (by decide) rfl rfl rfl rfl (by omega) (by omega) (fun v153 w154 st155 hn156 => ?_))
     have o157 := st155.rowOne (i := 0) rfl
     have c158 := st155.rowCel (i := 0) rfl
     have st159 : St Z w0 w154 (Row 9 1 v153 (S ++ [ce.to]).length ((S ++ [ce.to]).map Value.string) :: L) := by rw [List.length_append, List.map_append]; exact st155
     refine W1 (OpT.assign v153 rfl ?_)
     refine WL.nil ?_
     refine blkQ_n ?_
     refine thenQ_n ?_
     refine WC.region ?_
     refine W1 (OpT.move (ni k) e76 ?_)
     refine W1 (OpT.iadd .i64 (((k : Nat) : Int)) (1) (((k + 1 : Nat) : Int)) rfl rfl (wadd (a := k) (b := 1) (by omega)) ?_)
     refine W1 (OpT.assign (ni (k + 1)) rfl ?_)
     refine WL.nil ?_
     have hhas : hasB S ce.to = false := by simpa using h143
     have HI2 := HI.put (t := ce.to) (hasB_not.1 hhas) h128 (hto _ (List.mem_of_getElem? hce)) (List.getElem?_eq_some_iff.1 hsx).1
     exact loopQ_n _ (by omega) ⟨k + 1, (S ++ [ce.to]), v153, rfl, by omega, HI2, (HK.put ce.to).keep hce (fun _ => List.mem_append_right _ (by simp)) (fun q => h89 q.1), by rw [List.getElem?_append_left (List.getElem?_eq_some_iff.1 hsx).1]; exact hsx, by simp; omega, rfl, rfl, e71, e72, e73, e75, st159⟩
    refine WC.skip ?_
    refine blkQ_n ?_
    refine thenQ_n ?_
    refine WC.region ?_
    refine W1 (OpT.move (ni k) e76 ?_)
    refine W1 (OpT.iadd .i64 (((k : Nat) : Int)) (1) (((k + 1 : Nat) : Int)) rfl rfl (wadd (a := k) (b := 1) (by omega)) ?_)
    refine W1 (OpT.assign (ni (k + 1)) rfl ?_)
    refine WL.nil ?_
    have hhas : hasB S ce.to = true := by simpa using h143
    exact loopQ_n _ (by omega) ⟨k + 1, S, (sl gk S.length cap), rfl, by omega, HI, HK.keep hce (fun _ => hasB_iff.1 hhas) (fun q => h89 q.1), hsx, hil, e74, rfl, e71, e72, e73, e75, st142⟩
   refine WL.pass (dj := 69) (c := false) rfl rfl rfl (bF h128) rfl ?_
   refine WL.pass (dj := 69) (c := false) rfl rfl rfl (bF h128) rfl ?_
   refine WL.pass (dj := 69) (c := false) rfl rfl rfl (bF h128) rfl ?_
   refine WL.pass (dj := 69) (c := false) rfl rfl rfl (bF h128) rfl ?_
   refine WL.pass (dj := 69) (c := false) rfl rfl rfl (bF h128) rfl ?_
   refine WL.pass (dj := 69) (c := false) rfl rfl rfl (bF h128) rfl ?_
   refine WL.pass (dj := 69) (c := false) rfl rfl rfl (bF h128) rfl ?_
   refine WL.pass (dj := 69) (c := false) rfl rfl rfl (bF h128) rfl ?_
   refine W1 (OpT.pickF (.bool false) (bF h128) rfl ?_)
   refine Wnt ?_
   refine WC.condF rfl ?_
   refine WC.skip ?_
   refine blkQ_n ?_
   refine thenQ_n ?_
   refine WC.region ?_
   refine W1 (OpT.move (ni k) e76 ?_)
   refine W1 (OpT.iadd .i64 (((k : Nat) : Int)) (1) (((k + 1 : Nat) : Int)) rfl rfl (wadd (a := k) (b := 1) (by omega)) ?_)
   refine W1 (OpT.assign (ni (k + 1)) rfl ?_)
   refine WL.nil ?_
   exact loopQ_n _ (by omega) ⟨k + 1, S, (sl gk S.length cap), rfl, by omega, HI, HK.keep hce (fun q => absurd q h128) (fun q => h89 q.1), hsx, hil, e74, rfl, e71, e72, e73, e75, st88⟩
  refine WC.exit ?_
  refine thenQ_x ?_
  refine loopQ_x ?_
  refine blkQ_hit ?_
  refine blkQ_n ?_
  refine thenQ_n ?_
  refine WC.region ?_
  refine W1 (OpT.move (ni i) hs26 ?_)
  refine W1 (OpT.iadd .i64 (((i : Nat) : Int)) (1) (((i + 1 : Nat) : Int)) rfl rfl (wadd (a := i) (b := 1) (by omega)) ?_)
  refine W1 (OpT.assign (ni (i + 1)) rfl ?_)
  refine WL.nil ?_
  exact loopQ_n _ (by omega) ⟨i + 1, S, sv, rfl, HI.next hsx (by have e : k = es.length ∨ es.length ≤ k := .inr (by omega); exact fun j e hj he => HK j e (by omega) he), hs22, rfl, hs23, hs24, hs25, st19⟩
 refine WC.exit ?_
 refine thenQ_x ?_
 refine loopQ_x ?_
 refine blkQ_hit ?_
 refine thenQ_n ?_
 refine Wsr ?_
 refine W1 (OpT.assign (.bool false) rfl ?_)
 refine Wnt ?_
 refine WC.ret <| retQ.one (.bool false) rfl ?_
 exact (HI.end_ (by omega) hl hpos).elim

end Go.Ped
set_option linter.unusedVariables false
set_option maxRecDepth 20000
namespace Go.Ped
open Go Go.Eng Go.RowKit Go.Proofs

theorem nok_of {rs : List Rul} (hsz : ∀ x ∈ rs, x.pred.size ≤ maxLen ∧ ∀ y ∈ x.body, y.atom.pred.size ≤ maxLen) (h : beyondB rs = false) : NOk rs := ⟨hsz, by obtain ⟨_, h2⟩ := bsum_bnd rs 0 (by omega) h; omega⟩
theorem RL_len {rs : List Rul} {RL : ByteArray → List ByteArray} (hRL : ∀ x, RchL rs x (RL x)) (hN : NOk rs) (x : ByteArray) : (RL x).length < 4194304 := by
  have h := nd_le (N := x :: (drawF rs).map Prod.fst) (hRL x).nod (fun y hy => by
    rcases reach_in (((hRL x).mem y).1 hy) with rfl | h
    · simp
    · exact List.mem_cons_of_mem _ h)
  have := hN.g.len
  simp at h; omega
theorem Reach_at {RL : ByteArray → List ByteArray} {rs0 : List Rul} (hRL : ∀ x, RchL rs0 x (RL x)) {Z : Nat → Prop} {w0 w : World} {L : List Res} (st : St Z w0 w L) (rv : Value) (rs : List Rul) (hr : rRul.sl Z w0 rv rs0) (HB : Bnd rs0) (hN : NOk rs0) (x : ByteArray) (hxs : x.size ≤ maxLen) :
    Calls Tryz.prog 10 #[.agg #[rv], .string x] w (Ret fun r w' => r.oneCell' = true ∧ r.cells = #[r] ∧ St Z w0 w' (Row 9 1 r (RL x).length ((RL x).map Value.string) :: L)) := by
  refine (Reach_spec st rv rs0 hr HB hN x hxs).mono ?_
  rintro e w' ⟨r, rfl, xs, h1, h2, h3, st'⟩
  have e := h1.uniq (hRL x)
  subst e
  exact ⟨_, rfl, h2, h3, st'⟩
theorem kind_cases {rs : List Rul} {k : Nat} {d : Edg} (hd : (edgesF rs)[k]? = some d) (h : d.kind ≠ 1) : d.kind = 2 ∨ d.kind = 3 ∨ d.kind = 4 := by
  obtain ⟨i, r, hi, y, hy, rfl⟩ := mem_edges.1 (List.mem_of_getElem? hd)
  unfold edgOf kindOf at *
  simp only at *
  split at h <;> (try split at h) <;> (try split at h) <;> simp_all
theorem bad_iff {rs : List Rul} {RL : ByteArray → List ByteArray} (hRL : ∀ x, RchL rs x (RL x)) {e : Edg} : Bad rs e ↔ e.kind ≠ 1 ∧ hasB (RL e.to) e.frm = true := by
  unfold Bad
  rw [hasB_iff, (hRL _).mem]
theorem map_at {f : ByteArray → Int} {l : List ByteArray} {i : Nat} {x : ByteArray} (h : l[i]? = some x) : (l.map fun s => (⟨s, f s⟩ : Lvl))[i]? = some ⟨x, f x⟩ := by rw [List.getElem?_map, h]; rfl
theorem rise_at {rs : List Rul} {i : Nat} {a b : ByteArray} (h0 : 0 < i) (ha : (namesG (drawF rs))[i - 1]? = some a) (hb : (namesG (drawF rs))[i]? = some b) : Op.bytesLess a.toList b.toList = true := by
  obtain ⟨a1, a2⟩ := List.getElem?_eq_some_iff.1 ha
  obtain ⟨b1, b2⟩ := List.getElem?_eq_some_iff.1 hb
  have hs := List.pairwise_iff_getElem.1 (isort_sorted ((drawF rs).map Prod.fst)) (i - 1) i a1 b1 (by omega)
  have hd := List.pairwise_iff_getElem.1 ((isort_perm ((drawF rs).map Prod.fst)).nodup_iff.2 (draw_nodup rs)) (i - 1) i a1 b1 (by omega)
  have hs : leS a b = true := by rw [← a2, ← b2]; exact hs
  have hd : a ≠ b := by rw [← a2, ← b2]; exact hd
  refine (ltS_iff a b).2 ?_
  cases h : leS b a with
  | false => rfl
  | true => exact absurd (leS_anti hs h) hd
end Go.Ped
namespace Go.Ped
open Go Go.Eng Go.Maps Go.Sort
theorem sl_cells {Z : Nat → Prop} {w : World} {g c : Nat} {S : List ByteArray} {ex : List Value} (h : RowZ Z w ⟨g, 0, none⟩ (S.map Value.string ++ ex)) (hl : S.length ≤ 140737488355328) : rStr.sl Z w (.slice (some ⟨g, 0, none⟩) S.length c) S := by
  refine Rl.sl_blk h hl ?_
  intro i x hx
  show List.take 1 (List.drop (i * 1) _) = [Value.string x]
  rw [Nat.mul_one, List.take_one, List.head?_drop, List.getElem?_append_left (by rw [List.length_map]; exact (List.getElem?_eq_some_iff.1 hx).1), List.getElem?_map, hx]
  rfl
theorem rise_of {l : List ByteArray} (hn : l.Nodup) (hs : l.Pairwise (fun a b => leS a b = true)) {i : Nat} {a b : ByteArray} (h0 : 0 < i) (ha : l[i - 1]? = some a) (hb : l[i]? = some b) : Op.bytesLess a.toList b.toList = true := by
  obtain ⟨a1, a2⟩ := List.getElem?_eq_some_iff.1 ha
  obtain ⟨b1, b2⟩ := List.getElem?_eq_some_iff.1 hb
  have hs := List.pairwise_iff_getElem.1 hs (i - 1) i a1 b1 (by omega)
  have hd := List.pairwise_iff_getElem.1 hn (i - 1) i a1 b1 (by omega)
  have hs : leS a b = true := by rw [← a2, ← b2]; exact hs
  have hd : a ≠ b := by rw [← a2, ← b2]; exact hd
  refine (ltS_iff a b).2 ?_
  cases h : leS b a with
  | false => rfl
  | true => exact absurd (leS_anti hs h) hd
section
variable {G : ByteArray → List ByteArray} {N : List ByteArray} {o : List (List ByteArray)}
theorem mem_take_flat {i : Nat} {x : ByteArray} : x ∈ (o.take i).flatten ↔ ∃ (j : Nat) (q : List ByteArray), j < i ∧ o[j]? = some q ∧ x ∈ q := by
  rw [List.mem_flatten]
  constructor
  · rintro ⟨q, hq, hx⟩
    obtain ⟨j, hj⟩ := List.getElem?_of_mem hq
    have hl := (List.getElem?_eq_some_iff.1 hj).1
    rw [List.length_take] at hl
    rw [List.getElem?_take_of_lt (by omega)] at hj
    exact ⟨j, q, by omega, hj, hx⟩
  · rintro ⟨j, q, hj, hq, hx⟩
    exact ⟨q, List.mem_of_getElem? (i := j) (by rw [List.getElem?_take_of_lt hj]; exact hq), hx⟩
theorem PO.fresh (h : PO G N o) {i : Nat} {p : List ByteArray} {x : ByteArray} (hp : o[i]? = some p) (hx : x ∈ p) : ¬ x ∈ (o.take i).flatten := by
  intro hm
  obtain ⟨j, q, hj, hq, hxq⟩ := mem_take_flat.1 hm
  have := h.dis i j p q x hp hq hx hxq
  omega
theorem PO.flat_nodup (h : PO G N o) : o.flatten.Nodup := by
  unfold List.Nodup
  rw [List.pairwise_flatten]
  refine ⟨fun p hp => (h.cls p hp).2.1, ?_⟩
  rw [List.pairwise_iff_getElem]
  intro i j hi hj hij x hx y hy e
  subst e
  have := h.dis i j _ _ x (List.getElem?_eq_getElem hi) (List.getElem?_eq_getElem hj) hx hy
  omega
theorem PO.flat_len (h : PO G N o) (i : Nat) : (o.take i).flatten.length ≤ N.length := by
  refine nd_le ?_ (fun x hx => ?_)
  · have := h.flat_nodup
    rw [← List.take_append_drop i o, List.flatten_append, List.nodup_append] at this
    exact this.1
  · obtain ⟨j, q, _, hq, hxq⟩ := mem_take_flat.1 hx
    exact (h.all x).2 ⟨q, List.mem_of_getElem? hq, hxq⟩
theorem PO.part_len (h : PO G N o) {p : List ByteArray} (hp : p ∈ o) : p.length ≤ N.length := nd_le (h.cls p hp).2.1 (fun x hx => (h.all x).2 ⟨p, hp, hx⟩)
theorem PO.below (h : PO G N o) {i : Nat} {p : List ByteArray} {x y : ByteArray} (hp : o[i]? = some p) (hx : x ∈ p) (hr : Rch G x y) : y ∈ (o.take i).flatten ∨ y ∈ p := by
  obtain ⟨j, q, hj, hq, hy⟩ := h.ord i p x y hp hx hr
  rcases Nat.lt_or_ge j i with hlt | hge
  · exact .inl (mem_take_flat.2 ⟨j, q, hlt, hq, hy⟩)
  · have : j = i := by omega
    subst this
    rw [hp] at hq; cases hq
    exact .inr hy
theorem PO.whole (h : PO G N o) {i : Nat} (hi : o.length ≤ i) {x : ByteArray} (hx : x ∈ N) : x ∈ (o.take i).flatten := by
  obtain ⟨p, hp, hxp⟩ := (h.all x).1 hx
  rw [List.take_of_length_le hi]
  exact List.mem_flatten.2 ⟨p, hp, hxp⟩
theorem PO.apart (h : PO G N o) {i : Nat} {p : List ByteArray} {x y : ByteArray} (hp : o[i]? = some p) (hx : x ∈ p) (hy : y ∈ (o.take i).flatten) (h1 : Rch G x y) (h2 : Rch G y x) : False := by
  have := ((h.cls p (List.mem_of_getElem? hp)).2.2.2 x hx y).1 ⟨h1, h2⟩
  exact h.fresh hp this hy
end
theorem take_flat_step {o : List (List ByteArray)} {i : Nat} {p : List ByteArray} (hp : o[i]? = some p) : (o.take (i + 1)).flatten = (o.take i).flatten ++ p := by
  rw [List.take_add_one, hp]; simp
/-- What was seen, between two steps. -/
structure SnI (rs : List Rul) (s : ByteArray) (i : Nat) (S : List ByteArray) : Prop where
  nod : S.Nodup
  s0 : s ∈ S
  lev : ∀ x ∈ S, Rch (gSuc (drawF rs)) s x
  old : ∀ (j : Nat) x, j < i → S[j]? = some x → ∀ e ∈ edgesF rs, e.frm = x → e.to ∈ S
def SnK (es : List Edg) (x : ByteArray) (k : Nat) (S : List ByteArray) : Prop := ∀ (j : Nat) e, j < k → es[j]? = some e → e.frm = x → e.to ∈ S
section
variable {rs : List Rul} {s x : ByteArray} {i k : Nat} {S : List ByteArray} {e : Edg} {es : List Edg}
theorem SnI.start : SnI rs s 0 [s] := ⟨by simp, by simp, fun x hx => by rw [List.mem_singleton.1 hx]; exact .refl s, fun j x hj => by omega⟩
theorem SnI.len (h : SnI rs s i S) : S.length ≤ (drawF rs).length + 1 := by
  have := nd_le (N := s :: (drawF rs).map Prod.fst) h.nod (fun x hx => by
    rcases reach_in (h.lev x hx) with rfl | h1
    · simp
    · exact List.mem_cons_of_mem _ h1)
  simpa using this
theorem SnI.next (h : SnI rs s i S) (hx : S[i]? = some x) (hk : SnK (edgesF rs) x (edgesF rs).length S) : SnI rs s (i + 1) S := by
  refine ⟨h.nod, h.s0, h.lev, fun j y hj hy e he hf => ?_⟩
  rcases Nat.lt_succ_iff_lt_or_eq.1 hj with hj | rfl
  · exact h.old j y hj hy e he hf
  · rw [hx] at hy; cases hy
    obtain ⟨a, ha⟩ := List.getElem?_of_mem he
    exact hk a e (List.getElem?_eq_some_iff.1 ha).1 ha hf
theorem SnI.put (h : SnI rs s i S) {t : ByteArray} (ht : ¬ t ∈ S) (hr : Rch (gSuc (drawF rs)) s t) (hi : i < S.length) : SnI rs s i (S ++ [t]) := by
  refine ⟨?_, List.mem_append_left _ h.s0, fun x hx => ?_, fun j x hj hx e he hf => ?_⟩
  · rw [List.nodup_append]
    exact ⟨h.nod, by simp, fun a ha b hb e => ht (by rw [← List.mem_singleton.1 hb, ← e]; exact ha)⟩
  · rcases List.mem_append.1 hx with hx | hx
    · exact h.lev x hx
    · rw [List.mem_singleton.1 hx]; exact hr
  · rw [List.getElem?_append_left (by omega)] at hx
    exact List.mem_append_left _ (h.old j x hj hx e he hf)
theorem SnI.edge (h : SnI rs s i S) (hx : S[i]? = some x) (he : e ∈ edgesF rs) (hf : e.frm = x) : Rch (gSuc (drawF rs)) s e.to := (h.lev x (List.mem_of_getElem? hx)).trans (Rch.one (mem_suc.2 ⟨e, he, hf, rfl⟩))
theorem SnK.skip (h : SnK es x k S) (he : es[k]? = some e) (hn : ¬ e.frm = x) : SnK es x (k + 1) S := by
  intro j d hj hd hf
  rcases Nat.lt_succ_iff_lt_or_eq.1 hj with hj | rfl
  · exact h j d hj hd hf
  · rw [he] at hd; cases hd; exact absurd hf hn
theorem SnK.keep (h : SnK es x k S) (he : es[k]? = some e) (h1 : e.to ∈ S) : SnK es x (k + 1) S := by
  intro j d hj hd hf
  rcases Nat.lt_succ_iff_lt_or_eq.1 hj with hj | rfl
  · exact h j d hj hd hf
  · rw [he] at hd; cases hd; exact h1
theorem SnK.put (h : SnK es x k S) (t : ByteArray) : SnK es x k (S ++ [t]) := fun j d hj hd hf => List.mem_append_left _ (h j d hj hd hf)
theorem SnI.fin (h : SnI rs s i S) (hi : S.length ≤ i) {xs : List ByteArray} (hx : RchL rs s xs) : S.length = xs.length := by
  have hm : ∀ y, y ∈ S ↔ y ∈ xs := by
    intro y
    rw [hx.mem]
    refine ⟨h.lev y, fun hr => Rch.closed (p := fun z => z ∈ S) (fun a ha t ht => ?_) hr h.s0⟩
    obtain ⟨e, he, h1, h2⟩ := mem_suc.1 ht
    obtain ⟨j, hj⟩ := List.getElem?_of_mem ha
    rw [← h2]
    exact h.old j a (Nat.lt_of_lt_of_le (List.getElem?_eq_some_iff.1 hj).1 hi) hj e he h1
  exact Nat.le_antisymm (nd_le h.nod (fun y hy => (hm y).1 hy)) (nd_le hx.nod (fun y hy => (hm y).2 hy))
end
end Go.Ped
set_option linter.unusedVariables false
set_option maxRecDepth 20000
namespace Go.Ped
open Go Go.Eng Go.RowKit Go.Proofs

theorem cal14 : CallOk Tryz.prog 14 := ⟨⟨Tryz.f14, Tryz.func14, rfl, by decide⟩⟩
theorem cal10 : CallOk Tryz.prog 10 := ⟨⟨Tryz.f10, Tryz.func10, rfl, by decide⟩⟩
theorem rising_spec {Z : Nat → Prop} {w0 w : World} {L : List Res} (st : St Z w0 w L) {v : Value} {xs : List ByteArray} (h : rStr.sl Z w0 v xs) (hn : xs.Nodup) (hs : xs.Pairwise (fun a b => leS a b = true)) : Calls Tryz.prog 14 #[v] w (Ret fun r w' => r = .bool true ∧ St Z w0 w' L) := by
 refine calls_of_WC (m := 20) (rs := [.tmp 2]) Tryz.func14 rfl rfl rfl rfl ?_
 refine Wsr ?_
 refine W1 (OpT.assign (.bool false) rfl ?_)
 refine Wnt ?_
 refine WC.seq ?_
 refine Wsr ?_
 refine W1 (OpT.assign (ii 1) rfl ?_)
 refine Wnt ?_
 refine WC.block ?_
 refine WC.loop (fun m ρ wz => ∃ (i : Nat), m = xs.length - i ∧ 1 ≤ i ∧ ρ 3 = (ni i) ∧ ρ 0 = v ∧ St Z w0 wz (L)) _ ⟨1, rfl, by omega, rfl, rfl, st⟩ ?_
 rintro m1 ρ2 w3 ⟨i, hm8, hp5, hs6, hs7, st4⟩
 have hxl := Rl.sl_le h
 refine WC.seq ?_
 refine Wsr ?_
 refine W1 (OpT.move (ni i) hs6 ?_)
 refine W1 (OpT.move v hs7 ?_)
 refine W1 (OpT.lenR rfl tu37 h rfl ?_)
 refine W1 (OpT.ilt .i64 (((i : Nat) : Int)) (((xs.length : Nat) : Int)) rfl rfl ?_)
 refine Wnt ?_
 refine WC.condP (((i : Nat) : Int) < ((xs.length : Nat) : Int)) rfl (fun h9 => ?_) (fun h9 => ?_)
 ·refine WC.skip ?_
  refine thenQ_n ?_
  refine WC.seq ?_
  refine WC.block ?_
  refine WC.seq ?_
  obtain ⟨na, hna⟩ : ∃ x, xs[i - 1]? = some x := ⟨_, List.getElem?_eq_getElem (by omega)⟩
  obtain ⟨nb, hnb⟩ : ∃ x, xs[i]? = some x := ⟨_, List.getElem?_eq_getElem (by omega)⟩
  have hrise := rise_of hn hs (by omega) hna hnb
  obtain ⟨adq1, csq1, hEq1, hrq1, hRq1⟩ := Rl.sl_el h hna
  have hRq1c := hRq1
  obtain rfl := hRq1
  obtain ⟨adq2, csq2, hEq2, hrq2, hRq2⟩ := Rl.sl_el h hnb
  have hRq2c := hRq2
  obtain rfl := hRq2
  refine WC.draw 10 (fun jj vv => match jj with | 0 => vv = v | 1 => vv = (ni i) | 2 => vv = (ni (i - 1)) | 3 => vv = (.pointer (some adq1)) | 4 => vv = (.string na) | 5 => vv = v | 6 => vv = (ni i) | 7 => vv = (.pointer (some adq2)) | 8 => vv = (.string nb) | 9 => vv = (.bool (!Op.bytesLess (na).toList (nb).toList)) | _ => True) (fun _ _ => []) st4 fmix (by kernel_rfl) ((obS (obS (obS (obS (obS (obS (obS (obS (obS (obS ob0 ?_) ?_) ?_) ?_) ?_) ?_) ?_) ?_) ?_) ?_)) ?_
  ·intro vals ρ w11 X hd h0 st10
   have e12 : ρ 0 = v := (h0 0 rfl).trans hs7
   refine W1 (OpT.move v e12 ?_)
   refine WL.nil ?_
   exact oneQ.mk ⟨rfl, st10⟩
  ·intro vals ρ w14 X hd h0 st13
   have e15 : ρ 3 = (ni i) := (h0 3 rfl).trans hs6
   refine W1 (OpT.move (ni i) e15 ?_)
   refine WL.nil ?_
   exact oneQ.mk ⟨rfl, st13⟩
  ·intro vals ρ w17 X hd h0 st16
   have e18 : ρ 11 = (ni i) := ((hd 1 rfl).2 11 rfl).trans (hd 1 rfl).1
   refine W1 (OpT.isub .i64 (((i : Nat) : Int)) (1) (((i - 1 : Nat) : Int)) e18 rfl (wsub (a := i) (b := 1) (by omega) (by omega)) ?_)
   refine WL.nil ?_
   exact oneQ.mk ⟨rfl, st16⟩
  ·intro vals ρ w20 X hd h0 st19
   have e21 : ρ 10 = v := ((hd 0 rfl).2 10 rfl).trans (hd 0 rfl).1
   have e22 : ρ 12 = (ni (i - 1)) := ((hd 2 rfl).2 12 rfl).trans (hd 2 rfl).1
   refine W1 (OpT.idxE tu37 ts9 e21 .i64 (i - 1) e22 hEq1 ?_)
   refine WL.nil ?_
   exact oneQ.mk ⟨rfl, st19⟩
  ·intro vals ρ w29 X hd h0 st28
   have e30 : ρ 13 = (.pointer (some adq1)) := ((hd 3 rfl).2 13 rfl).trans (hd 3 rfl).1
   refine W1 (OpT.loadS adq1 (.string na) ta9 e30 (hrq1.cell st28 (j := 0) rfl) ?_)
   refine WL.nil ?_
   exact oneQ.mk ⟨rfl, st28⟩
  ·intro vals ρ w32 X hd h0 st31
   have e33 : ρ 0 = v := (h0 0 rfl).trans hs7
   refine W1 (OpT.move v e33 ?_)
   refine WL.nil ?_
   exact oneQ.mk ⟨rfl, st31⟩
  ·intro vals ρ w35 X hd h0 st34
   have e36 : ρ 3 = (ni i) := (h0 3 rfl).trans hs6
   refine W1 (OpT.move (ni i) e36 ?_)
   refine WL.nil ?_
   exact oneQ.mk ⟨rfl, st34⟩
  ·intro vals ρ w38 X hd h0 st37
   have e39 : ρ 15 = v := ((hd 5 rfl).2 15 rfl).trans (hd 5 rfl).1
   have e40 : ρ 16 = (ni i) := ((hd 6 rfl).2 16 rfl).trans (hd 6 rfl).1
   refine W1 (OpT.idxE tu37 ts9 e39 .i64 (i) e40 hEq2 ?_)
   refine WL.nil ?_
   exact oneQ.mk ⟨rfl, st37⟩
  ·intro vals ρ w47 X hd h0 st46
   have e48 : ρ 17 = (.pointer (some adq2)) := ((hd 7 rfl).2 17 rfl).trans (hd 7 rfl).1
   refine W1 (OpT.loadS adq2 (.string nb) ta9 e48 (hrq2.cell st46 (j := 0) rfl) ?_)
   refine WL.nil ?_
   exact oneQ.mk ⟨rfl, st46⟩
  ·intro vals ρ w50 X hd h0 st49
   have e51 : ρ 14 = (.string na) := ((hd 4 rfl).2 14 rfl).trans (hd 4 rfl).1
   have e52 : ρ 18 = (.string nb) := ((hd 8 rfl).2 18 rfl).trans (hd 8 rfl).1
   refine W1 (OpT.sge (na) (nb) e51 e52 ?_)
   refine WL.nil ?_
   exact oneQ.mk ⟨rfl, st49⟩
  intro vals ρ55 w54 hv h0 st53
  replace st53 : St Z w0 w54 (L) := st53
  have e56 : ρ55 0 = v := (h0 0 rfl).trans hs7
  have e57 : ρ55 3 = (ni i) := (h0 3 rfl).trans hs6
  have e58 : ρ55 19 = (.bool (!Op.bytesLess (na).toList (nb).toList)) := ((hv 9 rfl).2 19 rfl).trans (hv 9 rfl).1
  clear hv h0
  refine Wnt ?_
  refine WC.condF (e58.trans (congrArg Value.bool (by rw [hrise]; rfl))) ?_
  refine WC.skip ?_
  refine blkQ_n ?_
  refine thenQ_n ?_
  refine WC.region ?_
  refine W1 (OpT.move (ni i) e57 ?_)
  refine W1 (OpT.iadd .i64 (((i : Nat) : Int)) (1) (((i + 1 : Nat) : Int)) rfl rfl (wadd (a := i) (b := 1) (by omega)) ?_)
  refine W1 (OpT.assign (ni (i + 1)) rfl ?_)
  refine WL.nil ?_
  exact loopQ_n _ (by omega) ⟨i + 1, rfl, by omega, rfl, e56, st53⟩
 refine WC.exit ?_
 refine thenQ_x ?_
 refine loopQ_x ?_
 refine blkQ_hit ?_
 refine thenQ_n ?_
 refine Wsr ?_
 refine W1 (OpT.assign (.bool true) rfl ?_)
 refine Wnt ?_
 refine WC.ret <| retQ.one (.bool true) rfl ?_
 exact ⟨_, rfl, rfl, st4⟩

theorem parted_spec {Z : Nat → Prop} {w0 w : World} {L : List Res} (st : St Z w0 w L) {rv ev : Value} {rs : List Rul} (hv : rRul.sl Z w0 rv rs) (hev : rEdg.sl Z w0 ev (edgesF rs)) (HB : Bnd rs) (hN : NOk rs) {oo : List (List ByteArray)} (hoo : partsO (drawF rs) = some oo) (HO : PO (gSuc (drawF rs)) ((drawF rs).map Prod.fst) oo) (hol : oo.length < 2097152) {RL : ByteArray → List ByteArray} (hRL : ∀ x, RchL rs x (RL x)) (hRLl : ∀ x, (RL x).length < 4194304) : Calls Tryz.prog 15 #[(.agg #[rv]), ev] w (Ret fun r w' => r = .bool true ∧ St Z w0 w' L) := by
 have hal := Rl.sl_le hv
 have hnm : ((drawF rs).map Prod.fst).length < 2097152 := by rw [List.length_map]; exact hN.g.len
 refine calls_of_WC (m := 182) (rs := [.tmp 4]) Tryz.func15 rfl rfl rfl rfl ?_
 refine Wsr ?_
 refine W1 (OpT.box st (.agg #[rv]) [rv] rfl rfl (fun b1 w2 st3 => ?_))
 refine W1 (OpT.assign (.bool false) rfl ?_)
 refine Wns ?_
 refine W1 (OpT.loadA ⟨b1, 0, none⟩ 1 [rv] ta25 ts25 rfl ((st3.rowB (i := 0) rfl).part 0 1) rfl ?_)
 refine W1 (OpT.callS cal34 [] [] [(.agg #[rv])] rfl (ca1 rfl) (Parts_spec st3 _ rs hv HB hN.g hoo) ?_)
 rintro v13 w14 ⟨cells4, Z5, w6, hx7, HR8, st15⟩
 obtain ⟨Z11, hx9, hs10, st12⟩ := St.freezeRow (r := rSls) (xs := oo) st15 (by omega) HR8.2
 have hx16 := hx7.trans hx9
 have hL17 := hx16.sl hv
 have hL18 := hx16.sl hev
 refine W1 (OpT.assign v13 rfl ?_)
 refine Wns ?_
 refine W1 (OpT.assign vn rfl ?_)
 refine Wnt ?_
 refine WC.seq ?_
 refine Wsr ?_
 refine W1 (OpT.assign (ii 0) rfl ?_)
 refine Wnt ?_
 refine WC.block ?_
 have st19 : St Z11 w14 w14 (Row 9 1 vn ([] : List ByteArray).length (([] : List ByteArray).map Value.string) :: Blk b1 25 [rv] :: L) := St.rowNil 9 1 st12
 obtain ⟨pb, rfl⟩ : ∃ x, x = b1 := ⟨_, rfl⟩
 have hbl : ∀ i, ((oo.take i).flatten).length < 2097152 := fun i => Nat.lt_of_le_of_lt (HO.flat_len i) hnm
 refine WC.loop (fun m ρ wz => ∃ (i : Nat), ∃ (bv : Value), m = oo.length - i ∧ i ≤ oo.length ∧ ρ 6 = bv ∧ ρ 7 = (ni i) ∧ ρ 1 = ev ∧ ρ 2 = (pt pb 0) ∧ ρ 5 = v13 ∧ St Z11 w14 wz (Row 9 1 bv ((oo.take i).flatten).length (((oo.take i).flatten).map Value.string) :: Blk pb 25 [rv] :: L)) _ ⟨0, vn, rfl, by omega, rfl, rfl, rfl, rfl, rfl, st19⟩ ?_
 rintro m20 ρ21 w22 ⟨i, bv, hm30, hp24, hs26, hs25, hs27, hs28, hs29, st23⟩
 have obv := st23.rowOne (i := 0) rfl
 have cbv := st23.rowCel (i := 0) rfl
 refine WC.seq ?_
 refine Wsr ?_
 refine W1 (OpT.move (ni i) hs25 ?_)
 refine W1 (OpT.move v13 hs29 ?_)
 refine W1 (OpT.lenR rfl tu80 hs10 rfl ?_)
 refine W1 (OpT.ilt .i64 (((i : Nat) : Int)) (((oo.length : Nat) : Int)) rfl rfl ?_)
 refine Wnt ?_
 refine WC.condP (((i : Nat) : Int) < ((oo.length : Nat) : Int)) rfl (fun h31 => ?_) (fun h31 => ?_)
 ·refine WC.skip ?_
  refine thenQ_n ?_
  refine WC.seq ?_
  refine WC.block ?_
  refine WC.seq ?_
  refine WC.seq ?_
  obtain ⟨pp, hpp⟩ : ∃ x, oo[i]? = some x := ⟨_, List.getElem?_eq_getElem (by omega)⟩
  have hpc := HO.cls pp (List.mem_of_getElem? hpp)
  have hpl := HO.part_len (List.mem_of_getElem? hpp)
  have hp0 := List.length_pos_iff.2 hpc.1
  have hbi := hbl i
  refine WC.region ?_
  refine W1 (OpT.move v13 hs29 ?_)
  refine W1 (OpT.move (ni i) hs25 ?_)
  refine W1 (OpT.idxX tu80 ts37 hs10 rfl .i64 (i) rfl hpp (fun ad33 cs34 hr35 hR36 => ?_))
  have hR36c := hR36
  obtain ⟨sv37, rfl, hs38⟩ := hR36
  refine W1 (OpT.loadS ad33 sv37 ta37 rfl (hr35.cell st23 (j := 0) rfl) ?_)
  refine W1 (OpT.lenR rfl tu37 hs38 rfl ?_)
  refine W1 (OpT.ieq .i64 (((pp.length : Nat) : Int)) (0) rfl rfl ?_)
  refine W1 (OpT.move (.bool (decide (((pp.length : Nat) : Int) = 0))) rfl ?_)
  by_cases h39 : ((pp.length : Nat) : Int) = 0
  ·refine WL.pass (dj := 29) (c := true) rfl rfl rfl (bT h39) rfl ?_
   refine WL.pass (dj := 29) (c := true) rfl rfl rfl (bT h39) rfl ?_
   refine WL.pass (dj := 29) (c := true) rfl rfl rfl (bT h39) rfl ?_
   refine WL.pass (dj := 29) (c := true) rfl rfl rfl (bT h39) rfl ?_
   refine WL.pass (dj := 29) (c := true) rfl rfl rfl (bT h39) rfl ?_
   refine WL.pass (dj := 29) (c := true) rfl rfl rfl (bT h39) rfl ?_
   refine W1 (OpT.pickT (.bool true) (bT h39) rfl ?_)
   refine Wnt ?_
   refine WC.condT rfl ?_
   refine Wsr ?_
   refine W1 (OpT.assign (.bool false) rfl ?_)
   refine Wnt ?_
   refine WC.ret <| thenQ_r <| blkQ_r <| thenQ_r <| loopQ_r <| blkQ_r <| thenQ_r <| retQ.one (.bool false) rfl ?_
   exfalso
   omega
  refine W2 (dj := 29) (bF h39) (OpT.move v13 hs29 ?_)
  refine W2 (dj := 29) (bF h39) (OpT.move (ni i) hs25 ?_)
  refine W2 (dj := 29) (bF h39) (OpT.idxX tu80 ts37 hs10 rfl .i64 (i) rfl hpp (fun ad41 cs42 hr43 hR44 => ?_))
  have hR44c := hR44
  obtain ⟨sv45, rfl, hs46⟩ := hR44
  refine W2 (dj := 29) (bF h39) (OpT.loadS ad41 sv45 ta37 rfl (hr43.cell st23 (j := 0) rfl) ?_)
  refine W2 (dj := 29) (bF h39) (OpT.callS cal14 [] [] [sv45] rfl (ca1 rfl) (rising_spec st23 hs46 (HO.cls pp (List.mem_of_getElem? hpp)).2.1 (HO.cls pp (List.mem_of_getElem? hpp)).2.2.1) ?_)
  rintro v47 w48 ⟨rfl, st49⟩
  refine W2 (dj := 29) (bF h39) (OpT.not true rfl ?_)
  refine W1 (OpT.pickF (.bool false) (bF h39) rfl ?_)
  refine Wnt ?_
  refine WC.condF rfl ?_
  refine WC.skip ?_
  refine thenQ_n ?_
  refine WC.seq ?_
  refine Wsr ?_
  refine W1 (OpT.assign (ii 0) rfl ?_)
  refine Wnt ?_
  refine WC.block ?_
  refine WC.loop (fun m ρ wz => ∃ (k : Nat), ∃ (bv : Value), m = pp.length - k ∧ k ≤ pp.length ∧ ρ 6 = bv ∧ ρ 8 = (ni k) ∧ ρ 1 = ev ∧ ρ 2 = (pt pb 0) ∧ ρ 5 = v13 ∧ ρ 7 = (ni i) ∧ St Z11 w14 wz (Row 9 1 bv ((oo.take i).flatten).length (((oo.take i).flatten).map Value.string) :: Blk pb 25 [rv] :: L)) _ ⟨0, bv, rfl, by omega, hs26, rfl, hs27, hs28, hs29, hs25, st49⟩ ?_
  rintro m50 ρ51 w52 ⟨k, bv, hm61, hp54, hs56, hs55, hs57, hs58, hs59, hs60, st53⟩
  have obv := st53.rowOne (i := 0) rfl
  have cbv := st53.rowCel (i := 0) rfl
  refine WC.seq ?_
  refine Wsr ?_
  refine W1 (OpT.move (ni k) hs55 ?_)
  refine W1 (OpT.move v13 hs59 ?_)
  refine W1 (OpT.move (ni i) hs60 ?_)
  refine W1 (OpT.idxX tu80 ts37 hs10 rfl .i64 (i) rfl hpp (fun ad63 cs64 hr65 hR66 => ?_))
  have hR66c := hR66
  obtain ⟨sv67, rfl, hs68⟩ := hR66
  refine W1 (OpT.loadS ad63 sv67 ta37 rfl (hr65.cell st53 (j := 0) rfl) ?_)
  refine W1 (OpT.lenR rfl tu37 hs68 rfl ?_)
  refine W1 (OpT.ilt .i64 (((k : Nat) : Int)) (((pp.length : Nat) : Int)) rfl rfl ?_)
  refine Wnt ?_
  refine WC.condP (((k : Nat) : Int) < ((pp.length : Nat) : Int)) rfl (fun h69 => ?_) (fun h69 => ?_)
  ·refine WC.skip ?_
   refine thenQ_n ?_
   refine WC.seq ?_
   refine WC.block ?_
   refine WC.seq ?_
   refine WC.seq ?_
   obtain ⟨px, hpx⟩ : ∃ x, pp[k]? = some x := ⟨_, List.getElem?_eq_getElem (by omega)⟩
   have hpm := List.mem_of_getElem? hpx
   have hfr := HO.fresh hpp hpm
   have hpn : px ∈ ((drawF rs).map Prod.fst) := (HO.all px).2 ⟨pp, List.mem_of_getElem? hpp, hpm⟩
   refine WC.region ?_
   refine W1 (OpT.move bv hs56 ?_)
   refine W1 (OpT.move v13 hs59 ?_)
   refine W1 (OpT.move (ni i) hs60 ?_)
   refine W1 (OpT.idxX tu80 ts37 hs10 rfl .i64 (i) rfl hpp (fun ad71 cs72 hr73 hR74 => ?_))
   have hR74c := hR74
   obtain ⟨sv75, rfl, hs76⟩ := hR74
   refine W1 (OpT.loadS ad71 sv75 ta37 rfl (hr73.cell st53 (j := 0) rfl) ?_)
   refine W1 (OpT.move (ni k) hs55 ?_)
   refine W1 (OpT.idxX tu37 ts9 hs76 rfl .i64 (k) rfl hpx (fun ad78 cs79 hr80 hR81 => ?_))
   have hR81c := hR81
   obtain rfl := hR81
   refine W1 (OpT.loadS ad78 (.string px) ta9 rfl (hr80.cell st53 (j := 0) rfl) ?_)
   obtain ⟨Z82, hz83, hw84, hr85, st86, bk87⟩ := St.freezeStr (xs := (oo.take i).flatten) (st53 : St Z11 w14 w52 (Row 9 1 bv ((oo.take i).flatten).length (((oo.take i).flatten).map Value.string) :: Blk pb 25 [rv] :: L)) (by omega)
   refine W1 (OpT.callS cal9 [] [] [bv, (.string px)] rfl (ca2 rfl rfl) (lhas_spec st86 hr85 px) ?_)
   rintro v88 w89 ⟨rfl, st90⟩
   replace st90 := bk87 _ _ st90
   refine Wnt ?_
   refine WC.cond ((hasB ((oo.take i).flatten) px)) rfl (fun h91 => ?_) (fun h91 => ?_)
   ·refine WC.seq ?_
    refine WC.region ?_
    refine W1 (OpT.assign (.bool false) rfl ?_)
    refine Wnt ?_
    refine WC.ret <| thenQ_r <| blkQ_r <| thenQ_r <| loopQ_r <| blkQ_r <| thenQ_r <| blkQ_r <| thenQ_r <| loopQ_r <| blkQ_r <| thenQ_r <| retQ.one (.bool false) rfl ?_
    exfalso
    exact hfr (hasB_iff.1 h91)
   refine WC.skip ?_
   refine thenQ_n ?_
   refine WC.seq ?_
   obtain ⟨adq1, csq1, hEq1, hrq1, hRq1⟩ := Rl.sl_el hs10 hpp
   have hRq1c := hRq1
   obtain ⟨sv100021, rfl, hs100022⟩ := hRq1
   obtain ⟨adq2, csq2, hEq2, hrq2, hRq2⟩ := Rl.sl_el hs100022 hpx
   have hRq2c := hRq2
   obtain rfl := hRq2
   refine WC.drawV2 10 (fun jj vals vv => match jj with | 0 => vv = (.agg #[rv]) | 1 => vv = v13 | 2 => vv = (ni i) | 3 => vv = (.pointer (some adq1)) | 4 => vv = sv100021 | 5 => vv = (ni k) | 6 => vv = (.pointer (some adq2)) | 7 => vv = (.string px) | 8 => vv.oneCell' = true ∧ vv.cells = #[vv] | 9 => vv = (vals 8) | _ => True) (fun jj vals vv => match jj with | 8 => [Row 9 1 vv (RL px).length ((RL px).map Value.string)] | _ => []) st90 fmix (by kernel_rfl) ((obS (obS (obS (obS (obS (obS (obS (obS (obS (obS ob0 (fun aa bb vv h hf => hf)) (fun aa bb vv h hf => hf)) (fun aa bb vv h hf => hf)) (fun aa bb vv h hf => hf)) (fun aa bb vv h hf => hf)) (fun aa bb vv h hf => hf)) (fun aa bb vv h hf => hf)) (fun aa bb vv h hf => hf)) (fun aa bb vv h hf => hf)) (fun aa bb vv h hf => by have hf : vv = (aa 8) := hf; rw [show aa 8 = bb 8 from h 8 rfl] at hf; exact hf))) ((obS (obS (obS (obS (obS (obS (obS (obS (obS (obS ob0 (fun aa bb vv h => rfl)) (fun aa bb vv h => rfl)) (fun aa bb vv h => rfl)) (fun aa bb vv h => rfl)) (fun aa bb vv h => rfl)) (fun aa bb vv h => rfl)) (fun aa bb vv h => rfl)) (fun aa bb vv h => rfl)) (fun aa bb vv h => rfl)) (fun aa bb vv h => rfl))) ((obS (obS (obS (obS (obS (obS (obS (obS (obS (obS ob0 ?_) ?_) ?_) ?_) ?_) ?_) ?_) ?_) ?_) ?_)) ?_
   ·intro vals ρ w93 X hd h0 st92
    have e94 : ρ 2 = (pt pb 0) := (h0 2 rfl).trans hs58
    refine W1 (OpT.loadA ⟨pb, 0, none⟩ 1 [rv] ta25 ts25 e94 ((st92.rowB (i := 1) rfl).part 0 1) rfl ?_)
    refine WL.nil ?_
    exact oneQ.mk ⟨rfl, st92⟩
   ·intro vals ρ w96 X hd h0 st95
    have e97 : ρ 5 = v13 := (h0 5 rfl).trans hs59
    refine W1 (OpT.move v13 e97 ?_)
    refine WL.nil ?_
    exact oneQ.mk ⟨rfl, st95⟩
   ·intro vals ρ w99 X hd h0 st98
    have e100 : ρ 7 = (ni i) := (h0 7 rfl).trans hs60
    refine W1 (OpT.move (ni i) e100 ?_)
    refine WL.nil ?_
    exact oneQ.mk ⟨rfl, st98⟩
   ·intro vals ρ w102 X hd h0 st101
    have e103 : ρ 56 = v13 := ((hd 1 rfl).2 56 rfl).trans (hd 1 rfl).1
    have e104 : ρ 57 = (ni i) := ((hd 2 rfl).2 57 rfl).trans (hd 2 rfl).1
    refine W1 (OpT.idxE tu80 ts37 e103 .i64 (i) e104 hEq1 ?_)
    refine WL.nil ?_
    exact oneQ.mk ⟨rfl, st101⟩
   ·intro vals ρ w111 X hd h0 st110
    have e112 : ρ 58 = (.pointer (some adq1)) := ((hd 3 rfl).2 58 rfl).trans (hd 3 rfl).1
    refine W1 (OpT.loadS adq1 sv100021 ta37 e112 (hrq1.cell st110 (j := 0) rfl) ?_)
    refine WL.nil ?_
    exact oneQ.mk ⟨rfl, st110⟩
   ·intro vals ρ w114 X hd h0 st113
    have e115 : ρ 8 = (ni k) := (h0 8 rfl).trans hs55
    refine W1 (OpT.move (ni k) e115 ?_)
    refine WL.nil ?_
    exact oneQ.mk ⟨rfl, st113⟩
   ·intro vals ρ w117 X hd h0 st116
    have e118 : ρ 59 = sv100021 := ((hd 4 rfl).2 59 rfl).trans (hd 4 rfl).1
    have e119 : ρ 60 = (ni k) := ((hd 5 rfl).2 60 rfl).trans (hd 5 rfl).1
    refine W1 (OpT.idxE tu37 ts9 e118 .i64 (k) e119 hEq2 ?_)
    refine WL.nil ?_
    exact oneQ.mk ⟨rfl, st116⟩
   ·intro vals ρ w126 X hd h0 st125
    have e127 : ρ 61 = (.pointer (some adq2)) := ((hd 6 rfl).2 61 rfl).trans (hd 6 rfl).1
    refine W1 (OpT.loadS adq2 (.string px) ta9 e127 (hrq2.cell st125 (j := 0) rfl) ?_)
    refine WL.nil ?_
    exact oneQ.mk ⟨rfl, st125⟩
   ·intro vals ρ w129 X hd h0 st128
    have e130 : ρ 55 = (.agg #[rv]) := ((hd 0 rfl).2 55 rfl).trans (hd 0 rfl).1
    have e131 : ρ 62 = (.string px) := ((hd 7 rfl).2 62 rfl).trans (hd 7 rfl).1
    refine W1 (OpT.callS cal10 [] [] [(.agg #[rv]), (.string px)] rfl (ca2 e130 e131) (Reach_at hRL st128 _ rs hL17 HB hN px (hN.g.size _ hpn)) ?_)
    rintro v134 w135 ⟨o132, c133, st136⟩
    refine WL.nil ?_
    exact oneQ.mk ⟨⟨o132, c133⟩, st136⟩
   ·intro vals ρ w138 X hd h0 st137
    have o140 : (vals 8).oneCell' = true := (hd 8 rfl).1.1
    have c141 : (vals 8).cells = #[vals 8] := (hd 8 rfl).1.2
    have e139 : ρ 63 = (vals 8) := ((hd 8 rfl).2 63 rfl)
    refine W1 (OpT.assign (vals 8) e139 ?_)
    refine WL.nil ?_
    exact oneQ.mk ⟨rfl, st137⟩
   intro vals ρ144 w143 hv h0 st142
   replace st142 : St Z11 w14 w143 (Row 9 1 (vals 8) (RL px).length ((RL px).map Value.string) :: Row 9 1 bv ((oo.take i).flatten).length (((oo.take i).flatten).map Value.string) :: Blk pb 25 [rv] :: L) := st142
   have e145 : ρ144 1 = ev := (h0 1 rfl).trans hs57
   have e146 : ρ144 2 = (pt pb 0) := (h0 2 rfl).trans hs58
   have e147 : ρ144 5 = v13 := (h0 5 rfl).trans hs59
   have e148 : ρ144 6 = bv := (h0 6 rfl).trans hs56
   have e149 : ρ144 7 = (ni i) := (h0 7 rfl).trans hs60
   have e150 : ρ144 8 = (ni k) := (h0 8 rfl).trans hs55
   have o151 : (vals 8).oneCell' = true := (hv 8 rfl).1.1
   have c152 : (vals 8).cells = #[vals 8] := (hv 8 rfl).1.2
   have e153 : ρ144 9 = (vals 8) := ((hv 9 rfl).2 9 rfl).trans (hv 9 rfl).1
   have o154 : (vals 8).oneCell' = true := (hv 8 rfl).1.1
   have c155 : (vals 8).cells = #[vals 8] := (hv 8 rfl).1.2
   clear hv h0
   generalize vals 8 = v156 at *
   refine Wnt ?_
   refine WC.seq ?_
   refine WC.seq ?_
   obtain ⟨Z157, hx158, hs159, st160⟩ := St.freezeRow (r := rStr) (xs := (RL px)) (st142 : St Z11 w14 w143 (Row 9 1 v156 (RL px).length ((RL px).map Value.string) :: Row 9 1 bv ((oo.take i).flatten).length (((oo.take i).flatten).map Value.string) :: Blk pb 25 [rv] :: L)) (by exact Nat.lt_trans (hRLl _) (by decide)) str_at
   have hL161 := hx158.sl hL18
   have hL162 := hx158.sl hs10
   have hL163 := hx158.sl hL17
   have hrl := hRLl px
   refine WC.region ?_
   refine W1 (OpT.assign (ii 0) rfl ?_)
   refine Wnt ?_
   refine WC.block ?_
   refine WC.loop (fun m ρ wz => ∃ (m4 : Nat), m = (RL px).length - m4 ∧ m4 ≤ (RL px).length ∧ ρ 10 = (ni m4) ∧ ρ 1 = ev ∧ ρ 2 = (pt pb 0) ∧ ρ 5 = v13 ∧ ρ 6 = bv ∧ ρ 7 = (ni i) ∧ ρ 8 = (ni k) ∧ ρ 9 = v156 ∧ St Z157 w143 wz (Row 9 1 bv ((oo.take i).flatten).length (((oo.take i).flatten).map Value.string) :: Blk pb 25 [rv] :: L)) _ ⟨0, rfl, by omega, rfl, e145, e146, e147, e148, e149, e150, e153, st160⟩ ?_
   rintro m164 ρ165 w166 ⟨m4, hm177, hp168, hs169, hs170, hs171, hs172, hs173, hs174, hs175, hs176, st167⟩
   refine WC.seq ?_
   refine Wsr ?_
   refine W1 (OpT.move (ni m4) hs169 ?_)
   refine W1 (OpT.move v156 hs176 ?_)
   refine W1 (OpT.lenR rfl tu37 hs159 rfl ?_)
   refine W1 (OpT.ilt .i64 (((m4 : Nat) : Int)) ((((RL px).length : Nat) : Int)) rfl rfl ?_)
   refine Wnt ?_
   refine WC.condP (((m4 : Nat) : Int) < (((RL px).length : Nat) : Int)) rfl (fun h178 => ?_) (fun h178 => ?_)
   ·refine WC.skip ?_
    refine thenQ_n ?_
    refine WC.seq ?_
    refine WC.block ?_
    refine WC.seq ?_
    obtain ⟨ry, hry⟩ : ∃ x, (RL px)[m4]? = some x := ⟨_, List.getElem?_eq_getElem (by omega)⟩
    have hlow := HO.below hpp hpm (((hRL px).mem ry).1 (List.mem_of_getElem? hry))
    obtain ⟨adq3, csq3, hEq3, hrq3, hRq3⟩ := Rl.sl_el hs159 hry
    have hRq3c := hRq3
    obtain rfl := hRq3
    by_cases h179 : (!(hasB ((oo.take i).flatten) ry)) = true
    ·obtain ⟨adq4, csq4, hEq4, hrq4, hRq4⟩ := Rl.sl_el hL162 hpp
     have hRq4c := hRq4
     obtain ⟨sv100081, rfl, hs100082⟩ := hRq4
     refine WC.draw 19 (fun jj vv => match jj with | 0 => vv = bv | 1 => vv = v156 | 2 => vv = (ni m4) | 3 => vv = (.pointer (some adq3)) | 4 => vv = (.string ry) | 5 => vv = (.bool (hasB ((oo.take i).flatten) ry)) | 6 => vv = (.bool (!(hasB ((oo.take i).flatten) ry))) | 7 => vv = (.bool (!(hasB ((oo.take i).flatten) ry))) | 8 => vv = v13 | 9 => vv = (ni i) | 10 => vv = (.pointer (some adq4)) | 11 => vv = sv100081 | 12 => vv = v156 | 13 => vv = (ni m4) | 14 => vv = (.pointer (some adq3)) | 15 => vv = (.string ry) | 16 => vv = (.bool (hasB pp ry)) | 17 => vv = (.bool (!(hasB pp ry))) | 18 => vv = (.bool (!(hasB pp ry))) | _ => True) (fun _ _ => []) st167 fmix (by kernel_rfl) ((obS (obS (obS (obS (obS (obS (obS (obS (obS (obS (obS (obS (obS (obS (obS (obS (obS (obS (obS ob0 ?_) ?_) ?_) ?_) ?_) ?_) ?_) ?_) ?_) ?_) ?_) ?_) ?_) ?_) ?_) ?_) ?_) ?_) ?_)) ?_
     ·intro vals ρ w181 X hd h0 st180
      have e182 : ρ 6 = bv := (h0 6 rfl).trans hs173
      refine W1 (OpT.move bv e182 ?_)
      refine WL.nil ?_
      exact oneQ.mk ⟨rfl, st180⟩
     ·intro vals ρ w184 X hd h0 st183
      have e185 : ρ 9 = v156 := (h0 9 rfl).trans hs176
      refine W1 (OpT.move v156 e185 ?_)
      refine WL.nil ?_
      exact oneQ.mk ⟨rfl, st183⟩
     ·intro vals ρ w187 X hd h0 st186
      have e188 : ρ 10 = (ni m4) := (h0 10 rfl).trans hs169
      refine W1 (OpT.move (ni m4) e188 ?_)
      refine WL.nil ?_
      exact oneQ.mk ⟨rfl, st186⟩
     ·intro vals ρ w190 X hd h0 st189
      have e191 : ρ 71 = v156 := ((hd 1 rfl).2 71 rfl).trans (hd 1 rfl).1
      have e192 : ρ 72 = (ni m4) := ((hd 2 rfl).2 72 rfl).trans (hd 2 rfl).1
      refine W1 (OpT.idxE tu37 ts9 e191 .i64 (m4) e192 hEq3 ?_)
      refine WL.nil ?_
      exact oneQ.mk ⟨rfl, st189⟩
     ·intro vals ρ w199 X hd h0 st198
      have e200 : ρ 73 = (.pointer (some adq3)) := ((hd 3 rfl).2 73 rfl).trans (hd 3 rfl).1
      refine W1 (OpT.loadS adq3 (.string ry) ta9 e200 (hrq3.cell st198 (j := 0) rfl) ?_)
      refine WL.nil ?_
      exact oneQ.mk ⟨rfl, st198⟩
     ·intro vals ρ w202 X hd h0 st201
      have e203 : ρ 70 = bv := ((hd 0 rfl).2 70 rfl).trans (hd 0 rfl).1
      have e204 : ρ 74 = (.string ry) := ((hd 4 rfl).2 74 rfl).trans (hd 4 rfl).1
      obtain ⟨Z205, hz206, hw207, hr208, st209, bk210⟩ := St.freezeStr (xs := (oo.take i).flatten) (st201 : St Z157 w143 w202 (Row 9 1 bv ((oo.take i).flatten).length (((oo.take i).flatten).map Value.string) :: Blk pb 25 [rv] :: (L ++ X))) (by omega)
      refine W1 (OpT.callS cal9 [] [] [bv, (.string ry)] rfl (ca2 e203 e204) (lhas_spec st209 hr208 ry) ?_)
      rintro v211 w212 ⟨rfl, st213⟩
      replace st213 := bk210 _ _ st213
      refine WL.nil ?_
      exact oneQ.mk ⟨rfl, st213⟩
     ·intro vals ρ w215 X hd h0 st214
      have e216 : ρ 75 = (.bool (hasB ((oo.take i).flatten) ry)) := ((hd 5 rfl).2 75 rfl).trans (hd 5 rfl).1
      refine W1 (OpT.not (hasB ((oo.take i).flatten) ry) e216 ?_)
      refine WL.nil ?_
      exact oneQ.mk ⟨rfl, st214⟩
     ·intro vals ρ w218 X hd h0 st217
      have e219 : ρ 76 = (.bool (!(hasB ((oo.take i).flatten) ry))) := ((hd 6 rfl).2 76 rfl).trans (hd 6 rfl).1
      refine W1 (OpT.move (.bool (!(hasB ((oo.take i).flatten) ry))) e219 ?_)
      refine WL.nil ?_
      exact oneQ.mk ⟨rfl, st217⟩
     ·intro vals ρ w221 X hd h0 st220
      have e222 : ρ 5 = v13 := (h0 5 rfl).trans hs172
      have e223 : ρ 77 = (.bool (!(hasB ((oo.take i).flatten) ry))) := ((hd 7 rfl).2 77 rfl).trans (hd 7 rfl).1
      refine W2 (dj := 77) (e223.trans (congrArg Value.bool h179)) (OpT.move v13 e222 ?_)
      refine WL.nil ?_
      exact oneQ.mk ⟨rfl, st220⟩
     ·intro vals ρ w225 X hd h0 st224
      have e226 : ρ 7 = (ni i) := (h0 7 rfl).trans hs174
      have e227 : ρ 77 = (.bool (!(hasB ((oo.take i).flatten) ry))) := ((hd 7 rfl).2 77 rfl).trans (hd 7 rfl).1
      refine W2 (dj := 77) (e227.trans (congrArg Value.bool h179)) (OpT.move (ni i) e226 ?_)
      refine WL.nil ?_
      exact oneQ.mk ⟨rfl, st224⟩
     ·intro vals ρ w229 X hd h0 st228
      have e230 : ρ 77 = (.bool (!(hasB ((oo.take i).flatten) ry))) := ((hd 7 rfl).2 77 rfl).trans (hd 7 rfl).1
      have e231 : ρ 78 = v13 := ((hd 8 rfl).2 78 rfl).trans (hd 8 rfl).1
      have e232 : ρ 79 = (ni i) := ((hd 9 rfl).2 79 rfl).trans (hd 9 rfl).1
      refine W2 (dj := 77) (e230.trans (congrArg Value.bool h179)) (OpT.idxE tu80 ts37 e231 .i64 (i) e232 hEq4 ?_)
      refine WL.nil ?_
      exact oneQ.mk ⟨rfl, st228⟩
     ·intro vals ρ w239 X hd h0 st238
      have e240 : ρ 77 = (.bool (!(hasB ((oo.take i).flatten) ry))) := ((hd 7 rfl).2 77 rfl).trans (hd 7 rfl).1
      have e241 : ρ 80 = (.pointer (some adq4)) := ((hd 10 rfl).2 80 rfl).trans (hd 10 rfl).1
      refine W2 (dj := 77) (e240.trans (congrArg Value.bool h179)) (OpT.loadS adq4 sv100081 ta37 e241 (hrq4.cell st238 (j := 0) rfl) ?_)
      refine WL.nil ?_
      exact oneQ.mk ⟨rfl, st238⟩
     ·intro vals ρ w243 X hd h0 st242
      have e244 : ρ 9 = v156 := (h0 9 rfl).trans hs176
      have e245 : ρ 77 = (.bool (!(hasB ((oo.take i).flatten) ry))) := ((hd 7 rfl).2 77 rfl).trans (hd 7 rfl).1
      refine W2 (dj := 77) (e245.trans (congrArg Value.bool h179)) (OpT.move v156 e244 ?_)
      refine WL.nil ?_
      exact oneQ.mk ⟨rfl, st242⟩
     ·intro vals ρ w247 X hd h0 st246
      have e248 : ρ 10 = (ni m4) := (h0 10 rfl).trans hs169
      have e249 : ρ 77 = (.bool (!(hasB ((oo.take i).flatten) ry))) := ((hd 7 rfl).2 77 rfl).trans (hd 7 rfl).1
      refine W2 (dj := 77) (e249.trans (congrArg Value.bool h179)) (OpT.move (ni m4) e248 ?_)
      refine WL.nil ?_
      exact oneQ.mk ⟨rfl, st246⟩
     ·intro vals ρ w251 X hd h0 st250
      have e252 : ρ 77 = (.bool (!(hasB ((oo.take i).flatten) ry))) := ((hd 7 rfl).2 77 rfl).trans (hd 7 rfl).1
      have e253 : ρ 82 = v156 := ((hd 12 rfl).2 82 rfl).trans (hd 12 rfl).1
      have e254 : ρ 83 = (ni m4) := ((hd 13 rfl).2 83 rfl).trans (hd 13 rfl).1
      refine W2 (dj := 77) (e252.trans (congrArg Value.bool h179)) (OpT.idxE tu37 ts9 e253 .i64 (m4) e254 hEq3 ?_)
      refine WL.nil ?_
      exact oneQ.mk ⟨rfl, st250⟩
     ·intro vals ρ w261 X hd h0 st260
      have e262 : ρ 77 = (.bool (!(hasB ((oo.take i).flatten) ry))) := ((hd 7 rfl).2 77 rfl).trans (hd 7 rfl).1
      have e263 : ρ 84 = (.pointer (some adq3)) := ((hd 14 rfl).2 84 rfl).trans (hd 14 rfl).1
      refine W2 (dj := 77) (e262.trans (congrArg Value.bool h179)) (OpT.loadS adq3 (.string ry) ta9 e263 (hrq3.cell st260 (j := 0) rfl) ?_)
      refine WL.nil ?_
      exact oneQ.mk ⟨rfl, st260⟩
     ·intro vals ρ w265 X hd h0 st264
      have e266 : ρ 77 = (.bool (!(hasB ((oo.take i).flatten) ry))) := ((hd 7 rfl).2 77 rfl).trans (hd 7 rfl).1
      have e267 : ρ 81 = sv100081 := ((hd 11 rfl).2 81 rfl).trans (hd 11 rfl).1
      have e268 : ρ 85 = (.string ry) := ((hd 15 rfl).2 85 rfl).trans (hd 15 rfl).1
      refine W2 (dj := 77) (e266.trans (congrArg Value.bool h179)) (OpT.callS cal9 [] [] [sv100081, (.string ry)] rfl (ca2 e267 e268) (lhas_spec st264 hs100082 ry) ?_)
      rintro v269 w270 ⟨rfl, st271⟩
      refine WL.nil ?_
      exact oneQ.mk ⟨rfl, st271⟩
     ·intro vals ρ w273 X hd h0 st272
      have e274 : ρ 77 = (.bool (!(hasB ((oo.take i).flatten) ry))) := ((hd 7 rfl).2 77 rfl).trans (hd 7 rfl).1
      have e275 : ρ 86 = (.bool (hasB pp ry)) := ((hd 16 rfl).2 86 rfl).trans (hd 16 rfl).1
      refine W2 (dj := 77) (e274.trans (congrArg Value.bool h179)) (OpT.not (hasB pp ry) e275 ?_)
      refine WL.nil ?_
      exact oneQ.mk ⟨rfl, st272⟩
     ·intro vals ρ w277 X hd h0 st276
      have e278 : ρ 77 = (.bool (!(hasB ((oo.take i).flatten) ry))) := ((hd 7 rfl).2 77 rfl).trans (hd 7 rfl).1
      have e279 : ρ 87 = (.bool (!(hasB pp ry))) := ((hd 17 rfl).2 87 rfl).trans (hd 17 rfl).1
      refine W1 (OpT.pickT (.bool (!(hasB pp ry))) (e278.trans (congrArg Value.bool h179)) e279 ?_)
      refine WL.nil ?_
      exact oneQ.mk ⟨rfl, st276⟩
     intro vals ρ282 w281 hv h0 st280
     replace st280 : St Z157 w143 w281 (Row 9 1 bv ((oo.take i).flatten).length (((oo.take i).flatten).map Value.string) :: Blk pb 25 [rv] :: L) := st280
     have e283 : ρ282 1 = ev := (h0 1 rfl).trans hs170
     have e284 : ρ282 2 = (pt pb 0) := (h0 2 rfl).trans hs171
     have e285 : ρ282 5 = v13 := (h0 5 rfl).trans hs172
     have e286 : ρ282 6 = bv := (h0 6 rfl).trans hs173
     have e287 : ρ282 7 = (ni i) := (h0 7 rfl).trans hs174
     have e288 : ρ282 8 = (ni k) := (h0 8 rfl).trans hs175
     have e289 : ρ282 9 = v156 := (h0 9 rfl).trans hs176
     have e290 : ρ282 10 = (ni m4) := (h0 10 rfl).trans hs169
     have e291 : ρ282 88 = (.bool (!(hasB pp ry))) := ((hv 18 rfl).2 88 rfl).trans (hv 18 rfl).1
     clear hv h0
     refine Wnt ?_
     refine WC.cond ((!(hasB pp ry))) e291 (fun h292 => ?_) (fun h292 => ?_)
     ·refine WC.seq ?_
      refine WC.region ?_
      refine W1 (OpT.assign (.bool false) rfl ?_)
      refine Wnt ?_
      refine WC.ret <| blkQ_r <| thenQ_r <| loopQ_r <| blkQ_r <| thenQ_r <| blkQ_r <| thenQ_r <| loopQ_r <| blkQ_r <| thenQ_r <| blkQ_r <| thenQ_r <| loopQ_r <| blkQ_r <| thenQ_r <| retQ.one (.bool false) rfl ?_
      exfalso
      have q1 : hasB ((oo.take i).flatten) ry = false := by simpa using h179
      have q2 : hasB pp ry = false := by simpa using h292
      exact hlow.elim (hasB_not.1 q1) (hasB_not.1 q2)
     refine WC.skip ?_
     refine blkQ_n ?_
     refine thenQ_n ?_
     refine WC.region ?_
     refine W1 (OpT.move (ni m4) e290 ?_)
     refine W1 (OpT.iadd .i64 (((m4 : Nat) : Int)) (1) (((m4 + 1 : Nat) : Int)) rfl rfl (wadd (a := m4) (b := 1) (by omega)) ?_)
     refine W1 (OpT.assign (ni (m4 + 1)) rfl ?_)
     refine WL.nil ?_
     exact loopQ_n _ (by omega) ⟨m4 + 1, rfl, by omega, rfl, e283, e284, e285, e286, e287, e288, e289, st280⟩
    have h179 := Bool.eq_false_iff.2 h179
    refine WC.draw 19 (fun jj vv => match jj with | 0 => vv = bv | 1 => vv = v156 | 2 => vv = (ni m4) | 3 => vv = (.pointer (some adq3)) | 4 => vv = (.string ry) | 5 => vv = (.bool (hasB ((oo.take i).flatten) ry)) | 6 => vv = (.bool (!(hasB ((oo.take i).flatten) ry))) | 7 => vv = (.bool (!(hasB ((oo.take i).flatten) ry))) | 8 => vv = undef | 9 => vv = undef | 10 => vv = undef | 11 => vv = undef | 12 => vv = undef | 13 => vv = undef | 14 => vv = undef | 15 => vv = undef | 16 => vv = undef | 17 => vv = undef | 18 => vv = (.bool false) | _ => True) (fun _ _ => []) st167 fmix (by kernel_rfl) ((obS (obS (obS (obS (obS (obS (obS (obS (obS (obS (obS (obS (obS (obS (obS (obS (obS (obS (obS ob0 ?_) ?_) ?_) ?_) ?_) ?_) ?_) ?_) ?_) ?_) ?_) ?_) ?_) ?_) ?_) ?_) ?_) ?_) ?_)) ?_
    ·intro vals ρ w294 X hd h0 st293
     have e295 : ρ 6 = bv := (h0 6 rfl).trans hs173
     refine W1 (OpT.move bv e295 ?_)
     refine WL.nil ?_
     exact oneQ.mk ⟨rfl, st293⟩
    ·intro vals ρ w297 X hd h0 st296
     have e298 : ρ 9 = v156 := (h0 9 rfl).trans hs176
     refine W1 (OpT.move v156 e298 ?_)
     refine WL.nil ?_
     exact oneQ.mk ⟨rfl, st296⟩
    ·intro vals ρ w300 X hd h0 st299
     have e301 : ρ 10 = (ni m4) := (h0 10 rfl).trans hs169
     refine W1 (OpT.move (ni m4) e301 ?_)
     refine WL.nil ?_
     exact oneQ.mk ⟨rfl, st299⟩
    ·intro vals ρ w303 X hd h0 st302
     have e304 : ρ 71 = v156 := ((hd 1 rfl).2 71 rfl).trans (hd 1 rfl).1
     have e305 : ρ 72 = (ni m4) := ((hd 2 rfl).2 72 rfl).trans (hd 2 rfl).1
     refine W1 (OpT.idxE tu37 ts9 e304 .i64 (m4) e305 hEq3 ?_)
     refine WL.nil ?_
     exact oneQ.mk ⟨rfl, st302⟩
    ·intro vals ρ w312 X hd h0 st311
     have e313 : ρ 73 = (.pointer (some adq3)) := ((hd 3 rfl).2 73 rfl).trans (hd 3 rfl).1
     refine W1 (OpT.loadS adq3 (.string ry) ta9 e313 (hrq3.cell st311 (j := 0) rfl) ?_)
     refine WL.nil ?_
     exact oneQ.mk ⟨rfl, st311⟩
    ·intro vals ρ w315 X hd h0 st314
     have e316 : ρ 70 = bv := ((hd 0 rfl).2 70 rfl).trans (hd 0 rfl).1
     have e317 : ρ 74 = (.string ry) := ((hd 4 rfl).2 74 rfl).trans (hd 4 rfl).1
     obtain ⟨Z318, hz319, hw320, hr321, st322, bk323⟩ := St.freezeStr (xs := (oo.take i).flatten) (st314 : St Z157 w143 w315 (Row 9 1 bv ((oo.take i).flatten).length (((oo.take i).flatten).map Value.string) :: Blk pb 25 [rv] :: (L ++ X))) (by omega)
     refine W1 (OpT.callS cal9 [] [] [bv, (.string ry)] rfl (ca2 e316 e317) (lhas_spec st322 hr321 ry) ?_)
     rintro v324 w325 ⟨rfl, st326⟩
     replace st326 := bk323 _ _ st326
     refine WL.nil ?_
     exact oneQ.mk ⟨rfl, st326⟩
    ·intro vals ρ w328 X hd h0 st327
     have e329 : ρ 75 = (.bool (hasB ((oo.take i).flatten) ry)) := ((hd 5 rfl).2 75 rfl).trans (hd 5 rfl).1
     refine W1 (OpT.not (hasB ((oo.take i).flatten) ry) e329 ?_)
     refine WL.nil ?_
     exact oneQ.mk ⟨rfl, st327⟩
    ·intro vals ρ w331 X hd h0 st330
     have e332 : ρ 76 = (.bool (!(hasB ((oo.take i).flatten) ry))) := ((hd 6 rfl).2 76 rfl).trans (hd 6 rfl).1
     refine W1 (OpT.move (.bool (!(hasB ((oo.take i).flatten) ry))) e332 ?_)
     refine WL.nil ?_
     exact oneQ.mk ⟨rfl, st330⟩
    ·intro vals ρ w334 X hd h0 st333
     have e335 : ρ 5 = v13 := (h0 5 rfl).trans hs172
     have e336 : ρ 77 = (.bool (!(hasB ((oo.take i).flatten) ry))) := ((hd 7 rfl).2 77 rfl).trans (hd 7 rfl).1
     refine WL.pass (dj := 77) (c := false) rfl rfl rfl (e336.trans (congrArg Value.bool h179)) rfl ?_
     refine WL.nil ?_
     exact oneQ.mk ⟨rfl, st333⟩
    ·intro vals ρ w338 X hd h0 st337
     have e339 : ρ 7 = (ni i) := (h0 7 rfl).trans hs174
     have e340 : ρ 77 = (.bool (!(hasB ((oo.take i).flatten) ry))) := ((hd 7 rfl).2 77 rfl).trans (hd 7 rfl).1
     refine WL.pass (dj := 77) (c := false) rfl rfl rfl (e340.trans (congrArg Value.bool h179)) rfl ?_
     refine WL.nil ?_
     exact oneQ.mk ⟨rfl, st337⟩
    ·intro vals ρ w342 X hd h0 st341
     have e343 : ρ 77 = (.bool (!(hasB ((oo.take i).flatten) ry))) := ((hd 7 rfl).2 77 rfl).trans (hd 7 rfl).1
     have e344 : ρ 78 = undef := ((hd 8 rfl).2 78 rfl).trans (hd 8 rfl).1
     have e345 : ρ 79 = undef := ((hd 9 rfl).2 79 rfl).trans (hd 9 rfl).1
     refine WL.pass (dj := 77) (c := false) rfl rfl rfl (e343.trans (congrArg Value.bool h179)) rfl ?_
     refine WL.nil ?_
     exact oneQ.mk ⟨rfl, st341⟩
    ·intro vals ρ w347 X hd h0 st346
     have e348 : ρ 77 = (.bool (!(hasB ((oo.take i).flatten) ry))) := ((hd 7 rfl).2 77 rfl).trans (hd 7 rfl).1
     have e349 : ρ 80 = undef := ((hd 10 rfl).2 80 rfl).trans (hd 10 rfl).1
     refine WL.pass (dj := 77) (c := false) rfl rfl rfl (e348.trans (congrArg Value.bool h179)) rfl ?_
     refine WL.nil ?_
     exact oneQ.mk ⟨rfl, st346⟩
    ·intro vals ρ w351 X hd h0 st350
     have e352 : ρ 9 = v156 := (h0 9 rfl).trans hs176
     have e353 : ρ 77 = (.bool (!(hasB ((oo.take i).flatten) ry))) := ((hd 7 rfl).2 77 rfl).trans (hd 7 rfl).1
     refine WL.pass (dj := 77) (c := false) rfl rfl rfl (e353.trans (congrArg Value.bool h179)) rfl ?_
     refine WL.nil ?_
     exact oneQ.mk ⟨rfl, st350⟩
    ·intro vals ρ w355 X hd h0 st354
     have e356 : ρ 10 = (ni m4) := (h0 10 rfl).trans hs169
     have e357 : ρ 77 = (.bool (!(hasB ((oo.take i).flatten) ry))) := ((hd 7 rfl).2 77 rfl).trans (hd 7 rfl).1
     refine WL.pass (dj := 77) (c := false) rfl rfl rfl (e357.trans (congrArg Value.bool h179)) rfl ?_
     refine WL.nil ?_
     exact oneQ.mk ⟨rfl, st354⟩
    ·intro vals ρ w359 X hd h0 st358
     have e360 : ρ 77 = (.bool (!(hasB ((oo.take i).flatten) ry))) := ((hd 7 rfl).2 77 rfl).trans (hd 7 rfl).1
     have e361 : ρ 82 = undef := ((hd 12 rfl).2 82 rfl).trans (hd 12 rfl).1
     have e362 : ρ 83 = undef := ((hd 13 rfl).2 83 rfl).trans (hd 13 rfl).1
     refine WL.pass (dj := 77) (c := false) rfl rfl rfl (e360.trans (congrArg Value.bool h179)) rfl ?_
     refine WL.nil ?_
     exact oneQ.mk ⟨rfl, st358⟩
    ·intro vals ρ w364 X hd h0 st363
     have e365 : ρ 77 = (.bool (!(hasB ((oo.take i).flatten) ry))) := ((hd 7 rfl).2 77 rfl).trans (hd 7 rfl).1
     have e366 : ρ 84 = undef := ((hd 14 rfl).2 84 rfl).trans (hd 14 rfl).1
     refine WL.pass (dj := 77) (c := false) rfl rfl rfl (e365.trans (congrArg Value.bool h179)) rfl ?_
     refine WL.nil ?_
     exact oneQ.mk ⟨rfl, st363⟩
    ·intro vals ρ w368 X hd h0 st367
     have e369 : ρ 77 = (.bool (!(hasB ((oo.take i).flatten) ry))) := ((hd 7 rfl).2 77 rfl).trans (hd 7 rfl).1
     have e370 : ρ 81 = undef := ((hd 11 rfl).2 81 rfl).trans (hd 11 rfl).1
     have e371 : ρ 85 = undef := ((hd 15 rfl).2 85 rfl).trans (hd 15 rfl).1
     refine WL.pass (dj := 77) (c := false) rfl rfl rfl (e369.trans (congrArg Value.bool h179)) rfl ?_
     refine WL.nil ?_
     exact oneQ.mk ⟨rfl, st367⟩
    ·intro vals ρ w373 X hd h0 st372
     have e374 : ρ 77 = (.bool (!(hasB ((oo.take i).flatten) ry))) := ((hd 7 rfl).2 77 rfl).trans (hd 7 rfl).1
     have e375 : ρ 86 = undef := ((hd 16 rfl).2 86 rfl).trans (hd 16 rfl).1
     refine WL.pass (dj := 77) (c := false) rfl rfl rfl (e374.trans (congrArg Value.bool h179)) rfl ?_
     refine WL.nil ?_
     exact oneQ.mk ⟨rfl, st372⟩
    ·intro vals ρ w377 X hd h0 st376
     have e378 : ρ 77 = (.bool (!(hasB ((oo.take i).flatten) ry))) := ((hd 7 rfl).2 77 rfl).trans (hd 7 rfl).1
     have e379 : ρ 87 = undef := ((hd 17 rfl).2 87 rfl).trans (hd 17 rfl).1
     refine W1 (OpT.pickF (.bool false) (e378.trans (congrArg Value.bool h179)) rfl ?_)
     refine WL.nil ?_
     exact oneQ.mk ⟨rfl, st376⟩
    intro vals ρ382 w381 hv h0 st380
    replace st380 : St Z157 w143 w381 (Row 9 1 bv ((oo.take i).flatten).length (((oo.take i).flatten).map Value.string) :: Blk pb 25 [rv] :: L) := st380
    have e383 : ρ382 1 = ev := (h0 1 rfl).trans hs170
    have e384 : ρ382 2 = (pt pb 0) := (h0 2 rfl).trans hs171
    have e385 : ρ382 5 = v13 := (h0 5 rfl).trans hs172
    have e386 : ρ382 6 = bv := (h0 6 rfl).trans hs173
    have e387 : ρ382 7 = (ni i) := (h0 7 rfl).trans hs174
    have e388 : ρ382 8 = (ni k) := (h0 8 rfl).trans hs175
    have e389 : ρ382 9 = v156 := (h0 9 rfl).trans hs176
    have e390 : ρ382 10 = (ni m4) := (h0 10 rfl).trans hs169
    have e391 : ρ382 88 = (.bool false) := ((hv 18 rfl).2 88 rfl).trans (hv 18 rfl).1
    clear hv h0
    refine Wnt ?_
    refine WC.condF e391 ?_
    refine WC.skip ?_
    refine blkQ_n ?_
    refine thenQ_n ?_
    refine WC.region ?_
    refine W1 (OpT.move (ni m4) e390 ?_)
    refine W1 (OpT.iadd .i64 (((m4 : Nat) : Int)) (1) (((m4 + 1 : Nat) : Int)) rfl rfl (wadd (a := m4) (b := 1) (by omega)) ?_)
    refine W1 (OpT.assign (ni (m4 + 1)) rfl ?_)
    refine WL.nil ?_
    exact loopQ_n _ (by omega) ⟨m4 + 1, rfl, by omega, rfl, e383, e384, e385, e386, e387, e388, e389, st380⟩
   refine WC.exit ?_
   refine thenQ_x ?_
   refine loopQ_x ?_
   refine blkQ_hit ?_
   refine thenQ_n ?_
   refine WC.seq ?_
   refine Wsr ?_
   refine W1 (OpT.assign (ii 0) rfl ?_)
   refine Wnt ?_
   refine WC.block ?_
   refine WC.loop (fun m ρ wz => ∃ (m6 : Nat), m = pp.length - m6 ∧ m6 ≤ pp.length ∧ ρ 11 = (ni m6) ∧ ρ 1 = ev ∧ ρ 2 = (pt pb 0) ∧ ρ 5 = v13 ∧ ρ 6 = bv ∧ ρ 7 = (ni i) ∧ ρ 8 = (ni k) ∧ ρ 9 = v156 ∧ St Z157 w143 wz (Row 9 1 bv ((oo.take i).flatten).length (((oo.take i).flatten).map Value.string) :: Blk pb 25 [rv] :: L)) _ ⟨0, rfl, by omega, rfl, hs170, hs171, hs172, hs173, hs174, hs175, hs176, st167⟩ ?_
   rintro m392 ρ393 w394 ⟨m6, hm405, hp396, hs397, hs398, hs399, hs400, hs401, hs402, hs403, hs404, st395⟩
   refine WC.seq ?_
   refine Wsr ?_
   refine W1 (OpT.move (ni m6) hs397 ?_)
   refine W1 (OpT.move v13 hs400 ?_)
   refine W1 (OpT.move (ni i) hs402 ?_)
   refine W1 (OpT.idxX tu80 ts37 hL162 rfl .i64 (i) rfl hpp (fun ad407 cs408 hr409 hR410 => ?_))
   have hR410c := hR410
   obtain ⟨sv411, rfl, hs412⟩ := hR410
   refine W1 (OpT.loadS ad407 sv411 ta37 rfl (hr409.cell st395 (j := 0) rfl) ?_)
   refine W1 (OpT.lenR rfl tu37 hs412 rfl ?_)
   refine W1 (OpT.ilt .i64 (((m6 : Nat) : Int)) (((pp.length : Nat) : Int)) rfl rfl ?_)
   refine Wnt ?_
   refine WC.condP (((m6 : Nat) : Int) < ((pp.length : Nat) : Int)) rfl (fun h413 => ?_) (fun h413 => ?_)
   ·refine WC.skip ?_
    refine thenQ_n ?_
    refine WC.seq ?_
    refine WC.block ?_
    refine WC.seq ?_
    obtain ⟨pz, hpz⟩ : ∃ x, pp[m6]? = some x := ⟨_, List.getElem?_eq_getElem (by omega)⟩
    have hzin : hasB (RL px) pz = true := hasB_iff.2 (((hRL px).mem pz).2 ((hpc.2.2.2 px hpm pz).2 (List.mem_of_getElem? hpz)).1)
    refine WC.region ?_
    refine W1 (OpT.move v156 hs404 ?_)
    refine W1 (OpT.move v13 hs400 ?_)
    refine W1 (OpT.move (ni i) hs402 ?_)
    refine W1 (OpT.idxX tu80 ts37 hL162 rfl .i64 (i) rfl hpp (fun ad415 cs416 hr417 hR418 => ?_))
    have hR418c := hR418
    obtain ⟨sv419, rfl, hs420⟩ := hR418
    refine W1 (OpT.loadS ad415 sv419 ta37 rfl (hr417.cell st395 (j := 0) rfl) ?_)
    refine W1 (OpT.move (ni m6) hs397 ?_)
    refine W1 (OpT.idxX tu37 ts9 hs420 rfl .i64 (m6) rfl hpz (fun ad422 cs423 hr424 hR425 => ?_))
    have hR425c := hR425
    obtain rfl := hR425
    refine W1 (OpT.loadS ad422 (.string pz) ta9 rfl (hr424.cell st395 (j := 0) rfl) ?_)
    refine W1 (OpT.callS cal9 [] [] [v156, (.string pz)] rfl (ca2 rfl rfl) (lhas_spec st395 hs159 pz) ?_)
    rintro v426 w427 ⟨rfl, st428⟩
    refine W1 (OpT.not true (congrArg Value.bool hzin) ?_)
    refine Wnt ?_
    refine WC.condF rfl ?_
    refine WC.skip ?_
    refine blkQ_n ?_
    refine thenQ_n ?_
    refine WC.region ?_
    refine W1 (OpT.move (ni m6) hs397 ?_)
    refine W1 (OpT.iadd .i64 (((m6 : Nat) : Int)) (1) (((m6 + 1 : Nat) : Int)) rfl rfl (wadd (a := m6) (b := 1) (by omega)) ?_)
    refine W1 (OpT.assign (ni (m6 + 1)) rfl ?_)
    refine WL.nil ?_
    exact loopQ_n _ (by omega) ⟨m6 + 1, rfl, by omega, rfl, hs398, hs399, hs400, hs401, hs402, hs403, hs404, st428⟩
   refine WC.exit ?_
   refine thenQ_x ?_
   refine loopQ_x ?_
   refine blkQ_hit ?_
   refine thenQ_n ?_
   refine Wsr ?_
   refine W1 (OpT.assign (ii 0) rfl ?_)
   refine Wnt ?_
   refine WC.block ?_
   refine WC.loop (fun m ρ wz => ∃ (m8 : Nat), ∃ (bv : Value), m = ((oo.take i).flatten).length - m8 ∧ m8 ≤ ((oo.take i).flatten).length ∧ ρ 6 = bv ∧ ρ 12 = (ni m8) ∧ ρ 1 = ev ∧ ρ 2 = (pt pb 0) ∧ ρ 5 = v13 ∧ ρ 7 = (ni i) ∧ ρ 8 = (ni k) ∧ ρ 9 = v156 ∧ St Z157 w143 wz (Row 9 1 bv ((oo.take i).flatten).length (((oo.take i).flatten).map Value.string) :: Blk pb 25 [rv] :: L)) _ ⟨0, bv, rfl, by omega, hs401, rfl, hs398, hs399, hs400, hs402, hs403, hs404, st395⟩ ?_
   rintro m429 ρ430 w431 ⟨m8, bv, hm442, hp433, hs435, hs434, hs436, hs437, hs438, hs439, hs440, hs441, st432⟩
   have obv := st432.rowOne (i := 0) rfl
   have cbv := st432.rowCel (i := 0) rfl
   refine WC.seq ?_
   refine Wsr ?_
   refine W1 (OpT.move (ni m8) hs434 ?_)
   refine W1 (OpT.move bv hs435 ?_)
   refine W1 (OpT.lenRow st432 0 rfl rfl tu37 rfl ?_)
   refine W1 (OpT.ilt .i64 (((m8 : Nat) : Int)) (((((oo.take i).flatten).length : Nat) : Int)) rfl rfl ?_)
   refine Wnt ?_
   refine WC.condP (((m8 : Nat) : Int) < ((((oo.take i).flatten).length : Nat) : Int)) rfl (fun h443 => ?_) (fun h443 => ?_)
   ·refine WC.skip ?_
    refine thenQ_n ?_
    refine WC.seq ?_
    refine WC.block ?_
    refine WC.seq ?_
    obtain ⟨by9, hby9⟩ : ∃ x, ((oo.take i).flatten)[m8]? = some x := ⟨_, List.getElem?_eq_getElem (by omega)⟩
    obtain ⟨gk445, cap446, ex447, rfl, hE448, hc449, hm450, st444⟩ := St.openRow (by omega) (st432 : St Z157 w143 w431 (Row 9 1 bv ((oo.take i).flatten).length (((oo.take i).flatten).map Value.string) :: Blk pb 25 [rv] :: L))
    replace st444 : St Z157 w143 w431 (Blk gk445 9 (((oo.take i).flatten).map Value.string ++ ex447) :: Blk pb 25 [rv] :: L) := st444
    have hby8 : by9 ∈ ((drawF rs).map Prod.fst) := by obtain ⟨jq, q9, _, hq9, hyq⟩ := mem_take_flat.1 (List.mem_of_getElem? hby9); exact (HO.all by9).2 ⟨q9, List.mem_of_getElem? hq9, hyq⟩
    by_cases h451 : (hasB (RL px) by9) = true
    ·obtain ⟨adq5, csq5, hEq5, hrq5, hRq5⟩ := Rl.sl_el hL162 hpp
     have hRq5c := hRq5
     obtain ⟨sv100101, rfl, hs100102⟩ := hRq5
     obtain ⟨adq6, csq6, hEq6, hrq6, hRq6⟩ := Rl.sl_el hs100102 hpx
     have hRq6c := hRq6
     obtain rfl := hRq6
     have st452 : St Z157 w143 w431 (Blk gk445 9 (((oo.take i).flatten).map Value.string ++ ex447) :: Blk pb 25 [rv] :: L) := st444
     refine WC.drawW (L := (Blk gk445 9 (((oo.take i).flatten).map Value.string ++ ex447) :: Blk pb 25 [rv] :: L)) 22 (fun jj vals vv => match jj with | 0 => vv = v156 | 1 => vv = (sl gk445 ((oo.take i).flatten).length cap446) | 2 => vv = (ni m8) | 3 => vv = (.pointer (some ⟨gk445, m8, none⟩)) | 4 => vv = (.string by9) | 5 => vv = (.bool (hasB (RL px) by9)) | 6 => vv = (.bool (hasB (RL px) by9)) | 7 => vv = (.agg #[rv]) | 8 => vv = (sl gk445 ((oo.take i).flatten).length cap446) | 9 => vv = (ni m8) | 10 => vv = (.pointer (some ⟨gk445, m8, none⟩)) | 11 => vv = (.string by9) | 12 => vv.oneCell' = true ∧ vv.cells = #[vv] | 13 => vv = v13 | 14 => vv = (ni i) | 15 => vv = (.pointer (some adq5)) | 16 => vv = sv100101 | 17 => vv = (ni k) | 18 => vv = (.pointer (some adq6)) | 19 => vv = (.string px) | 20 => vv = (.bool (hasB (RL by9) px)) | 21 => vv = (.bool (hasB (RL by9) px)) | _ => True) (fun jj vals vv => match jj with | 12 => [Row 9 1 vv (RL by9).length ((RL by9).map Value.string)] | _ => []) (fun jj => match jj with | _ => []) (fun jj => match jj with | 20 => some 12 | _ => none) st452 fmix (by kernel_rfl) (by kernel_rfl) ((obS (obS (obS (obS (obS (obS (obS (obS (obS (obS (obS (obS (obS (obS (obS (obS (obS (obS (obS (obS (obS (obS ob0 (fun aa bb vv h hf => hf)) (fun aa bb vv h hf => hf)) (fun aa bb vv h hf => hf)) (fun aa bb vv h hf => hf)) (fun aa bb vv h hf => hf)) (fun aa bb vv h hf => hf)) (fun aa bb vv h hf => hf)) (fun aa bb vv h hf => hf)) (fun aa bb vv h hf => hf)) (fun aa bb vv h hf => hf)) (fun aa bb vv h hf => hf)) (fun aa bb vv h hf => hf)) (fun aa bb vv h hf => hf)) (fun aa bb vv h hf => hf)) (fun aa bb vv h hf => hf)) (fun aa bb vv h hf => hf)) (fun aa bb vv h hf => hf)) (fun aa bb vv h hf => hf)) (fun aa bb vv h hf => hf)) (fun aa bb vv h hf => hf)) (fun aa bb vv h hf => hf)) (fun aa bb vv h hf => hf))) ((obS (obS (obS (obS (obS (obS (obS (obS (obS (obS (obS (obS (obS (obS (obS (obS (obS (obS (obS (obS (obS (obS ob0 (fun aa bb vv h => rfl)) (fun aa bb vv h => rfl)) (fun aa bb vv h => rfl)) (fun aa bb vv h => rfl)) (fun aa bb vv h => rfl)) (fun aa bb vv h => rfl)) (fun aa bb vv h => rfl)) (fun aa bb vv h => rfl)) (fun aa bb vv h => rfl)) (fun aa bb vv h => rfl)) (fun aa bb vv h => rfl)) (fun aa bb vv h => rfl)) (fun aa bb vv h => rfl)) (fun aa bb vv h => rfl)) (fun aa bb vv h => rfl)) (fun aa bb vv h => rfl)) (fun aa bb vv h => rfl)) (fun aa bb vv h => rfl)) (fun aa bb vv h => rfl)) (fun aa bb vv h => rfl)) (fun aa bb vv h => rfl)) (fun aa bb vv h => rfl))) ((obS (obS (obS (obS (obS (obS (obS (obS (obS (obS (obS (obS (obS (obS (obS (obS (obS (obS (obS (obS (obS (obS ob0 ?_) ?_) ?_) ?_) ?_) ?_) ?_) ?_) ?_) ?_) ?_) ?_) ?_) ?_) ?_) ?_) ?_) ?_) ?_) ?_) ?_) ?_)) ?_
     ·intro vals ρ w454 X hd h0 st453
      have e455 : ρ 9 = v156 := (h0 9 rfl).trans hs441
      refine W1 (OpT.move v156 e455 ?_)
      refine WL.nil ?_
      exact oneQ.mk ⟨rfl, st453⟩
     ·intro vals ρ w457 X hd h0 st456
      have e458 : ρ 6 = (sl gk445 ((oo.take i).flatten).length cap446) := (h0 6 rfl).trans hs435
      refine W1 (OpT.move (sl gk445 ((oo.take i).flatten).length cap446) e458 ?_)
      refine WL.nil ?_
      exact oneQ.mk ⟨rfl, st456⟩
     ·intro vals ρ w460 X hd h0 st459
      have e461 : ρ 12 = (ni m8) := (h0 12 rfl).trans hs434
      refine W1 (OpT.move (ni m8) e461 ?_)
      refine WL.nil ?_
      exact oneQ.mk ⟨rfl, st459⟩
     ·intro vals ρ w463 X hd h0 st462
      have e464 : ρ 115 = (sl gk445 ((oo.take i).flatten).length cap446) := ((hd 1 rfl).2 115 rfl).trans (hd 1 rfl).1
      have e465 : ρ 116 = (ni m8) := ((hd 2 rfl).2 116 rfl).trans (hd 2 rfl).1
      refine W1 (OpT.idx 1 ⟨gk445, 0, none⟩ ⟨gk445, m8, none⟩ ((oo.take i).flatten).length cap446 .i64 (((m8 : Nat) : Int)) tu37 ts9 e464 e465 (by omega) (by omega) (add_at _ _) ?_)
      refine WL.nil ?_
      exact oneQ.mk ⟨rfl, st462⟩
     ·intro vals ρ w467 X hd h0 st466
      have e468 : ρ 117 = (.pointer (some ⟨gk445, m8, none⟩)) := ((hd 3 rfl).2 117 rfl).trans (hd 3 rfl).1
      refine W1 (OpT.loadS ⟨gk445, m8, none⟩ (.string by9) ta9 e468 (st466.cellB (i := 0) rfl (by rw [List.getElem?_append_left (by rw [List.length_map]; exact (List.getElem?_eq_some_iff.1 hby9).1), List.getElem?_map, hby9]; rfl)) ?_)
      refine WL.nil ?_
      exact oneQ.mk ⟨rfl, st466⟩
     ·intro vals ρ w470 X hd h0 st469
      have e471 : ρ 114 = v156 := ((hd 0 rfl).2 114 rfl).trans (hd 0 rfl).1
      have e472 : ρ 118 = (.string by9) := ((hd 4 rfl).2 118 rfl).trans (hd 4 rfl).1
      refine W1 (OpT.callS cal9 [] [] [v156, (.string by9)] rfl (ca2 e471 e472) (lhas_spec st469 hs159 by9) ?_)
      rintro v473 w474 ⟨rfl, st475⟩
      refine WL.nil ?_
      exact oneQ.mk ⟨rfl, st475⟩
     ·intro vals ρ w477 X hd h0 st476
      have e478 : ρ 119 = (.bool (hasB (RL px) by9)) := ((hd 5 rfl).2 119 rfl).trans (hd 5 rfl).1
      refine W1 (OpT.move (.bool (hasB (RL px) by9)) e478 ?_)
      refine WL.nil ?_
      exact oneQ.mk ⟨rfl, st476⟩
     ·intro vals ρ w480 X hd h0 st479
      have e481 : ρ 2 = (pt pb 0) := (h0 2 rfl).trans hs437
      have e482 : ρ 120 = (.bool (hasB (RL px) by9)) := ((hd 6 rfl).2 120 rfl).trans (hd 6 rfl).1
      refine W2 (dj := 120) (e482.trans (congrArg Value.bool h451)) (OpT.loadA ⟨pb, 0, none⟩ 1 [rv] ta25 ts25 e481 ((st479.rowB (i := 1) rfl).part 0 1) rfl ?_)
      refine WL.nil ?_
      exact oneQ.mk ⟨rfl, st479⟩
     ·intro vals ρ w484 X hd h0 st483
      have e485 : ρ 6 = (sl gk445 ((oo.take i).flatten).length cap446) := (h0 6 rfl).trans hs435
      have e486 : ρ 120 = (.bool (hasB (RL px) by9)) := ((hd 6 rfl).2 120 rfl).trans (hd 6 rfl).1
      refine W2 (dj := 120) (e486.trans (congrArg Value.bool h451)) (OpT.move (sl gk445 ((oo.take i).flatten).length cap446) e485 ?_)
      refine WL.nil ?_
      exact oneQ.mk ⟨rfl, st483⟩
     ·intro vals ρ w488 X hd h0 st487
      have e489 : ρ 12 = (ni m8) := (h0 12 rfl).trans hs434
      have e490 : ρ 120 = (.bool (hasB (RL px) by9)) := ((hd 6 rfl).2 120 rfl).trans (hd 6 rfl).1
      refine W2 (dj := 120) (e490.trans (congrArg Value.bool h451)) (OpT.move (ni m8) e489 ?_)
      refine WL.nil ?_
      exact oneQ.mk ⟨rfl, st487⟩
     ·intro vals ρ w492 X hd h0 st491
      have e493 : ρ 120 = (.bool (hasB (RL px) by9)) := ((hd 6 rfl).2 120 rfl).trans (hd 6 rfl).1
      have e494 : ρ 122 = (sl gk445 ((oo.take i).flatten).length cap446) := ((hd 8 rfl).2 122 rfl).trans (hd 8 rfl).1
      have e495 : ρ 123 = (ni m8) := ((hd 9 rfl).2 123 rfl).trans (hd 9 rfl).1
      refine W2 (dj := 120) (e493.trans (congrArg Value.bool h451)) (OpT.idx 1 ⟨gk445, 0, none⟩ ⟨gk445, m8, none⟩ ((oo.take i).flatten).length cap446 .i64 (((m8 : Nat) : Int)) tu37 ts9 e494 e495 (by omega) (by omega) (add_at _ _) ?_)
      refine WL.nil ?_
      exact oneQ.mk ⟨rfl, st491⟩
     ·intro vals ρ w497 X hd h0 st496
      have e498 : ρ 120 = (.bool (hasB (RL px) by9)) := ((hd 6 rfl).2 120 rfl).trans (hd 6 rfl).1
      have e499 : ρ 124 = (.pointer (some ⟨gk445, m8, none⟩)) := ((hd 10 rfl).2 124 rfl).trans (hd 10 rfl).1
      refine W2 (dj := 120) (e498.trans (congrArg Value.bool h451)) (OpT.loadS ⟨gk445, m8, none⟩ (.string by9) ta9 e499 (st496.cellB (i := 0) rfl (by rw [List.getElem?_append_left (by rw [List.length_map]; exact (List.getElem?_eq_some_iff.1 hby9).1), List.getElem?_map, hby9]; rfl)) ?_)
      refine WL.nil ?_
      exact oneQ.mk ⟨rfl, st496⟩
     ·intro vals ρ w501 X hd h0 st500
      have e502 : ρ 120 = (.bool (hasB (RL px) by9)) := ((hd 6 rfl).2 120 rfl).trans (hd 6 rfl).1
      have e503 : ρ 121 = (.agg #[rv]) := ((hd 7 rfl).2 121 rfl).trans (hd 7 rfl).1
      have e504 : ρ 125 = (.string by9) := ((hd 11 rfl).2 125 rfl).trans (hd 11 rfl).1
      refine W2 (dj := 120) (e502.trans (congrArg Value.bool h451)) (OpT.callS cal10 [] [] [(.agg #[rv]), (.string by9)] rfl (ca2 e503 e504) (Reach_at hRL st500 _ rs hL163 HB hN by9 (hN.g.size _ hby8)) ?_)
      rintro v507 w508 ⟨o505, c506, st509⟩
      refine WL.nil ?_
      exact oneQ.mk ⟨⟨o505, c506⟩, st509⟩
     ·intro vals ρ w511 X hd h0 st510
      have e512 : ρ 5 = v13 := (h0 5 rfl).trans hs438
      have e513 : ρ 120 = (.bool (hasB (RL px) by9)) := ((hd 6 rfl).2 120 rfl).trans (hd 6 rfl).1
      refine W2 (dj := 120) (e513.trans (congrArg Value.bool h451)) (OpT.move v13 e512 ?_)
      refine WL.nil ?_
      exact oneQ.mk ⟨rfl, st510⟩
     ·intro vals ρ w515 X hd h0 st514
      have e516 : ρ 7 = (ni i) := (h0 7 rfl).trans hs439
      have e517 : ρ 120 = (.bool (hasB (RL px) by9)) := ((hd 6 rfl).2 120 rfl).trans (hd 6 rfl).1
      refine W2 (dj := 120) (e517.trans (congrArg Value.bool h451)) (OpT.move (ni i) e516 ?_)
      refine WL.nil ?_
      exact oneQ.mk ⟨rfl, st514⟩
     ·intro vals ρ w519 X hd h0 st518
      have e520 : ρ 120 = (.bool (hasB (RL px) by9)) := ((hd 6 rfl).2 120 rfl).trans (hd 6 rfl).1
      have e521 : ρ 127 = v13 := ((hd 13 rfl).2 127 rfl).trans (hd 13 rfl).1
      have e522 : ρ 128 = (ni i) := ((hd 14 rfl).2 128 rfl).trans (hd 14 rfl).1
      refine W2 (dj := 120) (e520.trans (congrArg Value.bool h451)) (OpT.idxE tu80 ts37 e521 .i64 (i) e522 hEq5 ?_)
      refine WL.nil ?_
      exact oneQ.mk ⟨rfl, st518⟩
     ·intro vals ρ w529 X hd h0 st528
      have e530 : ρ 120 = (.bool (hasB (RL px) by9)) := ((hd 6 rfl).2 120 rfl).trans (hd 6 rfl).1
      have e531 : ρ 129 = (.pointer (some adq5)) := ((hd 15 rfl).2 129 rfl).trans (hd 15 rfl).1
      refine W2 (dj := 120) (e530.trans (congrArg Value.bool h451)) (OpT.loadS adq5 sv100101 ta37 e531 (hrq5.cell st528 (j := 0) rfl) ?_)
      refine WL.nil ?_
      exact oneQ.mk ⟨rfl, st528⟩
     ·intro vals ρ w533 X hd h0 st532
      have e534 : ρ 8 = (ni k) := (h0 8 rfl).trans hs440
      have e535 : ρ 120 = (.bool (hasB (RL px) by9)) := ((hd 6 rfl).2 120 rfl).trans (hd 6 rfl).1
      refine W2 (dj := 120) (e535.trans (congrArg Value.bool h451)) (OpT.move (ni k) e534 ?_)
      refine WL.nil ?_
      exact oneQ.mk ⟨rfl, st532⟩
     ·intro vals ρ w537 X hd h0 st536
      have e538 : ρ 120 = (.bool (hasB (RL px) by9)) := ((hd 6 rfl).2 120 rfl).trans (hd 6 rfl).1
      have e539 : ρ 130 = sv100101 := ((hd 16 rfl).2 130 rfl).trans (hd 16 rfl).1
      have e540 : ρ 131 = (ni k) := ((hd 17 rfl).2 131 rfl).trans (hd 17 rfl).1
      refine W2 (dj := 120) (e538.trans (congrArg Value.bool h451)) (OpT.idxE tu37 ts9 e539 .i64 (k) e540 hEq6 ?_)
      refine WL.nil ?_
      exact oneQ.mk ⟨rfl, st536⟩
     ·intro vals ρ w547 X hd h0 st546
      have e548 : ρ 120 = (.bool (hasB (RL px) by9)) := ((hd 6 rfl).2 120 rfl).trans (hd 6 rfl).1
      have e549 : ρ 132 = (.pointer (some adq6)) := ((hd 18 rfl).2 132 rfl).trans (hd 18 rfl).1
      refine W2 (dj := 120) (e548.trans (congrArg Value.bool h451)) (OpT.loadS adq6 (.string px) ta9 e549 (hrq6.cell st546 (j := 0) rfl) ?_)
      refine WL.nil ?_
      exact oneQ.mk ⟨rfl, st546⟩
     ·intro vals ρ w551 X hd h0 st550
      have e552 : ρ 120 = (.bool (hasB (RL px) by9)) := ((hd 6 rfl).2 120 rfl).trans (hd 6 rfl).1
      have o554 : (vals 12).oneCell' = true := (hd 12 rfl).1.1
      have c555 : (vals 12).cells = #[vals 12] := (hd 12 rfl).1.2
      have e553 : ρ 126 = (vals 12) := ((hd 12 rfl).2 126 rfl)
      have e556 : ρ 133 = (.string px) := ((hd 19 rfl).2 133 rfl).trans (hd 19 rfl).1
      obtain ⟨Z557, hz558, hw559, hr560, st561, bk562⟩ := St.freezeStr (xs := (RL by9)) (st550 : St Z157 w143 w551 (Row 9 1 (vals 12) (RL by9).length ((RL by9).map Value.string) :: Blk gk445 9 (((oo.take i).flatten).map Value.string ++ ex447) :: Blk pb 25 [rv] :: (L ++ X))) (Nat.lt_trans (hRLl _) (by decide))
      refine W2 (dj := 120) (e552.trans (congrArg Value.bool h451)) (OpT.callS cal9 [] [] [(vals 12), (.string px)] rfl (ca2 e553 e556) (lhas_spec st561 hr560 px) ?_)
      rintro v563 w564 ⟨rfl, st565⟩
      replace st565 := bk562 _ _ st565
      refine WL.nil ?_
      exact oneQ.mk ⟨rfl, st565⟩
     ·intro vals ρ w567 X hd h0 st566
      have e568 : ρ 120 = (.bool (hasB (RL px) by9)) := ((hd 6 rfl).2 120 rfl).trans (hd 6 rfl).1
      have e569 : ρ 134 = (.bool (hasB (RL by9) px)) := ((hd 20 rfl).2 134 rfl).trans (hd 20 rfl).1
      refine W1 (OpT.pickT (.bool (hasB (RL by9) px)) (e568.trans (congrArg Value.bool h451)) e569 ?_)
      refine WL.nil ?_
      exact oneQ.mk ⟨rfl, st566⟩
     intro vals ρ572 w571 hv h0 st570
     replace st570 : St Z157 w143 w571 (Row 9 1 (vals 12) (RL by9).length ((RL by9).map Value.string) :: Blk gk445 9 (((oo.take i).flatten).map Value.string ++ ex447) :: Blk pb 25 [rv] :: L) := st570
     have e573 : ρ572 1 = ev := (h0 1 rfl).trans hs436
     have e574 : ρ572 2 = (pt pb 0) := (h0 2 rfl).trans hs437
     have e575 : ρ572 5 = v13 := (h0 5 rfl).trans hs438
     have e576 : ρ572 6 = (sl gk445 ((oo.take i).flatten).length cap446) := (h0 6 rfl).trans hs435
     have e577 : ρ572 7 = (ni i) := (h0 7 rfl).trans hs439
     have e578 : ρ572 8 = (ni k) := (h0 8 rfl).trans hs440
     have e579 : ρ572 9 = v156 := (h0 9 rfl).trans hs441
     have e580 : ρ572 12 = (ni m8) := (h0 12 rfl).trans hs434
     have e581 : ρ572 135 = (.bool (hasB (RL by9) px)) := ((hv 21 rfl).2 135 rfl).trans (hv 21 rfl).1
     have o582 : (vals 12).oneCell' = true := (hv 12 rfl).1.1
     have c583 : (vals 12).cells = #[vals 12] := (hv 12 rfl).1.2
     clear hv h0
     generalize vals 12 = v584 at *
     refine Wnt ?_
     refine WC.cond ((hasB (RL by9) px)) e581 (fun h585 => ?_) (fun h585 => ?_)
     ·refine WC.seq ?_
      refine WC.region ?_
      refine W1 (OpT.assign (.bool false) rfl ?_)
      refine Wnt ?_
      refine WC.ret <| blkQ_r <| thenQ_r <| loopQ_r <| blkQ_r <| blkQ_r <| thenQ_r <| loopQ_r <| blkQ_r <| thenQ_r <| blkQ_r <| thenQ_r <| loopQ_r <| blkQ_r <| thenQ_r <| retQ.one (.bool false) rfl ?_
      exfalso
      have q1 : hasB (RL px) by9 = true := by simpa using h451
      have q2 : hasB (RL by9) px = true := by simpa using h585
      exact HO.apart hpp hpm (List.mem_of_getElem? hby9) (((hRL px).mem by9).1 (hasB_iff.1 q1)) (((hRL by9).mem px).1 (hasB_iff.1 q2))
     refine WC.skip ?_
     refine blkQ_n ?_
     refine thenQ_n ?_
     refine WC.region ?_
     refine W1 (OpT.move (ni m8) e580 ?_)
     refine W1 (OpT.iadd .i64 (((m8 : Nat) : Int)) (1) (((m8 + 1 : Nat) : Int)) rfl rfl (wadd (a := m8) (b := 1) (by omega)) ?_)
     refine W1 (OpT.assign (ni (m8 + 1)) rfl ?_)
     refine WL.nil ?_
     have st586 : St Z157 w143 w571 (Row 9 1 (sl gk445 ((oo.take i).flatten).length cap446) ((oo.take i).flatten).length (((oo.take i).flatten).map Value.string) :: Row 9 1 v584 (RL by9).length ((RL by9).map Value.string) :: Blk pb 25 [rv] :: L) := St.shutRow ((St.selD 3 [1, 0, 2] rfl rfl (by decide) st570) : St Z157 w143 w571 (Blk gk445 9 (((oo.take i).flatten).map Value.string ++ ex447) :: Row 9 1 v584 (RL by9).length ((RL by9).map Value.string) :: Blk pb 25 [rv] :: L)) (by simp only [List.length_append, List.length_map]; omega) (by omega) hm450 (by rw [Nat.mul_one, List.take_append_of_le_length (by rw [List.length_map]; exact Nat.le_refl _), List.take_of_length_le (by rw [List.length_map]; exact Nat.le_refl _)])
     have st587 : St Z157 w143 w571 (Row 9 1 (sl gk445 ((oo.take i).flatten).length cap446) ((oo.take i).flatten).length (((oo.take i).flatten).map Value.string) :: Blk pb 25 [rv] :: L) := St.selT [Row 9 1 (sl gk445 ((oo.take i).flatten).length cap446) ((oo.take i).flatten).length (((oo.take i).flatten).map Value.string), Row 9 1 v584 (RL by9).length ((RL by9).map Value.string), Blk pb 25 [rv]] [0, 2] rfl (by decide) st586
     exact loopQ_n _ (by omega) ⟨m8 + 1, (sl gk445 ((oo.take i).flatten).length cap446), rfl, by omega, e576, rfl, e573, e574, e575, e577, e578, e579, st587⟩
    have h451 := Bool.eq_false_iff.2 h451
    refine WC.draw 22 (fun jj vv => match jj with | 0 => vv = v156 | 1 => vv = (sl gk445 ((oo.take i).flatten).length cap446) | 2 => vv = (ni m8) | 3 => vv = (.pointer (some ⟨gk445, m8, none⟩)) | 4 => vv = (.string by9) | 5 => vv = (.bool (hasB (RL px) by9)) | 6 => vv = (.bool (hasB (RL px) by9)) | 7 => vv = undef | 8 => vv = undef | 9 => vv = undef | 10 => vv = undef | 11 => vv = undef | 12 => vv = undef | 13 => vv = undef | 14 => vv = undef | 15 => vv = undef | 16 => vv = undef | 17 => vv = undef | 18 => vv = undef | 19 => vv = undef | 20 => vv = undef | 21 => vv = (.bool false) | _ => True) (fun _ _ => []) st444 fmix (by kernel_rfl) ((obS (obS (obS (obS (obS (obS (obS (obS (obS (obS (obS (obS (obS (obS (obS (obS (obS (obS (obS (obS (obS (obS ob0 ?_) ?_) ?_) ?_) ?_) ?_) ?_) ?_) ?_) ?_) ?_) ?_) ?_) ?_) ?_) ?_) ?_) ?_) ?_) ?_) ?_) ?_)) ?_
    ·intro vals ρ w589 X hd h0 st588
     have e590 : ρ 9 = v156 := (h0 9 rfl).trans hs441
     refine W1 (OpT.move v156 e590 ?_)
     refine WL.nil ?_
     exact oneQ.mk ⟨rfl, st588⟩
    ·intro vals ρ w592 X hd h0 st591
     have e593 : ρ 6 = (sl gk445 ((oo.take i).flatten).length cap446) := (h0 6 rfl).trans hs435
     refine W1 (OpT.move (sl gk445 ((oo.take i).flatten).length cap446) e593 ?_)
     refine WL.nil ?_
     exact oneQ.mk ⟨rfl, st591⟩
    ·intro vals ρ w595 X hd h0 st594
     have e596 : ρ 12 = (ni m8) := (h0 12 rfl).trans hs434
     refine W1 (OpT.move (ni m8) e596 ?_)
     refine WL.nil ?_
     exact oneQ.mk ⟨rfl, st594⟩
    ·intro vals ρ w598 X hd h0 st597
     have e599 : ρ 115 = (sl gk445 ((oo.take i).flatten).length cap446) := ((hd 1 rfl).2 115 rfl).trans (hd 1 rfl).1
     have e600 : ρ 116 = (ni m8) := ((hd 2 rfl).2 116 rfl).trans (hd 2 rfl).1
     refine W1 (OpT.idx 1 ⟨gk445, 0, none⟩ ⟨gk445, m8, none⟩ ((oo.take i).flatten).length cap446 .i64 (((m8 : Nat) : Int)) tu37 ts9 e599 e600 (by omega) (by omega) (add_at _ _) ?_)
     refine WL.nil ?_
     exact oneQ.mk ⟨rfl, st597⟩
    ·intro vals ρ w602 X hd h0 st601
     have e603 : ρ 117 = (.pointer (some ⟨gk445, m8, none⟩)) := ((hd 3 rfl).2 117 rfl).trans (hd 3 rfl).1
     refine W1 (OpT.loadS ⟨gk445, m8, none⟩ (.string by9) ta9 e603 (st601.cellB (i := 0) rfl (by rw [List.getElem?_append_left (by rw [List.length_map]; exact (List.getElem?_eq_some_iff.1 hby9).1), List.getElem?_map, hby9]; rfl)) ?_)
     refine WL.nil ?_
     exact oneQ.mk ⟨rfl, st601⟩
    ·intro vals ρ w605 X hd h0 st604
     have e606 : ρ 114 = v156 := ((hd 0 rfl).2 114 rfl).trans (hd 0 rfl).1
     have e607 : ρ 118 = (.string by9) := ((hd 4 rfl).2 118 rfl).trans (hd 4 rfl).1
     refine W1 (OpT.callS cal9 [] [] [v156, (.string by9)] rfl (ca2 e606 e607) (lhas_spec st604 hs159 by9) ?_)
     rintro v608 w609 ⟨rfl, st610⟩
     refine WL.nil ?_
     exact oneQ.mk ⟨rfl, st610⟩
    ·intro vals ρ w612 X hd h0 st611
     have e613 : ρ 119 = (.bool (hasB (RL px) by9)) := ((hd 5 rfl).2 119 rfl).trans (hd 5 rfl).1
     refine W1 (OpT.move (.bool (hasB (RL px) by9)) e613 ?_)
     refine WL.nil ?_
     exact oneQ.mk ⟨rfl, st611⟩
    ·intro vals ρ w615 X hd h0 st614
     have e616 : ρ 2 = (pt pb 0) := (h0 2 rfl).trans hs437
     have e617 : ρ 120 = (.bool (hasB (RL px) by9)) := ((hd 6 rfl).2 120 rfl).trans (hd 6 rfl).1
     refine WL.pass (dj := 120) (c := false) rfl rfl rfl (e617.trans (congrArg Value.bool h451)) rfl ?_
     refine WL.nil ?_
     exact oneQ.mk ⟨rfl, st614⟩
    ·intro vals ρ w619 X hd h0 st618
     have e620 : ρ 6 = (sl gk445 ((oo.take i).flatten).length cap446) := (h0 6 rfl).trans hs435
     have e621 : ρ 120 = (.bool (hasB (RL px) by9)) := ((hd 6 rfl).2 120 rfl).trans (hd 6 rfl).1
     refine WL.pass (dj := 120) (c := false) rfl rfl rfl (e621.trans (congrArg Value.bool h451)) rfl ?_
     refine WL.nil ?_
     exact oneQ.mk ⟨rfl, st618⟩
    ·intro vals ρ w623 X hd h0 st622
     have e624 : ρ 12 = (ni m8) := (h0 12 rfl).trans hs434
     have e625 : ρ 120 = (.bool (hasB (RL px) by9)) := ((hd 6 rfl).2 120 rfl).trans (hd 6 rfl).1
     refine WL.pass (dj := 120) (c := false) rfl rfl rfl (e625.trans (congrArg Value.bool h451)) rfl ?_
     refine WL.nil ?_
     exact oneQ.mk ⟨rfl, st622⟩
    ·intro vals ρ w627 X hd h0 st626
     have e628 : ρ 120 = (.bool (hasB (RL px) by9)) := ((hd 6 rfl).2 120 rfl).trans (hd 6 rfl).1
     have e629 : ρ 122 = undef := ((hd 8 rfl).2 122 rfl).trans (hd 8 rfl).1
     have e630 : ρ 123 = undef := ((hd 9 rfl).2 123 rfl).trans (hd 9 rfl).1
     refine WL.pass (dj := 120) (c := false) rfl rfl rfl (e628.trans (congrArg Value.bool h451)) rfl ?_
     refine WL.nil ?_
     exact oneQ.mk ⟨rfl, st626⟩
    ·intro vals ρ w632 X hd h0 st631
     have e633 : ρ 120 = (.bool (hasB (RL px) by9)) := ((hd 6 rfl).2 120 rfl).trans (hd 6 rfl).1
     have e634 : ρ 124 = undef := ((hd 10 rfl).2 124 rfl).trans (hd 10 rfl).1
     refine WL.pass (dj := 120) (c := false) rfl rfl rfl (e633.trans (congrArg Value.bool h451)) rfl ?_
     refine WL.nil ?_
     exact oneQ.mk ⟨rfl, st631⟩
    ·intro vals ρ w636 X hd h0 st635
     have e637 : ρ 120 = (.bool (hasB (RL px) by9)) := ((hd 6 rfl).2 120 rfl).trans (hd 6 rfl).1
     have e638 : ρ 121 = undef := ((hd 7 rfl).2 121 rfl).trans (hd 7 rfl).1
     have e639 : ρ 125 = undef := ((hd 11 rfl).2 125 rfl).trans (hd 11 rfl).1
     refine WL.pass (dj := 120) (c := false) rfl rfl rfl (e637.trans (congrArg Value.bool h451)) rfl ?_
     refine WL.nil ?_
     exact oneQ.mk ⟨rfl, st635⟩
    ·intro vals ρ w641 X hd h0 st640
     have e642 : ρ 5 = v13 := (h0 5 rfl).trans hs438
     have e643 : ρ 120 = (.bool (hasB (RL px) by9)) := ((hd 6 rfl).2 120 rfl).trans (hd 6 rfl).1
     refine WL.pass (dj := 120) (c := false) rfl rfl rfl (e643.trans (congrArg Value.bool h451)) rfl ?_
     refine WL.nil ?_
     exact oneQ.mk ⟨rfl, st640⟩
    ·intro vals ρ w645 X hd h0 st644
     have e646 : ρ 7 = (ni i) := (h0 7 rfl).trans hs439
     have e647 : ρ 120 = (.bool (hasB (RL px) by9)) := ((hd 6 rfl).2 120 rfl).trans (hd 6 rfl).1
     refine WL.pass (dj := 120) (c := false) rfl rfl rfl (e647.trans (congrArg Value.bool h451)) rfl ?_
     refine WL.nil ?_
     exact oneQ.mk ⟨rfl, st644⟩
    ·intro vals ρ w649 X hd h0 st648
     have e650 : ρ 120 = (.bool (hasB (RL px) by9)) := ((hd 6 rfl).2 120 rfl).trans (hd 6 rfl).1
     have e651 : ρ 127 = undef := ((hd 13 rfl).2 127 rfl).trans (hd 13 rfl).1
     have e652 : ρ 128 = undef := ((hd 14 rfl).2 128 rfl).trans (hd 14 rfl).1
     refine WL.pass (dj := 120) (c := false) rfl rfl rfl (e650.trans (congrArg Value.bool h451)) rfl ?_
     refine WL.nil ?_
     exact oneQ.mk ⟨rfl, st648⟩
    ·intro vals ρ w654 X hd h0 st653
     have e655 : ρ 120 = (.bool (hasB (RL px) by9)) := ((hd 6 rfl).2 120 rfl).trans (hd 6 rfl).1
     have e656 : ρ 129 = undef := ((hd 15 rfl).2 129 rfl).trans (hd 15 rfl).1
     refine WL.pass (dj := 120) (c := false) rfl rfl rfl (e655.trans (congrArg Value.bool h451)) rfl ?_
     refine WL.nil ?_
     exact oneQ.mk ⟨rfl, st653⟩
    ·intro vals ρ w658 X hd h0 st657
     have e659 : ρ 8 = (ni k) := (h0 8 rfl).trans hs440
     have e660 : ρ 120 = (.bool (hasB (RL px) by9)) := ((hd 6 rfl).2 120 rfl).trans (hd 6 rfl).1
     refine WL.pass (dj := 120) (c := false) rfl rfl rfl (e660.trans (congrArg Value.bool h451)) rfl ?_
     refine WL.nil ?_
     exact oneQ.mk ⟨rfl, st657⟩
    ·intro vals ρ w662 X hd h0 st661
     have e663 : ρ 120 = (.bool (hasB (RL px) by9)) := ((hd 6 rfl).2 120 rfl).trans (hd 6 rfl).1
     have e664 : ρ 130 = undef := ((hd 16 rfl).2 130 rfl).trans (hd 16 rfl).1
     have e665 : ρ 131 = undef := ((hd 17 rfl).2 131 rfl).trans (hd 17 rfl).1
     refine WL.pass (dj := 120) (c := false) rfl rfl rfl (e663.trans (congrArg Value.bool h451)) rfl ?_
     refine WL.nil ?_
     exact oneQ.mk ⟨rfl, st661⟩
    ·intro vals ρ w667 X hd h0 st666
     have e668 : ρ 120 = (.bool (hasB (RL px) by9)) := ((hd 6 rfl).2 120 rfl).trans (hd 6 rfl).1
     have e669 : ρ 132 = undef := ((hd 18 rfl).2 132 rfl).trans (hd 18 rfl).1
     refine WL.pass (dj := 120) (c := false) rfl rfl rfl (e668.trans (congrArg Value.bool h451)) rfl ?_
     refine WL.nil ?_
     exact oneQ.mk ⟨rfl, st666⟩
    ·intro vals ρ w671 X hd h0 st670
     have e672 : ρ 120 = (.bool (hasB (RL px) by9)) := ((hd 6 rfl).2 120 rfl).trans (hd 6 rfl).1
     have e673 : ρ 126 = undef := ((hd 12 rfl).2 126 rfl).trans (hd 12 rfl).1
     have e674 : ρ 133 = undef := ((hd 19 rfl).2 133 rfl).trans (hd 19 rfl).1
     refine WL.pass (dj := 120) (c := false) rfl rfl rfl (e672.trans (congrArg Value.bool h451)) rfl ?_
     refine WL.nil ?_
     exact oneQ.mk ⟨rfl, st670⟩
    ·intro vals ρ w676 X hd h0 st675
     have e677 : ρ 120 = (.bool (hasB (RL px) by9)) := ((hd 6 rfl).2 120 rfl).trans (hd 6 rfl).1
     have e678 : ρ 134 = undef := ((hd 20 rfl).2 134 rfl).trans (hd 20 rfl).1
     refine W1 (OpT.pickF (.bool false) (e677.trans (congrArg Value.bool h451)) rfl ?_)
     refine WL.nil ?_
     exact oneQ.mk ⟨rfl, st675⟩
    intro vals ρ681 w680 hv h0 st679
    replace st679 : St Z157 w143 w680 (Blk gk445 9 (((oo.take i).flatten).map Value.string ++ ex447) :: Blk pb 25 [rv] :: L) := st679
    have e682 : ρ681 1 = ev := (h0 1 rfl).trans hs436
    have e683 : ρ681 2 = (pt pb 0) := (h0 2 rfl).trans hs437
    have e684 : ρ681 5 = v13 := (h0 5 rfl).trans hs438
    have e685 : ρ681 6 = (sl gk445 ((oo.take i).flatten).length cap446) := (h0 6 rfl).trans hs435
    have e686 : ρ681 7 = (ni i) := (h0 7 rfl).trans hs439
    have e687 : ρ681 8 = (ni k) := (h0 8 rfl).trans hs440
    have e688 : ρ681 9 = v156 := (h0 9 rfl).trans hs441
    have e689 : ρ681 12 = (ni m8) := (h0 12 rfl).trans hs434
    have e690 : ρ681 135 = (.bool false) := ((hv 21 rfl).2 135 rfl).trans (hv 21 rfl).1
    clear hv h0
    refine Wnt ?_
    refine WC.condF e690 ?_
    refine WC.skip ?_
    refine blkQ_n ?_
    refine thenQ_n ?_
    refine WC.region ?_
    refine W1 (OpT.move (ni m8) e689 ?_)
    refine W1 (OpT.iadd .i64 (((m8 : Nat) : Int)) (1) (((m8 + 1 : Nat) : Int)) rfl rfl (wadd (a := m8) (b := 1) (by omega)) ?_)
    refine W1 (OpT.assign (ni (m8 + 1)) rfl ?_)
    refine WL.nil ?_
    have st691 : St Z157 w143 w680 (Row 9 1 (sl gk445 ((oo.take i).flatten).length cap446) ((oo.take i).flatten).length (((oo.take i).flatten).map Value.string) :: Blk pb 25 [rv] :: L) := St.shutRow (st679 : St Z157 w143 w680 (Blk gk445 9 (((oo.take i).flatten).map Value.string ++ ex447) :: Blk pb 25 [rv] :: L)) (by simp only [List.length_append, List.length_map]; omega) (by omega) hm450 (by rw [Nat.mul_one, List.take_append_of_le_length (by rw [List.length_map]; exact Nat.le_refl _), List.take_of_length_le (by rw [List.length_map]; exact Nat.le_refl _)])
    exact loopQ_n _ (by omega) ⟨m8 + 1, (sl gk445 ((oo.take i).flatten).length cap446), rfl, by omega, e685, rfl, e682, e683, e684, e686, e687, e688, st691⟩
   refine WC.exit ?_
   refine thenQ_x ?_
   refine loopQ_x ?_
   refine blkQ_hit ?_
   refine blkQ_n ?_
   refine thenQ_n ?_
   refine WC.region ?_
   refine W1 (OpT.move (ni k) hs440 ?_)
   refine W1 (OpT.iadd .i64 (((k : Nat) : Int)) (1) (((k + 1 : Nat) : Int)) rfl rfl (wadd (a := k) (b := 1) (by omega)) ?_)
   refine W1 (OpT.assign (ni (k + 1)) rfl ?_)
   refine WL.nil ?_
   have st692 : St Z11 w14 w431 (Row 9 1 bv ((oo.take i).flatten).length (((oo.take i).flatten).map Value.string) :: Blk pb 25 [rv] :: L) := hx158.back st432
   exact loopQ_n _ (by omega) ⟨k + 1, bv, rfl, by omega, hs435, rfl, hs436, hs437, hs438, hs439, st692⟩
  refine WC.exit ?_
  refine thenQ_x ?_
  refine loopQ_x ?_
  refine blkQ_hit ?_
  refine thenQ_n ?_
  refine WC.region ?_
  refine W1 (OpT.move bv hs56 ?_)
  refine W1 (OpT.move v13 hs59 ?_)
  refine W1 (OpT.move (ni i) hs60 ?_)
  refine W1 (OpT.idxX tu80 ts37 hs10 rfl .i64 (i) rfl hpp (fun ad694 cs695 hr696 hR697 => ?_))
  have hR697c := hR697
  obtain ⟨sv698, rfl, hs699⟩ := hR697
  refine W1 (OpT.loadS ad694 sv698 ta37 rfl (hr696.cell st53 (j := 0) rfl) ?_)
  have st700 : St Z11 w14 w52 (Row 9 1 bv ((oo.take i).flatten).length (((oo.take i).flatten).map Value.string) :: Blk pb 25 [rv] :: L) := st53
  have hq706 : rStr.sl Z11 w14 sv698 (pp) := hs699
  refine W1 (OpT.appendR (xs := pp) st700 tu37 ts9 tz9 rfl tb9 rfl rfl hq706 (by omega) (by omega) (fun v701 w702 st703 => ?_))
  have o704 := st703.rowOne (i := 0) rfl
  have c705 := st703.rowCel (i := 0) rfl
  have st707 : St Z11 w14 w702 (Row 9 1 v701 ((oo.take i).flatten ++ pp).length (((oo.take i).flatten ++ pp).map Value.string) :: Blk pb 25 [rv] :: L) := by rw [List.length_append, List.map_append]; exact st703
  refine W1 (OpT.assign v701 rfl ?_)
  refine WL.nil ?_
  refine blkQ_n ?_
  refine thenQ_n ?_
  refine WC.region ?_
  refine W1 (OpT.move (ni i) hs60 ?_)
  refine W1 (OpT.iadd .i64 (((i : Nat) : Int)) (1) (((i + 1 : Nat) : Int)) rfl rfl (wadd (a := i) (b := 1) (by omega)) ?_)
  refine W1 (OpT.assign (ni (i + 1)) rfl ?_)
  refine WL.nil ?_
  have st708 : St Z11 w14 w702 (Row 9 1 v701 ((oo.take (i + 1)).flatten).length (((oo.take (i + 1)).flatten).map Value.string) :: Blk pb 25 [rv] :: L) := by rw [take_flat_step hpp]; exact st707
  exact loopQ_n _ (by omega) ⟨i + 1, v701, rfl, by omega, rfl, rfl, hs57, hs58, hs59, st708⟩
 refine WC.exit ?_
 refine thenQ_x ?_
 refine loopQ_x ?_
 refine blkQ_hit ?_
 refine thenQ_n ?_
 refine WC.seq ?_
 refine Wsr ?_
 refine W1 (OpT.assign (ii 0) rfl ?_)
 refine Wnt ?_
 refine WC.block ?_
 refine WC.loop (fun m ρ wz => ∃ (j : Nat), m = (edgesF rs).length - j ∧ j ≤ (edgesF rs).length ∧ ρ 13 = (ni j) ∧ ρ 1 = ev ∧ ρ 2 = (pt pb 0) ∧ ρ 6 = bv ∧ St Z11 w14 wz (Row 9 1 bv ((oo.take i).flatten).length (((oo.take i).flatten).map Value.string) :: Blk pb 25 [rv] :: L)) _ ⟨0, rfl, by omega, rfl, hs27, hs28, hs26, st23⟩ ?_
 rintro m709 ρ710 w711 ⟨j, hm718, hp713, hs714, hs715, hs716, hs717, st712⟩
 have hel2 := Rl.sl_le hL18
 have hbi := hbl i
 refine WC.seq ?_
 refine Wsr ?_
 refine W1 (OpT.move (ni j) hs714 ?_)
 refine W1 (OpT.move ev hs715 ?_)
 refine W1 (OpT.lenR rfl tu26 hL18 rfl ?_)
 refine W1 (OpT.ilt .i64 (((j : Nat) : Int)) ((((edgesF rs).length : Nat) : Int)) rfl rfl ?_)
 refine Wnt ?_
 refine WC.condP (((j : Nat) : Int) < (((edgesF rs).length : Nat) : Int)) rfl (fun h719 => ?_) (fun h719 => ?_)
 ·refine WC.skip ?_
  refine thenQ_n ?_
  refine WC.seq ?_
  refine WC.block ?_
  refine WC.seq ?_
  obtain ⟨ed, hed⟩ : ∃ x, (edgesF rs)[j]? = some x := ⟨_, List.getElem?_eq_getElem (by omega)⟩
  have hen := edge_names (List.mem_of_getElem? hed)
  have hin1 : hasB ((oo.take i).flatten) ed.frm = true := hasB_iff.2 (HO.whole (by omega) hen.1)
  have hin2 : hasB ((oo.take i).flatten) ed.to = true := hasB_iff.2 (HO.whole (by omega) hen.2)
  refine WC.region ?_
  refine W1 (OpT.move bv hs717 ?_)
  refine W1 (OpT.move ev hs715 ?_)
  refine W1 (OpT.move (ni j) hs714 ?_)
  refine W1 (OpT.idxX tu26 ts35 hL18 rfl .i64 (j) rfl hed (fun ad721 cs722 hr723 hR724 => ?_))
  have hR724c := hR724
  obtain rfl := hR724
  refine W1 (OpT.field 0 ad721 ad721 tf35_0 rfl rfl ?_)
  refine W1 (OpT.loadS ad721 (.string ed.frm) ta9 rfl (hr723.cell st712 (j := 0) rfl) ?_)
  obtain ⟨Z725, hz726, hw727, hr728, st729, bk730⟩ := St.freezeStr (xs := (oo.take i).flatten) (st712 : St Z11 w14 w711 (Row 9 1 bv ((oo.take i).flatten).length (((oo.take i).flatten).map Value.string) :: Blk pb 25 [rv] :: L)) (by omega)
  refine W1 (OpT.callS cal9 [] [] [bv, (.string ed.frm)] rfl (ca2 rfl rfl) (lhas_spec st729 hr728 ed.frm) ?_)
  rintro v731 w732 ⟨rfl, st733⟩
  replace st733 := bk730 _ _ st733
  refine W1 (OpT.not true (congrArg Value.bool hin1) ?_)
  refine W1 (OpT.move (.bool false) rfl ?_)
  refine W2 (dj := 156) rfl (OpT.move bv hs717 ?_)
  refine W2 (dj := 156) rfl (OpT.move ev hs715 ?_)
  refine W2 (dj := 156) rfl (OpT.move (ni j) hs714 ?_)
  refine W2 (dj := 156) rfl (OpT.idxX tu26 ts35 hL18 rfl .i64 (j) rfl hed (fun ad735 cs736 hr737 hR738 => ?_))
  have hR738c := hR738
  obtain rfl := hR738
  refine W2 (dj := 156) rfl (OpT.field 1 ad735 (ad735.add 1) tf35_1 rfl rfl ?_)
  refine W2 (dj := 156) rfl (OpT.loadS (ad735.add 1) (.string ed.to) ta9 rfl (hr737.cell st733 (j := 1) rfl) ?_)
  obtain ⟨Z739, hz740, hw741, hr742, st743, bk744⟩ := St.freezeStr (xs := (oo.take i).flatten) (st733 : St Z11 w14 w732 (Row 9 1 bv ((oo.take i).flatten).length (((oo.take i).flatten).map Value.string) :: Blk pb 25 [rv] :: L)) (by omega)
  refine W2 (dj := 156) rfl (OpT.callS cal9 [] [] [bv, (.string ed.to)] rfl (ca2 rfl rfl) (lhas_spec st743 hr742 ed.to) ?_)
  rintro v745 w746 ⟨rfl, st747⟩
  replace st747 := bk744 _ _ st747
  refine W2 (dj := 156) rfl (OpT.not true (congrArg Value.bool hin2) ?_)
  refine W1 (OpT.pickF (.bool false) rfl rfl ?_)
  refine Wnt ?_
  refine WC.condF rfl ?_
  refine WC.skip ?_
  refine blkQ_n ?_
  refine thenQ_n ?_
  refine WC.region ?_
  refine W1 (OpT.move (ni j) hs714 ?_)
  refine W1 (OpT.iadd .i64 (((j : Nat) : Int)) (1) (((j + 1 : Nat) : Int)) rfl rfl (wadd (a := j) (b := 1) (by omega)) ?_)
  refine W1 (OpT.assign (ni (j + 1)) rfl ?_)
  refine WL.nil ?_
  exact loopQ_n _ (by omega) ⟨j + 1, rfl, by omega, rfl, hs715, hs716, hs717, st747⟩
 refine WC.exit ?_
 refine thenQ_x ?_
 refine loopQ_x ?_
 refine blkQ_hit ?_
 refine thenQ_n ?_
 refine WC.seq ?_
 refine Wsr ?_
 refine W1 (OpT.assign (ii 0) rfl ?_)
 refine Wnt ?_
 refine WC.block ?_
 refine WC.loop (fun m ρ wz => ∃ (j : Nat), m = rs.length - j ∧ j ≤ rs.length ∧ ρ 14 = (ni j) ∧ ρ 2 = (pt pb 0) ∧ ρ 6 = bv ∧ St Z11 w14 wz (Row 9 1 bv ((oo.take i).flatten).length (((oo.take i).flatten).map Value.string) :: Blk pb 25 [rv] :: L)) _ ⟨0, rfl, by omega, rfl, hs716, hs717, st712⟩ ?_
 rintro m748 ρ749 w750 ⟨j, hm756, hp752, hs753, hs754, hs755, st751⟩
 have hbi := hbl i
 refine WC.seq ?_
 refine Wsr ?_
 refine W1 (OpT.move (ni j) hs753 ?_)
 refine W1 (OpT.field 0 ⟨pb, 0, none⟩ ⟨pb, 0, none⟩ tf25_0 hs754 rfl ?_)
 refine W1 (OpT.loadS ⟨pb, 0, none⟩ rv ta22 rfl (st751.cellB (i := 1) rfl rfl) ?_)
 refine W1 (OpT.lenR rfl tu22 hL17 rfl ?_)
 refine W1 (OpT.ilt .i64 (((j : Nat) : Int)) (((rs.length : Nat) : Int)) rfl rfl ?_)
 refine Wnt ?_
 refine WC.condP (((j : Nat) : Int) < ((rs.length : Nat) : Int)) rfl (fun h757 => ?_) (fun h757 => ?_)
 ·refine WC.skip ?_
  refine thenQ_n ?_
  refine WC.seq ?_
  refine WC.block ?_
  refine WC.seq ?_
  obtain ⟨rl, hrl9⟩ : ∃ x, rs[j]? = some x := ⟨_, List.getElem?_eq_getElem (by omega)⟩
  have hin : hasB ((oo.take i).flatten) rl.pred = true := hasB_iff.2 (HO.whole (by omega) (mem_names.2 ⟨rl, List.mem_of_getElem? hrl9, .inl rfl⟩))
  refine WC.region ?_
  refine W1 (OpT.move bv hs755 ?_)
  refine W1 (OpT.field 0 ⟨pb, 0, none⟩ ⟨pb, 0, none⟩ tf25_0 hs754 rfl ?_)
  refine W1 (OpT.loadS ⟨pb, 0, none⟩ rv ta22 rfl (st751.cellB (i := 1) rfl rfl) ?_)
  refine W1 (OpT.move (ni j) hs753 ?_)
  refine W1 (OpT.idxX tu22 ts54 hL17 rfl .i64 (j) rfl hrl9 (fun ad759 cs760 hr761 hR762 => ?_))
  have hR762c := hR762
  obtain ⟨hv763, bv764, rfl, hh765, hb766⟩ := hR762
  refine W1 (OpT.field 0 ad759 ad759 tf54_0 rfl rfl ?_)
  refine W1 (OpT.loadS ad759 (.string rl.pred) ta9 rfl (hr761.cell st751 (j := 0) rfl) ?_)
  obtain ⟨Z767, hz768, hw769, hr770, st771, bk772⟩ := St.freezeStr (xs := (oo.take i).flatten) (st751 : St Z11 w14 w750 (Row 9 1 bv ((oo.take i).flatten).length (((oo.take i).flatten).map Value.string) :: Blk pb 25 [rv] :: L)) (by omega)
  refine W1 (OpT.callS cal9 [] [] [bv, (.string rl.pred)] rfl (ca2 rfl rfl) (lhas_spec st771 hr770 rl.pred) ?_)
  rintro v773 w774 ⟨rfl, st775⟩
  replace st775 := bk772 _ _ st775
  refine W1 (OpT.not true (congrArg Value.bool hin) ?_)
  refine Wnt ?_
  refine WC.condF rfl ?_
  refine WC.skip ?_
  refine blkQ_n ?_
  refine thenQ_n ?_
  refine WC.region ?_
  refine W1 (OpT.move (ni j) hs753 ?_)
  refine W1 (OpT.iadd .i64 (((j : Nat) : Int)) (1) (((j + 1 : Nat) : Int)) rfl rfl (wadd (a := j) (b := 1) (by omega)) ?_)
  refine W1 (OpT.assign (ni (j + 1)) rfl ?_)
  refine WL.nil ?_
  exact loopQ_n _ (by omega) ⟨j + 1, rfl, by omega, rfl, hs754, hs755, st775⟩
 refine WC.exit ?_
 refine thenQ_x ?_
 refine loopQ_x ?_
 refine blkQ_hit ?_
 refine thenQ_n ?_
 refine Wsr ?_
 refine W1 (OpT.assign (.bool true) rfl ?_)
 refine Wnt ?_
 refine WC.ret <| retQ.one (.bool true) rfl ?_
 exact ⟨_, rfl, rfl, (hx16.back (St.selD 2 [] rfl rfl (by decide) st751))⟩

end Go.Ped
