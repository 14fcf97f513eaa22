/- The bound: how many parts rules have. -/
import Derived.Test.YtojkakpkmfopbaaF18
set_option linter.unusedVariables false
set_option maxRecDepth 20000
namespace Go.Ped
open Go Go.Eng Go.RowKit Go.Proofs

theorem tz59 : zeroB Try.prog 59 = some (.agg #[(.int .i8 (0)), (.string (⟨#[]⟩ : ByteArray)), (.int .i8 (0)), (.int .i64 (0)), (.string (⟨#[]⟩ : ByteArray)), (.slice none 0 0)]) := by kernel_rfl
theorem tb59 : (Try.prog.info? 59).map (·.bytes) = some 80 := by kernel_rfl
theorem cal40 : CallOk Try.prog 40 := ⟨⟨Try.f40, Try.func40, rfl, by decide⟩⟩
theorem cal23 : CallOk Try.prog 23 := ⟨⟨Try.f23, Try.func23, rfl, by decide⟩⟩
theorem cal10 : CallOk Try.prog 10 := ⟨⟨Try.f10, Try.func10, rfl, by decide⟩⟩
theorem rExp_slN {Z : Nat → Prop} {w : World} {v : Value} {xs : List Exp} (h : rExp.sl Z w v xs) : ∃ n, (rExpN n).sl Z w v xs := by
  obtain ⟨A, c, h1, h2, h3⟩ := h
  have key : ∀ k, k ≤ xs.length → ∃ n, ∀ (i : Nat) (x : Exp), i < k → xs[i]? = some x → ∃ ad cs, A = some ad ∧ RowZ Z w (ad.add (i * 6)) cs ∧ (rExpN n).R Z w cs x := by
    intro k
    induction k with
    | zero => intro _; exact ⟨0, fun i x hi => absurd hi (Nat.not_lt_zero _)⟩
    | succ k ih =>
      intro hk
      obtain ⟨n, hn⟩ := ih (by omega)
      obtain ⟨x, hx⟩ : ∃ x, xs[k]? = some x := ⟨_, List.getElem?_eq_getElem (by omega)⟩
      obtain ⟨ad, cs, e, hr, kv, hcs, n2, hk2⟩ := h3 k x hx
      refine ⟨n + n2 + 1, fun i y hi hy => ?_⟩
      rcases Nat.lt_succ_iff_lt_or_eq.1 hi with hi | rfl
      · obtain ⟨ad', cs', e', hr', hR'⟩ := hn i y hi hy
        exact ⟨ad', cs', e', hr', rExpN_le (by omega) hR'⟩
      · rw [hx] at hy; cases hy
        exact ⟨ad, cs, e, hr, rExpN_le (n := n2 + 1) (by omega) ⟨kv, hcs, hk2⟩⟩
  obtain ⟨n, hn⟩ := key xs.length (Nat.le_refl _)
  refine ⟨n, A, c, h1, h2, fun i x hx => ?_⟩
  obtain ⟨ad, cs, e, hr, hR⟩ := hn i x (List.getElem?_eq_some_iff.1 hx).1 hx
  exact ⟨ad, cs, e, by rw [rExpN_sz]; exact hr, hR⟩
theorem rExp_mk {Z : Nat → Prop} {w : World} {kv : Value} {x : Exp} (h : rExp.sl Z w kv x.kids) : rExp.R Z w [.int .i8 x.op, .string x.term.var, .int .i8 x.term.val.kind, .int .i64 x.term.val.num, .string x.term.val.text, kv] x := ⟨kv, rfl, rExp_slN h⟩
theorem fresh_exp {Z : Nat → Prop} {w0 : World} {b : Nat} {cs : List Value} {x : Exp} (h : RowZ Z w0 ⟨b, 0, none⟩ cs) (hR : rExp.R Z w0 cs x) : rExp.sl Z w0 (.slice (some ⟨b, 0, none⟩) 1 1) [x] := by
  refine ⟨some ⟨b, 0, none⟩, 1, rfl, by simp, fun i y hy => ?_⟩
  cases i with
  | zero => cases hy; exact ⟨⟨b, 0, none⟩, _, rfl, h, hR⟩
  | succ i => simp at hy
def lvls : Nat → Nat → List Exp → Nat → Nat
  | 0, n, xs, lf => if xs.length = 0 then n else lf + 1
  | f + 1, n, xs, lf => if xs.length = 0 then n else if lf < n + xs.length + (xs.flatMap Exp.kids).length then lf + 1 else lvls f (n + xs.length) (xs.flatMap Exp.kids) lf
theorem lvls_kids {f n lf : Nat} {xs : List Exp} (h : 0 < xs.length) (h2 : lf < n + xs.length + (xs.flatMap Exp.kids).length) : lvls f n xs lf = lf + 1 := by
  cases f with
  | zero => rw [lvls, if_neg (by omega)]
  | succ f => rw [lvls, if_neg (by omega), if_pos h2]
theorem lvls_deep {n lf : Nat} {xs : List Exp} (h : 0 < xs.length) : lvls 0 n xs lf = lf + 1 := by rw [lvls, if_neg (by omega)]
theorem lvls_go {f n lf : Nat} {xs : List Exp} (h : 0 < xs.length) (h2 : n + xs.length + (xs.flatMap Exp.kids).length ≤ lf) : lvls (f + 1) n xs lf = lvls f (n + xs.length) (xs.flatMap Exp.kids) lf := by
  rw [lvls, if_neg (by omega), if_neg (by omega)]
theorem lvls_end {f n lf : Nat} {xs : List Exp} (h : ¬ 0 < xs.length) : lvls f n xs lf = n := by
  cases f <;> rw [lvls, if_pos (by omega)]
theorem lvls_le {lf : Nat} : ∀ (f n : Nat) (xs : List Exp), n ≤ lf + 1 → lvls f n xs lf ≤ lf + 1 := by
  intro f
  induction f with
  | zero => intro n xs h; rw [lvls]; split <;> omega
  | succ f ih =>
    intro n xs h
    rw [lvls]
    split
    · omega
    · split
      · omega
      · exact ih _ _ (by omega)
theorem expT_kids (e : Exp) : (expT e).length = 1 + (e.kids.flatMap expT).length := by
  cases e with
  | mk o t ks => simp only [expT, expsT_eq, List.length_cons, Exp.kids]; omega
theorem flat_kids (xs : List Exp) : (xs.flatMap expT).length = xs.length + ((xs.flatMap Exp.kids).flatMap expT).length := by
  induction xs with
  | nil => rfl
  | cons x xs ih => simp only [List.flatMap_cons, List.length_append, List.flatMap_append, List.length_cons, expT_kids x]; omega
theorem lvls_ge {lf : Nat} : ∀ (f n : Nat) (xs : List Exp), lvls f n xs lf ≤ lf → n + (xs.flatMap expT).length ≤ lvls f n xs lf := by
  intro f
  induction f with
  | zero =>
    intro n xs h
    rw [lvls] at h ⊢
    split
    · rename_i h0; rw [List.length_eq_zero_iff.1 h0]; simp
    · rename_i h0; rw [if_neg h0] at h; omega
  | succ f ih =>
    intro n xs h
    rw [lvls] at h ⊢
    split
    · rename_i h0; rw [List.length_eq_zero_iff.1 h0]; simp
    · rename_i h0
      rw [if_neg h0] at h
      split
      · rename_i h1; rw [if_pos h1] at h; omega
      · rename_i h1
        rw [if_neg h1] at h
        have := ih _ _ h
        have := flat_kids xs
        omega
def partsE (e : Exp) (lf : Nat) : Nat := lvls 65536 0 [e] lf
theorem partsE_le (e : Exp) (lf : Nat) : partsE e lf ≤ lf + 1 := lvls_le _ _ _ (by omega)
theorem partsE_ge {e : Exp} {lf : Nat} (h : partsE e lf ≤ lf) : (expT e).length ≤ partsE e lf := by
  have := lvls_ge _ _ _ h
  simpa [partsE] using this
def partsL (x : Ltr) (lf : Nat) : Nat := if lf < 1 + x.atom.args.length + partsE x.left lf then lf + 1 else 1 + x.atom.args.length + partsE x.left lf + partsE x.right (lf - (1 + x.atom.args.length + partsE x.left lf))
theorem partsL_le (x : Ltr) (lf : Nat) : partsL x lf ≤ lf + 1 := by
  unfold partsL
  split
  · omega
  · have := partsE_le x.right (lf - (1 + x.atom.args.length + partsE x.left lf)); omega
theorem partsL_ge {x : Ltr} {lf : Nat} (h : partsL x lf ≤ lf) : 1 + (ltrT x).length ≤ partsL x lf := by
  unfold partsL at h ⊢
  split
  · rename_i h0; rw [if_pos h0] at h; omega
  · rename_i h0
    rw [if_neg h0] at h
    have h1 := partsE_ge (e := x.left) (lf := lf) (by omega)
    have h2 := partsE_ge (e := x.right) (lf := lf - (1 + x.atom.args.length + partsE x.left lf)) (by omega)
    have h3 : (atmT x.atom).length = x.atom.args.length := by
      unfold atmT
      induction x.atom.args with
      | nil => rfl
      | cons a l ih => simp only [List.flatMap_cons, List.length_append, List.length_cons, List.length_nil, ih]; omega
    simp only [ltrT, List.length_append]; omega
def partsS (lf n : Nat) (x : Ltr) : Nat := if n ≤ lf then n + partsL x (lf - n) else n
def partsR (y : Rul) (lf : Nat) (xs : List Ltr) : Nat := xs.foldl (partsS lf) (1 + y.head.length)
theorem partsR_step {y : Rul} {lf i : Nat} {xs : List Ltr} {x : Ltr} (hx : xs[i]? = some x) : partsR y lf (xs.take (i + 1)) = partsS lf (partsR y lf (xs.take i)) x := by
  rw [List.take_add_one, hx, partsR, List.foldl_append]; rfl
theorem partsS_stop {lf : Nat} : ∀ (xs : List Ltr) (n : Nat), lf < n → xs.foldl (partsS lf) n = n := by
  intro xs
  induction xs with
  | nil => intro n _; rfl
  | cons x xs ih => intro n h; rw [List.foldl_cons, partsS, if_neg (by omega)]; exact ih n h
theorem partsR_stop {y : Rul} {lf i : Nat} {xs : List Ltr} (h : lf < partsR y lf (xs.take i)) : partsR y lf xs = partsR y lf (xs.take i) := by
  have e : xs = xs.take i ++ xs.drop i := (List.take_append_drop i xs).symm
  conv => lhs; rw [e]
  rw [partsR, List.foldl_append]
  exact partsS_stop _ _ h
theorem partsS_ge {lf : Nat} : ∀ (xs : List Ltr) (n : Nat), xs.foldl (partsS lf) n ≤ lf → n + xs.length + (xs.flatMap ltrT).length ≤ xs.foldl (partsS lf) n := by
  intro xs
  induction xs with
  | nil => intro n _; simp
  | cons x xs ih =>
    intro n h
    by_cases hn : n ≤ lf
    · have h2 := h
      rw [List.foldl_cons] at h2 ⊢
      have h3 := ih _ h2
      have h4 : partsS lf n x ≤ lf := by omega
      have h5 : 1 + (ltrT x).length + n ≤ partsS lf n x := by
        unfold partsS at h4 ⊢
        rw [if_pos hn] at h4 ⊢
        have := partsL_ge (x := x) (lf := lf - n) (by omega)
        omega
      simp only [List.length_cons, List.flatMap_cons, List.length_append]; omega
    · rw [partsS_stop _ _ (by omega)] at h; omega
theorem partsS_le {lf : Nat} : ∀ (xs : List Ltr) (n : Nat), xs.foldl (partsS lf) n ≤ n + lf + 1 := by
  intro xs
  induction xs with
  | nil => intro n; simp; omega
  | cons x xs ih =>
    intro n
    rw [List.foldl_cons]
    by_cases hn : n ≤ lf
    · by_cases h2 : partsS lf n x ≤ lf
      · have := ih (partsS lf n x)
        by_cases h3 : xs.foldl (partsS lf) (partsS lf n x) ≤ lf
        · omega
        · have key : ∀ (xs : List Ltr) (m : Nat), m ≤ lf + 1 → xs.foldl (partsS lf) m ≤ lf + 1 := by
            intro xs
            induction xs with
            | nil => intro m h; exact h
            | cons x xs ih =>
              intro m h
              rw [List.foldl_cons]
              refine ih _ ?_
              unfold partsS
              split
              · have := partsL_le x (lf - m); omega
              · exact h
          have := key xs _ (show partsS lf n x ≤ lf + 1 by omega)
          omega
      · rw [partsS_stop _ _ (by omega)]
        unfold partsS
        rw [if_pos hn]
        have := partsL_le x (lf - n); omega
    · rw [partsS, if_neg hn, partsS_stop _ _ (by omega)]; omega
def bsum : List Rul → Nat → Bool
  | [], _ => false
  | r :: rs, n => if 1048576 < n + partsR r 1048576 r.body then true else bsum rs (n + partsR r 1048576 r.body)
def beyondB (rs : List Rul) : Bool := bsum rs 0
theorem bsum_at {rs : List Rul} {i n : Nat} {x : Rul} (hx : rs[i]? = some x) : bsum (rs.drop i) n = if 1048576 < n + partsR x 1048576 x.body then true else bsum (rs.drop (i + 1)) (n + partsR x 1048576 x.body) := by
  obtain ⟨h1, h2⟩ := List.getElem?_eq_some_iff.1 hx
  rw [List.drop_eq_getElem_cons h1, h2, bsum]
theorem heads_len (l : List Agr) : (l.flatMap fun a => [a.term]).length = l.length := by
  induction l with
  | nil => rfl
  | cons a l ih => simp only [List.flatMap_cons, List.length_append, List.length_cons, List.length_nil, ih]; omega
theorem bsum_bnd : ∀ (rs : List Rul) (n : Nat), n ≤ 1048576 → bsum rs n = false → (∀ r ∈ rs, (rulT r).length ≤ 1048576) ∧ n + rs.length + (rs.flatMap Rul.body).length ≤ 1048576 := by
  intro rs
  induction rs with
  | nil => intro n hn _; exact ⟨fun r h => (by cases h), by simpa using hn⟩
  | cons r rs ih =>
    intro n hn h
    rw [bsum] at h
    split at h
    · cases h
    · rename_i h0
      obtain ⟨h1, h2⟩ := ih _ (by omega) h
      have h3 := partsS_ge r.body (1 + r.head.length) (lf := 1048576) (by have : r.body.foldl (partsS 1048576) (1 + r.head.length) = partsR r 1048576 r.body := rfl; omega)
      have h4 : r.body.foldl (partsS 1048576) (1 + r.head.length) = partsR r 1048576 r.body := rfl
      have h5 := heads_len r.head
      refine ⟨fun q hq => ?_, ?_⟩
      · rcases List.mem_cons.1 hq with rfl | hq
        · simp only [rulT, List.length_append]; omega
        · exact h1 q hq
      · simp only [List.flatMap_cons, List.length_append, List.length_cons]; omega
theorem Bnd.of {rs : List Rul} (h : beyondB rs = false) : Bnd rs := by
  obtain ⟨h1, h2⟩ := bsum_bnd rs 0 (by omega) h
  refine ⟨fun r hr => Nat.lt_of_le_of_lt (h1 r hr) (by decide), ?_⟩
  cases rs with
  | nil => simp
  | cons r rs => simp only [List.length_cons] at h2; omega
theorem ExprParts_spec {Z : Nat → Prop} {w0 w : World} {L : List Res} (st : St Z w0 w L) (e : Exp) (kv : Value) (hk : rExp.sl Z w0 kv e.kids) (lf : Nat) (hlm : lf ≤ 1048576) : Calls Try.prog 40 #[(.agg #[(.int .i8 (e.op)), (.string e.term.var), (.int .i8 (e.term.val.kind)), (.int .i64 (e.term.val.num)), (.string e.term.val.text), kv]), (ni lf)] w (Ret fun r w' => r = .int .i64 ((partsE e lf : Nat) : Int) ∧ St Z w0 w' L) := by
 refine calls_of_WC (m := 75) (rs := [.tmp 4]) Try.func40 rfl rfl rfl rfl ?_
 refine Wsr ?_
 refine W1 (OpT.box st (.agg #[(.int .i8 (e.op)), (.string e.term.var), (.int .i8 (e.term.val.kind)), (.int .i64 (e.term.val.num)), (.string e.term.val.text), kv]) [(.int .i8 (e.op)), (.string e.term.var), (.int .i8 (e.term.val.kind)), (.int .i64 (e.term.val.num)), (.string e.term.val.text), kv] rfl rfl (fun b1 w2 st3 => ?_))
 refine W1 (OpT.assign (ii 0) rfl ?_)
 refine Wns ?_
 refine W1 (OpT.assign (ii 0) rfl ?_)
 refine Wns ?_
 refine W1 (OpT.loadA ⟨b1, 0, none⟩ 6 [(.int .i8 (e.op)), (.string e.term.var), (.int .i8 (e.term.val.kind)), (.int .i64 (e.term.val.num)), (.string e.term.val.text), kv] ta59 ts59 rfl ((st3.rowB (i := 0) rfl).part 0 6) rfl ?_)
 refine W1 (OpT.buildSlice st3 [(0, (.agg #[(.int .i8 (e.op)), (.string e.term.var), (.int .i8 (e.term.val.kind)), (.int .i64 (e.term.val.num)), (.string e.term.val.text), kv]))] [(.int .i8 (e.op)), (.string e.term.var), (.int .i8 (e.term.val.kind)), (.int .i64 (e.term.val.num)), (.string e.term.val.text), kv] tu57 ts59 tz59 (mp1 rfl) (by kernel_rfl) (by decide) (fun b4 w5 st6 => ?_))
 refine W1 (OpT.assign (.slice (some ⟨b4, 0, none⟩) 1 1) rfl ?_)
 refine Wnt ?_
 refine WC.seq ?_
 refine Wsr ?_
 refine W1 (OpT.assign (ii 0) rfl ?_)
 refine Wnt ?_
 refine WC.block ?_
 obtain ⟨Z2, hz2, hw2, hr2, st2, bk2⟩ := St.freezeB (st6 : St Z w0 w5 (Blk b4 59 [(.int .i8 (e.op)), (.string e.term.var), (.int .i8 (e.term.val.kind)), (.int .i64 (e.term.val.num)), (.string e.term.val.text), kv] :: Blk b1 59 [(.int .i8 (e.op)), (.string e.term.var), (.int .i8 (e.term.val.kind)), (.int .i64 (e.term.val.num)), (.string e.term.val.text), kv] :: L))
 have hx2 : Ext Z w0 Z2 w5 := ⟨hz2, hw2, fun w' L' h => (bk2 w' L' h).tl⟩
 have hs2 := fresh_exp hr2 (rExp_mk (hx2.sl hk))
 have st7 : St Z2 w5 w5 (L) := St.selT [Blk b1 59 [(.int .i8 (e.op)), (.string e.term.var), (.int .i8 (e.term.val.kind)), (.int .i64 (e.term.val.num)), (.string e.term.val.text), kv]] [] rfl (by decide) st2
 refine WC.loop (fun m ρ wz => ∃ (d : Nat), ∃ (n : Nat), ∃ (xs : List Exp), ∃ (Z1 : Nat → Prop), ∃ (w1 : World), ∃ (lv : Value), m = 65537 - d ∧ d ≤ 65536 ∧ n ≤ lf ∧ Ext Z w0 Z1 w1 ∧ rExp.sl Z1 w1 lv xs ∧ lvls (65536 - d) n xs lf = partsE e lf ∧ ρ 5 = (ni n) ∧ ρ 6 = lv ∧ ρ 7 = (ni d) ∧ ρ 1 = (ni lf) ∧ St Z1 w1 wz (L)) _ ⟨0, 0, [e], Z2, w5, (.slice (some ⟨b4, 0, none⟩) 1 1), rfl, by omega, by omega, hx2, hs2, rfl, rfl, rfl, rfl, rfl, st7⟩ ?_
 rintro m8 ρ9 w10 ⟨d, n, xs, Z1, w1, lv, hm18, hp12, hp13, hx, hs, HT, hs14, hs15, hs16, hs17, st11⟩
 have hxl := Rl.sl_le hs
 refine WC.seq ?_
 refine Wsr ?_
 refine W1 (OpT.move lv hs15 ?_)
 refine W1 (OpT.lenR rfl tu57 hs rfl ?_)
 refine W1 (OpT.igt .i64 (((xs.length : Nat) : Int)) (0) rfl rfl ?_)
 refine Wnt ?_
 refine WC.condP (0 < ((xs.length : Nat) : Int)) rfl (fun h19 => ?_) (fun h19 => ?_)
 ·refine WC.skip ?_
  refine thenQ_n ?_
  refine WC.seq ?_
  refine WC.block ?_
  refine Wsr ?_
  refine W1 (OpT.move (ni n) hs14 ?_)
  refine W1 (OpT.move lv hs15 ?_)
  refine W1 (OpT.lenR rfl tu57 hs rfl ?_)
  refine W1 (OpT.iadd .i64 (((n : Nat) : Int)) (((xs.length : Nat) : Int)) (((n + xs.length : Nat) : Int)) rfl rfl (wadd (a := n) (b := xs.length) (by omega)) ?_)
  refine W1 (OpT.assign (ni (n + xs.length)) rfl ?_)
  refine Wnt ?_
  refine WC.seq ?_
  refine Wsr ?_
  refine W1 (OpT.move (ni (n + xs.length)) rfl ?_)
  refine W1 (OpT.move (ni lf) hs17 ?_)
  refine W1 (OpT.igt .i64 (((n + xs.length : Nat) : Int)) (((lf : Nat) : Int)) rfl rfl ?_)
  refine W1 (OpT.move (.bool (decide (((lf : Nat) : Int) < ((n + xs.length : Nat) : Int)))) rfl ?_)
  by_cases h20 : ((lf : Nat) : Int) < ((n + xs.length : Nat) : Int)
  ·refine WL.pass (dj := 25) (c := true) rfl rfl rfl (bT h20) rfl ?_
   refine WL.pass (dj := 25) (c := true) rfl rfl rfl (bT h20) rfl ?_
   refine W1 (OpT.pickT (.bool true) (bT h20) rfl ?_)
   refine Wnt ?_
   refine WC.condT rfl ?_
   refine Wsr ?_
   refine W1 (OpT.move (ni lf) hs17 ?_)
   refine W1 (OpT.iadd .i64 (((lf : Nat) : Int)) (1) (((lf + 1 : Nat) : Int)) rfl rfl (wadd (a := lf) (b := 1) (by omega)) ?_)
   refine W1 (OpT.assign (ni (lf + 1)) rfl ?_)
   refine Wnt ?_
   refine WC.ret <| thenQ_r <| blkQ_r <| thenQ_r <| loopQ_r <| blkQ_r <| thenQ_r <| retQ.one (ni (lf + 1)) rfl ?_
   rw [lvls_kids (by omega) (by omega)] at HT
   exact ⟨_, rfl, by rw [← HT], (hx.back st11)⟩
  refine W2 (dj := 25) (bF h20) (OpT.move (ni d) hs16 ?_)
  refine W2 (dj := 25) (bF h20) (OpT.ige .i64 (((d : Nat) : Int)) (65536) rfl rfl ?_)
  refine W1 (OpT.pickF (.bool (decide (65536 ≤ ((d : Nat) : Int)))) (bF h20) rfl ?_)
  refine Wnt ?_
  refine WC.condP (65536 ≤ ((d : Nat) : Int)) rfl (fun h21 => ?_) (fun h21 => ?_)
  ·refine WC.seq ?_
   refine WC.region ?_
   refine W1 (OpT.move (ni lf) hs17 ?_)
   refine W1 (OpT.iadd .i64 (((lf : Nat) : Int)) (1) (((lf + 1 : Nat) : Int)) rfl rfl (wadd (a := lf) (b := 1) (by omega)) ?_)
   refine W1 (OpT.assign (ni (lf + 1)) rfl ?_)
   refine Wnt ?_
   refine WC.ret <| thenQ_r <| blkQ_r <| thenQ_r <| loopQ_r <| blkQ_r <| thenQ_r <| retQ.one (ni (lf + 1)) rfl ?_
   rw [show 65536 - d = 0 by omega] at HT
   rw [lvls_deep (by omega)] at HT
   exact ⟨_, rfl, by rw [← HT], (hx.back st11)⟩
  refine WC.skip ?_
  refine thenQ_n ?_
  refine Wsr ?_
  refine W1 (OpT.assign vn rfl ?_)
  refine Wnt ?_
  refine WC.seq ?_
  refine Wsr ?_
  refine W1 (OpT.assign (ii 0) rfl ?_)
  refine Wnt ?_
  refine WC.block ?_
  have st22 : St Z1 w1 w10 (Row 59 6 vn ([] : List Exp).length [] :: L) := st11.rowNil 59 6
  refine WC.loop (fun m ρ wz => ∃ (i : Nat), ∃ (lv2 : Value), ∃ (cs2 : List Value), m = xs.length - i ∧ i ≤ xs.length ∧ RowsOf (rExp.R Z1 w1) 6 cs2 ((xs.take i).flatMap Exp.kids) ∧ n + xs.length + ((xs.take i).flatMap Exp.kids).length ≤ lf ∧ ρ 8 = lv2 ∧ ρ 9 = (ni i) ∧ ρ 1 = (ni lf) ∧ ρ 5 = (ni (n + xs.length)) ∧ ρ 6 = lv ∧ ρ 7 = (ni d) ∧ St Z1 w1 wz (Row 59 6 lv2 ((xs.take i).flatMap Exp.kids).length cs2 :: L)) _ ⟨0, vn, [], rfl, by omega, RowsOf.nil, by simp only [List.take_zero, List.flatMap_nil, List.length_nil]; omega, rfl, rfl, hs17, rfl, hs15, hs16, st22⟩ ?_
  rintro m23 ρ24 w25 ⟨i, lv2, cs2, hm34, hp27, HR, hcn, hs29, hs28, hs30, hs31, hs32, hs33, st26⟩
  have olv2 := st26.rowOne (i := 0) rfl
  have clv2 := st26.rowCel (i := 0) rfl
  refine WC.seq ?_
  refine Wsr ?_
  refine W1 (OpT.move (ni i) hs28 ?_)
  refine W1 (OpT.move lv hs32 ?_)
  refine W1 (OpT.lenR rfl tu57 hs rfl ?_)
  refine W1 (OpT.ilt .i64 (((i : Nat) : Int)) (((xs.length : Nat) : Int)) rfl rfl ?_)
  refine Wnt ?_
  refine WC.condP (((i : Nat) : Int) < ((xs.length : Nat) : Int)) rfl (fun h35 => ?_) (fun h35 => ?_)
  ·refine WC.skip ?_
   refine thenQ_n ?_
   refine WC.seq ?_
   refine WC.block ?_
   refine WC.seq ?_
   refine Wsr ?_
   refine W1 (OpT.move (ni (n + xs.length)) hs31 ?_)
   refine W1 (OpT.move lv2 hs29 ?_)
   refine W1 (OpT.lenRow st26 0 rfl rfl tu57 rfl ?_)
   refine W1 (OpT.iadd .i64 (((n + xs.length : Nat) : Int)) (((((xs.take i).flatMap Exp.kids).length : Nat) : Int)) (((n + xs.length + ((xs.take i).flatMap Exp.kids).length : Nat) : Int)) rfl rfl (wadd (a := n + xs.length) (b := ((xs.take i).flatMap Exp.kids).length) (by omega)) ?_)
   refine W1 (OpT.move lv hs32 ?_)
   refine W1 (OpT.move (ni i) hs28 ?_)
   obtain ⟨x36, hx36⟩ : ∃ x, (xs)[i]? = some x := ⟨_, List.getElem?_eq_getElem (by omega)⟩
   refine W1 (OpT.idxX tu57 ts59 hs rfl .i64 (i) rfl hx36 (fun ad37 cs38 hr39 hR40 => ?_))
   have hR40c := hR40
   obtain ⟨kv41, rfl, hk42⟩ := rExp_kids hR40
   have hR40l := Rl.sl_le hk42
   refine W1 (OpT.field 5 ad37 (ad37.add 5) tf59_2 rfl rfl ?_)
   refine W1 (OpT.loadS (ad37.add 5) kv41 ta57 rfl (hr39.cell st26 (j := 5) rfl) ?_)
   refine W1 (OpT.lenR rfl tu57 hk42 rfl ?_)
   refine W1 (OpT.iadd .i64 (((n + xs.length + ((xs.take i).flatMap Exp.kids).length : Nat) : Int)) (((x36.kids.length : Nat) : Int)) (((n + xs.length + ((xs.take i).flatMap Exp.kids).length + x36.kids.length : Nat) : Int)) rfl rfl (wadd (a := n + xs.length + ((xs.take i).flatMap Exp.kids).length) (b := x36.kids.length) (by omega)) ?_)
   refine W1 (OpT.move (ni lf) hs30 ?_)
   refine W1 (OpT.igt .i64 (((n + xs.length + ((xs.take i).flatMap Exp.kids).length + x36.kids.length : Nat) : Int)) (((lf : Nat) : Int)) rfl rfl ?_)
   refine Wnt ?_
   refine WC.condP (((lf : Nat) : Int) < ((n + xs.length + ((xs.take i).flatMap Exp.kids).length + x36.kids.length : Nat) : Int)) rfl (fun h43 => ?_) (fun h43 => ?_)
   ·refine WC.seq ?_
    refine WC.region ?_
    refine W1 (OpT.move (ni lf) hs30 ?_)
    refine W1 (OpT.iadd .i64 (((lf : Nat) : Int)) (1) (((lf + 1 : Nat) : Int)) rfl rfl (wadd (a := lf) (b := 1) (by omega)) ?_)
    refine W1 (OpT.assign (ni (lf + 1)) rfl ?_)
    refine Wnt ?_
    refine WC.ret <| thenQ_r <| blkQ_r <| thenQ_r <| loopQ_r <| blkQ_r <| thenQ_r <| blkQ_r <| thenQ_r <| loopQ_r <| blkQ_r <| thenQ_r <| retQ.one (ni (lf + 1)) rfl ?_
    have hfk := flat_at Exp.kids hx36
    rw [lvls_kids (by omega) (by omega)] at HT
    exact ⟨_, rfl, by rw [← HT], (hx.back (St.selT [Row 59 6 lv2 ((xs.take i).flatMap Exp.kids).length cs2] [] rfl (by decide) st26))⟩
   refine WC.skip ?_
   refine thenQ_n ?_
   refine Wsr ?_
   refine W1 (OpT.assign (ii 0) rfl ?_)
   refine Wnt ?_
   refine WC.block ?_
   have st44 : St Z1 w1 w25 (Row 59 6 lv2 (((xs.take i).flatMap Exp.kids) ++ x36.kids.take 0).length cs2 :: L) := by rw [List.take_zero, List.append_nil]; exact st26
   refine WC.loop (fun m ρ wz => ∃ (k : Nat), ∃ (lv3 : Value), ∃ (cs3 : List Value), m = x36.kids.length - k ∧ k ≤ x36.kids.length ∧ RowsOf (rExp.R Z1 w1) 6 cs3 (((xs.take i).flatMap Exp.kids) ++ x36.kids.take k) ∧ ρ 8 = lv3 ∧ ρ 10 = (ni k) ∧ ρ 1 = (ni lf) ∧ ρ 5 = (ni (n + xs.length)) ∧ ρ 6 = lv ∧ ρ 7 = (ni d) ∧ ρ 9 = (ni i) ∧ St Z1 w1 wz (Row 59 6 lv3 (((xs.take i).flatMap Exp.kids) ++ x36.kids.take k).length cs3 :: L)) _ ⟨0, lv2, cs2, rfl, by omega, by rw [List.take_zero, List.append_nil]; exact HR, hs29, rfl, hs30, hs31, hs32, hs33, hs28, st44⟩ ?_
   rintro m45 ρ46 w47 ⟨k, lv3, cs3, hm57, hp49, HR3, hs51, hs50, hs52, hs53, hs54, hs55, hs56, st48⟩
   have olv3 := st48.rowOne (i := 0) rfl
   have clv3 := st48.rowCel (i := 0) rfl
   have hck : (((xs.take i).flatMap Exp.kids) ++ x36.kids.take k).length ≤ ((xs.take i).flatMap Exp.kids).length + k := by simp only [List.length_append, List.length_take]; omega
   have hce : (((xs.take i).flatMap Exp.kids) ++ x36.kids.take k).length = ((xs.take i).flatMap Exp.kids).length + min k x36.kids.length := by simp only [List.length_append, List.length_take]
   refine WC.seq ?_
   refine Wsr ?_
   refine W1 (OpT.move (ni k) hs50 ?_)
   refine W1 (OpT.move lv hs54 ?_)
   refine W1 (OpT.move (ni i) hs56 ?_)
   refine W1 (OpT.idxX tu57 ts59 hs rfl .i64 (i) rfl hx36 (fun ad59 cs60 hr61 hR62 => ?_))
   have hR62c := hR62
   obtain ⟨kv63, rfl, hk64⟩ := rExp_kids hR62
   have hR62l := Rl.sl_le hk64
   refine W1 (OpT.field 5 ad59 (ad59.add 5) tf59_2 rfl rfl ?_)
   refine W1 (OpT.loadS (ad59.add 5) kv63 ta57 rfl (hr61.cell st48 (j := 5) rfl) ?_)
   refine W1 (OpT.lenR rfl tu57 hk64 rfl ?_)
   refine W1 (OpT.ilt .i64 (((k : Nat) : Int)) (((x36.kids.length : Nat) : Int)) rfl rfl ?_)
   refine Wnt ?_
   refine WC.condP (((k : Nat) : Int) < ((x36.kids.length : Nat) : Int)) rfl (fun h65 => ?_) (fun h65 => ?_)
   ·refine WC.skip ?_
    refine thenQ_n ?_
    refine WC.seq ?_
    refine WC.block ?_
    refine WC.region ?_
    refine W1 (OpT.move lv3 hs51 ?_)
    refine W1 (OpT.move lv hs54 ?_)
    refine W1 (OpT.move (ni i) hs56 ?_)
    refine W1 (OpT.idxX tu57 ts59 hs rfl .i64 (i) rfl hx36 (fun ad67 cs68 hr69 hR70 => ?_))
    have hR70c := hR70
    obtain ⟨kv71, rfl, hk72⟩ := rExp_kids hR70
    have hR70l := Rl.sl_le hk72
    refine W1 (OpT.field 5 ad67 (ad67.add 5) tf59_2 rfl rfl ?_)
    refine W1 (OpT.loadS (ad67.add 5) kv71 ta57 rfl (hr69.cell st48 (j := 5) rfl) ?_)
    refine W1 (OpT.move (ni k) hs50 ?_)
    obtain ⟨x73, hx73⟩ : ∃ x, (x36.kids)[k]? = some x := ⟨_, List.getElem?_eq_getElem (by omega)⟩
    refine W1 (OpT.idxX tu57 ts59 hk72 rfl .i64 (k) rfl hx73 (fun ad74 cs75 hr76 hR77 => ?_))
    have hR77c := hR77
    obtain ⟨kv78, rfl, hk79⟩ := rExp_kids hR77
    have hR77l := Rl.sl_le hk79
    refine W1 (OpT.loadA ad74 6 [(.int .i8 (x73.op)), (.string x73.term.var), (.int .i8 (x73.term.val.kind)), (.int .i64 (x73.term.val.num)), (.string x73.term.val.text), kv78] ta59 ts59 rfl ((hr76.at st48).part 0 6) rfl ?_)
    refine W1 (OpT.buildSlice st48 [(0, (.agg #[(.int .i8 (x73.op)), (.string x73.term.var), (.int .i8 (x73.term.val.kind)), (.int .i64 (x73.term.val.num)), (.string x73.term.val.text), kv78]))] [(.int .i8 (x73.op)), (.string x73.term.var), (.int .i8 (x73.term.val.kind)), (.int .i64 (x73.term.val.num)), (.string x73.term.val.text), kv78] tu57 ts59 tz59 (mp1 rfl) (by kernel_rfl) (by decide) (fun b80 w81 st82 => ?_))
    have st83 : St Z1 w1 w81 (Blk b80 59 [(.int .i8 (x73.op)), (.string x73.term.var), (.int .i8 (x73.term.val.kind)), (.int .i64 (x73.term.val.num)), (.string x73.term.val.text), kv78] :: Row 59 6 lv3 (((xs.take i).flatMap Exp.kids) ++ x36.kids.take k).length cs3 :: L) := St.selT [Blk b80 59 [(.int .i8 (x73.op)), (.string x73.term.var), (.int .i8 (x73.term.val.kind)), (.int .i64 (x73.term.val.num)), (.string x73.term.val.text), kv78], Row 59 6 lv3 (((xs.take i).flatMap Exp.kids) ++ x36.kids.take k).length cs3] [0, 1] rfl (by decide) st82
    refine W1 (OpT.append st83 1 tu57 ts59 tz59 rfl tb59 (by decide) rfl rfl rfl (aC rfl (aC rfl (aC rfl (aC rfl (aC rfl (aC (Rl.sl_one hk79) aN)))))) (by omega) (by omega) (fun v84 w85 st86 hn87 => ?_))
    have o88 := st86.rowOne (i := 0) rfl
    have c89 := st86.rowCel (i := 0) rfl
    refine W1 (OpT.assign v84 rfl ?_)
    refine WL.nil ?_
    refine blkQ_n ?_
    refine thenQ_n ?_
    refine WC.region ?_
    refine W1 (OpT.move (ni k) hs50 ?_)
    refine W1 (OpT.iadd .i64 (((k : Nat) : Int)) (1) (((k + 1 : Nat) : Int)) rfl rfl (wadd (a := k) (b := 1) (by omega)) ?_)
    refine W1 (OpT.assign (ni (k + 1)) rfl ?_)
    refine WL.nil ?_
    have e91 : (((xs.take i).flatMap Exp.kids) ++ x36.kids.take (k + 1)) = (((xs.take i).flatMap Exp.kids) ++ x36.kids.take k) ++ [x73] := by rw [List.take_add_one, hx73, List.append_assoc]; rfl
    have st90 : St Z1 w1 w85 (Row 59 6 v84 (((xs.take i).flatMap Exp.kids) ++ x36.kids.take (k + 1)).length (cs3 ++ [(.int .i8 (x73.op)), (.string x73.term.var), (.int .i8 (x73.term.val.kind)), (.int .i64 (x73.term.val.num)), (.string x73.term.val.text), kv78]) :: L) := by rw [e91, List.length_append]; exact st86
    exact loopQ_n _ (by omega) ⟨k + 1, v84, (cs3 ++ [(.int .i8 (x73.op)), (.string x73.term.var), (.int .i8 (x73.term.val.kind)), (.int .i64 (x73.term.val.num)), (.string x73.term.val.text), kv78]), rfl, by omega, by rw [e91]; exact HR3.snoc rfl hR77c, rfl, rfl, hs52, hs53, hs54, hs55, hs56, st90⟩
   refine WC.exit ?_
   refine thenQ_x ?_
   refine loopQ_x ?_
   refine blkQ_hit ?_
   refine blkQ_n ?_
   refine thenQ_n ?_
   refine WC.region ?_
   refine W1 (OpT.move (ni i) hs56 ?_)
   refine W1 (OpT.iadd .i64 (((i : Nat) : Int)) (1) (((i + 1 : Nat) : Int)) rfl rfl (wadd (a := i) (b := 1) (by omega)) ?_)
   refine W1 (OpT.assign (ni (i + 1)) rfl ?_)
   refine WL.nil ?_
   have e93 : (xs.take (i + 1)).flatMap Exp.kids = (((xs.take i).flatMap Exp.kids) ++ x36.kids.take k) := by rw [List.take_of_length_le (by omega : x36.kids.length ≤ k), List.take_add_one, hx36, List.flatMap_append]; simp
   have st92 : St Z1 w1 w47 (Row 59 6 lv3 ((xs.take (i + 1)).flatMap Exp.kids).length cs3 :: L) := by rw [e93]; exact st48
   exact loopQ_n _ (by omega) ⟨i + 1, lv3, cs3, rfl, by omega, by rw [e93]; exact HR3, by rw [e93]; omega, hs51, rfl, hs52, hs53, hs54, hs55, st92⟩
  refine WC.exit ?_
  refine thenQ_x ?_
  refine loopQ_x ?_
  refine blkQ_hit ?_
  refine thenQ_n ?_
  refine WC.region ?_
  refine W1 (OpT.move lv2 hs29 ?_)
  refine W1 (OpT.assign lv2 rfl ?_)
  refine WL.nil ?_
  refine blkQ_n ?_
  refine thenQ_n ?_
  refine WC.region ?_
  refine W1 (OpT.move (ni d) hs33 ?_)
  refine W1 (OpT.iadd .i64 (((d : Nat) : Int)) (1) (((d + 1 : Nat) : Int)) rfl rfl (wadd (a := d) (b := 1) (by omega)) ?_)
  refine W1 (OpT.assign (ni (d + 1)) rfl ?_)
  refine WL.nil ?_
  have eT : xs.take i = xs := List.take_of_length_le (by omega)
  rw [eT] at HR hcn
  obtain ⟨Z3, hx3, hs3, st3⟩ := St.freezeRow (r := rExp) (xs := xs.flatMap Exp.kids) (show St Z1 w1 w25 (Row 59 6 lv2 (xs.flatMap Exp.kids).length cs2 :: L) from eT ▸ st26) (by omega) HR.2
  obtain ⟨f, hf⟩ : ∃ f, 65536 - d = f + 1 := ⟨65536 - d - 1, by omega⟩
  rw [hf, lvls_go (by omega) (by omega), show f = 65536 - (d + 1) by omega] at HT
  exact loopQ_n _ (by omega) ⟨d + 1, n + xs.length, xs.flatMap Exp.kids, Z3, w25, lv2, rfl, by omega, by omega, hx.trans hx3, hs3, HT, hs31, rfl, rfl, hs30, st3⟩
 refine WC.exit ?_
 refine thenQ_x ?_
 refine loopQ_x ?_
 refine blkQ_hit ?_
 refine thenQ_n ?_
 refine Wsr ?_
 refine W1 (OpT.move (ni n) hs14 ?_)
 refine W1 (OpT.assign (ni n) rfl ?_)
 refine Wnt ?_
 refine WC.ret <| retQ.one (ni n) rfl ?_
 rw [lvls_end (by omega)] at HT
 exact ⟨_, rfl, by rw [← HT], (hx.back st11)⟩

theorem literalParts_spec {Z : Nat → Prop} {w0 w : World} {L : List Res} (st : St Z w0 w L) (x : Ltr) (av lk rk : Value) (ha : rTrm.sl Z w0 av x.atom.args) (hl : rExp.sl Z w0 lk x.left.kids) (hr : rExp.sl Z w0 rk x.right.kids) (lf : Nat) (hlm : lf ≤ 1048576) : Calls Try.prog 23 #[(.agg #[(.int .i8 (x.kind)), (.string x.atom.pred), av, (.int .i8 (x.rel)), (.int .i8 (x.left.op)), (.string x.left.term.var), (.int .i8 (x.left.term.val.kind)), (.int .i64 (x.left.term.val.num)), (.string x.left.term.val.text), lk, (.int .i8 (x.right.op)), (.string x.right.term.var), (.int .i8 (x.right.term.val.kind)), (.int .i64 (x.right.term.val.num)), (.string x.right.term.val.text), rk]), (ni lf)] w (Ret fun r w' => r = .int .i64 ((partsL x lf : Nat) : Int) ∧ St Z w0 w' L) := by
 have hal := Rl.sl_le ha
 have hpl := partsE_le x.left lf
 have hpr := partsE_le x.right (lf - (1 + x.atom.args.length + partsE x.left lf))
 refine calls_of_WC (m := 29) (rs := [.tmp 4]) Try.func23 rfl rfl rfl rfl ?_
 refine Wsr ?_
 refine W1 (OpT.box st (.agg #[(.int .i8 (x.kind)), (.string x.atom.pred), av, (.int .i8 (x.rel)), (.int .i8 (x.left.op)), (.string x.left.term.var), (.int .i8 (x.left.term.val.kind)), (.int .i64 (x.left.term.val.num)), (.string x.left.term.val.text), lk, (.int .i8 (x.right.op)), (.string x.right.term.var), (.int .i8 (x.right.term.val.kind)), (.int .i64 (x.right.term.val.num)), (.string x.right.term.val.text), rk]) [(.int .i8 (x.kind)), (.string x.atom.pred), av, (.int .i8 (x.rel)), (.int .i8 (x.left.op)), (.string x.left.term.var), (.int .i8 (x.left.term.val.kind)), (.int .i64 (x.left.term.val.num)), (.string x.left.term.val.text), lk, (.int .i8 (x.right.op)), (.string x.right.term.var), (.int .i8 (x.right.term.val.kind)), (.int .i64 (x.right.term.val.num)), (.string x.right.term.val.text), rk] rfl rfl (fun b1 w2 st3 => ?_))
 refine W1 (OpT.assign (ii 0) rfl ?_)
 refine Wnt ?_
 refine WC.seq ?_
 refine WC.draw 11 (fun jj vv => match jj with | 0 => vv = (pt b1 1) | 1 => vv = (pt b1 2) | 2 => vv = av | 3 => vv = (ni (x.atom.args.length)) | 4 => vv = (ni (1 + x.atom.args.length)) | 5 => vv = (pt b1 4) | 6 => vv = (.agg #[(.int .i8 (x.left.op)), (.string x.left.term.var), (.int .i8 (x.left.term.val.kind)), (.int .i64 (x.left.term.val.num)), (.string x.left.term.val.text), lk]) | 7 => vv = (ni lf) | 8 => vv = (.int .i64 ((((partsE x.left lf) : Nat) : Int))) | 9 => vv = (.int .i64 (((1 + x.atom.args.length + (partsE x.left lf) : Nat) : Int))) | 10 => vv = (.int .i64 (((1 + x.atom.args.length + (partsE x.left lf) : Nat) : Int))) | _ => True) (fun _ _ => []) st3 fmix (by kernel_rfl) ((obS (obS (obS (obS (obS (obS (obS (obS (obS (obS (obS ob0 ?_) ?_) ?_) ?_) ?_) ?_) ?_) ?_) ?_) ?_) ?_)) ?_
 ·intro vals ρ w5 X hd h0 st4
  have e6 : ρ 2 = (pt b1 0) := (h0 2 rfl).trans rfl
  refine W1 (OpT.field 1 ⟨b1, 0, none⟩ ⟨b1, 1, none⟩ tf61_1 e6 rfl ?_)
  refine WL.nil ?_
  exact oneQ.mk ⟨rfl, st4⟩
 ·intro vals ρ w8 X hd h0 st7
  have e9 : ρ 6 = (pt b1 1) := ((hd 0 rfl).2 6 rfl).trans (hd 0 rfl).1
  refine W1 (OpT.field 1 ⟨b1, 1, none⟩ ⟨b1, 2, none⟩ tf54_1 e9 rfl ?_)
  refine WL.nil ?_
  exact oneQ.mk ⟨rfl, st7⟩
 ·intro vals ρ w11 X hd h0 st10
  have e12 : ρ 7 = (pt b1 2) := ((hd 1 rfl).2 7 rfl).trans (hd 1 rfl).1
  refine W1 (OpT.loadS ⟨b1, 2, none⟩ av ta52 e12 (st10.cellB (i := 0) rfl rfl) ?_)
  refine WL.nil ?_
  exact oneQ.mk ⟨rfl, st10⟩
 ·intro vals ρ w14 X hd h0 st13
  have e15 : ρ 8 = av := ((hd 2 rfl).2 8 rfl).trans (hd 2 rfl).1
  refine W1 (OpT.lenR rfl tu52 ha e15 ?_)
  refine WL.nil ?_
  exact oneQ.mk ⟨rfl, st13⟩
 ·intro vals ρ w17 X hd h0 st16
  have e18 : ρ 9 = (ni (x.atom.args.length)) := ((hd 3 rfl).2 9 rfl).trans (hd 3 rfl).1
  refine W1 (OpT.iadd .i64 (1) (((x.atom.args.length : Nat) : Int)) (((1 + x.atom.args.length : Nat) : Int)) rfl e18 (wadd (a := 1) (b := x.atom.args.length) (by omega)) ?_)
  refine WL.nil ?_
  exact oneQ.mk ⟨rfl, st16⟩
 ·intro vals ρ w20 X hd h0 st19
  have e21 : ρ 2 = (pt b1 0) := (h0 2 rfl).trans rfl
  refine W1 (OpT.field 4 ⟨b1, 0, none⟩ ⟨b1, 4, none⟩ tf61_3 e21 rfl ?_)
  refine WL.nil ?_
  exact oneQ.mk ⟨rfl, st19⟩
 ·intro vals ρ w23 X hd h0 st22
  have e24 : ρ 11 = (pt b1 4) := ((hd 5 rfl).2 11 rfl).trans (hd 5 rfl).1
  refine W1 (OpT.loadA ⟨b1, 4, none⟩ 6 [(.int .i8 (x.left.op)), (.string x.left.term.var), (.int .i8 (x.left.term.val.kind)), (.int .i64 (x.left.term.val.num)), (.string x.left.term.val.text), lk] ta59 ts59 e24 ((st22.rowB (i := 0) rfl).part 4 6) rfl ?_)
  refine WL.nil ?_
  exact oneQ.mk ⟨rfl, st22⟩
 ·intro vals ρ w26 X hd h0 st25
  have e27 : ρ 1 = (ni lf) := (h0 1 rfl).trans rfl
  refine W1 (OpT.move (ni lf) e27 ?_)
  refine WL.nil ?_
  exact oneQ.mk ⟨rfl, st25⟩
 ·intro vals ρ w29 X hd h0 st28
  have e30 : ρ 12 = (.agg #[(.int .i8 (x.left.op)), (.string x.left.term.var), (.int .i8 (x.left.term.val.kind)), (.int .i64 (x.left.term.val.num)), (.string x.left.term.val.text), lk]) := ((hd 6 rfl).2 12 rfl).trans (hd 6 rfl).1
  have e31 : ρ 13 = (ni lf) := ((hd 7 rfl).2 13 rfl).trans (hd 7 rfl).1
  refine W1 (OpT.callS cal40 [] [] [(.agg #[(.int .i8 (x.left.op)), (.string x.left.term.var), (.int .i8 (x.left.term.val.kind)), (.int .i64 (x.left.term.val.num)), (.string x.left.term.val.text), lk]), (ni lf)] rfl (ca2 e30 e31) (ExprParts_spec st28 x.left _ hl lf (by omega)) ?_)
  rintro v32 w33 ⟨rfl, st34⟩
  refine WL.nil ?_
  exact oneQ.mk ⟨rfl, st34⟩
 ·intro vals ρ w36 X hd h0 st35
  have e37 : ρ 10 = (ni (1 + x.atom.args.length)) := ((hd 4 rfl).2 10 rfl).trans (hd 4 rfl).1
  have e38 : ρ 14 = (.int .i64 ((((partsE x.left lf) : Nat) : Int))) := ((hd 8 rfl).2 14 rfl).trans (hd 8 rfl).1
  refine W1 (OpT.iadd .i64 (((1 + x.atom.args.length : Nat) : Int)) ((((partsE x.left lf) : Nat) : Int)) (((1 + x.atom.args.length + (partsE x.left lf) : Nat) : Int)) e37 e38 (wadd (a := 1 + x.atom.args.length) (b := (partsE x.left lf)) (by omega)) ?_)
  refine WL.nil ?_
  exact oneQ.mk ⟨rfl, st35⟩
 ·intro vals ρ w40 X hd h0 st39
  have e41 : ρ 15 = (.int .i64 (((1 + x.atom.args.length + (partsE x.left lf) : Nat) : Int))) := ((hd 9 rfl).2 15 rfl).trans (hd 9 rfl).1
  refine W1 (OpT.assign (.int .i64 (((1 + x.atom.args.length + (partsE x.left lf) : Nat) : Int))) e41 ?_)
  refine WL.nil ?_
  exact oneQ.mk ⟨rfl, st39⟩
 intro vals ρ44 w43 hv h0 st42
 replace st42 : St Z w0 w43 (Blk b1 61 [(.int .i8 (x.kind)), (.string x.atom.pred), av, (.int .i8 (x.rel)), (.int .i8 (x.left.op)), (.string x.left.term.var), (.int .i8 (x.left.term.val.kind)), (.int .i64 (x.left.term.val.num)), (.string x.left.term.val.text), lk, (.int .i8 (x.right.op)), (.string x.right.term.var), (.int .i8 (x.right.term.val.kind)), (.int .i64 (x.right.term.val.num)), (.string x.right.term.val.text), rk] :: L) := st42
 have e45 : ρ44 1 = (ni lf) := (h0 1 rfl).trans rfl
 have e46 : ρ44 2 = (pt b1 0) := (h0 2 rfl).trans rfl
 have e47 : ρ44 5 = (.int .i64 (((1 + x.atom.args.length + (partsE x.left lf) : Nat) : Int))) := ((hv 10 rfl).2 5 rfl).trans (hv 10 rfl).1
 clear hv h0
 refine Wnt ?_
 refine WC.seq ?_
 refine Wsr ?_
 refine W1 (OpT.move (.int .i64 (((1 + x.atom.args.length + (partsE x.left lf) : Nat) : Int))) e47 ?_)
 refine W1 (OpT.move (ni lf) e45 ?_)
 refine W1 (OpT.igt .i64 (((1 + x.atom.args.length + (partsE x.left lf) : Nat) : Int)) (((lf : Nat) : Int)) rfl rfl ?_)
 refine Wnt ?_
 refine WC.condP (((lf : Nat) : Int) < ((1 + x.atom.args.length + (partsE x.left lf) : Nat) : Int)) rfl (fun h48 => ?_) (fun h48 => ?_)
 ·refine WC.seq ?_
  refine WC.region ?_
  refine W1 (OpT.move (ni lf) e45 ?_)
  refine W1 (OpT.iadd .i64 (((lf : Nat) : Int)) (1) (((lf + 1 : Nat) : Int)) rfl rfl (wadd (a := lf) (b := 1) (by omega)) ?_)
  refine W1 (OpT.assign (ni (lf + 1)) rfl ?_)
  refine Wnt ?_
  refine WC.ret <| thenQ_r <| retQ.one (ni (lf + 1)) rfl ?_
  exact ⟨_, rfl, by rw [partsL, if_pos (by omega)], (St.selT [Blk b1 61 [(.int .i8 (x.kind)), (.string x.atom.pred), av, (.int .i8 (x.rel)), (.int .i8 (x.left.op)), (.string x.left.term.var), (.int .i8 (x.left.term.val.kind)), (.int .i64 (x.left.term.val.num)), (.string x.left.term.val.text), lk, (.int .i8 (x.right.op)), (.string x.right.term.var), (.int .i8 (x.right.term.val.kind)), (.int .i64 (x.right.term.val.num)), (.string x.right.term.val.text), rk]] [] rfl (by decide) st42)⟩
 refine WC.skip ?_
 refine thenQ_n ?_
 refine Wsr ?_
 refine W1 (OpT.move (.int .i64 (((1 + x.atom.args.length + (partsE x.left lf) : Nat) : Int))) e47 ?_)
 refine W1 (OpT.field 10 ⟨b1, 0, none⟩ ⟨b1, 10, none⟩ tf61_4 e46 rfl ?_)
 refine W1 (OpT.loadA ⟨b1, 10, none⟩ 6 [(.int .i8 (x.right.op)), (.string x.right.term.var), (.int .i8 (x.right.term.val.kind)), (.int .i64 (x.right.term.val.num)), (.string x.right.term.val.text), rk] ta59 ts59 rfl ((st42.rowB (i := 0) rfl).part 10 6) rfl ?_)
 refine W1 (OpT.move (ni lf) e45 ?_)
 refine W1 (OpT.move (.int .i64 (((1 + x.atom.args.length + (partsE x.left lf) : Nat) : Int))) e47 ?_)
 refine W1 (OpT.isub .i64 (((lf : Nat) : Int)) (((1 + x.atom.args.length + (partsE x.left lf) : Nat) : Int)) (((lf - (1 + x.atom.args.length + (partsE x.left lf)) : Nat) : Int)) rfl rfl (wsub (a := lf) (b := 1 + x.atom.args.length + (partsE x.left lf)) (by omega) (by omega)) ?_)
 refine W1 (OpT.callS cal40 [] [] [(.agg #[(.int .i8 (x.right.op)), (.string x.right.term.var), (.int .i8 (x.right.term.val.kind)), (.int .i64 (x.right.term.val.num)), (.string x.right.term.val.text), rk]), (.int .i64 (((lf - (1 + x.atom.args.length + (partsE x.left lf)) : Nat) : Int)))] rfl (ca2 rfl rfl) (ExprParts_spec st42 x.right _ hr (lf - (1 + x.atom.args.length + (partsE x.left lf))) (by omega)) ?_)
 rintro v49 w50 ⟨rfl, st51⟩
 refine W1 (OpT.iadd .i64 (((1 + x.atom.args.length + (partsE x.left lf) : Nat) : Int)) ((((partsE x.right (lf - (1 + x.atom.args.length + (partsE x.left lf)))) : Nat) : Int)) (((1 + x.atom.args.length + (partsE x.left lf) + (partsE x.right (lf - (1 + x.atom.args.length + (partsE x.left lf)))) : Nat) : Int)) rfl rfl (wadd (a := 1 + x.atom.args.length + (partsE x.left lf)) (b := (partsE x.right (lf - (1 + x.atom.args.length + (partsE x.left lf))))) (by omega)) ?_)
 refine W1 (OpT.assign (.int .i64 (((1 + x.atom.args.length + (partsE x.left lf) + (partsE x.right (lf - (1 + x.atom.args.length + (partsE x.left lf)))) : Nat) : Int))) rfl ?_)
 refine Wnt ?_
 refine WC.ret <| retQ.one (.int .i64 (((1 + x.atom.args.length + (partsE x.left lf) + (partsE x.right (lf - (1 + x.atom.args.length + (partsE x.left lf)))) : Nat) : Int))) rfl ?_
 exact ⟨_, rfl, by rw [partsL, if_neg (by omega)], (St.selT [Blk b1 61 [(.int .i8 (x.kind)), (.string x.atom.pred), av, (.int .i8 (x.rel)), (.int .i8 (x.left.op)), (.string x.left.term.var), (.int .i8 (x.left.term.val.kind)), (.int .i64 (x.left.term.val.num)), (.string x.left.term.val.text), lk, (.int .i8 (x.right.op)), (.string x.right.term.var), (.int .i8 (x.right.term.val.kind)), (.int .i64 (x.right.term.val.num)), (.string x.right.term.val.text), rk]] [] rfl (by decide) st51)⟩

theorem RuleParts_spec {Z : Nat → Prop} {w0 w : World} {L : List Res} (st : St Z w0 w L) (y : Rul) (av bv : Value) (ha : rAgr.sl Z w0 av y.head) (hb : rLtr.sl Z w0 bv y.body) (lf : Nat) (hlm : lf ≤ 1048576) : Calls Try.prog 10 #[(.agg #[(.string y.pred), av, bv]), (ni lf)] w (Ret fun r w' => r = .int .i64 ((partsR y lf y.body : Nat) : Int) ∧ St Z w0 w' L) := by
 have hal := Rl.sl_le ha
 have hbl := Rl.sl_le hb
 refine calls_of_WC (m := 35) (rs := [.tmp 4]) Try.func10 rfl rfl rfl rfl ?_
 refine Wsr ?_
 refine W1 (OpT.box st (.agg #[(.string y.pred), av, bv]) [(.string y.pred), av, bv] rfl rfl (fun b1 w2 st3 => ?_))
 refine W1 (OpT.assign (ii 0) rfl ?_)
 refine Wns ?_
 refine W1 (OpT.field 1 ⟨b1, 0, none⟩ ⟨b1, 1, none⟩ tf31_1 rfl rfl ?_)
 refine W1 (OpT.loadS ⟨b1, 1, none⟩ av ta28 rfl (st3.cellB (i := 0) rfl rfl) ?_)
 refine W1 (OpT.lenR rfl tu28 ha rfl ?_)
 refine W1 (OpT.iadd .i64 (1) (((y.head.length : Nat) : Int)) (((1 + y.head.length : Nat) : Int)) rfl rfl (wadd (a := 1) (b := y.head.length) (by omega)) ?_)
 refine W1 (OpT.assign (ni (1 + y.head.length)) rfl ?_)
 refine Wnt ?_
 refine WC.seq ?_
 refine Wsr ?_
 refine W1 (OpT.assign (ii 0) rfl ?_)
 refine Wnt ?_
 refine WC.block ?_
 refine WC.loop (fun m ρ wz => ∃ (i : Nat), m = y.body.length - i ∧ i ≤ y.body.length ∧ ρ 5 = (.int .i64 ((((partsR y lf (y.body.take i)) : Nat) : Int))) ∧ ρ 6 = (ni i) ∧ ρ 1 = (ni lf) ∧ ρ 2 = (pt b1 0) ∧ St Z w0 wz (Blk b1 31 [(.string y.pred), av, bv] :: L)) _ ⟨0, rfl, by omega, rfl, rfl, rfl, rfl, st3⟩ ?_
 rintro m4 ρ5 w6 ⟨i, hm13, hp8, hs9, hs10, hs11, hs12, st7⟩
 have hps := partsS_le (lf := lf) (y.body.take i) (1 + y.head.length)
 have hpe : partsR y lf (y.body.take i) = (y.body.take i).foldl (partsS lf) (1 + y.head.length) := rfl
 refine WC.seq ?_
 refine Wsr ?_
 refine W1 (OpT.move (ni i) hs10 ?_)
 refine W1 (OpT.field 2 ⟨b1, 0, none⟩ ⟨b1, 2, none⟩ tf31_2 hs12 rfl ?_)
 refine W1 (OpT.loadS ⟨b1, 2, none⟩ bv ta29 rfl (st7.cellB (i := 0) rfl rfl) ?_)
 refine W1 (OpT.lenR rfl tu29 hb rfl ?_)
 refine W1 (OpT.ilt .i64 (((i : Nat) : Int)) (((y.body.length : Nat) : Int)) rfl rfl ?_)
 refine W1 (OpT.move (.bool (decide (((i : Nat) : Int) < ((y.body.length : Nat) : Int)))) rfl ?_)
 by_cases h14 : ((i : Nat) : Int) < ((y.body.length : Nat) : Int)
 ·refine W2 (dj := 16) (bT h14) (OpT.move (.int .i64 ((((partsR y lf (y.body.take i)) : Nat) : Int))) hs9 ?_)
  refine W2 (dj := 16) (bT h14) (OpT.move (ni lf) hs11 ?_)
  refine W2 (dj := 16) (bT h14) (OpT.ile .i64 ((((partsR y lf (y.body.take i)) : Nat) : Int)) (((lf : Nat) : Int)) rfl rfl ?_)
  refine W1 (OpT.pickT (.bool (decide ((((partsR y lf (y.body.take i)) : Nat) : Int) ≤ ((lf : Nat) : Int)))) (bT h14) rfl ?_)
  refine Wnt ?_
  refine WC.condP ((((partsR y lf (y.body.take i)) : Nat) : Int) ≤ ((lf : Nat) : Int)) rfl (fun h15 => ?_) (fun h15 => ?_)
  ·refine WC.skip ?_
   refine thenQ_n ?_
   refine WC.seq ?_
   refine WC.block ?_
   refine WC.region ?_
   refine W1 (OpT.move (.int .i64 ((((partsR y lf (y.body.take i)) : Nat) : Int))) hs9 ?_)
   refine W1 (OpT.field 2 ⟨b1, 0, none⟩ ⟨b1, 2, none⟩ tf31_2 hs12 rfl ?_)
   refine W1 (OpT.loadS ⟨b1, 2, none⟩ bv ta29 rfl (st7.cellB (i := 0) rfl rfl) ?_)
   refine W1 (OpT.move (ni i) hs10 ?_)
   obtain ⟨x16, hx16⟩ : ∃ x, (y.body)[i]? = some x := ⟨_, List.getElem?_eq_getElem (by omega)⟩
   refine W1 (OpT.idxX tu29 ts61 hb rfl .i64 (i) rfl hx16 (fun ad17 cs18 hr19 hR20 => ?_))
   have hR20c := hR20
   obtain ⟨av21, lk22, rk23, rfl, ha24, hl25, hr26⟩ := hR20
   have hR20l := partsL_le x16 (lf - partsR y lf (y.body.take i))
   refine W1 (OpT.loadA ad17 16 [(.int .i8 (x16.kind)), (.string x16.atom.pred), av21, (.int .i8 (x16.rel)), (.int .i8 (x16.left.op)), (.string x16.left.term.var), (.int .i8 (x16.left.term.val.kind)), (.int .i64 (x16.left.term.val.num)), (.string x16.left.term.val.text), lk22, (.int .i8 (x16.right.op)), (.string x16.right.term.var), (.int .i8 (x16.right.term.val.kind)), (.int .i64 (x16.right.term.val.num)), (.string x16.right.term.val.text), rk23] ta61 ts61 rfl ((hr19.at st7).part 0 16) rfl ?_)
   refine W1 (OpT.move (ni lf) hs11 ?_)
   refine W1 (OpT.move (.int .i64 ((((partsR y lf (y.body.take i)) : Nat) : Int))) hs9 ?_)
   refine W1 (OpT.isub .i64 (((lf : Nat) : Int)) ((((partsR y lf (y.body.take i)) : Nat) : Int)) (((lf - (partsR y lf (y.body.take i)) : Nat) : Int)) rfl rfl (wsub (a := lf) (b := (partsR y lf (y.body.take i))) (by omega) (by omega)) ?_)
   refine W1 (OpT.callS cal23 [] [] [(.agg #[(.int .i8 (x16.kind)), (.string x16.atom.pred), av21, (.int .i8 (x16.rel)), (.int .i8 (x16.left.op)), (.string x16.left.term.var), (.int .i8 (x16.left.term.val.kind)), (.int .i64 (x16.left.term.val.num)), (.string x16.left.term.val.text), lk22, (.int .i8 (x16.right.op)), (.string x16.right.term.var), (.int .i8 (x16.right.term.val.kind)), (.int .i64 (x16.right.term.val.num)), (.string x16.right.term.val.text), rk23]), (.int .i64 (((lf - (partsR y lf (y.body.take i)) : Nat) : Int)))] rfl (ca2 rfl rfl) (literalParts_spec st7 x16 _ _ _ ha24 hl25 hr26 (lf - (partsR y lf (y.body.take i))) (by omega)) ?_)
   rintro v27 w28 ⟨rfl, st29⟩
   refine W1 (OpT.iadd .i64 ((((partsR y lf (y.body.take i)) : Nat) : Int)) ((((partsL x16 (lf - (partsR y lf (y.body.take i)))) : Nat) : Int)) ((((partsR y lf (y.body.take i)) + (partsL x16 (lf - (partsR y lf (y.body.take i)))) : Nat) : Int)) rfl rfl (wadd (a := (partsR y lf (y.body.take i))) (b := (partsL x16 (lf - (partsR y lf (y.body.take i))))) (by omega)) ?_)
   refine W1 (OpT.assign (.int .i64 ((((partsR y lf (y.body.take i)) + (partsL x16 (lf - (partsR y lf (y.body.take i)))) : Nat) : Int))) rfl ?_)
   refine WL.nil ?_
   refine blkQ_n ?_
   refine thenQ_n ?_
   refine WC.region ?_
   refine W1 (OpT.move (ni i) hs10 ?_)
   refine W1 (OpT.iadd .i64 (((i : Nat) : Int)) (1) (((i + 1 : Nat) : Int)) rfl rfl (wadd (a := i) (b := 1) (by omega)) ?_)
   refine W1 (OpT.assign (ni (i + 1)) rfl ?_)
   refine WL.nil ?_
   have e30 : partsR y lf (y.body.take (i + 1)) = (partsR y lf (y.body.take i)) + (partsL x16 (lf - (partsR y lf (y.body.take i)))) := by rw [partsR_step hx16, partsS, if_pos (by omega)]
   exact loopQ_n _ (by omega) ⟨i + 1, rfl, by omega, ((congrArg (fun n : Nat => Value.int .i64 (n : Int)) e30.symm)), rfl, hs11, hs12, st29⟩
  refine WC.exit ?_
  refine thenQ_x ?_
  refine loopQ_x ?_
  refine blkQ_hit ?_
  refine thenQ_n ?_
  refine Wsr ?_
  refine W1 (OpT.move (.int .i64 ((((partsR y lf (y.body.take i)) : Nat) : Int))) hs9 ?_)
  refine W1 (OpT.assign (.int .i64 ((((partsR y lf (y.body.take i)) : Nat) : Int))) rfl ?_)
  refine Wnt ?_
  refine WC.ret <| retQ.one (.int .i64 ((((partsR y lf (y.body.take i)) : Nat) : Int))) rfl ?_
  exact ⟨_, rfl, by rw [partsR_stop (y := y) (lf := lf) (xs := y.body) (i := i) (by omega)], (St.selT [Blk b1 31 [(.string y.pred), av, bv]] [] rfl (by decide) st7)⟩
 refine WL.pass (dj := 16) (c := false) rfl rfl rfl (bF h14) rfl ?_
 refine WL.pass (dj := 16) (c := false) rfl rfl rfl (bF h14) rfl ?_
 refine WL.pass (dj := 16) (c := false) rfl rfl rfl (bF h14) rfl ?_
 refine W1 (OpT.pickF (.bool false) (bF h14) rfl ?_)
 refine Wnt ?_
 refine WC.condF rfl ?_
 refine WC.exit ?_
 refine thenQ_x ?_
 refine loopQ_x ?_
 refine blkQ_hit ?_
 refine thenQ_n ?_
 refine Wsr ?_
 refine W1 (OpT.move (.int .i64 ((((partsR y lf (y.body.take i)) : Nat) : Int))) hs9 ?_)
 refine W1 (OpT.assign (.int .i64 ((((partsR y lf (y.body.take i)) : Nat) : Int))) rfl ?_)
 refine Wnt ?_
 refine WC.ret <| retQ.one (.int .i64 ((((partsR y lf (y.body.take i)) : Nat) : Int))) rfl ?_
 have eT : y.body.take i = y.body := List.take_of_length_le (by omega)
 exact ⟨_, rfl, by rw [eT], (St.selT [Blk b1 31 [(.string y.pred), av, bv]] [] rfl (by decide) st7)⟩

theorem BeyondRules_spec {Z : Nat → Prop} {w0 w : World} {L : List Res} (st : St Z w0 w L) (v : Value) (rs : List Rul) (hv : rRul.sl Z w0 v rs) : Calls Try.prog 4 #[v] w (Ret fun r w' => r = .bool (beyondB rs) ∧ St Z w0 w' L) := by
 have hal := Rl.sl_le hv
 refine calls_of_WC (m := 20) (rs := [.tmp 2]) Try.func4 rfl rfl rfl rfl ?_
 refine Wsr ?_
 refine W1 (OpT.assign (.bool false) rfl ?_)
 refine Wns ?_
 refine W1 (OpT.assign (ii 0) rfl ?_)
 refine Wnt ?_
 refine WC.seq ?_
 refine Wsr ?_
 refine W1 (OpT.assign (ii 0) rfl ?_)
 refine Wnt ?_
 refine WC.block ?_
 refine WC.loop (fun m ρ wz => ∃ (i : Nat), ∃ (n : Nat), m = rs.length - i ∧ i ≤ rs.length ∧ n ≤ 1048576 ∧ bsum (rs.drop i) n = beyondB rs ∧ ρ 3 = (ni n) ∧ ρ 4 = (ni i) ∧ ρ 0 = v ∧ St Z w0 wz (L)) _ ⟨0, 0, rfl, by omega, by omega, rfl, rfl, rfl, rfl, st⟩ ?_
 rintro m1 ρ2 w3 ⟨i, n, hm10, hp5, hp6, HB, hs8, hs7, hs9, st4⟩
 refine WC.seq ?_
 refine Wsr ?_
 refine W1 (OpT.move (ni i) hs7 ?_)
 refine W1 (OpT.move v hs9 ?_)
 refine W1 (OpT.lenR rfl tu22 hv rfl ?_)
 refine W1 (OpT.ilt .i64 (((i : Nat) : Int)) (((rs.length : Nat) : Int)) rfl rfl ?_)
 refine Wnt ?_
 refine WC.condP (((i : Nat) : Int) < ((rs.length : Nat) : Int)) rfl (fun h11 => ?_) (fun h11 => ?_)
 ·refine WC.skip ?_
  refine thenQ_n ?_
  refine WC.seq ?_
  refine WC.block ?_
  refine Wsr ?_
  refine W1 (OpT.move (ni n) hs8 ?_)
  refine W1 (OpT.move v hs9 ?_)
  refine W1 (OpT.move (ni i) hs7 ?_)
  obtain ⟨x12, hx12⟩ : ∃ x, (rs)[i]? = some x := ⟨_, List.getElem?_eq_getElem (by omega)⟩
  refine W1 (OpT.idxX tu22 ts31 hv rfl .i64 (i) rfl hx12 (fun ad13 cs14 hr15 hR16 => ?_))
  have hR16c := hR16
  obtain ⟨hv17, bv18, rfl, hh19, hb20⟩ := hR16
  have hR16h := Rl.sl_le hh19
  have hR16l := partsS_le (lf := 1048576) x12.body (1 + x12.head.length)
  have hR16e : partsR x12 1048576 x12.body = x12.body.foldl (partsS 1048576) (1 + x12.head.length) := rfl
  refine W1 (OpT.loadA ad13 3 [(.string x12.pred), hv17, bv18] ta31 ts31 rfl ((hr15.at st4).part 0 3) rfl ?_)
  refine W1 (OpT.callS cal10 [] [] [(.agg #[(.string x12.pred), hv17, bv18]), (ii 1048576)] rfl (ca2 rfl rfl) (RuleParts_spec st4 x12 _ _ hh19 hb20 1048576 (by omega)) ?_)
  rintro v21 w22 ⟨rfl, st23⟩
  refine W1 (OpT.iadd .i64 (((n : Nat) : Int)) ((((partsR x12 1048576 x12.body) : Nat) : Int)) (((n + (partsR x12 1048576 x12.body) : Nat) : Int)) rfl rfl (wadd (a := n) (b := (partsR x12 1048576 x12.body)) (by omega)) ?_)
  refine W1 (OpT.assign (.int .i64 (((n + (partsR x12 1048576 x12.body) : Nat) : Int))) rfl ?_)
  refine Wns ?_
  refine W1 (OpT.move (.int .i64 (((n + (partsR x12 1048576 x12.body) : Nat) : Int))) rfl ?_)
  refine W1 (OpT.igt .i64 (((n + (partsR x12 1048576 x12.body) : Nat) : Int)) (1048576) rfl rfl ?_)
  refine Wnt ?_
  refine WC.condP (1048576 < ((n + (partsR x12 1048576 x12.body) : Nat) : Int)) rfl (fun h24 => ?_) (fun h24 => ?_)
  ·refine WC.seq ?_
   refine WC.region ?_
   refine W1 (OpT.assign (.bool true) rfl ?_)
   refine Wnt ?_
   refine WC.ret <| blkQ_r <| thenQ_r <| loopQ_r <| blkQ_r <| thenQ_r <| retQ.one (.bool true) rfl ?_
   rw [bsum_at hx12, if_pos (by omega)] at HB
   exact ⟨_, rfl, by rw [← HB], st23⟩
  refine WC.skip ?_
  refine blkQ_n ?_
  refine thenQ_n ?_
  refine WC.region ?_
  refine W1 (OpT.move (ni i) hs7 ?_)
  refine W1 (OpT.iadd .i64 (((i : Nat) : Int)) (1) (((i + 1 : Nat) : Int)) rfl rfl (wadd (a := i) (b := 1) (by omega)) ?_)
  refine W1 (OpT.assign (ni (i + 1)) rfl ?_)
  refine WL.nil ?_
  rw [bsum_at hx12, if_neg (by omega)] at HB
  exact loopQ_n _ (by omega) ⟨i + 1, n + (partsR x12 1048576 x12.body), rfl, by omega, by omega, HB, rfl, rfl, hs9, st23⟩
 refine WC.exit ?_
 refine thenQ_x ?_
 refine loopQ_x ?_
 refine blkQ_hit ?_
 refine thenQ_n ?_
 refine Wsr ?_
 refine W1 (OpT.assign (.bool false) rfl ?_)
 refine Wnt ?_
 refine WC.ret <| retQ.one (.bool false) rfl ?_
 rw [List.drop_of_length_le (by omega), bsum] at HB
 exact ⟨_, rfl, by rw [← HB], st4⟩

end Go.Ped
