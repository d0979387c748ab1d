/- slices.overlaps of two own arrays. -/
import Derived.Test.YtdbpdcnpolaojaaDoorJ3
import Derived.Lib.Overlaps
set_option linter.all false
set_option linter.unusedVariables false
set_option linter.unusedSimpArgs false
namespace Go.Sym
open Go
theorem Named.len {x : Unit → List (List PV)} {K : List (List PV) → Prop} (k : ∀ l, l = x () → l.length = (x ()).length → K l) : Named (List (List PV)) x K := .mk fun n hn => k n hn (by rw [hn])
theorem Fn.lend {P : Program} {f : Nat} {pre post res : List PV} {H H' : List Sym.Obj} {nn sz : Nat} {full : Bool} {rows : List (List PV)} (h : Fn P f (pre ++ .sl true nn full sz rows :: post) H res H') : Fn P f (pre ++ .sl false nn full sz rows :: post) H res H' := by
  have key : ∀ {c : RC} {vs : Array Value}, (∀ b, c.Xk b → c.Xr b) → RepL c (pre ++ .sl false nn full sz rows :: post) vs → RepL c (pre ++ .sl true nn full sz rows :: post) vs := by
    intro c vs kr hr
    refine hr.set fun v q => ?_
    have hv : Rep c (.sl false nn full sz rows) v := hr.2 pre.length _ v (by simp) q
    generalize hx : PV.sl false nn full sz rows = x at hv
    cases hv with
    | plain p =>
      cases p with
      | slnil => cases hx; exact .slbnil _ _
      | sl _ _ _ a n cap _ vals hn' hc hf2 h2 hX hs' hcell h1 hrep => cases hx; exact .slb nn full rows a n cap sz vals hn' hc hf2 h2 (fun e => ⟨kr _ (hX e).1, (hX e).2⟩) hs' hcell h1 hrep
      | _ => cases hx
    | _ => cases hx
  rcases h with ⟨h1, h2⟩ | ⟨h1, h2⟩
  · exact .inl ⟨h1, fun c vs h64 hi hr => h2 c vs h64 hi (key hi.kr hr)⟩
  · exact .inr ⟨h1, fun c vs h64 hi hr => h2 c vs h64 hi (key hi.kr hr)⟩
theorem Ex.at {rows : List (List PV)} {i : Int} {K : List PV → Prop} (r : List PV) (h : 0 ≤ i ∧ rows[i.toNat]? = some r) (k : K r) : Ex (List PV) (fun row => 0 ≤ i ∧ rows[i.toNat]? = some row) K := .mk r h k
theorem Ex.known (O : Opq) {α : Type} {e : List α → List (List PV)} (f : α → List PV) (he : e = List.map f) {l : List α} {k : Nat} {x : α} (hx : l[k]? = some x) {i : Int} {K : List PV → Prop} (hi : i = k) (h : K (f x)) : Ex (List PV) (fun row => 0 ≤ i ∧ (O.o e l)[i.toNat]? = some row) K :=
  .mk (f x) ⟨by omega, by rw [hi, Int.toNat_natCast, O.h, he, List.getElem?_map, hx]; rfl⟩ h
theorem shape_of_cell {w : World} {a : Addr} {v : Value} (h : w.cell? a = some v) : ∃ t n, w.shape? a.block = some (t, n) ∧ n ≠ 0 := by
  unfold World.cell? at h
  unfold World.shape?
  split at h
  · rename_i c e fr hc
    refine ⟨e, c.size, rfl, fun h0 => ?_⟩
    have : c = #[] := Array.eq_empty_of_size_eq_zero h0
    subst this
    split at h
    · cases h
    · simp at h
  · cases h
theorem overlaps_fn {P : Program} {f : Nat} {fn : Func} {tS tR e : TypeId} {sz : Nat} (hf : P.funcs[f]? = some fn) (hn : (fn.name == "runtime.NumGoroutine") = false) (hb : fn.body.isNone = true) (hx : Extern.findNext fn = none)
    (he : Extern.find fn = some (Extern.SlicesOverlaps.overlaps #[tS, tS] #[tR])) (ht : P.underlying tS = some (.slice e)) (hz : ∀ w, (Go.sizeOf e).run P w = .ok sz w) (h1 : sz ≠ 1) (h0 : 0 < sz)
    {nn0 nn1 lo n : Nat} {cap0 cap1 : Option Nat} {rows0 rows1 : List (List PV)} {full : Bool} (hr : rows0 ≠ []) (hpos : 0 < n) :
    Fn P f [.ref 0, .sub 1 full lo n] [.arr nn0 cap0 sz rows0, .arr nn1 cap1 sz rows1] [.bool false] [.arr nn0 cap0 sz rows0, .arr nn1 cap1 sz rows1] := by
  refine .inr ⟨rfl, fun c us h64 hi h => ⟨.bool false, ?_, .plain (.bool _)⟩⟩
  obtain ⟨hs, h⟩ := h
  match us, hs with
  | ⟨[u0, u1]⟩, _ =>
  have r0 : Rep c (.ref 0) u0 := h 0 _ u0 rfl rfl
  have r1 : Rep c (.sub 1 full lo n) u1 := h 1 _ u1 rfl rfl
  obtain ⟨e0, _, _⟩ := r0.ref_inv
  obtain ⟨z0, o0⟩ := hi.obj 0 _ rfl
  obtain ⟨z1, o1⟩ := hi.obj 1 (.arr nn1 cap1 sz rows1) rfl
  rcases o0 with ⟨_, hr0, _⟩ | ⟨b0, off0, k0, hv0, _, _, hlt0, A0, _⟩
  · exact absurd hr0 hr
  rcases o1 with ⟨hnil, _⟩ | ⟨b1, off1, k1, hv1, _, _, hlt1, A1, _⟩
  · cases r1 with
    | plain p => cases p
    | subnil => exact absurd hpos (by omega)
    | sub _ _ _ _ _ _ _ _ _ _ _ hv' => rw [hv'] at hnil; cases hnil
  have hne : b0 ≠ b1 := fun e => by
    have := hi.dis 0 1 (.arr nn0 cap0 sz rows0) (.arr nn1 cap1 sz rows1) b0 rfl rfl trivial trivial (by omega) (by rw [hv0]; rfl)
    exact this (by rw [hv1, e]; rfl)
  cases r1 with
  | plain p => cases p
  | subnil => exact absurd hpos (by omega)
  | sub _ _ _ _ b' o' len cap cap' a hd hv' hn' hf' hg ha hl =>
    rw [hv1] at hv'
    injection hv' with q1 q2 q3
    injection q1 with q1
    injection q1 with q4 q5
    subst q4; subst q5; subst q2; subst q3
    have ea := ha (.inl (by omega))
    subst ea
    rw [e0, hv0]
    have hcell0 : ∃ v, c.w.cell? ⟨b0, off0, none⟩ = some v := by
      have hl0 : 0 < rows0.length := List.length_pos_iff.2 hr
      have hp : 0 < k0 * sz := Nat.mul_pos (by have := A0.hc; omega) h0
      obtain ⟨⟨v, hv, _⟩, _⟩ := A0.room 0 hp
      exact ⟨v, hv⟩
    have hfa : c.w.frozen? ⟨b0, off0, none⟩ = false := by
      have hl0 : 0 < rows0.length := List.length_pos_iff.2 hr
      have hp : 0 < k0 * sz := Nat.mul_pos (by have := A0.hc; omega) h0
      exact (A0.room 0 hp).2
    have hcell1 : ∃ v, c.w.cell? ⟨b1, off1 + lo * (c.θ 1).sz, none⟩ = some v := by
      rw [z1]
      have hk : lo + 1 ≤ k1 := by have := A1.hc; omega
      have : (lo + 1) * sz ≤ k1 * sz := Nat.mul_le_mul_right _ hk
      rw [Nat.add_mul, Nat.one_mul] at this
      obtain ⟨⟨v, hv, _⟩, _⟩ := A1.room (lo * sz) (by omega)
      exact ⟨v, hv⟩
    obtain ⟨v0, hc0⟩ := hcell0
    obtain ⟨v1, hc1⟩ := hcell1
    obtain ⟨tA, kA, sA, _⟩ := shape_of_cell hc0
    obtain ⟨tB, kB, sB, hkB⟩ := shape_of_cell hc1
    rw [run_callFunc_extern hf hn hb hx he]
    rw [show (⟨[Value.slice (some ⟨b0, off0, none⟩) rows0.length k0, Value.slice (some ⟨b1, off1 + lo * (c.θ 1).sz, none⟩) n cap']⟩ : Array Value) = #[Value.slice (some ⟨b0, off0, none⟩) rows0.length k0, Value.slice (some ⟨b1, off1 + lo * (c.θ 1).sz, none⟩) n cap'] from rfl]
    rw [Lib.run_overlaps_apart c.w tS tR e ht sz hz _ _ _ _ _ _ hne tA tB kA kB sA sB hkB hfa (A0.endok h1 _ _ sA)]
    rfl
end Go.Sym
namespace Go.Sym
open Go
inductive WkA : PV → PV → Prop
  | wk {x y : PV} (h : Wk x y) : WkA x y
  | lend {sz : Nat} {full full' : Bool} {rows : List (List PV)} (hf : impB full full' = true) : WkA (.sl true 0 full sz rows) (.sl false 0 full' sz rows)
  | bor {nn sz : Nat} {full full' : Bool} {rows rows' : List (List PV)} (hf : impB full full' = true) (hr : WkR rows rows') : WkA (.sl true 0 full sz rows) (.sl true nn full' sz rows')
  | agg {xs ys : List PV} (hl : xs.length = ys.length) (h : ∀ (i : Nat) x y, xs[i]? = some x → ys[i]? = some y → WkA x y) : WkA (.agg xs) (.agg ys)
structure WkAL (xs ys : List PV) : Prop where
  len : xs.length = ys.length
  at' : ∀ (j : Nat) x y, xs[j]? = some x → ys[j]? = some y → WkA x y
theorem WkA.refl (x : PV) : WkA x x := .wk (.refl x)
theorem WkAL.nil : WkAL [] [] := ⟨rfl, by simp⟩
theorem WkAL.refl (xs : List PV) : WkAL xs xs := ⟨rfl, fun j x y h1 h2 => by rw [h1] at h2; cases h2; exact .refl x⟩
theorem WkAL.cons {x y : PV} {xs ys : List PV} (h : WkA x y) (t : WkAL xs ys) : WkAL (x :: xs) (y :: ys) :=
  ⟨by simp [t.len], fun j a b p q => by
    cases j with
    | zero => simp at p q; subst p; subst q; exact h
    | succ j => exact t.at' j a b (by simpa using p) (by simpa using q)⟩
theorem WkA.agg' {xs ys : List PV} (h : WkAL xs ys) : WkA (.agg xs) (.agg ys) := .agg h.len h.at'
theorem Rep.wkA {c : RC} (kr : ∀ b, c.Xk b → c.Xr b) {x y : PV} (h : WkA x y) : ∀ {v : Value}, Rep c y v → Rep c x v := by
  induction h with
  | wk h => exact fun p => p.wk h
  | @lend sz full full' rows hf =>
    intro v hv
    have hv : Rep c (.sl false 0 full sz rows) v := hv.wk (.sl' rfl hf (.refl _))
    generalize hx : PV.sl false 0 full sz rows = x at hv
    cases hv with
    | plain p =>
      cases p with
      | slnil => cases hx; exact .slbnil _ _
      | sl _ _ _ a n cap _ vals hn' hc hf2 h2 hX hs' hcell h1 hrep => cases hx; exact .slb 0 full rows a n cap sz vals hn' hc hf2 h2 (fun e => ⟨kr _ (hX e).1, (hX e).2⟩) hs' hcell h1 hrep
      | _ => cases hx
    | _ => cases hx
  | @bor nn sz full full' rows rows' hf hr =>
    intro v hv
    replace hv := hv.wkR hr
    have hff : ∀ {cap n : Nat}, (full' = true → cap = n) → full = true → cap = n := fun h e => h (by cases full <;> cases full' <;> simp_all [impB])
    generalize hx : PV.sl true nn full' sz rows = x at hv
    cases hv with
    | plain p => cases p <;> cases hx
    | slbnil => cases hx; exact .slbnil _ _
    | slb _ _ _ a n cap _ vals hn' hc hf2 h2 hX hs' hcell h1 hrep => cases hx; exact .slb 0 full rows a n cap sz vals hn' hc (hff hf2) (fun e => by cases e) hX hs' hcell h1 hrep
    | _ => cases hx
  | @agg xs ys hl _ ih =>
    intro v p
    obtain ⟨vs, rfl, hr⟩ := p.agg_inv
    refine .agg _ vs (by rw [hl]; exact hr.1) fun i x v q r => ?_
    have hi := (List.getElem?_eq_some_iff.1 q).1
    have hi' : i < ys.length := by rw [← hl]; exact hi
    exact ih i x ys[i] q (by simp [hi']) (hr.2 i ys[i] v (by simp [hi']) r)
theorem Fn.wkA {P : Program} {f : Nat} {args args' res : List PV} {H H' : List Sym.Obj} (h : Fn P f args H res H') (w : WkAL args args') : Fn P f args' H res H' := by
  have key : ∀ {c : RC} {vs : Array Value}, (∀ b, c.Xk b → c.Xr b) → RepL c args' vs → RepL c args vs := by
    intro c vs kr hr
    refine ⟨by rw [w.len]; exact hr.1, fun i x v q r => ?_⟩
    have hi := (List.getElem?_eq_some_iff.1 q).1
    have hi' : i < args'.length := by rw [← w.len]; exact hi
    exact (hr.2 i args'[i] v (by simp [hi']) r).wkA kr (w.at' i x args'[i] q (by simp [hi']))
  rcases h with ⟨h1, h2⟩ | ⟨h1, h2⟩
  · exact .inl ⟨h1, fun c vs h64 hi hr => h2 c vs h64 hi (key hi.kr hr)⟩
  · exact .inr ⟨h1, fun c vs h64 hi hr => h2 c vs h64 hi (key hi.kr hr)⟩
end Go.Sym
