/- slices.overlaps of two own arrays. -/
import Derived.Test.YtfdbdalnpdgfmaaGreatDoorJ3
import Derived.Lib.Overlaps
set_option linter.all false
set_option linter.unusedVariables false
set_option linter.unusedSimpArgs false
namespace Go.Sym
open Go
theorem Named.len {x:Unit→List (List PV)} {K:List (List PV)→Prop} (k:∀ l,l=x ()→l.length=(x ()).length→K l):Named (List (List PV)) x K:=.mk fun n hn=>k n hn (by rw[hn])
theorem Fn.lend {P:Program} {f:Nat} {pre post res:List PV} {H H':List Sym.Obj} {nn sz:Nat} {full:Bool} {rows:List (List PV)} (h:Fn P f (pre++.sl true nn full sz rows::post) H res H'):Fn P f (pre++.sl false nn full sz rows::post) H res H':=by
 have key:∀ {c:RC} {vs:Array Value},(∀ b,c.Xk b→c.Xr b)→RepL c (pre++.sl false nn full sz rows::post) vs→RepL c (pre++.sl true nn full sz rows::post) vs:=by
  intro c vs kr hr
  refine hr.set fun v q=>?_
  have hv:Rep c (.sl false nn full sz rows) v:=hr.2 pre.length _ v (by simp) q
  generalize hx:PV.sl false nn full sz rows=x at hv
  cases hv with
  | plain p =>
   cases p with
   | slnil=>cases hx;exact .slbnil _ _
   | sl _ _ _ a n cap _ vals hn' hc hf2 h2 hX hs' hcell h1 hrep=>cases hx;exact .slb nn full rows a n cap sz vals hn' hc hf2 h2 (fun e=>⟨kr _ (hX e).1,(hX e).2⟩) hs' hcell h1 hrep
   | _=>cases hx
  | _=>cases hx
 rcases h with ⟨h1,h2⟩ | ⟨h1,h2⟩
 ·exact .inl ⟨h1,fun c vs h64 hi hr=>h2 c vs h64 hi (key hi.kr hr)⟩
 ·exact .inr ⟨h1,fun c vs h64 hi hr=>h2 c vs h64 hi (key hi.kr hr)⟩
theorem Ex.at {rows:List (List PV)} {i:Int} {K:List PV→Prop} (r:List PV) (h:0≤i∧rows[i.toNat]?=some r) (k:K r):Ex (List PV) (fun row=>0≤i∧rows[i.toNat]?=some row) K:=.mk r h k
theorem Ex.known (O:Opq) {α:Type} {e:List α→List (List PV)} (f:α→List PV) (he:e=List.map f) {l:List α} {k:Nat} {x:α} (hx:l[k]?=some x) {i:Int} {K:List PV→Prop} (hi:i=k) (h:K (f x)):Ex (List PV) (fun row=>0≤i∧(O.o e l)[i.toNat]?=some row) K :=
 .mk (f x) ⟨by omega,by rw[hi,Int.toNat_natCast,O.h,he,List.getElem?_map,hx];rfl⟩ h
inductive WkA:PV→PV→Prop
 | wk {x y:PV} (h:Wk x y):WkA x y
 | lend {sz:Nat} {full full':Bool} {rows:List (List PV)} (hf:impB full full'=true):WkA (.sl true 0 full sz rows) (.sl false 0 full' sz rows)
 | bor {nn sz:Nat} {full full':Bool} {rows rows':List (List PV)} (hf:impB full full'=true) (hr:WkR rows rows'):WkA (.sl true 0 full sz rows) (.sl true nn full' sz rows')
 | agg {xs ys:List PV} (hl:xs.length=ys.length) (h:∀ (i:Nat) x y,xs[i]?=some x→ys[i]?=some y→WkA x y):WkA (.agg xs) (.agg ys)
structure WkAL (xs ys:List PV):Prop where
 len:xs.length=ys.length
 at':∀ (j:Nat) x y,xs[j]?=some x→ys[j]?=some y→WkA x y
theorem WkA.refl (x:PV):WkA x x:=.wk (.refl x)
theorem WkAL.nil:WkAL [] []:=⟨rfl,by simp⟩
theorem WkAL.refl (xs:List PV):WkAL xs xs:=⟨rfl,fun j x y h1 h2=>by rw[h1] at h2;cases h2;exact .refl x⟩
theorem WkAL.cons {x y:PV} {xs ys:List PV} (h:WkA x y) (t:WkAL xs ys):WkAL (x::xs) (y::ys) :=
 ⟨by simp [t.len],fun j a b p q=>by
  cases j with
  | zero=>simp at p q;subst p;subst q;exact h
  | succ j=>exact t.at' j a b (by simpa using p) (by simpa using q)⟩
theorem WkA.agg' {xs ys:List PV} (h:WkAL xs ys):WkA (.agg xs) (.agg ys):=.agg h.len h.at'
theorem Rep.wkA {c:RC} (kr:∀ b,c.Xk b→c.Xr b) {x y:PV} (h:WkA x y):∀ {v:Value},Rep c y v→Rep c x v:=by
 induction h with
 | wk h=>exact fun p=>p.wk h
 | @lend sz full full' rows hf =>
  intro v hv
  have hv:Rep c (.sl false 0 full sz rows) v:=hv.wk (.sl' rfl hf (.refl _))
  generalize hx:PV.sl false 0 full sz rows=x at hv
  cases hv with
  | plain p =>
   cases p with
   | slnil=>cases hx;exact .slbnil _ _
   | sl _ _ _ a n cap _ vals hn' hc hf2 h2 hX hs' hcell h1 hrep=>cases hx;exact .slb 0 full rows a n cap sz vals hn' hc hf2 h2 (fun e=>⟨kr _ (hX e).1,(hX e).2⟩) hs' hcell h1 hrep
   | _=>cases hx
  | _=>cases hx
 | @bor nn sz full full' rows rows' hf hr =>
  intro v hv
  replace hv:=hv.wkR hr
  have hff:∀ {cap n:Nat},(full'=true→cap=n)→full=true→cap=n:=fun h e=>h (by cases full<;>cases full'<;>simp_all [impB])
  generalize hx:PV.sl true nn full' sz rows=x at hv
  cases hv with
  | plain p=>cases p<;>cases hx
  | slbnil=>cases hx;exact .slbnil _ _
  | slb _ _ _ a n cap _ vals hn' hc hf2 h2 hX hs' hcell h1 hrep=>cases hx;exact .slb 0 full rows a n cap sz vals hn' hc (hff hf2) (fun e=>by cases e) hX hs' hcell h1 hrep
  | _=>cases hx
 | @agg xs ys hl _ ih =>
  intro v p
  obtain⟨vs,rfl,hr⟩:=p.agg_inv
  refine .agg _ vs (by rw[hl];exact hr.1) fun i x v q r=>?_
  have hi:=(List.getElem?_eq_some_iff.1 q).1
  have hi':i<ys.length:=by rw[← hl];exact hi
  exact ih i x ys[i] q (by simp [hi']) (hr.2 i ys[i] v (by simp [hi']) r)
theorem Fn.wkA {P:Program} {f:Nat} {args args' res:List PV} {H H':List Sym.Obj} (h:Fn P f args H res H') (w:WkAL args args'):Fn P f args' H res H':=by
 have key:∀ {c:RC} {vs:Array Value},(∀ b,c.Xk b→c.Xr b)→RepL c args' vs→RepL c args vs:=by
  intro c vs kr hr
  refine⟨by rw[w.len];exact hr.1,fun i x v q r=>?_⟩
  have hi:=(List.getElem?_eq_some_iff.1 q).1
  have hi':i<args'.length:=by rw[← w.len];exact hi
  exact(hr.2 i args'[i] v (by simp [hi']) r).wkA kr (w.at' i x args'[i] q (by simp [hi']))
 rcases h with ⟨h1,h2⟩ | ⟨h1,h2⟩
 ·exact .inl ⟨h1,fun c vs h64 hi hr=>h2 c vs h64 hi (key hi.kr hr)⟩
 ·exact .inr ⟨h1,fun c vs h64 hi hr=>h2 c vs h64 hi (key hi.kr hr)⟩
end Go.Sym
