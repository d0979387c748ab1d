/- A law's arguments: from how they are read to pure values. -/
import Derived.OpenShut
import Derived.Test.YtjlefaabcalkkaaGreatDoorJ3
import Derived.ChangeArms
import Derived.DataReads
import Derived.Lib.Bytealg
import Derived.Lib.Overlaps
set_option linter.all false
set_option linter.unusedVariables false
set_option linter.unusedSimpArgs false
namespace Go.Sym
open Go
def shape (P:Program):Nat→Nat→List PV→Prop
 | 0,_,_=>False
 | n+1,t,xs=>match P.underlying t with
  | some .bool=>∃ b,xs=[.bool b]
  | some (.int k)=>∃ m,xs=[.int k m]∧(Lit.int k m).wf=true
  | some .string=>∃ s:ByteArray,xs=[.str s]∧s.size≤maxLen
  | some (.slice e)=>xs=[.nils]∨∃ rows,xs=[.sl false 1 false (P.cellsOf e) rows]∧rows.length≤maxLen∧∀ r∈rows,shape P n e r
  | some (.struct fs)=>xs.length=P.cellsOf t∧∀ f∈fs.toList,shape P n f.type ((xs.drop f.offset).take (P.cellsOf f.type))
  | some (.array m e)=>xs.length=P.cellsOf t∧∀ i,i<m→shape P n e ((xs.drop (i * P.cellsOf e)).take (P.cellsOf e))
  | _=>False
def contigB (P:Program):List Field→Nat→Nat→Bool
 | [],o,n=>Nat.beq o n
 | f::fs,o,n=>Nat.beq f.offset o && contigB P fs (o+P.cellsOf f.type) n
def closedB (P:Program) (ts:List Nat):Bool:=ts.all fun t=>match P.underlying t with
 | some .bool=>true
 | some (.int _)=>true
 | some .string=>true
 | some (.slice e)=>Nat.blt 0 (P.cellsOf e) && memN ts e
 | some (.struct fs)=>contigB P fs.toList 0 (P.cellsOf t) && fs.toList.all fun f=>memN ts f.type
 | some (.array m e)=>Nat.beq (P.cellsOf t) (m * P.cellsOf e) && memN ts e
 | _=>false
section
variable {H:Type} {enc:TypeId×Value→H} {P:Program} {w:World} {spare:Nat→Bool} {held:Bool}
structure ArgOk (P:Program) (w:World) (n t:Nat) (cs:List Value) (xs:List PV):Prop where
 len:xs.length=cs.length
 shape:shape P n t xs
 rep:∀ (j:Nat) x v,xs[j]?=some x→cs[j]?=some v→PRep w (·<w.heap.size) x v
 one:∀ v∈cs,v.oneCell'=true
theorem contig_le:∀ {l:List Field} {o n:Nat},contigB P l o n=true→o≤n
 | [],o,n,h=>by simp only [contigB] at h;exact Nat.le_of_eq (Nat.eq_of_beq_eq_true h)
 | f::l,o,n,h=>by
  simp only [contigB,Bool.and_eq_true] at h
  have:=contig_le h.2
  omega
theorem struct_rep {n:Nat} {cs:List Value}:∀ {l:List Field} {o:Nat},contigB P l o cs.length=true→(∀ f∈l,∃ r,ArgOk P w n f.type ((cs.drop f.offset).take (P.cellsOf f.type)) r) →
  ∃ ys:List PV,ys.length=cs.length-o∧(∀ f∈l,o≤f.offset∧Go.Sym.shape P n f.type ((ys.drop (f.offset-o)).take (P.cellsOf f.type)))∧(∀ (j:Nat) x v,ys[j]?=some x→cs[o+j]?=some v→PRep w (·<w.heap.size) x v)∧∀ v∈cs.drop o,v.oneCell'=true
 | [],o,h,_=>by
  simp only [contigB] at h
  obtain rfl:=Nat.eq_of_beq_eq_true h
  exact⟨[],by simp,by simp,by simp,by simp⟩
 | f::l,o,h,hf=>by
  have hle:=contig_le h
  simp only [contigB,Bool.and_eq_true] at h
  obtain⟨ho,h⟩:=h
  obtain rfl:=Nat.eq_of_beq_eq_true ho
  have hle2:=contig_le h
  obtain⟨r,hr⟩:=hf f (by simp)
  obtain⟨ys,h1,h2,h3,h4⟩:=struct_rep h fun g hg=>hf g (by simp [hg])
  have hrl:r.length=P.cellsOf f.type:=by rw[hr.len];simp;omega
  refine⟨r++ys,by simp [hrl,h1];omega,fun g hg=>?_,fun j x v p q=>?_,fun v hv=>?_⟩
  ·rcases List.mem_cons.1 hg with rfl|hg
   ·refine⟨Nat.le_refl _,?_⟩
    rw[Nat.sub_self,List.drop_zero,← hrl,List.take_left]
    exact hr.shape
   ·obtain⟨k1,k2⟩:=h2 g hg
    refine⟨by omega,?_⟩
    rw[show g.offset-f.offset=r.length+(g.offset-(f.offset+P.cellsOf f.type)) by omega,List.drop_length_add_append]
    exact k2
  ·rw[List.getElem?_append] at p
   split at p
   ·rename_i hj
    refine hr.rep j x v p ?_
    rw[List.getElem?_take,if_pos (by omega),List.getElem?_drop]
    exact q
   ·rename_i hj
    refine h3 _ x v p ?_
    rw[show f.offset+P.cellsOf f.type+(j-r.length)=f.offset+j by omega]
    exact q
  ·rw[← List.take_append_drop (P.cellsOf f.type) (cs.drop f.offset),List.drop_drop] at hv
   rcases List.mem_append.1 hv with hv|hv
   ·exact hr.one v hv
   ·exact h4 v hv
def likes (P:Program) (f:Field) (e:Nat):Nat→Nat→List Field
 | 0,_=>[]
 | m+1,o=>{ f with type:=e,offset:=o }::likes P f e m (o+P.cellsOf e)
theorem likes_contig (f:Field) (e:Nat):∀ (m o:Nat),contigB P (likes P f e m o) o (o+m * P.cellsOf e)=true
 | 0,o=>by simp [likes,contigB]
 | m+1,o=>by
  simp only [likes,contigB,Bool.and_eq_true]
  refine⟨by simp,?_⟩
  have:=likes_contig f e m (o+P.cellsOf e)
  rwa [show o+P.cellsOf e+m * P.cellsOf e=o+(m+1) * P.cellsOf e by rw[Nat.succ_mul];omega] at this
theorem likes_mem (f:Field) (e:Nat):∀ (m o:Nat) (g:Field),g∈likes P f e m o→∃ i,i<m∧g.type=e∧g.offset=o+i * P.cellsOf e
 | 0,o,g,h=>by simp [likes] at h
 | m+1,o,g,h=>by
  simp only [likes,List.mem_cons] at h
  rcases h with rfl|h
  ·exact⟨0,by omega,rfl,by simp⟩
  ·obtain⟨i,h1,h2,h3⟩:=likes_mem f e m _ g h
   exact⟨i+1,by omega,h2,by rw[h3,Nat.succ_mul];omega⟩
theorem likes_at (f:Field) (e:Nat):∀ (m o i:Nat),i<m→({ f with type:=e,offset:=o+i * P.cellsOf e }:Field)∈likes P f e m o
 | 0,o,i,h=>by omega
 | m+1,o,i,h=>by
  simp only [likes,List.mem_cons]
  cases i with
  | zero=>left;simp
  | succ i =>
   right
   have:=likes_at f e m (o+P.cellsOf e) i (by omega)
   rwa [show o+P.cellsOf e+i * P.cellsOf e=o+(i+1) * P.cellsOf e by rw[Nat.succ_mul];omega] at this
theorem trod_rep {ts : List Nat} (hts : closedB P ts = true) : ∀ (n t : Nat) (cs : List Value) (x : DataW H × List MemPlace), t ∈ ts → DataW.trod enc P w 0 spare held n t cs = some x → ∃ xs, ArgOk P w n t cs xs
  | 0, t, cs, x, _, h => by simp [DataW.trod] at h
  | n + 1, t, cs, x, ht, h => by
    have hc := List.all_eq_true.1 hts t ht
    have sing : ∀ {v : Value} {y : PV}, cs = [v] → shape P (n + 1) t [y] → PRep w (· < w.heap.size) y v → v.oneCell' = true → ∃ xs, ArgOk P w (n + 1) t cs xs := by
      rintro v y rfl hs hr h1
      refine ⟨[y], rfl, hs, fun j a b p q => ?_, fun u hu => by simp at hu; subst hu; exact h1⟩
      have hj : j = 0 := by have := (List.getElem?_eq_some_iff.1 p).1; simp at this; omega
      subst hj
      simp at p q
      subst p; subst q
      exact hr
    cases hu : P.underlying t with
    | none => rw [hu] at hc; cases hc
    | some d =>
      rw [hu] at hc
      cases d <;> simp only at hc <;> try (cases hc; done)
      case bool =>
        obtain ⟨b, rfl, _⟩ := DataW.trod_bool hu h
        exact sing rfl (by simp [shape, hu]) (.bool b) rfl
      case int k =>
        obtain ⟨m, rfl, _, hw⟩ := DataW.trod_int hu h
        exact sing rfl (by simp [shape, hu, hw]) (.int k m) rfl
      case string =>
        obtain ⟨s, rfl, _, hs⟩ := DataW.trod_string hu h
        exact sing rfl (by simp [shape, hu, hs]) (.str s) rfl
      case slice e =>
        simp only [Bool.and_eq_true] at hc
        obtain ⟨hpos, hem⟩ := hc
        have hpos : 0 < P.cellsOf e := by unfold Nat.blt at hpos; exact ble_le hpos
        rcases DataW.trod_slice hu h with ⟨rfl, _⟩ | ⟨a, len, cap, elems, rest, m, hm, rfl, _, _, hlc, hcap, hel, hall, _⟩
        · exact sing (y := .nils) rfl (by simp [shape, hu]) .nils rfl
        · obtain rfl : n = m := by omega
          have key : ∀ i, i < len → ∃ r : List PV, ∃ cs', w.cells? 0 (a.add (i * P.cellsOf e)) (P.cellsOf e) = some cs' ∧ ArgOk P w n e cs' r := by
            intro i hi
            have := hall i hi
            rw [List.getElem?_eq_getElem (by omega)] at this
            obtain ⟨cs', h1, h2⟩ := Option.bind_eq_some_iff.1 this
            obtain ⟨r, hr⟩ := trod_rep hts n e cs' _ (memN_iff.1 hem) h2
            exact ⟨r, cs', h1, hr⟩
          have hspot : 0 < len → a.block < w.heap.size ∧ a.spot = none := by
            intro hl
            obtain ⟨r, cs', h1, h2⟩ := key 0 hl
            obtain ⟨_, h3, h4⟩ := World.cells?_some h1
            have h4 := h4 0 hpos
            rw [List.getElem?_eq_getElem (by omega)] at h4
            simp only [Nat.zero_mul, Addr.add, if_true] at h4
            unfold World.cell? at h4
            split at h4
            · rename_i hb
              refine ⟨(Array.getElem?_eq_some_iff.1 hb).1, ?_⟩
              split at h4
              · cases h4
              · rename_i hs; simpa using hs
            · cases h4
          obtain ⟨f, hf⟩ : ∃ f : Nat → List PV, ∀ i, i < len → ∃ cs', w.cells? 0 (a.add (i * P.cellsOf e)) (P.cellsOf e) = some cs' ∧ ArgOk P w n e cs' (f i) := by
            classical
            refine ⟨fun i => if hi : i < len then Classical.choose (key i hi) else [], fun i hi => ?_⟩
            simp only [dif_pos hi]
            exact Classical.choose_spec (key i hi)
          have hcell : ∀ i j, i < len → j < P.cellsOf e → ∃ x v, (f i)[j]? = some x ∧ w.cell? ⟨a.block, a.off + (i * P.cellsOf e + j), none⟩ = some v ∧ PRep w (· < w.heap.size) x v ∧ v.oneCell' = true := by
            intro i j hi hj
            obtain ⟨cs', h1, h2⟩ := hf i hi
            obtain ⟨_, h3, h4⟩ := World.cells?_some h1
            have hx : j < (f i).length := by rw [h2.len]; omega
            have hv : j < cs'.length := by omega
            refine ⟨(f i)[j], cs'[j], by simp [hx], ?_, h2.rep j _ _ (by simp [hx]) (by simp [hv]), h2.one _ (List.getElem_mem hv)⟩
            have h4 := h4 j hj
            rw [List.getElem?_eq_getElem hv] at h4
            have hsp := (hspot (by omega)).2
            obtain ⟨b, o, sp⟩ := a
            simp only at hsp
            subst hsp
            rw [Addr.add_lit, Addr.add_lit] at h4
            rw [← Nat.add_assoc]
            exact h4
          have hget : ∀ (i : Nat) r, ((List.range len).map f)[i]? = some r → i < len ∧ r = f i := by
            intro i r hr
            have hi : i < len := by have := (List.getElem?_eq_some_iff.1 hr).1; simpa using this
            simp [hi] at hr
            exact ⟨hi, hr.symm⟩
          have hrl : ∀ i, i < len → (f i).length = P.cellsOf e := by
            intro i hi
            obtain ⟨cs', h1, h2⟩ := hf i hi
            rw [h2.len]; exact (World.cells?_some h1).2.1
          refine sing (y := .sl false 1 false (P.cellsOf e) ((List.range len).map f)) rfl ?_ ?_ rfl
          · simp only [shape, hu]
            refine .inr ⟨_, rfl, by simp; omega, fun r hr => ?_⟩
            obtain ⟨i, hi, rfl⟩ := List.mem_map.1 hr
            obtain ⟨cs', _, h2⟩ := hf i (by simpa using hi)
            exact h2.shape
          · refine .sl 1 false _ a len cap (P.cellsOf e) (fun i j => (w.cell? ⟨a.block, a.off + (i * P.cellsOf e + j), none⟩).getD default) (by simp) hlc (by simp) (by simp) hspot (fun r hr => ?_) (fun i j hi hj => ?_) (fun i j hi hj => ?_) (fun i j r x p q => ?_)
            · obtain ⟨i, hi, rfl⟩ := List.mem_map.1 hr
              exact hrl i (by simpa using hi)
            · obtain ⟨x, v, _, h2, _⟩ := hcell i j hi hj; simp [h2]
            · obtain ⟨x, v, _, h2, _, h4⟩ := hcell i j hi hj; simp [h2, h4]
            · obtain ⟨hi, rfl⟩ := hget i r p
              have hj : j < P.cellsOf e := by rw [← hrl i hi]; exact (List.getElem?_eq_some_iff.1 q).1
              obtain ⟨x', v, h1, h2, h3, _⟩ := hcell i j hi hj
              rw [h1] at q
              obtain rfl := Option.some.inj q
              simp only [h2, Option.getD_some]
              exact h3
      case struct fs =>
        simp only [Bool.and_eq_true, List.all_eq_true] at hc
        obtain ⟨hcon, hfs⟩ := hc
        obtain ⟨xs, m, hm, _, hlen, hxl, hall⟩ := DataW.trod_struct hu h
        obtain rfl : n = m := by omega
        rw [← hlen] at hcon
        obtain ⟨ys, h1, h2, h3, h4⟩ := struct_rep (w := w) (n := n) hcon fun f hf => by
          obtain ⟨i, hi, rfl⟩ := List.getElem_of_mem hf
          have hi' : i < fs.size := by simpa using hi
          have := hall i fs[i] (by simp [hi'])
          rw [List.getElem?_eq_getElem (by omega)] at this
          exact trod_rep hts n _ _ _ (memN_iff.1 (hfs _ (List.getElem_mem hi))) (by simpa using this)
        refine ⟨ys, by rw [h1]; simp, ?_, fun j x v p q => h3 j x v p (by rw [Nat.zero_add]; exact q), by simpa using h4⟩
        simp only [shape, hu]
        refine ⟨by rw [h1, hlen]; simp, fun f hf => ?_⟩
        have := (h2 f hf).2
        simpa using this
      case array m e =>
        simp only [Bool.and_eq_true] at hc
        obtain ⟨hsz, hem⟩ := hc
        have hsz := Nat.eq_of_beq_eq_true hsz
        obtain ⟨xs, q, hq, _, hlen, hxl, hall⟩ := DataW.trod_array hu h
        obtain rfl : n = q := by omega
        cases m with
        | zero =>
          have h0 : cs = [] := List.eq_nil_of_length_eq_zero (by rw [hlen, hsz]; simp)
          subst h0
          exact ⟨[], rfl, by simp only [shape, hu]; exact ⟨hlen, fun i hi => by omega⟩, by simp, by simp⟩
        | succ m =>
          obtain ⟨f0⟩ : Nonempty Field := ⟨{ name := "", type := 0, offset := 0, embedded := false, tag := "", pkgPath := "", byteOffset := 0 }⟩
          have hcon := likes_contig (P := P) f0 e (m + 1) 0
          rw [Nat.zero_add, ← hsz, ← hlen] at hcon
          obtain ⟨ys, h1, h2, h3, h4⟩ := struct_rep (w := w) (n := n) hcon fun g hg => by
            obtain ⟨i, hi, e1, e2⟩ := likes_mem f0 e _ _ g hg
            have := hall i hi
            rw [List.getElem?_eq_getElem (by omega)] at this
            rw [e1, e2, Nat.zero_add]
            exact trod_rep hts n _ _ _ (memN_iff.1 hem) this
          refine ⟨ys, by rw [h1]; simp, ?_, fun j x v p q => h3 j x v p (by rw [Nat.zero_add]; exact q), by simpa using h4⟩
          simp only [shape, hu]
          refine ⟨by rw [h1, hlen]; simp, fun i hi => ?_⟩
          have := (h2 _ (likes_at f0 e _ _ i hi)).2
          simpa using this
def rc0 (w:World):RC:={ w:=w,Xk:=(·<w.heap.size),Xr:=(·<w.heap.size),D:=fun _=>False,θ:=fun _=>⟨undef,0⟩ }
theorem inv0 (w:World) (hL:(∀ b,theLaid.bl b→b<w.heap.size)∧theLaid.ok w):Inv (FC.enter (rc0 w) []) (rc0 w) ⟨[],heapOf 0 []⟩ act0 :=
 { lb:=hL.1,lok:=hL.2,kr:=fun _ h=>h,xlt:=fun _ h=>h,dom:=fun l=>(by simp [rc0,heapOf,hget]),obj:=fun l o h=>(by simp [heapOf,hget] at h),dis:=fun l l' o o' b h=>(by simp [heapOf,hget] at h),tsz:=rfl,tmp:=by simp,nod:=rfl,size:=Nat.le_refl _,same:=fun _ _ _=>rfl,os:=rfl,tape:=rfl,out:=rfl,xk0:=fun _ h=>h,xr0:=fun _ h=>h,xkn:=fun _ h=>.inl h,xrn:=fun _ h=>.inl h,par:=fun l h=>absurd h (Nat.not_lt_zero _),pdom:=fun l h=>absurd h (Nat.not_lt_zero _),own:=fun l o b h=>by simp [heapOf,hget] at h }
theorem Fn.withBody {f : Nat} {args res : List PV} {H H' : List Sym.Obj} {fn : Func} (h : Fn P f args H res H') (hf : P.funcs[f]? = some fn) (hn : fn.name ≠ "runtime.NumGoroutine") (hb : fn.body.isSome = true) (hc : ∃ (c : RC) (vs : Array Value), H.length ≤ 64 ∧ Inv (FC.enter c H) c ⟨[], heapOf 0 H⟩ act0 ∧ RepL c args vs) : FnB P f args H res H' := by
  rcases h with h | ⟨_, h⟩
  · exact h
  · obtain ⟨c, vs, h64, hi, hr⟩ := hc
    obtain ⟨v, hv, _⟩ := h c vs h64 hi hr
    have hb2 : fn.body.isNone = false := by cases hx : fn.body <;> simp [hx] at hb ⊢
    have hnm : (fn.name == "runtime.NumGoroutine") = false := by simpa using hn
    simp only [callFunc, Sem.run_bind, Sem.run_pure, run_program, Result.andThen_ok, hf, hnm, hb2, Bool.false_eq_true, if_false] at hv
    injection hv with hv _
    cases hv
theorem law_calls {f : Nat} {args : List PV} {vs : Array Value} {fn : Func} (h : Fn P f args [] [.bool true] []) (hf : P.funcs[f]? = some fn) (hn : fn.name ≠ "runtime.NumGoroutine") (hb : fn.body.isSome = true) (hr : RepL (rc0 w) args vs) (hL : (∀ b, theLaid.bl b → b < w.heap.size) ∧ theLaid.ok w := by exact theLaid_here _) :
    Calls P f vs w fun e w' => e = .returned (.bool true) ∧ RowKit.Below w.heap.size w w' := by
  have := (h.withBody hf hn hb ⟨_, _, Nat.zero_le _, inv0 w hL, hr⟩).run (rc0 w) vs (Nat.zero_le _) (inv0 w hL) hr
  refine Calls.mono this fun e w' he => ?_
  cases e with
  | returned v =>
    obtain ⟨c, rfl, i, r⟩ := he
    have := r.bool_inv
    subst this
    exact ⟨rfl, i.os, i.tape, i.out, i.size, fun k hk => i.same k hk fun ⟨j, o, ho, _⟩ => by simp at ho⟩
  | panicked c => exact he.elim
  | outgrown => exact he.elim
theorem arg_one {ts:List Nat} (hts:closedB P ts=true) {t:Nat} (ht:memN ts t=true) {v:Value} {d:DataW H} {ps:List MemPlace} (h:DataW.Trod enc P w 0 spare held t v d ps) (hv:v.cells.toList=[v]) :
  ∃ n x,shape P n t [x]∧Rep (rc0 w) x v:=by
 obtain⟨n,h⟩:=h
 rw[hv] at h
 obtain⟨xs,hx⟩:=trod_rep hts n t _ _ (memN_iff.1 ht) h
 match xs,hx.len,hx with
 | [x],_,hx=>exact⟨n,x,hx.shape,.plain (hx.rep 0 x v rfl rfl)⟩
theorem arg_agg {ts:List Nat} (hts:closedB P ts=true) {t:Nat} (ht:memN ts t=true) {vs:Array Value} {d:DataW H} {ps:List MemPlace} (h:DataW.Trod enc P w 0 spare held t (.agg vs) d ps) :
  ∃ n xs,shape P n t xs∧Rep (rc0 w) (.agg xs) (.agg vs):=by
 obtain⟨n,h⟩:=h
 obtain⟨xs,hx⟩:=trod_rep hts n t _ _ (memN_iff.1 ht) h
 exact⟨n,xs,hx.shape,.agg xs vs hx.len fun j x v p q=>.plain (hx.rep j x v p (by simpa [Value.cells] using q))⟩
theorem repL_of {c:RC} (l:List ((x:PV) ×' (v:Value) ×' Rep c x v)) {xs:List PV} {vs:Array Value} (h1:(xs,vs)=(l.map (·.1),(l.map (·.2.1)).toArray)):RepL c xs vs:=by
 obtain⟨rfl,rfl⟩:=Prod.mk.inj h1
 refine⟨by simp,fun i x v p q=>?_⟩
 simp only [List.getElem?_map,List.getElem?_toArray] at p q
 cases hl:l[i]? with
 | none=>simp [hl] at p
 | some e =>
  simp only [hl,Option.map_some,Option.some.injEq] at p q
  subst p;subst q
  exact e.2.2
end
end Go.Sym
namespace Go.Sym
open Go
structure Opq where
 o:{α:Type}→α→α
 h:∀ {α:Type} (x:α),o x=x
def Opq.id:Opq:=⟨fun x=>x,fun _=>rfl⟩
theorem Ex.map (O:Opq) {α:Type} {e:List α→List (List PV)} (f:α→List PV) (he:e=List.map f) {l:List α} {i:Int} {K:List PV→Prop} (h:0≤i∧i<l.length) (k:∀ x,l[i.toNat]?=some x→K (f x)):Ex (List PV) (fun row=>0≤i∧(O.o e l)[i.toNat]?=some row) K :=
 have h':i.toNat<l.length:=by omega
 .mk (f l[i.toNat]) ⟨h.1,by simp [O.h,he,h']⟩ (k _ (by simp [h']))
theorem CallThen.bool {F:FnT} {f:Nat} {args:List PV} {H:List Sym.Obj} {K:List PV→List Sym.Obj→Prop} {p:Bool} {H':List Sym.Obj} (h:F f args H [.bool p] H') (kt:p=true→K [.bool true] H') (kf:p=false→K [.bool false] H'):CallThen F f args H K :=
 .mk [.bool p] H' h (by cases p;exact kf rfl;exact kt rfl)
theorem Br.t {p:Unit→Prop} {K:Bool→Prop} (h:p ()) (k:K true):Br p K:=.mk (fun _=>k) (fun n=>absurd h n)
theorem Br.f {p:Unit→Prop} {K:Bool→Prop} (h:¬ p ()) (k:K false):Br p K:=.mk (fun n=>absurd n h) (fun _=>k)
theorem Back.to {ι:Type} {S:ι→ASt} {I:ι→Prop} {μ:ι→Nat} {n0:Nat} {j:ι} {st:ASt} (i:ι) (ρ:List (Nat×Src)) (fz:List Nat) (hI:I i∧μ i<μ j) (h:∀ i',i'=i→sub ρ n0 (S i') (frzSt fz st)):Back S I μ n0 j st:=.mk i ρ fz hI.1 hI.2 (h i rfl)
theorem Back.up {S:Nat→ASt} {I:Nat→Prop} {N n0 k:Nat} {st:ASt} (ρ:List (Nat×Src)) (fz:List Nat) (hk:k<N) (hI:I (k+1)) (h:∀ k',k'=k+1→sub ρ n0 (S k') (frzSt fz st)):Back S I (fun k=>N-k) n0 k st :=
 .mk (k+1) ρ fz hI (by show N-(k+1)<N-k;omega) (h _ rfl)
theorem natTo (k:Nat):(Int.ofNat k).toNat=k:=rfl
theorem natPred (k:Nat):(Int.ofNat k-1).toNat=k-1:=by rw[Int.ofNat_eq_natCast];omega
def reset1 (a b:Nat):Nat→List PV→List PV
 | _,[]=>[]
 | i,x::r=>(match Nat.ble a i && Nat.ble i b with
  | true=>.top
  | false=>x)::reset1 a b (i+1) r
def resets (l:List PV):List (Nat×Nat)→List PV
 | []=>l
 | (a,b)::r=>resets (reset1 a b 0 l) r
def sets (l:List PV):List (Nat×PV)→List PV
 | []=>l
 | (i,x)::r=>sets (lset l i x) r
theorem wrap64 {x:Int} (h:-9223372036854775808≤x∧x<9223372036854775808):IntKind.i64.wrap x=x:=by
 unfold IntKind.wrap;simp [IntKind.bits,IntKind.signed];omega
theorem Named.i64 {x:Int} {K:Int→Prop} (h:-9223372036854775808≤x∧x<9223372036854775808) (k:∀ n,n=x→K n):Named Int (fun _=>IntKind.i64.wrap x) K:=.mk fun n hn=>k n (by rw[hn,wrap64 h])
theorem natInt (n:Nat):@NatCast.natCast Int instNatCastInt n=Int.ofNat n:=rfl
theorem Fn.wkArgs {P:Program} {f:Nat} {args args' res:List PV} {H H':List Sym.Obj} (h:Fn P f args H res H') (w:WkL args args'):Fn P f args' H res H':=by
 rcases h with ⟨h1,h2⟩ | ⟨h1,h2⟩
 ·exact .inl ⟨h1,fun c vs h64 hi hr=>h2 c vs h64 hi (hr.wk w)⟩
 ·exact .inr ⟨h1,fun c vs h64 hi hr=>h2 c vs h64 hi (hr.wk w)⟩
theorem RepL.set {c:RC} {pre post:List PV} {x y:PV} {vs:Array Value} (h:RepL c (pre++x::post) vs) (k:∀ v,vs[pre.length]?=some v→Rep c y v):RepL c (pre++y::post) vs:=by
 refine⟨by rw[← h.1];simp,fun i z v p q=>?_⟩
 by_cases hi:i=pre.length
 ·subst hi
  simp at p;subst p
  exact k v q
 ·refine h.2 i z v ?_ q
  rw[List.getElem?_append] at p ⊢
  split
  ·rename_i hl;rw[if_pos hl] at p;exact p
  ·rename_i hl;rw[if_neg hl] at p
   rw[List.getElem?_cons] at p ⊢
   rw[if_neg (by omega)] at p ⊢
   exact p
theorem repL_vals {c:RC}:∀ {xs:List PV} {us:Array Value} {vs:List Value},RepL c xs us→(∀ (i:Nat) x u,xs[i]?=some x→us[i]?=some u→vs[i]?=some u)→vs.length=xs.length→us=vs.toArray:=by
 intro xs us vs hr h hl
 apply Array.ext
 ·simp [hl,hr.1]
 ·intro i h1 h2
  have hx:i<xs.length:=by rw[hr.1];exact h1
  obtain⟨_,e⟩:=List.getElem?_eq_some_iff.1 (h i xs[i] us[i] (by simp [hx]) (by simp [h1]))
  simp [e]
theorem repL_str2 {c:RC} {s t:ByteArray} {us:Array Value} (h:RepL c [.str s,.str t] us):us=#[.string s,.string t] :=
 repL_vals (vs:=[.string s,.string t]) h (fun i x u p q=>by
  match i,p with
  | 0,p=>simp at p;subst p;have:=(h.2 0 _ u rfl q).str_inv;simp [this]
  | 1,p=>simp at p;subst p;have:=(h.2 1 _ u rfl q).str_inv;simp [this]) rfl
theorem fn_of_calls {P : Program} {f : Nat} {fn : Func} (hf : P.funcs[f]? = some fn) (hn : fn.name ≠ "runtime.NumGoroutine") (hb : fn.body.isSome = true) {args res : List PV} {vs : Array Value} {v : Value} (ha : ∀ c us, RepL c args us → us = vs) (hv : ∀ c, Rep c (packRes res) v)
    (h : ∀ w : World, Calls P f vs w fun e w' => e = .returned v ∧ RowKit.Below w.heap.size w w') : Fn P f args [] res [] :=
  .inl ⟨⟨fn, hf, hn, hb⟩, fun c us h64 hi hr => by
    obtain rfl := ha c us hr
    refine Calls.mono (h c.w) fun e w' he => ?_
    obtain ⟨rfl, hb⟩ := he
    exact ⟨{ c with w := w' }, rfl, hi.grow ⟨hb.size, hb.block, hb.os, hb.tape, hb.output⟩, hv _⟩⟩
theorem bytesLess_lt:∀ (x y:List UInt8),Op.bytesLess x y=decide (x<y)
 | [],[]=>by simp [Op.bytesLess]
 | _::_,[]=>by simp [Op.bytesLess]
 | [],_::_=>by simp [Op.bytesLess]
 | a::x,b::y=>by
  rw[Op.bytesLess,bytesLess_lt x y]
  simp only [List.cons_lt_cons_iff]
  by_cases h1:a<b<;>by_cases h2:a=b<;>by_cases h3:x<y<;>simp [h1,h2,h3]
theorem Named.u64 {x:Int} {K:Int→Prop} (h:0≤x∧x<18446744073709551616) (k:∀ n,n=x→K n):Named Int (fun _=>IntKind.u64.wrap x) K:=.mk fun n hn=>k n (by rw[hn];unfold IntKind.wrap;simp [IntKind.bits,IntKind.signed];omega)
theorem slt_iff {a b:ByteArray}:slt a b ↔ a.toList<b.toList:=by
 rw[slt,bytesLess_lt,decide_eq_true_eq]
theorem slt_irrefl (a:ByteArray):¬ slt a a:=by rw[slt_iff];exact List.lt_irrefl _
theorem slt_trans {a b c:ByteArray} (h:slt a b) (k:slt b c):slt a c:=by rw[slt_iff] at *;exact List.lt_trans h k
theorem slt_asymm {a b:ByteArray} (h:slt a b):¬ slt b a:=fun k=>slt_irrefl _ (slt_trans h k)
theorem slt_ne {a b:ByteArray} (h:slt a b):a≠b:=fun e=>slt_irrefl a (by rw[← e] at h;exact h)
theorem toList_inj {a b:ByteArray} (h:a.toList=b.toList):a=b:=by
 rw[Lib.toList_data,Lib.toList_data] at h
 cases a;cases b
 simp only [Array.toList_inj] at h
 rw[h]
theorem slt_tri (a b:ByteArray):slt a b∨a=b∨slt b a:=by
 rw[slt_iff,slt_iff]
 rcases Std.lt_trichotomy a.toList b.toList with h|h|h
 ·exact .inl h
 ·exact .inr (.inl (toList_inj h))
 ·exact .inr (.inr h)
theorem slt_not {a b:ByteArray} (h:¬ (slt a b∨a=b)):slt b a:=by
 rcases slt_tri a b with k|k|k
 ·exact absurd (.inl k) h
 ·exact absurd (.inr k) h
 ·exact k
theorem Named.len {x:Unit→List (List PV)} {K:List (List PV)→Prop} (k:∀ l,l=x ()→l.length=(x ()).length→K l):Named (List (List PV)) x K:=.mk fun n hn=>k n hn (by rw[hn])
theorem Fn.lend {P:Program} {f:Nat} {pre post res:List PV} {H H':List Sym.Obj} {nn sz:Nat} {full:Bool} {rows:List (List PV)} (h:Fn P f (pre++.sl true nn full sz rows::post) H res H'):Fn P f (pre++.sl false nn full sz rows::post) H res H':=by
 have key:∀ {c:RC} {vs:Array Value},(∀ b,c.Xk b→c.Xr b)→RepL c (pre++.sl false nn full sz rows::post) vs→RepL c (pre++.sl true nn full sz rows::post) vs:=by
  intro c vs kr hr
  refine hr.set fun v q=>?_
  have hv:Rep c (.sl false nn full sz rows) v:=hr.2 pre.length _ v (by simp) q
  generalize hx:PV.sl false nn full sz rows=x at hv
  cases hv with
  | plain p =>
   cases p with
   | slnil=>cases hx;exact .slbnil _ _
   | sl _ _ _ a n cap _ vals hn' hc hf2 h2 hX hs' hcell h1 hrep=>cases hx;exact .slb nn full rows a n cap sz vals hn' hc hf2 h2 (fun e=>⟨kr _ (hX e).1,(hX e).2⟩) hs' hcell h1 hrep
   | _=>cases hx
  | _=>cases hx
 rcases h with ⟨h1,h2⟩ | ⟨h1,h2⟩
 ·exact .inl ⟨h1,fun c vs h64 hi hr=>h2 c vs h64 hi (key hi.kr hr)⟩
 ·exact .inr ⟨h1,fun c vs h64 hi hr=>h2 c vs h64 hi (key hi.kr hr)⟩
theorem Ex.at {rows:List (List PV)} {i:Int} {K:List PV→Prop} (r:List PV) (h:0≤i∧rows[i.toNat]?=some r) (k:K r):Ex (List PV) (fun row=>0≤i∧rows[i.toNat]?=some row) K:=.mk r h k
theorem Ex.known (O:Opq) {α:Type} {e:List α→List (List PV)} (f:α→List PV) (he:e=List.map f) {l:List α} {k:Nat} {x:α} (hx:l[k]?=some x) {i:Int} {K:List PV→Prop} (hi:i=k) (h:K (f x)):Ex (List PV) (fun row=>0≤i∧(O.o e l)[i.toNat]?=some row) K :=
 .mk (f x) ⟨by omega,by rw[hi,Int.toNat_natCast,O.h,he,List.getElem?_map,hx];rfl⟩ h
theorem lenS:(∀ (α:Type) (a b:List α),(a++b).length=a.length+b.length)∧(∀ (α:Type) (n:Nat) (a:List α),(a.take n).length=min n a.length)∧(∀ (α:Type) (n:Nat) (a:List α),(a.drop n).length=a.length-n)∧(∀ (α:Type) (n:Nat) (x:α),(List.replicate n x).length=n)∧∀ (α:Type) (a:List α) (n:Nat) (x:α),(a.set n x).length=a.length :=
 ⟨fun _ _ _=>List.length_append,fun _ _ _=>List.length_take,fun _ _ _=>List.length_drop,fun _ _ _=>List.length_replicate,fun _ _ _ _=>List.length_set⟩
abbrev Na:=@Named.i64
abbrev Nl:=@Named.len
abbrev Nm:=@Named.mk
abbrev R0 {E:Env} {rv:List ResultVar} {n0:Nat} {res:List PV} {H':List Obj} {st:ASt}:=@RetThen.mk E rv n0 res H' st [] []
end Go.Sym
