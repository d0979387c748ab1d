/- Stores. -/
import Derived.Test.YtjlefaabcalkkaaGreatDoorJ1
import Derived.Laws.Append
import Derived.Laws.IdiomStrings
set_option linter.all false
set_option linter.unusedVariables false
set_option linter.unusedSimpArgs false
namespace Go.Sym
open Go
section
variable {P:Program} {fc:FC} {c:RC} {st:ASt} {a:Act} {o:Oper} {E:Env} {F:FnT} {v:PV} {u:List (Nat×Sym.Obj)}
theorem cell_of_heap {w:World} {b:Nat} {arr:Array Value} {e:TypeId} {fr:Nat×Nat} (h:w.heap[b]?=some (.cells arr e fr)) (j:Nat):w.cell? ⟨b,j,none⟩=arr[j]?:=by
 simp [World.cell?,h]
theorem ArrAt.wrote {w w':World} {X:Nat→Prop} {b o n cap sz:Nat} {rows rows':List (List PV)} (A:ArrAt w X b o n cap sz rows) (hX:¬ X b) {p:Nat} {vs:List Value} (W:Wrote w w' b (o+p) vs) (h1:∀ v∈vs,v.oneCell'=true)
  (hn:rows'.length=n) (hs:∀ r∈rows',r.length=sz)
  (hold:∀ (i j:Nat) r x,rows'[i]?=some r→r[j]?=some x→¬ (p≤i * sz+j∧i * sz+j<p+vs.length)→∃ r',rows[i]?=some r'∧r'[j]?=some x)
  (hnew:∀ (i j:Nat) r x v,rows'[i]?=some r→r[j]?=some x→p≤i * sz+j→i * sz+j<p+vs.length→vs[i * sz+j-p]?=some v→PRep w X x v):ArrAt w' X b o n cap sz rows':=by
 have hk:∀ b',X b'→w'.heap[b']?=w.heap[b']?:=fun b' hb'=>W.other b' fun e=>hX (e ▸ hb')
 refine⟨hn,A.hc,hs,fun j hj=>?_,fun i j r x v h2 h3 h4=>?_,fun hz=>W.endok (A.endok hz)⟩
 ·obtain⟨⟨u,hu,h2⟩,hf⟩:=A.room j hj
  refine⟨?_,by rw[W.frozen];exact hf⟩
  rw[W.cell]
  by_cases hin:o+p≤o+j∧o+j<o+p+vs.length
  ·rw[if_pos hin]
   have hlt:o+j-(o+p)<vs.length:=by omega
   exact⟨vs[o+j-(o+p)],by simp,h1 _ (by simp)⟩
  ·rw[if_neg hin];exact⟨u,hu,h2⟩
 ·rw[W.cell] at h4
  by_cases hin:p≤i * sz+j∧i * sz+j<p+vs.length
  ·rw[if_pos (by omega),show o+(i * sz+j)-(o+p)=i * sz+j-p by omega] at h4
   exact(hnew i j r x v h2 h3 hin.1 hin.2 h4).mono hk (fun _ h=>h)
  ·rw[if_neg (by omega)] at h4
   obtain⟨r',h5,h6⟩:=hold i j r x h2 h3 hin
   exact(A.rep i j r' x v h5 h6 h4).mono hk (fun _ h=>h)
theorem Inv.wroteArr (h:Inv fc c st a) {t nn sz:Nat} {cap:Option Nat} {rows rows':List (List PV)} (ht:hget st.heap t=some (.arr nn cap sz rows)) {b off n k:Nat} (hv:(c.θ t).val=.slice (some ⟨b,off,none⟩) n k)
  {w':World} {p:Nat} {vs:List Value} (W:Wrote c.w w' b (off+p) vs) (h1:∀ v∈vs,v.oneCell'=true) (hlen:rows'.length=rows.length) (hs:∀ r∈rows',r.length=sz)
  (hold:∀ (i j:Nat) r x,rows'[i]?=some r→r[j]?=some x→¬ (p≤i * sz+j∧i * sz+j<p+vs.length)→∃ r',rows[i]?=some r'∧r'[j]?=some x)
  (hnew:∀ (i j:Nat) r x v,rows'[i]?=some r→r[j]?=some x→p≤i * sz+j→i * sz+j<p+vs.length→vs[i * sz+j-p]?=some v→PRep c.w c.Xk x v) :
  Inv fc { c with w:=w' } { st with heap:=hset st.heap t (.arr nn cap sz rows') } a:=by
 obtain⟨hz,ho⟩:=h.obj t _ ht
 rcases ho with ⟨e,_⟩ | ⟨b',o',cap',e,hcap,h2,hlt,A,hx⟩
 ·rw[hv] at e;simp at e
 ·have e0:=e
  rw[hv] at e
  injection e with e1 e2 e3
  injection e1 with e1
  injection e1 with e4 e5
  subst e4;subst e5;subst e3
  refine h.upd ht trivial (fun b2 hb2=>W.other b2 fun e=>hb2 (by rw[hv,e];rfl)) W.size W.os W.tape W.out ?_
  refine⟨hz,.inr ⟨b,off,k,by rw[hlen];exact e0,hcap,fun hn e=>h2 hn (List.length_eq_zero_iff.1 (by rw[← hlen,e];rfl)),by rw[W.size];exact hlt,?_,hx⟩⟩
  rw[hlen]
  exact A.wrote (fun hk=>hx (h.kr _ hk)) W h1 hlen hs hold hnew
theorem getElem?_set_rows (rows:List (List PV)) (i:Nat) (r:List PV) (k:Nat):(rows.set i r)[k]?=if k=i then(if i<rows.length then some r else none) else rows[k]?:=by
 rw[List.getElem?_set]
 by_cases e:i=k
 ·subst e;simp
 ·rw[if_neg e,if_neg (Ne.symm e)]
theorem Inv.wroteArx (h:Inv fc c st a) {t nn sz k:Nat} {rows rows':List (List PV)} {ro ro':List PV} (ht:hget st.heap t=some (.arrx nn sz rows k ro)) {b off n cp:Nat} (hv:(c.θ t).val=.slice (some ⟨b,off,none⟩) n cp)
  {w':World} {p:Nat} {vs:List Value} (W:Wrote c.w w' b (off+p) vs) (h1:∀ v∈vs,v.oneCell'=true) (hlen:rows'.length=rows.length) (hs:∀ r∈rows',r.length=sz) (hro:ro'.length=sz)
  (hold:∀ (i j:Nat) r x,i≠k→rows'[i]?=some r→r[j]?=some x→¬ (p≤i * sz+j∧i * sz+j<p+vs.length)→∃ r',rows[i]?=some r'∧r'[j]?=some x)
  (hnew:∀ (i j:Nat) r x v,i≠k→rows'[i]?=some r→r[j]?=some x→p≤i * sz+j→i * sz+j<p+vs.length→vs[i * sz+j-p]?=some v→PRep c.w c.Xk x v)
  (oold:∀ (j:Nat) x,ro'[j]?=some x→¬ (p≤k * sz+j∧k * sz+j<p+vs.length)→ro[j]?=some x)
  (onew:∀ (j:Nat) x v,ro'[j]?=some x→p≤k * sz+j→k * sz+j<p+vs.length→vs[k * sz+j-p]?=some v→Rep c x v) :
  Inv fc { c with w:=w' } { st with heap:=hset st.heap t (.arrx nn sz rows' k ro') } a:=by
 obtain⟨hz,hl2,hlt,A,hx⟩:=arx_at h ht hv
 refine h.upd ht trivial (fun b2 hb2=>W.other b2 fun e=>hb2 (by rw[hv,e];rfl)) W.size W.os W.tape W.out ?_
 have le:c.le { c with w:=w' }:=h.le_world fun b2 hb2=>W.other b2 fun e=>hx (e ▸ hb2)
 have hk:∀ b',c.Xk b'→w'.heap[b']?=c.w.heap[b']?:=fun b' hb'=>le.same b' (h.kr b' hb')
 refine⟨hz,b,off,cp,by rw[hlen,← hl2];exact hv,by rw[W.size];exact hlt,?_,hx⟩
 rw[hlen]
 refine⟨hlen,A.hc,hs,A.hk,hro,fun j hj=>?_,fun i j r x v h0 h2 h3 h4=>?_,fun j x v h2 h4=>?_,fun hz=>W.endok (A.endok hz)⟩
 ·obtain⟨⟨u,hu,h2⟩,hf⟩:=A.room j hj
  refine⟨?_,by rw[W.frozen];exact hf⟩
  rw[W.cell]
  by_cases hin:off+p≤off+j∧off+j<off+p+vs.length
  ·rw[if_pos hin]
   have hlt:off+j-(off+p)<vs.length:=by omega
   exact⟨vs[off+j-(off+p)],by simp,h1 _ (by simp)⟩
  ·rw[if_neg hin];exact⟨u,hu,h2⟩
 ·rw[W.cell] at h4
  by_cases hin:p≤i * sz+j∧i * sz+j<p+vs.length
  ·rw[if_pos (by omega),show off+(i * sz+j)-(off+p)=i * sz+j-p by omega] at h4
   exact(hnew i j r x v h0 h2 h3 hin.1 hin.2 h4).mono hk (fun _ h=>h)
  ·rw[if_neg (by omega)] at h4
   obtain⟨r',h5,h6⟩:=hold i j r x h0 h2 h3 hin
   exact(A.rep i j r' x v h0 h5 h6 h4).mono hk (fun _ h=>h)
 ·rw[W.cell] at h4
  by_cases hin:p≤k * sz+j∧k * sz+j<p+vs.length
  ·rw[if_pos (by omega),show off+(k * sz+j)-(off+p)=k * sz+j-p by omega] at h4
   exact(onew j x v h2 hin.1 hin.2 h4).mono le
  ·rw[if_neg (by omega)] at h4
   exact(A.orep j x v (oold j x h2 hin) h4).mono le
theorem row_apart {i k sz j off n:Nat} (hj:j<sz) (ho:off+n≤sz) (h1:i * sz+off≤k * sz+j) (h2:k * sz+j<i * sz+off+n):k=i:=by
 rcases Nat.lt_trichotomy k i with h3|h3|h3
 ·have:(k+1) * sz≤i * sz:=Nat.mul_le_mul_right _ h3
  rw[Nat.succ_mul] at this
  omega
 ·exact h3
 ·have:(i+1) * sz≤k * sz:=Nat.mul_le_mul_right _ h3
  rw[Nat.succ_mul] at this
  omega
theorem store_ok (hE:EnvOk P E) (h:Inv fc c st a) {e:TypeId} {x y:Operand} (hop:o.op=.store e x y)
  (hg:(opr E o (evp st.tmps) (only ((fpr o (evp st.tmps) (hget st.heap)).1++(fpr o (evp st.tmps) (hget st.heap)).2) (hget st.heap))).gives F v u):OpOk P fc st o a c.w v u:=by
 simp only [opr,hop] at hg
 generalize hlk:only _ (hget st.heap)=look at hg
 have hlook:∀ l x,look l=some x→hget st.heap l=some x:=fun l x hx=>by subst hlk;exact only_some hx
 have hx:=h.eval x
 have hy:=h.eval y
 cases ht:E.ty e with
 | none=>simp only [ht] at hg;exact hg.elim
 | some ty =>
  simp only [ht,storer] at hg
  split at hg
  ·exact hg.elim
  ·rename_i hc
   obtain⟨hc1,hc2⟩:=Bool.and_eq_true_iff.1 hc
   have hc1:=lenIs_eq hc1
   obtain⟨r1,r2⟩:=rep_cells hy hc2
   have hsz:(a.eval y).cells.size=ty.size:=by rw[← r1.1,hc1]
   have fin:∀ {b off:Nat} {w':World},a.eval x=.pointer (some ⟨b,off,none⟩)→(storeVar e ⟨b,off,none⟩ (a.eval y)).run P c.w=.ok () w' →
     ∀ (c':RC),c'.w=w'→Inv fc c' { st with heap:=hsets st.heap u } a→v=.top→OpOk P fc st o a c.w v u:=by
    rintro b off w' ex hrun c' hw hi rfl
    refine .skip (w':=w') ?_ c' hw hi (.top _)
    simp only [execOp,hop,Sem.run_bind,Instr.storeAt,Instr.sureAddr,ex,Sem.run_pure,Result.andThen_ok,hrun]
   split at hg
   ·rename_i l off hpx
    split at hg
    ·rename_i cs hl
     split at hg
     ·rename_i hle
      have hle:=ble_le hle
      obtain⟨rfl,rfl⟩:=hg
      rw[hpx] at hx
      obtain⟨b,ex,hd,hv⟩:=hx.ptr_inv
      obtain⟨b',arr,e',fr,e1,e2,e3,e4,e5,e6,e7⟩:=h.obj l _ (hlook _ _ hl)
      rw[hv] at e1
      obtain rfl:b=b':=by simpa using e1
      obtain⟨w',hrun,W⟩:=run_storeVar (hE e ty ht) c.w b off (a.eval y) hsz (fun j hj=>by
       refine⟨⟨arr[off+j]'(by omega),?_⟩,e3 _ (by omega)⟩
       rw[cell_of_heap e2];simp) r2
      refine fin ex hrun _ rfl (h.upd (hlook _ _ hl) trivial (fun b2 hb2=>W.other b2 fun e=>hb2 (by rw[hv,e];rfl)) W.size W.os W.tape W.out ?_) rfl
      have le:c.le { c with w:=w' }:=h.le_world fun b2 hb2=>W.other b2 fun e=>e7 (e ▸ hb2)
      obtain⟨arr',s1,s2⟩:=W.shape _ _ _ e2
      have hcell:∀ j,arr'[j]?=if off≤j∧j<off+(a.eval y).cells.toList.length then(a.eval y).cells.toList[j-off]? else arr[j]?:=fun j=>by
       rw[← cell_of_heap s1,W.cell,cell_of_heap e2]
      have hput:off+(cells (evp st.tmps y)).length≤cs.length:=by omega
      refine⟨b,arr',e',fr,hv,s1,fun j hj=>by rw[W.frozen];exact e3 j (by omega),by rw[length_put1 _ _ _ hput,s2,e4],fun j w hw=>?_,fun j z w hz hw=>?_,e7⟩
      ·rw[hcell] at hw
       split at hw
       ·exact r2 w (List.mem_of_getElem? hw)
       ·exact e5 j w hw
      ·rw[hcell] at hw
       rw[getElem?_put1 _ _ _ hput] at hz
       rw[Array.length_toList,← r1.1] at hw
       split at hz
       ·rename_i hin
        rw[if_pos hin] at hw
        exact(r1.2 _ z w hz (by simpa using hw)).mono le
       ·rename_i hin
        rw[if_neg hin] at hw
        exact(e6 j z w hz hw).mono le
     ·exact hg.elim
    ·exact hg.elim
   ·rename_i t i off hpx
    split at hg
    ·rename_i nn cap sz rows hl
     split at hg
     ·rename_i cs u' hpl
      split at hg
      ·exact hg.elim
      ·rename_i hmem
       obtain⟨row,⟨_,hi⟩,hg⟩:=hg
       have hi:rows[i]?=some row:=by simpa using hi
       cases hle:Nat.ble (off+ty.size) row.length with
       | false=>simp only [hle] at hg;exact hg.elim
       | true =>
        simp only [hle] at hg
        have hle:=ble_le hle
        obtain⟨rfl,rfl⟩:=hg
        rw[hpx] at hx
        obtain⟨b,o',len,cap',ex,hd,hv,hlen⟩:=hx.er_inv
        have hnt:t ∉ locsL (cells (evp st.tmps y)):=fun hm=>by rw[memN_iff.2 hm] at hmem;cases hmem
        obtain⟨c1,w1,t1,le1,i1,n1,p1,_,k1⟩:=plainCells_ok h (fun l x hx=>.inl (hlook l x hx)) hpl (vs:=(a.eval y).cells.toList) (by rw[r1.1];simp) (fun j x v q1 q2=>r1.2 j x v q1 (by simpa using q2))
        have ht1:hget (hsets st.heap u') t=some (.arr nn cap sz rows):=by rw[k1 t (.inl hnt)];exact hlook _ _ hl
        have hv1:(c1.θ t).val=.slice (some ⟨b,o',none⟩) len cap':=by rw[t1];exact hv
        obtain⟨hrl,hz,_⟩:=row_cells i1 (.inl ht1) hv1 hi
        rw[t1] at hz
        rw[hz] at ex
        obtain⟨_,ho⟩:=i1.obj t _ ht1
        rcases ho with ⟨e',_⟩ | ⟨b',o2,cap2,e',_,_,_,A,_⟩
        ·rw[hv1] at e';simp at e'
        ·rw[hv1] at e'
         injection e' with e1 e2 e3
         injection e1 with e1
         injection e1 with e4 e5
         subst e4;subst e5
         have hi':i<rows.length:=(List.getElem?_eq_some_iff.1 hi).1
         have hcap:(i+1) * sz≤cap2 * sz:=Nat.mul_le_mul_right _ (by have:=A.hc;omega)
         rw[Nat.succ_mul] at hcap
         obtain⟨w',hrun,W⟩:=run_storeVar (hE e ty ht) c.w b (o'+(i * sz+off)) (a.eval y) hsz (fun j hj=>by
          obtain⟨⟨u,hu,_⟩,hf⟩:=A.room (i * sz+off+j) (by omega)
          rw[w1] at hu hf
          exact⟨⟨u,by rw[Nat.add_assoc];exact hu⟩,by rw[Nat.add_assoc];exact hf⟩) r2
         have hput:off+cs.length≤row.length:=by omega
         have hvl:(a.eval y).cells.toList.length=ty.size:=by simp [hsz]
         have W1:Wrote c1.w w' b (o'+(i * sz+off)) (a.eval y).cells.toList:=by rw[w1];exact W
         have hrlen:∀ r∈rows.set i (put1 row off cs),r.length=sz:=by
          intro r hr
          rcases List.mem_or_eq_of_mem_set hr with hr|rfl
          ·exact A.hs r hr
          ·rw[length_put1 _ _ _ hput,hrl]
         refine fin ex hrun { c1 with w:=w' } rfl ?_ rfl
         rw[hsets_append]
         refine i1.wroteArr ht1 hv1 W1 r2 (by simp) hrlen (fun i2 j r z q1 q2 q3=>?_) (fun i2 j r z w q1 q2 q3 q4 q5=>?_)
         ·rw[getElem?_set_rows] at q1
          split at q1
          ·rename_i e'
           subst e'
           obtain rfl:=Option.some.inj q1
           rw[getElem?_put1 _ _ _ hput] at q2
           rw[if_neg (by rw[hvl] at q3;omega)] at q2
           exact⟨row,hi,q2⟩
          ·exact⟨r,q1,q2⟩
         ·have hj:j<sz:=by
           have:=(List.getElem?_eq_some_iff.1 q2).1
           have:=hrlen r (List.mem_of_getElem? q1)
           omega
          rw[hvl] at q4
          have hii:i2=i:=by
           rcases Nat.lt_trichotomy i2 i with h3|h3|h3
           ·have:(i2+1) * sz≤i * sz:=Nat.mul_le_mul_right _ h3
            rw[Nat.succ_mul] at this
            omega
           ·exact h3
           ·have:(i+1) * sz≤i2 * sz:=Nat.mul_le_mul_right _ h3
            rw[Nat.succ_mul] at this
            omega
          subst hii
          rw[getElem?_set_rows,if_pos rfl,if_pos hi'] at q1
          obtain rfl:=Option.some.inj q1
          rw[getElem?_put1 _ _ _ hput,if_pos (by omega)] at q2
          rw[show i2 * sz+j-(i2 * sz+off)=j-off by omega] at q5
          exact p1 _ z w q2 q5
     ·exact hg.elim
    ·rename_i nn sz rows k ro hl
     have ht0:=hlook _ _ hl
     rw[hpx] at hx
     obtain⟨b,o',len,cap',ex,hd,hv,hlen⟩:=hx.er_inv
     obtain⟨hz,hl2,_,A,_⟩:=arx_at h ht0 hv
     rw[hz] at ex
     have hvl:(a.eval y).cells.toList.length=ty.size:=by simp [hsz]
     have run:∀ {m:Nat},off+ty.size≤sz→i<rows.length→m=sz→∃ w',(storeVar e ⟨b,o'+(i * sz+off),none⟩ (a.eval y)).run P c.w=.ok () w'∧Wrote c.w w' b (o'+(i * sz+off)) (a.eval y).cells.toList:=fun h1 h2 _ =>
      run_storeVar (hE e ty ht) c.w b (o'+(i * sz+off)) (a.eval y) hsz (fun j hj=>by
       have hr:=A.in_room h2 (j:=off+j) (by omega)
       obtain⟨⟨u,hu,_⟩,hf⟩:=A.room (i * sz+(off+j)) hr
       exact⟨⟨u,by rw[Nat.add_assoc,Nat.add_assoc];exact hu⟩,by rw[Nat.add_assoc,Nat.add_assoc];exact hf⟩) r2
     rcases hg with ⟨hik,hg⟩ | ⟨hik,hg⟩
     ·obtain rfl:i=k:=hik
      simp only at hg
      cases hle:Nat.ble (off+ty.size) ro.length with
      | false=>simp only [hle] at hg;exact hg.elim
      | true =>
       simp only [hle] at hg
       have hle:=ble_le hle
       obtain⟨rfl,rfl⟩:=hg
       obtain⟨w',hrun,W⟩:=run (m:=sz) (by rw[← A.hro];exact hle) A.hk rfl
       have hput:off+(cells (evp st.tmps y)).length≤ro.length:=by omega
       refine fin ex hrun { c with w:=w' } rfl ?_ rfl
       refine h.wroteArx ht0 hv W r2 rfl A.hs (by rw[length_put1 _ _ _ hput,A.hro]) (fun i2 j r z _ q1 q2 _=>⟨r,q1,q2⟩) (fun i2 j r z w q0 q1 q2 q3 q4 _=>?_) (fun j z q1 q3=>?_) (fun j z w q1 q3 q4 q5=>?_)
       ·rw[hvl] at q4
        have hj:j<sz:=by rw[← A.hs r (List.mem_of_getElem? q1)];exact(List.getElem?_eq_some_iff.1 q2).1
        exact absurd (row_apart hj (by rw[← A.hro];exact hle) q3 q4) q0
       ·rw[getElem?_put1 _ _ _ hput] at q1
        rw[if_neg (by rw[hvl] at q3;omega)] at q1
        exact q1
       ·rw[hvl] at q4
        rw[getElem?_put1 _ _ _ hput,if_pos (by omega)] at q1
        rw[show i * sz+j-(i * sz+off)=j-off by omega] at q5
        exact r1.2 _ z w q1 (by simpa using q5)
     ·replace hik:¬ i=k:=hik
      simp only at hg
      split at hg
      ·rename_i cs u' hpl
       split at hg
       ·exact hg.elim
       ·rename_i hmem
        obtain⟨row,⟨_,hi⟩,hg⟩:=hg
        have hi:rows[i]?=some row:=by simpa using hi
        have hi':i<rows.length:=(List.getElem?_eq_some_iff.1 hi).1
        have hrl:=A.hs row (List.mem_of_getElem? hi)
        cases hle:Nat.ble (off+ty.size) row.length with
        | false=>simp only [hle] at hg;exact hg.elim
        | true =>
         simp only [hle] at hg
         have hle:=ble_le hle
         obtain⟨rfl,rfl⟩:=hg
         have hnt:t ∉ locsL (cells (evp st.tmps y)):=fun hm=>by rw[memN_iff.2 hm] at hmem;cases hmem
         obtain⟨c1,w1,t1,le1,i1,n1,p1,_,k1⟩:=plainCells_ok h (fun l x hx=>.inl (hlook l x hx)) hpl (vs:=(a.eval y).cells.toList) (by rw[r1.1];simp) (fun j x v q1 q2=>r1.2 j x v q1 (by simpa using q2))
         have ht1:hget (hsets st.heap u') t=some (.arrx nn sz rows k ro):=by rw[k1 t (.inl hnt)];exact ht0
         have hv1:(c1.θ t).val=.slice (some ⟨b,o',none⟩) len cap':=by rw[t1];exact hv
         obtain⟨_,_,_,A1,_⟩:=arx_at i1 ht1 hv1
         obtain⟨w',hrun,W⟩:=run (m:=sz) (by rw[← hrl];exact hle) hi' rfl
         have hput:off+cs.length≤row.length:=by omega
         have W1:Wrote c1.w w' b (o'+(i * sz+off)) (a.eval y).cells.toList:=by rw[w1];exact W
         have hrlen:∀ r∈rows.set i (put1 row off cs),r.length=sz:=by
          intro r hr
          rcases List.mem_or_eq_of_mem_set hr with hr|rfl
          ·exact A.hs r hr
          ·rw[length_put1 _ _ _ hput,hrl]
         refine fin ex hrun { c1 with w:=w' } rfl ?_ rfl
         rw[hsets_append]
         refine i1.wroteArx ht1 hv1 W1 r2 (by simp) hrlen A.hro (fun i2 j r z _ q1 q2 q3=>?_) (fun i2 j r z w _ q1 q2 q3 q4 q5=>?_) (fun j z q1 _=>q1) (fun j z w q1 q3 q4 _=>?_)
         ·rw[getElem?_set_rows] at q1
          split at q1
          ·rename_i e'
           subst e'
           obtain rfl:=Option.some.inj q1
           rw[getElem?_put1 _ _ _ hput] at q2
           rw[if_neg (by rw[hvl] at q3;omega)] at q2
           exact⟨row,hi,q2⟩
          ·exact⟨r,q1,q2⟩
         ·have hj:j<sz:=by
           have:=(List.getElem?_eq_some_iff.1 q2).1
           have:=hrlen r (List.mem_of_getElem? q1)
           omega
          rw[hvl] at q4
          obtain rfl:i2=i:=row_apart hj (by rw[← hrl];exact hle) q3 q4
          rw[getElem?_set_rows,if_pos rfl,if_pos hi'] at q1
          obtain rfl:=Option.some.inj q1
          rw[getElem?_put1 _ _ _ hput,if_pos (by omega)] at q2
          rw[show i2 * sz+j-(i2 * sz+off)=j-off by omega] at q5
          exact p1 _ z w q2 q5
         ·have hj:j<sz:=by rw[← A.hro];exact(List.getElem?_eq_some_iff.1 q1).1
          rw[hvl] at q4
          exact absurd (row_apart hj (by rw[← hrl];exact hle) q3 q4) (Ne.symm hik)
      ·exact hg.elim
    ·exact hg.elim
   ·exact hg.elim
end
end Go.Sym
namespace Go.Sym
open Go
section
variable {P:Program} {fc:FC} {c:RC} {st:ASt} {a:Act} {o:Oper} {E:Env} {F:FnT} {v:PV} {u:List (Nat×Sym.Obj)}
theorem mapM_places:∀ (fields:List Field) (fs:List (Nat×Nat×Bool)),fields.length=fs.length→(∀ (j:Nat) off size ag,fs[j]?=some (off,size,ag)→∃ f fi,fields[j]?=some f∧f.offset=off∧P.info? f.type=some fi∧fi.size=size) →
  fields.mapM (fun f=>(P.info? f.type).map fun i=>(f.offset,i.size))=some (placesOf fs)
 | [],[],_,_=>rfl
 | f::fields,(off,size,ag)::fs,hl,h=>by
  obtain⟨f',fi,e1,e2,e3,e4⟩:=h 0 off size ag rfl
  obtain rfl:f=f':=by simpa using e1
  have ih:=mapM_places fields fs (by simpa using hl) (fun j off size ag hj=>by obtain⟨f,fi,q1,q2⟩:=h (j+1) off size ag (by simpa using hj);exact⟨f,fi,by simpa using q1,q2⟩)
  simp [List.mapM_cons,e3,ih,placesOf,e2,e4]
 | [],_::_,hl,_=>by simp at hl
 | _::_,[],hl,_=>by simp at hl
theorem partsOf_eq (ρ:Operand→PV) (l:List (Nat×Operand)):partsOf ρ l=l.map fun p=>(p.1,ρ p.2):=by
 induction l with
 | nil=>rfl
 | cons p r ih=>obtain⟨i,x⟩:=p;simp [partsOf,ih]
theorem parts_rep (h:Inv fc c st a) (parts:Array (Nat×Operand)):∀ (k:Nat) p q,(partsOf (evp st.tmps) parts.toList)[k]?=some p→((parts.map fun(i,x)=>(i,a.eval x)).toList)[k]?=some q→p.1=q.1∧Rep c p.2 q.2:=by
 intro k p q h1 h2
 rw[partsOf_eq] at h1
 simp only [List.getElem?_map,Array.toList_map] at h1 h2
 cases hk:parts.toList[k]? with
 | none=>simp [hk] at h1
 | some y =>
  simp only [hk,Option.map_some,Option.some.injEq] at h1 h2
  subst h1;subst h2
  exact⟨rfl,h.eval _⟩
theorem build_ok (hE:EnvOk P E) (h:Inv fc c st a) {t:TypeId} {parts:Array (Nat×Operand)} (hop:o.op=.build t parts) {look:Nat→Option Sym.Obj}
  (hg:(opr E o (evp st.tmps) look).gives F v u):OpOk P fc st o a c.w v u:=by
 simp only [opr,hop] at hg
 cases ht:E.ty t with
 | none=>simp only [ht] at hg;exact hg.elim
 | some ty =>
  simp only [ht] at hg
  obtain⟨d,hd,hk⟩:=(hE t ty ht).und
  obtain⟨inf,z,hi,hs,hby,hz,hz1,hz2,hz3⟩:=(hE t ty ht).info
  have hzr:RepL c ty.zero z.cells:=⟨by rw[hz1,hz2],fun j x v p q=>.plain ((hz3 j x v p q).prep _ _)⟩
  have hlen:(partsOf (evp st.tmps) parts.toList).length=((parts.map fun(i,x)=>(i,a.eval x)).toList).length:=by simp [partsOf_eq]
  split at hg
  ·rename_i fs htk
   split at hg
   ·rename_i cs hf
    obtain⟨rfl,rfl⟩:=hg
    simp only [tkOk,htk] at hk
    obtain⟨_,fields,rfl,hfl,hfs⟩:=hk
    obtain⟨arr,g1,g2⟩:=fillP_ok (c:=c) (nth (placesOf fs)) hf hlen (parts_rep h parts) hzr
    refine .pure h (rv:=.agg arr) ?_ (.agg _ _ g2.1 g2.2)
    simp only [execOp,hop,Sem.run_bind]
    rw[run_build c.w t _ arr]
    ·rfl
    ·unfold Program.built
     have hm:=mapM_places (P:=P) fields.toList fs (by simpa using hfl) (fun j off size ag hj=>by obtain⟨f,fi,q1,q2,q3,q4,_⟩:=hfs j off size ag hj;exact⟨f,fi,by simpa using q1,q2,q3,q4⟩)
     simp only [hi,hd,hz,hm]
     rw[← g1]
     congr 1
     funext x
     rw[nth_eq];simp
   ·exact hg.elim
  ·rename_i n e htk
   split at hg
   ·rename_i te hte
    split at hg
    ·rename_i cs hf
     obtain⟨rfl,rfl⟩:=hg
     simp only [tkOk,htk] at hk
     obtain⟨_,rfl⟩:=hk
     obtain⟨ie,ze,hie,hse,_⟩:=(hE e te hte).info
     obtain⟨arr,g1,g2⟩:=fillP_ok (c:=c) _ hf hlen (parts_rep h parts) hzr
     refine .pure h (rv:=.agg arr) ?_ (.agg _ _ g2.1 g2.2)
     simp only [execOp,hop,Sem.run_bind]
     rw[run_build c.w t _ arr]
     ·rfl
     ·unfold Program.built
      simp only [hi,hd,hz,hie,hse]
      exact g1
    ·exact hg.elim
   ·exact hg.elim
  ·exact hg.elim
structure RR (c:RC) (n sz:Nat) (rows:List (List PV)) (arr:Array Value):Prop where
 hn:rows.length=n
 hs:∀ r∈rows,r.length=sz
 size:arr.size=n * sz
 rep:∀ (i j:Nat) r x v,rows[i]?=some r→r[j]?=some x→arr[i * sz+j]?=some v→Rep c x v
 one:∀ v∈arr.toList,v.oneCell'=true
theorem zeroRows_eq (n:Nat) (z:List PV):zeroRows n z=List.replicate n z:=by
 induction n with
 | zero=>rfl
 | succ n ih=>simp [zeroRows,ih,List.replicate_succ]
theorem zeros_cell (z:Array Value) (m k:Nat) (hk:k<m):((Array.range m).map (z[· % z.size]!))[k]?=some (z[k % z.size]!):=by
 simp [hk]
theorem RR.zeros {t:Nat} {ty:TyI} (ht:TyOk P t ty) {z:Value} (hz1:z.cells.size=ty.size) (hz2:ty.zero.length=ty.size) (hz3:∀ (j:Nat) x v,ty.zero[j]?=some x→z.cells[j]?=some v→ConstRep x v) (c:RC) (n:Nat) :
  RR c n ty.size (List.replicate n ty.zero) ((Array.range (n * ty.size)).map (z.cells[· % z.cells.size]!)):=by
 have one:∀ k,k<n * ty.size→(z.cells[k % z.cells.size]!).oneCell'=true∧∀ j,j<ty.size→k % ty.size=j→∀ x,ty.zero[j]?=some x→Rep c x (z.cells[k % z.cells.size]!):=by
  intro k hk
  have hpos:0<ty.size:=by rcases Nat.eq_zero_or_pos ty.size with h|h;simp [h] at hk;exact h
  have hlt:k % z.cells.size<z.cells.size:=Nat.mod_lt _ (by omega)
  have hx:=hz3 (k % z.cells.size) (ty.zero[k % z.cells.size]'(by omega)) (z.cells[k % z.cells.size]) (by simp) (by simp)
  rw[getElem!_pos z.cells _ hlt]
  refine⟨hx.one,fun j hj e x hxx=>?_⟩
  rw[← hz1] at e
  subst e
  rw[List.getElem?_eq_getElem (by omega)] at hxx
  obtain rfl:=Option.some.inj hxx
  exact .plain (hx.prep _ _)
 refine⟨by simp,fun r hr=>by rw[List.eq_of_mem_replicate hr,hz2],by simp,fun i j r x v h1 h2 h3=>?_,fun v hv=>?_⟩
 ·have hi:i<n:=by have:=(List.getElem?_eq_some_iff.1 h1).1;simpa using this
  have hr:r=ty.zero:=List.eq_of_mem_replicate (List.mem_of_getElem? h1)
  subst hr
  have hj:j<ty.size:=by have:=(List.getElem?_eq_some_iff.1 h2).1;omega
  have hlt:i * ty.size+j<n * ty.size:=by
   have:(i+1) * ty.size≤n * ty.size:=Nat.mul_le_mul_right _ hi
   rw[Nat.succ_mul] at this
   omega
  rw[zeros_cell _ _ _ hlt] at h3
  obtain rfl:=Option.some.inj h3
  exact(one _ hlt).2 j hj (by rw[Nat.mul_comm,Nat.mul_add_mod];exact Nat.mod_eq_of_lt hj) x h2
 ·obtain⟨k,hk,rfl⟩:=List.getElem_of_mem hv
  have hk':k<n * ty.size:=by simpa using hk
  have:=(one k hk').1
  simpa using this
theorem setRow_eq (rows:List (List PV)) (i:Nat) (r:List PV):setRow rows i r=rows.set i r:=by
 induction rows generalizing i with
 | nil=>rfl
 | cons x l ih=>cases i<;>simp [setRow,ih]
theorem row_of {i i2 j sz n:Nat} (h1:i * sz≤i2 * sz+j) (h2:i2 * sz+j<i * sz+sz) (hj:j<sz):i2=i:=by
 rcases Nat.lt_trichotomy i2 i with h3|h3|h3
 ·have:(i2+1) * sz≤i * sz:=Nat.mul_le_mul_right _ h3
  rw[Nat.succ_mul] at this
  omega
 ·exact h3
 ·have:(i+1) * sz≤i2 * sz:=Nat.mul_le_mul_right _ h3
  rw[Nat.succ_mul] at this
  omega
theorem fillR_ok {n sz : Nat} : ∀ {ps : List (Nat × PV)} {qs : List (Nat × Value)} {rows rows' : List (List PV)} {arr : Array Value}, fillR sz rows ps = some rows' → ps.length = qs.length →
    (∀ (k:Nat) p q,ps[k]?=some p→qs[k]?=some q→p.1=q.1∧Rep c p.2 q.2)→RR c n sz rows arr→∃ arr',Instr.fill (fun i=>some (i * sz,sz)) arr qs=some arr'∧RR c n sz rows' arr'
  | [],[],rows,rows',arr,h,_,_,hr=>by
    simp only [fillR,Option.some.injEq] at h
    subst h
    exact⟨arr,rfl,hr⟩
  | (i,x)::ps,(j,v)::qs,rows,rows',arr,h,hl,hp,hr=>by
    obtain⟨e,hx⟩:=hp 0 (i,x) (j,v) rfl rfl
    simp only at e hx
    subst e
    simp only [fillR] at h
    split at h
    · rename_i hcond
      obtain⟨c1,c2,c3⟩:=and3 hcond
      have c1:=lenIs_eq c1
      have c3:i<rows.length:=ble_le c3
      obtain⟨hc,h1⟩:=rep_cells hx c2
      have hsz:v.cells.size=sz:=by rw[← hc.1,c1]
      have hin:(i+1) * sz≤n * sz:=Nat.mul_le_mul_right _ (by have:=hr.hn;omega)
      rw[Nat.succ_mul] at hin
      have hasz:=hr.size
      obtain⟨f1,f2⟩:=foldl_set v.cells.toList (i * sz) 0 arr
      simp only [Nat.add_zero,Array.length_toList] at f2
      have hr':RR c n sz (setRow rows i (cells x)) ((v.cells.toList.zipIdx 0).foldl (fun(cs:Array Value) (p:Value×Nat)=>cs.setIfInBounds (i * sz+p.2) p.1) arr):=by
        rw[setRow_eq]
        refine⟨by simp [hr.hn],fun r hr2=>?_,by rw[f1,hasz],fun i2 j r y w q1 q2 q3=>?_,fun w hw=>?_⟩
        · rcases List.mem_or_eq_of_mem_set hr2 with h5|rfl
          · exact hr.hs r h5
          · exact c1
        · have hk:i2 * sz+j<arr.size:=by
            have:=(Array.getElem?_eq_some_iff.1 q3).1
            omega
          rw[f2 _ hk,hsz] at q3
          rw[getElem?_set_rows] at q1
          by_cases e:i2=i
          · subst e
            rw[if_pos rfl,if_pos c3] at q1
            obtain rfl:=Option.some.inj q1
            have hj:j<sz:=by have:=(List.getElem?_eq_some_iff.1 q2).1;omega
            rw[if_pos (by omega),show i2 * sz+j-i2 * sz=j by omega] at q3
            exact hc.2 j y w q2 (by simpa using q3)
          · rw[if_neg e] at q1
            have hj:j<sz:=by
              have:=(List.getElem?_eq_some_iff.1 q2).1
              have:=hr.hs r (List.mem_of_getElem? q1)
              omega
            rw[if_neg (fun hh=>e (row_of (n:=n) hh.1 hh.2 hj))] at q3
            exact hr.rep i2 j r y w q1 q2 q3
        · obtain⟨k,hk,rfl⟩:=List.getElem_of_mem hw
          have hk':k<arr.size:=by rw[Array.length_toList,f1] at hk;exact hk
          have h6:=f2 k hk'
          rw[hsz] at h6
          have h7:((v.cells.toList.zipIdx 0).foldl (fun(cs:Array Value) (p:Value×Nat)=>cs.setIfInBounds (i * sz+p.2) p.1) arr)[k]?=some (((v.cells.toList.zipIdx 0).foldl (fun(cs:Array Value) (p:Value×Nat)=>cs.setIfInBounds (i * sz+p.2) p.1) arr).toList[k]):=by simp
          rw[h7] at h6
          split at h6
          · exact h1 _ (List.mem_of_getElem? h6.symm)
          · refine hr.one _ ?_
            rw[← Array.getElem?_toList] at h6
            exact List.mem_of_getElem? h6.symm
      obtain⟨arr',g1,g2⟩:=fillR_ok (ps:=ps) (qs:=qs) h (by simpa using hl) (fun k p q q1 q2=>hp (k+1) p q (by simpa using q1) (by simpa using q2)) hr'
      refine⟨arr',?_,g2⟩
      simp only [Instr.fill]
      rw [if_neg (by simp only [hsz]; have : ¬ (i * sz + sz > arr.size) := by omega
                     simp [this])]
      rw[← g1,← Array.foldl_toList,Array.toList_zipIdx]
    · cases h
  | [],_::_,_,_,_,_,hl,_,_=>by simp at hl
  | _::_,[],_,_,_,_,hl,_,_=>by simp at hl
theorem run_buildSlice' (w:World) (t e:TypeId) (len:Nat) (parts:Array (Nat×Value)) (cells:Array Value) (ie:TypeInfo) (z:Value)
  (hu:P.underlying t=some (.slice e)) (hie:P.info? e=some ie) (hz:ie.zero=some z) (hsmall:¬ len * ie.size > 2 ^ 24)
  (h:Instr.fill (fun i=>some (i * ie.size,ie.size)) ((Array.range (len * ie.size)).map (z.cells[· % z.cells.size]!)) parts.toList=some cells) :
  (Instr.buildSlice t len parts).run P w=.ok (.slice (some ⟨w.heap.size,0,none⟩) len len) (w.alloc (.cells cells e)):=by
 by_cases h0:len * ie.size=0
 ·have e0:(Array.range (len * ie.size)).map (z.cells[· % z.cells.size]!)=#[]:=Array.eq_empty_of_size_eq_zero (by simp [h0])
  rw[e0] at h
  have e1:∀ f:Nat→Value,(Array.range 0).map f=#[]:=fun f=>Array.eq_empty_of_size_eq_zero (by simp)
  simp [Instr.buildSlice,run_underlying hu,sizeOf,typeInfo,hie,h0,e1,h,newRow]
 ·exact run_buildSlice w t e len parts cells ie z hu hie hz hsmall h0 h
theorem buildSlice_ok (hE:EnvOk P E) (h:Inv fc c st a) (h64:fc.n0≤64) {t:TypeId} {n:Nat} {parts:Array (Nat×Operand)} (hop:o.op=.buildSlice t n parts)
  (hg:(opr E o (evp st.tmps) (only ((fpr o (evp st.tmps) (hget st.heap)).1++(fpr o (evp st.tmps) (hget st.heap)).2) (hget st.heap))).gives F v u):OpOk P fc st o a c.w v u:=by
 simp only [opr,hop] at hg
 have hsite:site o.dst∈(fpr o (evp st.tmps) (hget st.heap)).1++(fpr o (evp st.tmps) (hget st.heap)).2:=by simp [fpr,hop]
 generalize hlk:only _ (hget st.heap)=look at hg
 have hlook:∀ l x,look l=some x→hget st.heap l=some x:=fun l x hx=>by subst hlk;exact only_some hx
 have hnone:look (site o.dst)=none→hget st.heap (site o.dst)=none:=fun hx=>by subst hlk;exact only_none hsite hx
 split at hg
 ·rename_i d ty hd ht hl
  have hfree:=hnone hl
  obtain⟨dd,hdd,hk⟩:=(hE t ty ht).und
  split at hg
  ·rename_i e htk
   simp only [tkOk,htk] at hk
   obtain⟨rfl,_⟩:=hk
   split at hg
   ·rename_i te hte
    split at hg
    ·rename_i hsm
     have hsm:=ble_le hsm
     split at hg
     ·rename_i rows hf
      split at hg
      ·rename_i rows' u' hpl
       obtain⟨rfl,rfl⟩:=hg
       obtain⟨ie,z,hie,hse,_,hz,hz1,hz2,hz3⟩:=(hE e te hte).info
       have hlen:(partsOf (evp st.tmps) parts.toList).length=((parts.map fun(i,x)=>(i,a.eval x)).toList).length:=by simp [partsOf_eq]
       rw[zeroRows_eq] at hf
       obtain⟨arr,g1,g2⟩:=fillR_ok (c:=c) (n:=n) hf hlen (parts_rep h parts) (RR.zeros (hE e te hte) hz1 hz2 hz3 c n)
       obtain⟨c1,w1,t1,le1,i1,n1,s1,p1,_,k1⟩:=plainRows_ok h (fun l x hx=>.inl (hlook l x hx)) hpl (sz:=te.size) (f:=fun i j=>arr[i * te.size+j]?) g2.hs (fun i j hi hj=>by
        have hn:=g2.hn
        have:(i+1) * te.size≤n * te.size:=Nat.mul_le_mul_right _ (by omega)
        rw[Nat.succ_mul] at this
        rw[Array.getElem?_eq_getElem (by rw[g2.size];omega)];rfl) g2.rep
       have hfree1:hget (hsets st.heap u') (site o.dst)=none:=by rw[k1 _ (.inr hfree)];exact hfree
       obtain⟨c2,w2,r2,i2⟩:=i1.newArr hfree1 (by rw[hd];exact le_site h64) arr e (Grow.refl _) (nn:=nnLen n) (sz:=te.size) (cap:=n) (rows:=rows') (by rw[n1,g2.hn];exact Nat.le_refl _) s1 (by
        cases n with
        | zero=>intro h;simp [nnLen] at h
        | succ n=>intro _ e;rw[e] at n1;have:=g2.hn;simp at n1;omega) g2.size g2.one p1
       refine .value (w':=c1.w.alloc (.cells arr e)) (rv:=.slice (some ⟨c1.w.heap.size,0,none⟩) n n) ?_ c2 w2 (by rw[hsets_append];exact i2) (by
        have:=g2.hn
        rw[n1,this] at r2;exact r2)
       simp only [execOp,hop,Sem.run_bind]
       rw[run_buildSlice' c.w t e n _ arr ie z hdd hie hz (by rw[hse];omega) (by rw[hse];exact g1),w1]
       rfl
      ·exact hg.elim
     ·exact hg.elim
    ·exact hg.elim
   ·exact hg.elim
  ·exact hg.elim
 ·exact hg.elim
end
end Go.Sym
namespace Go.Sym
open Go
section
variable {P:Program} {fc:FC} {c:RC} {st:ASt} {a:Act} {o:Oper} {E:Env} {F:FnT} {v:PV} {u:List (Nat×Sym.Obj)}
theorem RR.plainZeros {t:Nat} {ty:TyI} (ht:TyOk P t ty) {z:Value} (hz1:z.cells.size=ty.size) (hz2:ty.zero.length=ty.size) (hz3:∀ (j:Nat) x v,ty.zero[j]?=some x→z.cells[j]?=some v→ConstRep x v) (n m:Nat) (hnm:n≤m) :
  (∀ v∈((Array.range (m * ty.size)).map (z.cells[· % z.cells.size]!)).toList,v.oneCell'=true) ∧
  ∀ (w:World) (X:Nat→Prop) (i j:Nat) r x v,(List.replicate n ty.zero)[i]?=some r→r[j]?=some x→((Array.range (m * ty.size)).map (z.cells[· % z.cells.size]!))[i * ty.size+j]?=some v→PRep w X x v:=by
 have R:∀ c,RR c m ty.size (List.replicate m ty.zero) _:=fun c=>RR.zeros ht hz1 hz2 hz3 c m
 refine⟨(R ⟨default,fun _=>False,fun _=>False,fun _=>False,fun _=>⟨default,0⟩⟩).one,fun w X i j r x v h1 h2 h3=>?_⟩
 have hr:r=ty.zero:=List.eq_of_mem_replicate (List.mem_of_getElem? h1)
 subst hr
 have hi:i<n:=by have:=(List.getElem?_eq_some_iff.1 h1).1;simpa using this
 have hj:j<ty.size:=by have:=(List.getElem?_eq_some_iff.1 h2).1;omega
 have hlt:i * ty.size+j<m * ty.size:=by
  have:(i+1) * ty.size≤m * ty.size:=Nat.mul_le_mul_right _ (by omega)
  rw[Nat.succ_mul] at this
  omega
 rw[zeros_cell _ _ _ hlt] at h3
 obtain rfl:=Option.some.inj h3
 have hmod:(i * ty.size+j) % z.cells.size=j:=by rw[hz1,Nat.mul_comm,Nat.mul_add_mod];exact Nat.mod_eq_of_lt hj
 rw[hmod,getElem!_pos z.cells _ (by omega)]
 exact(hz3 j x _ h2 (by simp)).prep _ _
theorem makeSlice_ok (hE : EnvOk P E) (h : Inv fc c st a) (h64 : fc.n0 ≤ 64) {t : TypeId} {l k : Operand} (hop : o.op = .makeSlice t l k)
    (hg : (opr E o (evp st.tmps) (only ((fpr o (evp st.tmps) (hget st.heap)).1 ++ (fpr o (evp st.tmps) (hget st.heap)).2) (hget st.heap))).gives F v u) : OpOk P fc st o a c.w v u := by
  simp only [opr, hop] at hg
  have hsite : site o.dst ∈ (fpr o (evp st.tmps) (hget st.heap)).1 ++ (fpr o (evp st.tmps) (hget st.heap)).2 := by simp [fpr, hop]
  generalize hlk : only _ (hget st.heap) = look at hg
  have hnone : look (site o.dst) = none → hget st.heap (site o.dst) = none := fun hx => by subst hlk; exact only_none hsite hx
  split at hg
  · rename_i d ty hd ht hl
    have hfree := hnone hl
    obtain ⟨dd, hdd, hk⟩ := (hE t ty ht).und
    split at hg
    · rename_i e htk
      simp only [tkOk, htk] at hk
      obtain ⟨rfl, _⟩ := hk
      split at hg
      · rename_i te hte
        split at hg
        · rename_i kl nl kc nc hl1 hc1
          obtain ⟨⟨b1, b2, b3, b4⟩, rfl, rfl⟩ := hg
          have el : a.eval l = .int kl nl := by have := h.eval l; rw [hl1] at this; exact this.int_inv
          have ec : a.eval k = .int kc nc := by have := h.eval k; rw [hc1] at this; exact this.int_inv
          obtain ⟨ie, z, hie, hse, hby, hz, hz1, hz2, hz3⟩ := (hE e te hte).info
          obtain ⟨n, rfl⟩ := Int.eq_ofNat_of_zero_le b1
          obtain ⟨m, rfl⟩ := Int.eq_ofNat_of_zero_le (Int.le_trans b1 b2)
          have hnm : n ≤ m := by omega
          obtain ⟨g1, g2⟩ := RR.plainZeros (hE e te hte) hz1 hz2 hz3 n m hnm
          obtain ⟨c2, w2, r2, i2⟩ := h.newArr hfree (by rw [hd]; exact le_site h64) ((Array.range (m * te.size)).map (z.cells[· % z.cells.size]!)) e (Grow.refl _) (nn := 1) (sz := te.size) (cap := m) (rows := List.replicate n te.zero) (by simpa using hnm)
            (fun r hr => by rw [List.eq_of_mem_replicate hr, hz2]) (by simp) (by simp) g1 (fun i j r x v q1 q2 q3 => g2 _ _ i j r x v q1 q2 q3)
          refine .value (w' := c.w.alloc (.cells ((Array.range (m * te.size)).map (z.cells[· % z.cells.size]!)) e)) (rv := .slice (some ⟨c.w.heap.size, 0, none⟩) n m) ?_ c2 w2 i2 (by simpa using r2)
          have wl : IntKind.i64.wrap (n : Int) = n := by unfold IntKind.wrap; simp [IntKind.bits, IntKind.signed]; omega
          have wc : IntKind.i64.wrap (m : Int) = m := by unfold IntKind.wrap; simp [IntKind.bits, IntKind.signed]; omega
          simp only [execOp, hop, Sem.run_bind, el, ec]
          have hb : ¬ ((te.bytes : Int) * m > 2 ^ 48) := by
            have : (te.bytes : Int) * m = m * te.bytes := Int.mul_comm _ _
            omega
          have e1 : (Instr.makeSlice t (.int kl n) (.int kc m)).run P c.w = .ok (.slice (some ⟨c.w.heap.size, 0, none⟩) n m) (c.w.alloc (.cells ((Array.range (m * te.size)).map (z.cells[· % z.cells.size]!)) e)) := by
            have n1 : ¬ ((m : Int) < 0) := by omega
            have n2 : ¬ ((n : Int) < 0) := by omega
            have n3 : ¬ ((n : Int) > m) := by omega
            have hcond : ((decide ((m : Int) < 0) || decide ((ie.bytes : Int) * m > 2 ^ 48)) || decide ((n : Int) < 0) || decide ((n : Int) > m)) = false := by
              rw [hby]; simp only [n1, hb, n2, n3, decide_false, Bool.or_false]
            by_cases h0 : m * te.size = 0
            · have e0 : ∀ f : Nat → Value, (Array.range 0).map f = #[] := fun f => Array.eq_empty_of_size_eq_zero (by simp)
              simp only [Instr.makeSlice, Sem.run_bind, run_underlying hdd, Result.andThen_ok, asInt, asIntOf, Sem.run_pure, typeInfo, run_program, hie, wl, wc, hcond]
              simp [sizeOf, typeInfo, hie, hse, h0, e0, newRow]
            · simp only [Instr.makeSlice, Sem.run_bind, run_underlying hdd, Result.andThen_ok, asInt, asIntOf, Sem.run_pure, typeInfo, run_program, hie, wl, wc, hcond]
              simp [sizeOf, typeInfo, zeroValue, hie, hse, hz, h0, newRow]
          rw [e1]
          rfl
        · exact hg.elim
      · exact hg.elim
    · exact hg.elim
  · exact hg.elim
/-! ### Addresses -/
theorem fieldAddr_ok (hE:EnvOk P E) (h:Inv fc c st a) {s:TypeId} {x:Operand} {f:Nat} (hop:o.op=.fieldAddr s x f) {look:Nat→Option Sym.Obj} (hg:(opr E o (evp st.tmps) look).gives F v u):OpOk P fc st o a c.w v u:=by
 simp only [opr,hop] at hg
 have hx:=h.eval x
 cases ht:E.ty s with
 | none=>simp only [ht] at hg;exact hg.elim
 | some ty =>
  simp only [ht,fieldAddrr] at hg
  obtain⟨d,hd,hk⟩:=(hE s ty ht).und
  split at hg
  ·rename_i fs htk
   simp only [tkOk,htk] at hk
   obtain⟨_,fields,rfl,hfl,hfs⟩:=hk
   split at hg
   ·rename_i off size ag hf
    rw[nth_eq] at hf
    obtain⟨fl,fi,q1,q2,q3,q4,q5⟩:=hfs f off size ag hf
    clear q5
    split at hg
    ·exact hg.elim
    ·rename_i n
     have hrun:∀ (b oo:Nat),a.eval x=.pointer (some ⟨b,oo,none⟩)→(execOp a.eval o).run P c.w=.ok (.value (.pointer (some ⟨b,oo+off,none⟩))) c.w:=by
      intro b oo ex
      have hs:(sizeOf fl.type).run P c.w=.ok (n+1) c.w:=by simp [sizeOf,typeInfo,q3,q4]
      simp only [execOp,hop,Sem.run_bind,Instr.fieldAt,run_underlying hd,Result.andThen_ok,q1,Instr.sureAddr,ex,Sem.run_pure,fieldPlace,hs,Sem.run_ite,q2,Addr.add_lit]
      simp
     split at hg
     ·rename_i l oo hp
      obtain⟨rfl,rfl⟩:=hg
      rw[hp] at hx
      obtain⟨b,ex,hd',hv⟩:=hx.ptr_inv
      exact .pure h (hrun b oo ex) (.ptr l (oo+off) b hd' hv)
     ·rename_i row oo hp
      obtain⟨rfl,rfl⟩:=hg
      rw[hp] at hx
      obtain⟨b,o',vals,ex,hX,hc,h1,hr⟩:=hx.ep_inv
      refine .pure h (hrun b (o'+oo) ex) ?_
      rw[Nat.add_assoc]
      exact .ep row (oo+off) b o' vals hX hc h1 hr
     ·rename_i t i oo hp
      obtain⟨rfl,rfl⟩:=hg
      rw[hp] at hx
      obtain⟨b,o',len,cap,ex,hd',hv,hi⟩:=hx.er_inv
      refine .pure h (hrun b _ ex) ?_
      rw[Nat.add_assoc,Nat.add_assoc]
      exact .er t i (oo+off) b o' len cap hd' hv hi
     ·exact hg.elim
   ·exact hg.elim
  ·exact hg.elim
theorem header (h:Inv fc c st a) {t:Nat} {nn sz:Nat} {cap:Option Nat} {rows:List (List PV)} (ho:hget st.heap t=some (.arr nn cap sz rows)∨hget st.heap t=some (.frz nn sz rows)) :
  (c.θ t).sz=sz∧(((c.θ t).val=.slice none 0 0∧rows=[])∨∃ b off k,(c.θ t).val=.slice (some ⟨b,off,none⟩) rows.length k∧rows.length≤k):=by
 rcases ho with ho|ho
 ·obtain⟨hz,ho⟩:=h.obj t _ ho
  refine⟨hz,?_⟩
  rcases ho with ⟨e,e2,_⟩ | ⟨b,o',cap',e,_,_,_,A,_⟩
  ·exact .inl ⟨e,e2⟩
  ·exact .inr ⟨b,o',cap',e,A.hc⟩
 ·obtain⟨hz,hp,hs⟩:=h.obj t _ ho
  refine⟨hz,?_⟩
  rcases hs with e | ⟨b,o',k,e⟩
  ·refine .inl ⟨e,?_⟩
   rw[e] at hp
   cases hp;rfl
  ·refine .inr ⟨b,o',k,e,?_⟩
   rw[e] at hp
   cases hp with
   | sl _ _ _ _ _ _ _ vals hn hc=>exact hc
theorem indexAddr_ok (hE : EnvOk P E) (h : Inv fc c st a) {t : TypeId} {x y : Operand} (hop : o.op = .indexAddr t x y) {look : Nat → Option Sym.Obj} (hlook : ∀ l x, look l = some x → hget st.heap l = some x)
    (hg : (opr E o (evp st.tmps) look).gives F v u) : OpOk P fc st o a c.w v u := by
  simp only [opr, hop] at hg
  have hx := h.eval x
  have hy := h.eval y
  split at hg
  · rename_i ty k i ht hi
    rw [hi] at hy
    have ey := hy.int_inv
    obtain ⟨d, hd, hk⟩ := (hE t ty ht).und
    simp only [indexAddrr] at hg
    split at hg
    · rename_i e htk
      simp only [tkOk, htk] at hk
      obtain ⟨rfl, _⟩ := hk
      split at hg
      · rename_i te hte
        have hrun : ∀ (ad : Addr) (n k' : Nat), a.eval x = .slice (some ad) n k' → 0 ≤ i → i < n → (execOp a.eval o).run P c.w = .ok (.value (.pointer (some (ad.add (i.toNat * te.size))))) c.w := by
          intro ad n k' ex h0 h1
          simp only [execOp, hop, Sem.run_bind, Instr.indexAt, ey, asIntOf, Sem.run_pure, Result.andThen_ok, run_underlying hd, ex, Bool.and_false, if_pos (And.intro h0 h1), (hE e te hte).sizeOf]
        split at hg
        · rename_i bo nn full sz rows hp
          split at hg
          · rename_i hsz
            have hsz := Nat.eq_of_beq_eq_true hsz
            obtain ⟨row, ⟨h0, hrow⟩, hg⟩ := hg
            cases hlen : lenIs row te.size with
            | false => simp only [hlen] at hg; exact hg.elim
            | true =>
              simp only [hlen] at hg
              have hlen := lenIs_eq hlen
              obtain ⟨rfl, rfl⟩ := hg
              have hi' : i.toNat < rows.length := (List.getElem?_eq_some_iff.1 hrow).1
              rw [hp] at hx
              have key : ∀ (ad : Addr) (n cap sz' : Nat) (vals : Nat → Nat → Value), a.eval x = .slice (some ad) n cap → rows.length = n → (0 < n → c.Xr ad.block ∧ ad.spot = none) → (∀ r ∈ rows, r.length = sz') →
                  (∀ i j, i < n → j < sz' → c.w.cell? ⟨ad.block, ad.off + (i * sz' + j), none⟩ = some (vals i j)) → (∀ i j, i < n → j < sz' → (vals i j).oneCell' = true) →
                  (∀ (i j : Nat) r x, rows[i]? = some r → r[j]? = some x → PRep c.w c.Xk x (vals i j)) → OpOk P fc st o a c.w (.ep row 0) [] := by
                intro ad n cap sz' vals ex hn hX hs hcell h1 hrep
                have hz : sz' = te.size := by rw [← hlen]; exact (hs row (List.mem_of_getElem? hrow)).symm
                subst hz
                obtain ⟨X1, X2⟩ := hX (by omega)
                refine .pure h (hrun ad n cap ex h0 (by omega)) ?_
                have e1 : ad.add (i.toNat * te.size) = ⟨ad.block, ad.off + i.toNat * te.size + 0, none⟩ := by
                  obtain ⟨b, of, sp⟩ := ad
                  simp only at X2
                  subst X2
                  rw [Addr.add_lit]; rfl
                rw [e1]
                exact .ep row 0 ad.block (ad.off + i.toNat * te.size) (vals i.toNat) X1 (fun j hj => by rw [Nat.add_assoc]; exact hcell _ j (by omega) (by omega)) (fun j hj => h1 _ j (by omega) (by omega)) (fun j x hx => hrep _ j row x hrow hx)
              generalize hv : a.eval x = vx at hx key
              cases hx with
              | plain p =>
                cases p with
                | slnil => simp at hi'
                | sl _ _ _ ad n cap sz' vals hn hc hf h2 hX hs hcell h1 hrep => exact key ad n cap sz vals rfl hn (fun h' => ⟨h.kr _ (hX h').1, (hX h').2⟩) hs hcell h1 hrep
              | slbnil => simp at hi'
              | slb _ _ _ ad n cap sz' vals hn hc hf h2 hX hs hcell h1 hrep => exact key ad n cap sz vals rfl hn hX hs hcell h1 hrep
          · exact hg.elim
        · rename_i tt hp
          have key : ∀ {nn sz : Nat} {cap : Option Nat} {rows : List (List PV)}, (hget st.heap tt = some (.arr nn cap sz rows) ∨ hget st.heap tt = some (.frz nn sz rows)) →
              (match Nat.beq sz te.size with
                | true => inRows (fun _ => rows.length) i fun i' => ret1 (.er tt i' 0)
                | false => .stop "indexAddr: size").gives F v u → OpOk P fc st o a c.w v u := by
            intro nn sz cap rows ho hg
            cases hsz : Nat.beq sz te.size with
            | false => simp only [hsz] at hg; exact hg.elim
            | true =>
              simp only [hsz] at hg
              have hsz := Nat.eq_of_beq_eq_true hsz
              obtain ⟨⟨h0, h1⟩, rfl, rfl⟩ := hg
              replace h1 : i < (rows.length : Int) := h1
              rw [hp] at hx
              obtain ⟨ex, hdm, _⟩ := hx.ref_inv
              obtain ⟨hz, hh⟩ := header h ho
              rcases hh with ⟨_, rfl⟩ | ⟨b, off, k', hv, _⟩
              · simp at h1; omega
              · rw [hv] at ex
                refine .pure h (hrun _ _ _ ex h0 h1) ?_
                rw [Addr.add_lit]
                have := Rep.er (c := c) tt i.toNat 0 b off rows.length k' hdm hv (by omega)
                rwa [hz, hsz, Nat.add_zero] at this
          split at hg
          · rename_i hl; exact key (.inl (hlook _ _ hl)) hg
          · rename_i hl; exact key (cap := none) (.inr (hlook _ _ hl)) hg
          · rename_i nn sz rows kk ro hl
            cases hsz : Nat.beq sz te.size with
            | false => simp only [hsz] at hg; exact hg.elim
            | true =>
              simp only [hsz] at hg
              have hsz := Nat.eq_of_beq_eq_true hsz
              obtain ⟨⟨h0, h1⟩, rfl, rfl⟩ := hg
              replace h1 : i < (rows.length : Int) := h1
              rw [hp] at hx
              obtain ⟨ex, hdm, _⟩ := hx.ref_inv
              obtain ⟨hz, b, off, k', hv, _⟩ := h.obj tt _ (hlook _ _ hl)
              rw [hv] at ex
              refine .pure h (hrun _ _ _ ex h0 h1) ?_
              rw [Addr.add_lit]
              have := Rep.er (c := c) tt i.toNat 0 b off rows.length k' hdm hv (by omega)
              rwa [hz, hsz, Nat.add_zero] at this
          · exact hg.elim
        · rename_i tt full lo n hp
          have key : ∀ {nn sz : Nat} {cap : Option Nat} {rows : List (List PV)}, (hget st.heap tt = some (.arr nn cap sz rows) ∨ hget st.heap tt = some (.frz nn sz rows)) →
              (match Nat.beq sz te.size with
                | true => inRows (fun _ => n) i fun i' => .lett Nat (fun _ => lo + i') fun j => ret1 (.er tt j 0)
                | false => .stop "indexAddr: size").gives F v u → OpOk P fc st o a c.w v u := by
            intro nn sz cap rows ho hg
            cases hsz : Nat.beq sz te.size with
            | false => simp only [hsz] at hg; exact hg.elim
            | true =>
              simp only [hsz] at hg
              have hsz := Nat.eq_of_beq_eq_true hsz
              obtain ⟨⟨h0, h1⟩, rfl, rfl⟩ := hg
              replace h1 : i < (n : Int) := h1
              rw [hp] at hx
              obtain ⟨hz, _⟩ := header h ho
              generalize hv : a.eval x = vx at hx
              cases hx with
              | plain p => cases p
              | subnil => simp at h1; omega
              | sub _ _ _ _ b off len cap0 cap' ad hdm hv' hn hf hgg ha hl =>
                obtain rfl := ha (.inl (by omega))
                refine .pure h (hrun _ _ _ hv h0 h1) ?_
                rw [Addr.add_lit]
                have := Rep.er (c := c) tt (lo + i.toNat) 0 b off len cap0 hdm hv' (by omega)
                rw [hz, hsz, Nat.add_zero, Nat.add_mul, ← Nat.add_assoc] at this
                rw [hz, hsz]
                exact this
          split at hg
          · rename_i hl; exact key (.inl (hlook _ _ hl)) hg
          · rename_i hl; exact key (cap := none) (.inr (hlook _ _ hl)) hg
          · exact hg.elim
        · exact hg.elim
      · exact hg.elim
    · rename_i n e htk
      simp only [tkOk, htk] at hk
      obtain ⟨_, rfl⟩ := hk
      split at hg
      · rename_i te hte
        split at hg
        · rename_i l oo hp
          obtain ⟨⟨h0, h1⟩, rfl, rfl⟩ := hg
          replace h1 : i < (n : Int) := h1
          rw [hp] at hx
          obtain ⟨b, ex, hd', hv⟩ := hx.ptr_inv
          refine .pure h ?_ (.ptr l (oo + i.toNat * te.size) b hd' hv)
          simp only [execOp, hop, Sem.run_bind, Instr.indexAt, ey, asIntOf, Sem.run_pure, Result.andThen_ok, run_underlying hd, Instr.sureAddr, ex, if_pos (And.intro h0 h1), (hE e te hte).sizeOf, Addr.add_lit]
        · exact hg.elim
      · exact hg.elim
    · exact hg.elim
  · exact hg.elim
end
end Go.Sym
namespace Go.Sym
open Go
section
variable {P:Program} {fc:FC} {c:RC} {st:ASt} {a:Act} {o:Oper} {E:Env} {F:FnT} {v:PV} {u:List (Nat×Sym.Obj)}
structure SrcOk (P:Program) (w:World) (X:Nat→Prop) (vy:Value) (size:Nat) (rows:List (List PV)):Prop where
 len:∀ w':World,(Builtin.lenOf vy).run P w'=.ok rows.length w'
 hs:∀ r∈rows,r.length=size
 cells:∀ n,n≤rows.length→∃ news:List Value,(∀ w':World,w'.heap=w.heap→(Builtin.firstCells size n vy).run P w'=.ok news.toArray w')∧news.length=n * size∧(∀ u∈news,u.oneCell'=true) ∧
  ∀ (i j:Nat) r x v,i<n→rows[i]?=some r→r[j]?=some x→news[i * size+j]?=some v→PRep w X x v
structure CellsAt (w:World) (X:Nat→Prop) (ad:Addr) (size:Nat) (rows:List (List PV)):Prop where
 spot:0<rows.length→ad.spot=none
 hs:∀ r∈rows,r.length=size
 cell:∀ (i j:Nat) r x,rows[i]?=some r→r[j]?=some x→∃ v,w.cell? ⟨ad.block,ad.off+(i * size+j),none⟩=some v∧PRep w X x v∧v.oneCell'=true
theorem CellsAt.src {w:World} {X:Nat→Prop} {ad:Addr} {size k:Nat} {rows:List (List PV)} (h:CellsAt w X ad size rows):SrcOk P w X (.slice (some ad) rows.length k) size rows:=by
 refine⟨fun w'=>rfl,h.hs,fun n hn=>?_⟩
 have hall:∀ p,p<n * size→∃ i j r x v,p=i * size+j∧i<n∧rows[i]?=some r∧r[j]?=some x∧w.cell? ⟨ad.block,ad.off+p,none⟩=some v∧PRep w X x v∧v.oneCell'=true:=by
  intro p hp
  have hpos:0<size:=by rcases Nat.eq_zero_or_pos size with e|e;simp [e] at hp;exact e
  have hdm:=Nat.div_add_mod p size
  rw[Nat.mul_comm] at hdm
  have hi:p / size<n:=Nat.div_lt_of_lt_mul (by rw[Nat.mul_comm];exact hp)
  have hj:p % size<size:=Nat.mod_lt _ hpos
  have hr:rows[p / size]?=some (rows[p / size]'(by omega)):=by simp
  have hrl:=h.hs _ (List.mem_of_getElem? hr)
  have hx:(rows[p / size]'(by omega))[p % size]?=some ((rows[p / size]'(by omega))[p % size]'(by omega)):=by simp
  obtain⟨v,h1,h2,h3⟩:=h.cell _ _ _ _ hr hx
  rw[hdm] at h1
  exact⟨p / size,p % size,_,_,v,hdm.symm,hi,hr,hx,h1,h2,h3⟩
 let f:Nat→Value:=fun p=>(w.cell? ⟨ad.block,ad.off+p,none⟩).getD default
 have hf:∀ p,p<n * size→w.cell? ⟨ad.block,ad.off+p,none⟩=some (f p):=by
  intro p hp
  obtain⟨_,_,_,_,v,_,_,_,_,h1,_⟩:=hall p hp
  simp [f,h1]
 have hnews:∀ (j:Nat) u,((List.range (n * size)).map f)[j]?=some u→j<n * size∧u=f j:=by
  intro j u hu
  have hj:j<n * size:=by have:=(List.getElem?_eq_some_iff.1 hu).1;simpa using this
  simp [hj] at hu
  exact⟨hj,hu.symm⟩
 refine⟨(List.range (n * size)).map f,fun w' hw'=>?_,by simp,fun u hu=>?_,fun i j r x v hi hr hx hv=>?_⟩
 ·refine run_firstCells_some w' size n ad _ k _ (by simp) (fun j u hu=>?_)
  obtain⟨hj,rfl⟩:=hnews j u hu
  have hpos:0<rows.length:=by
   rcases Nat.eq_zero_or_pos n with e|e
   ·simp [e] at hj
   ·omega
  have e1:ad.add j=⟨ad.block,ad.off+j,none⟩:=by
   have hsp:=h.spot hpos
   obtain⟨b,of,sp⟩:=ad
   simp only at hsp
   subst hsp
   rw[Addr.add_lit]
  rw[e1,cell_same (w:=w) (w':=w') (by rw[hw'])]
  exact hf j hj
 ·obtain⟨p,hp,rfl⟩:=List.getElem_of_mem hu
  have hp':p<n * size:=by simpa using hp
  obtain⟨_,_,_,_,v,_,_,_,_,h1,_,h3⟩:=hall p hp'
  have:=hf p hp'
  rw[h1] at this
  obtain rfl:=Option.some.inj this
  simpa using h3
 ·obtain⟨hlt,rfl⟩:=hnews _ _ hv
  obtain⟨v',h1,h2,_⟩:=h.cell i j r x hr hx
  have:=hf _ hlt
  rw[h1] at this
  obtain rfl:=Option.some.inj this
  exact h2
theorem SrcOk.nil {w:World} {X:Nat→Prop} {n k size:Nat}:n=0→SrcOk P w X (.slice none n k) size []:=by
 rintro rfl
 refine⟨fun w'=>rfl,by simp,fun n hn=>⟨[],fun w' _=>rfl,?_,by simp,by simp⟩⟩
 simp at hn
 simp [hn]
theorem byteRows_get (s:ByteArray) (i:Nat):(byteRows s)[i]?=(s.data.toList[i]?).map fun b=>[PV.int .u8 b.toNat]:=by simp [byteRows]
theorem length_byteRows (s:ByteArray):(byteRows s).length=s.size:=by simp [byteRows]
theorem SrcOk.str {w:World} {X:Nat→Prop} {s:ByteArray}:SrcOk P w X (.string s) 1 (byteRows s):=by
 refine⟨fun w'=>by rw[length_byteRows];rfl,fun r hr=>?_,fun n hn=>?_⟩
 ·simp only [byteRows,List.mem_map] at hr
  obtain⟨b,_,rfl⟩:=hr
  rfl
 ·rw[length_byteRows] at hn
  refine⟨((s.extract 0 n).data.map fun b=>Value.int .u8 b.toNat).toList,fun w' _=>by simp only [Builtin.firstCells,Sem.run_pure,Array.toArray_toList],?_,fun u hu=>?_,fun i j r x v hi hr hx hv=>?_⟩
  ·simp [ByteArray.data_extract]
   have:s.data.size=s.size:=rfl
   omega
  ·simp only [Array.toList_map,List.mem_map] at hu
   obtain⟨b,_,rfl⟩:=hu
   rfl
  ·rw[byteRows_get] at hr
   cases hb:s.data.toList[i]? with
   | none=>simp [hb] at hr
   | some b =>
    simp only [hb,Option.map_some,Option.some.injEq] at hr
    subst hr
    have hj:j=0:=by have:=(List.getElem?_eq_some_iff.1 hx).1;simp at this;omega
    subst hj
    simp at hx
    subst hx
    have:((s.extract 0 n).data.map fun b=>Value.int .u8 b.toNat).toList[i]?=some (.int .u8 b.toNat):=by
     simp only [Array.toList_map,List.getElem?_map,ByteArray.data_extract,Array.toList_extract,List.extract_eq_take_drop]
     rw[List.drop_zero,Nat.sub_zero,List.getElem?_take,if_pos hi,hb]
     rfl
    rw[Nat.mul_one,Nat.add_zero,this] at hv
    obtain rfl:=Option.some.inj hv
    exact .int _ _
theorem sl_cells (h:Inv fc c st a) {bo full:Bool} {nn sz:Nat} {rows:List (List PV)} {vy:Value} (hy:Rep c (.sl bo nn full sz rows) vy) :
  (vy=.slice none 0 0∧rows=[]∧nn=0)∨∃ ad k,vy=.slice (some ad) rows.length k∧CellsAt c.w c.Xk ad sz rows∧(nn=2→rows≠[])∧rows.length≤k∧(full=true→k=rows.length)∧(0<rows.length→c.Xr ad.block∧(bo=false→c.Xk ad.block)) ∧
   (∀ i j,i<rows.length→j<sz→∃ v,c.w.cell? ⟨ad.block,ad.off+(i * sz+j),none⟩=some v∧v.oneCell'=true):=by
 have key:∀ {ad:Addr} {n cap sz':Nat} {vals:Nat→Nat→Value},rows.length=n→(0<n→ad.spot=none)→(∀ r∈rows,r.length=sz')→(∀ i j,i<n→j<sz'→c.w.cell? ⟨ad.block,ad.off+(i * sz'+j),none⟩=some (vals i j)) →
   (∀ i j,i<n→j<sz'→(vals i j).oneCell'=true)→(∀ (i j:Nat) r x,rows[i]?=some r→r[j]?=some x→PRep c.w c.Xk x (vals i j))→CellsAt c.w c.Xk ad sz' rows:=by
  intro ad n cap sz' vals hn hsp hs hcell h1 hrep
  refine⟨fun hp=>hsp (by omega),hs,fun i j r x hr hx=>?_⟩
  have hi:i<rows.length:=(List.getElem?_eq_some_iff.1 hr).1
  have hj:j<sz':=by
   have:=(List.getElem?_eq_some_iff.1 hx).1
   have:=hs r (List.mem_of_getElem? hr)
   omega
  exact⟨_,hcell i j (by omega) hj,hrep i j r x hr hx,h1 i j (by omega) hj⟩
 cases hy with
 | plain p =>
  cases p with
  | slnil=>exact .inl ⟨rfl,rfl,rfl⟩
  | sl _ _ _ ad n cap _ vals hn hc hf h2 hX hs hcell h1 hrep =>
   subst hn
   exact .inr ⟨ad,cap,rfl,key (cap:=cap) rfl (fun h'=>(hX h').2) hs hcell h1 hrep,h2,hc,hf,fun hp=>⟨h.kr _ (hX hp).1,fun _=>(hX hp).1⟩,fun i j hi hj=>⟨_,hcell i j hi hj,h1 i j hi hj⟩⟩
 | slbnil=>exact .inl ⟨rfl,rfl,rfl⟩
 | slb _ _ _ ad n cap _ vals hn hc hf h2 hX hs hcell h1 hrep =>
  subst hn
  exact .inr ⟨ad,cap,rfl,key (cap:=cap) rfl (fun h'=>(hX h').2) hs hcell h1 hrep,h2,hc,hf,fun hp=>⟨(hX hp).1,fun e=>by cases e⟩,fun i j hi hj=>⟨_,hcell i j hi hj,h1 i j hi hj⟩⟩
theorem ref_cells (h:Inv fc c st a) {t:Nat} {nn sz:Nat} {cap:Option Nat} {rows:List (List PV)} (ho:hget st.heap t=some (.arr nn cap sz rows)∨hget st.heap t=some (.frz nn sz rows)) :
  ((c.θ t).val=.slice none 0 0∧rows=[]∧nn=0)∨∃ b off k,(c.θ t).val=.slice (some ⟨b,off,none⟩) rows.length k∧CellsAt c.w c.Xk ⟨b,off,none⟩ sz rows∧(nn=2→rows≠[])∧rows.length≤k:=by
 obtain⟨hz,hh⟩:=header h ho
 rcases hh with ⟨e,e2⟩ | ⟨b,off,k,hv,hk⟩
 ·refine .inl ⟨e,e2,?_⟩
  rcases ho with ho|ho
  ·obtain⟨_,ho⟩:=h.obj t _ ho
   rcases ho with ⟨_,_,e3,_⟩ | ⟨b,o',cap',e3,_⟩
   ·exact e3
   ·rw[e] at e3;cases e3
  ·obtain⟨_,hp,_⟩:=h.obj t _ ho
   rw[e] at hp
   cases hp;rfl
 ·refine .inr ⟨b,off,k,hv,⟨fun _=>rfl,?_,fun i j r x hr hx=>?_⟩,?_,hk⟩
  ·intro r hr
   obtain⟨i,hi,rfl⟩:=List.getElem_of_mem hr
   exact(row_cells h ho hv (i:=i) (by simp)).1
  ·exact(row_cells h ho hv hr).2.2 j x hx
  ·rcases ho with ho|ho
   ·obtain⟨_,ho⟩:=h.obj t _ ho
    rcases ho with ⟨e,_⟩ | ⟨b,o',cap',e3,_,h2,_⟩
    ·rw[hv] at e;cases e
    ·exact h2
   ·obtain⟨_,hp,_⟩:=h.obj t _ ho
    rw[hv] at hp
    cases hp with
    | sl _ _ _ _ _ _ _ vals hn hc hf h2=>exact h2
theorem CellsAt.sub {w:World} {X:Nat→Prop} {b off sz lo n:Nat} {rows:List (List PV)} (h:CellsAt w X ⟨b,off,none⟩ sz rows) (hl:lo+n≤rows.length):CellsAt w X ⟨b,off+lo * sz,none⟩ sz ((rows.drop lo).take n):=by
 refine⟨fun _=>rfl,fun r hr=>h.hs r (List.mem_of_mem_drop (List.mem_of_mem_take hr)),fun i j r x hr hx=>?_⟩
 rw[List.getElem?_take] at hr
 split at hr
 ·rw[List.getElem?_drop] at hr
  obtain⟨v,h1,h2⟩:=h.cell _ _ _ _ hr hx
  refine⟨v,?_,h2⟩
  rw[← h1,Nat.add_mul]
  congr 2
  simp only [Nat.add_assoc]
 ·cases hr
theorem sub_src (h:Inv fc c st a) {t:Nat} {full:Bool} {lo n nn sz:Nat} {cap:Option Nat} {rows:List (List PV)} {vy:Value} (hy:Rep c (.sub t full lo n) vy) (ho:hget st.heap t=some (.arr nn cap sz rows)∨hget st.heap t=some (.frz nn sz rows)) :
  SrcOk P c.w c.Xk vy sz ((rows.drop lo).take n):=by
 obtain⟨hz,_⟩:=header h ho
 cases hy with
 | plain p=>cases p
 | subnil=>rw[List.take_zero];exact SrcOk.nil rfl
 | sub _ _ _ _ b off len cap0 cap' ad hdm hv' hn hf hgg ha hl =>
  rcases ref_cells h ho with ⟨e,_⟩ | ⟨b2,off2,k2,hv2,C,_,_⟩
  ·rw[hv'] at e;cases e
  ·rw[hv'] at hv2
   injection hv2 with e1 e2 e3
   injection e1 with e1
   injection e1 with e4 e5
   subst e4;subst e5;subst e2
   have hlen:((rows.drop lo).take n).length=n:=by simp;omega
   rcases Nat.eq_zero_or_pos n with e|e
   ·subst e
    rw[List.take_zero]
    refine⟨fun w'=>rfl,by simp,fun m hm=>⟨[],fun w' _=>?_,?_,by simp,by simp⟩⟩
    ·simp at hm;subst hm;simp [Builtin.firstCells,loadCells,loadCellsFrom]
    ·simp at hm;simp [hm]
   ·obtain rfl:=ha (.inl (by omega))
    rw[hz]
    have:=(C.sub hl).src (P:=P) (k:=cap')
    rw[hlen] at this
    exact this
theorem withRows_ok (h:Inv fc c st a) {look:Nat→Option Sym.Obj} (hlook:∀ l x,look l=some x→hget st.heap l=some x) {y:PV} {vy:Value} (hy:Rep c y vy) {k:Nat→Option Nat→List (List PV)→ORes}
  (hg:(withRows look y k).gives F v u):∃ nn z rows,(k nn z rows).gives F v u∧(nn=2→rows≠[])∧∀ size,szOk z size=true→SrcOk P c.w c.Xk vy size rows:=by
 have sub:∀ {t:Nat} {full:Bool} {lo n nn sz:Nat} {cap:Option Nat} {rows:List (List PV)},Rep c (.sub t full lo n) vy→(hget st.heap t=some (.arr nn cap sz rows)∨hget st.heap t=some (.frz nn sz rows)) →
   ∀ size,szOk (some sz) size=true→SrcOk P c.w c.Xk vy size ((rows.drop lo).take n):=by
  intro t full lo n nn sz cap rows hy ho size hsz
  have hsz:=Nat.eq_of_beq_eq_true hsz
  subst hsz
  exact sub_src h hy ho
 unfold withRows at hg
 split at hg
 ·rename_i t full lo n
  split at hg
  ·rename_i hl
   exact⟨0,_,_,hg,by simp,sub hy (.inl (hlook _ _ hl))⟩
  ·rename_i hl
   exact⟨0,_,_,hg,by simp,sub (cap:=none) hy (.inr (hlook _ _ hl))⟩
  ·exact hg.elim
 ·rename_i s
  obtain rfl:=hy.str_inv
  refine⟨0,_,_,hg,by simp,fun size hsz=>?_⟩
  have hsz:=Nat.eq_of_beq_eq_true hsz
  subst hsz
  exact SrcOk.str
 ·split at hg
  ·rename_i nn z rows hro
   refine⟨nn,z,rows,hg,?_⟩
   unfold rowsOf at hro
   split at hro
   ·simp only [Option.some.injEq,Prod.mk.injEq] at hro
    obtain⟨rfl,rfl,rfl⟩:=hro
    obtain rfl:=hy.nils_inv
    exact⟨by simp,fun size _=>SrcOk.nil rfl⟩
   ·simp only [Option.some.injEq,Prod.mk.injEq] at hro
    obtain⟨rfl,rfl,rfl⟩:=hro
    rcases sl_cells h hy with ⟨rfl,rfl,rfl⟩ | ⟨ad,k',rfl,C,h2,_⟩
    ·exact⟨by simp,fun size _=>SrcOk.nil rfl⟩
    ·refine⟨h2,fun size hsz=>?_⟩
     have hsz:=Nat.eq_of_beq_eq_true hsz
     subst hsz
     exact C.src
   ·rename_i t _ _
    obtain⟨ev,_,_⟩:=hy.ref_inv
    have ref:∀ {nn' sz:Nat} {cap:Option Nat} {rows':List (List PV)},(hget st.heap t=some (.arr nn' cap sz rows')∨hget st.heap t=some (.frz nn' sz rows'))→some (nn',some sz,rows')=some (nn,z,rows) →
      (nn=2→rows≠[])∧∀ size,szOk z size=true→SrcOk P c.w c.Xk vy size rows:=by
     intro nn' sz cap rows' ho e
     simp only [Option.some.injEq,Prod.mk.injEq] at e
     obtain⟨rfl,rfl,rfl⟩:=e
     rcases ref_cells h ho with ⟨e,rfl,rfl⟩ | ⟨b,off,k',hv,C,h2,_⟩
     ·rw[ev,e];exact⟨by simp,fun size _=>SrcOk.nil rfl⟩
     ·refine⟨h2,fun size hsz=>?_⟩
      have hsz:=Nat.eq_of_beq_eq_true hsz
      subst hsz
      rw[ev,hv]
      exact C.src
    split at hro
    ·rename_i hl;exact ref (.inl (hlook _ _ hl)) hro
    ·rename_i hl;exact ref (cap:=none) (.inr (hlook _ _ hl)) hro
    ·cases hro
   ·cases hro
  ·exact hg.elim
end
end Go.Sym
namespace Go.Sym
open Go
section
variable {P:Program} {fc:FC} {c:RC} {st:ASt} {a:Act} {o:Oper} {E:Env} {F:FnT} {v:PV} {u:List (Nat×Sym.Obj)}
theorem run_append_none {t t2 ty e:TypeId} {d2:TypeDesc} {ie:TypeInfo} (ht:P.underlying t=some (.slice e)) (ht2:P.underlying t2=some d2) (hd:d2=.string∨∃ e2,d2=.slice e2) (hie:P.info? e=some ie)
  (sLen sCap n:Nat) (vy:Value) (news:List Value) (w:World) (hlen:(Builtin.lenOf vy).run P w=.ok n w) (hcells:(Builtin.firstCells ie.size n vy).run P w=.ok news.toArray w) (hroom:sLen+n≤sCap) :
  (Builtin.append_ #[t,t2] ty #[.slice none sLen sCap,vy]).run P w=.ok (.slice none (sLen+n) sCap) w:=by
 rcases hd with rfl | ⟨e2,rfl⟩ <;>
  simp [Builtin.append_,run_underlying ht,run_underlying ht2,sizeOf,typeInfo,hie,hlen,hroom,hcells]
theorem run_append_here {t t2 ty e:TypeId} {d2:TypeDesc} {ie:TypeInfo} (ht:P.underlying t=some (.slice e)) (ht2:P.underlying t2=some d2) (hd:d2=.string∨∃ e2,d2=.slice e2) (hie:P.info? e=some ie)
  (ad:Addr) (sLen sCap n:Nat) (vy:Value) (news:List Value) (w w':World) (hlen:(Builtin.lenOf vy).run P w=.ok n w) (hcells:(Builtin.firstCells ie.size n vy).run P w=.ok news.toArray w) (hroom:sLen+n≤sCap)
  (hst:(storeCells (ad.add (sLen * ie.size)) news).run P w=.ok () w') :
  (Builtin.append_ #[t,t2] ty #[.slice (some ad) sLen sCap,vy]).run P w=.ok (.slice (some ad) (sLen+n) sCap) w':=by
 rcases hd with rfl | ⟨e2,rfl⟩ <;>
  simp [Builtin.append_,run_underlying ht,run_underlying ht2,sizeOf,typeInfo,hie,hlen,hroom,hcells,hst]
theorem run_append_new {t t2 ty e:TypeId} {d2:TypeDesc} {ie:TypeInfo} {z:Value} (ht:P.underlying t=some (.slice e)) (ht2:P.underlying t2=some d2) (hd:d2=.string∨∃ e2,d2=.slice e2) (hie:P.info? e=some ie) (hz:ie.zero=some z)
  (base:Option Addr) (sLen sCap n:Nat) (vy:Value) (olds news:List Value) (w:World) (hlen:(Builtin.lenOf vy).run P w=.ok n w) (holds:(Builtin.firstCells ie.size sLen (.slice base sLen sCap)).run P w.drew=.ok olds.toArray w.drew)
  (hcells:(Builtin.firstCells ie.size n vy).run P w.drew=.ok news.toArray w.drew) (hg:sCap<sLen+n) (h63:((sLen+n:Nat):Int)≤9223372036854775807) (hfit:Builtin.nextslicecap (sLen+n) sCap * ie.bytes≤281474976710656) :
  (Builtin.append_ #[t,t2] ty #[.slice base sLen sCap,vy]).run P w =
   .ok (.slice (some ⟨w.heap.size,0,none⟩) (sLen+n) (grownCap w (sLen+n) sCap e)) (w.drew.alloc (.cells (olds.toArray++news.toArray++Builtin.zeroCells z.cells (grownCap w (sLen+n) sCap e-(sLen+n))) e)):=by
 have hn:¬ (sLen+n≤sCap):=by omega
 have h63':¬ (9223372036854775807<((sLen:Int)+(n:Int))):=by omega
 have h48':¬ (281474976710656<Builtin.nextslicecap (sLen+n) sCap * ie.bytes):=by omega
 rcases hd with rfl | ⟨e2,rfl⟩ <;>
 ·simp [Builtin.append_,run_underlying ht,run_underlying ht2,sizeOf,typeInfo,zeroValue,hie,hz,hlen,hn,h63',h48',Question.forced,hcells,holds,newRow,grownCap]
  congr 2
  apply Array.ext'
  simp [List.append_assoc]
theorem is2_eq {n:Nat} (h:is2 n=true):n=2:=by
 unfold is2 at h
 split at h
 ·rfl
 ·cases h
theorem app_types (hE:EnvOk P E) {t t2 e:Nat} {ty te:TyI} (h2:(isSliceT (E.ty t2) || isStrT (E.ty t2))=true) (ht:E.ty t=some ty) (htk:ty.tk=.slice e) (hte:E.ty e=some te) :
  P.underlying t=some (.slice e)∧(∃ d2,P.underlying t2=some d2∧(d2=.string∨∃ e2,d2=.slice e2))∧∃ ie z,P.info? e=some ie∧ie.size=te.size∧ie.bytes=te.bytes∧ie.zero=some z∧z.cells.size=te.size∧te.zero.length=te.size ∧
   ∀ (j:Nat) x v,te.zero[j]?=some x→z.cells[j]?=some v→ConstRep x v:=by
 obtain⟨d,hd,hk⟩:=(hE t ty ht).und
 simp only [tkOk,htk] at hk
 obtain⟨rfl,_⟩:=hk
 refine⟨hd,?_,(hE e te hte).info⟩
 rcases Bool.or_eq_true_iff.1 h2 with h2|h2
 ·obtain⟨e2,he2⟩:=und_slice hE h2
  exact⟨_,he2,.inr ⟨e2,rfl⟩⟩
 ·cases ht2:E.ty t2 with
  | none=>simp [ht2,isStrT] at h2
  | some i =>
   obtain⟨d,hd,hk⟩:=(hE t2 i ht2).und
   rw[ht2] at h2
   cases htk2:i.tk<;>simp only [isStrT,htk2] at h2<;>first|(cases h2;done)|skip
   simp only [tkOk,htk2] at hk
   exact⟨_,hd,.inl hk.1⟩
theorem Inv.grown (h:Inv fc c st a) {l:Nat} (hl:hget st.heap l=none) (hn0:fc.n0≤l) {size nn:Nat} {xs ys:List (List PV)} {olds news:List Value} {z:Array Value} {cap:Nat} {e:TypeId} {w1:World} (g:Grow c.w w1)
  (hxs:∀ r∈xs,r.length=size) (hys:∀ r∈ys,r.length=size) (ho:olds.length=xs.length * size) (hn:news.length=ys.length * size) (h1:∀ u∈olds,u.oneCell'=true) (h2:∀ u∈news,u.oneCell'=true) (hz:z.size=size) (hz1:∀ v∈z.toList,v.oneCell'=true)
  (hro:∀ (i j:Nat) r x v,xs[i]?=some r→r[j]?=some x→olds[i * size+j]?=some v→PRep c.w c.Xk x v) (hrn:∀ (i j:Nat) r x v,ys[i]?=some r→r[j]?=some x→news[i * size+j]?=some v→PRep c.w c.Xk x v)
  (hcap:xs.length+ys.length≤cap) (hnn:nn=2→xs++ys≠[]) :
  ∃ c':RC,c'.w=w1.alloc (.cells (olds.toArray++news.toArray++Builtin.zeroCells z (cap-(xs.length+ys.length))) e)∧Rep c' (.ref l) (.slice (some ⟨w1.heap.size,0,none⟩) (xs.length+ys.length) cap) ∧
   Inv fc c' { st with heap:=hset st.heap l (.arr nn none size (xs++ys)) } a:=by
 have hsz:(Builtin.zeroCells z (cap-(xs.length+ys.length))).size=(cap-(xs.length+ys.length)) * size:=by rw[size_zeroCells,hz]
 have hall:(olds.toArray++news.toArray++Builtin.zeroCells z (cap-(xs.length+ys.length))).size=cap * size:=by
  simp only [Array.size_append,List.size_toArray,hsz,ho,hn]
  rw[← Nat.add_mul,← Nat.add_mul,Nat.add_sub_cancel' hcap]
 have hzc:∀ u∈(Builtin.zeroCells z (cap-(xs.length+ys.length))).toList,u.oneCell'=true:=by
  intro u hu
  simp only [Builtin.zeroCells,Array.toList_map,Array.toList_range,List.mem_map,List.mem_range] at hu
  obtain⟨k,hk,rfl⟩:=hu
  have hpos:0<z.size:=by rcases Nat.eq_zero_or_pos z.size with e|e;simp [e] at hk;exact e
  have hlt:k % z.size<z.size:=Nat.mod_lt _ hpos
  rw[getElem!_pos z _ hlt]
  exact hz1 _ (by simp)
 obtain⟨c',hw,hr,hi⟩:=h.newArr hl hn0 (olds.toArray++news.toArray++Builtin.zeroCells z (cap-(xs.length+ys.length))) e g (nn:=nn) (sz:=size) (cap:=cap) (rows:=xs++ys) (by simpa using hcap)
  (fun r hr=>by rcases List.mem_append.1 hr with hr|hr;exact hxs r hr;exact hys r hr) hnn hall (fun u hu=>by
   simp only [Array.toList_append,List.mem_append] at hu
   rcases hu with (hu|hu)|hu
   ·exact h1 u hu
   ·exact h2 u hu
   ·exact hzc u hu) (fun i j r x v q1 q2 q3=>by
   have hj:j<size:=by
    have:=(List.getElem?_eq_some_iff.1 q2).1
    have hr:=List.mem_of_getElem? q1
    rcases List.mem_append.1 hr with hr|hr
    ·have:=hxs r hr;omega
    ·have:=hys r hr;omega
   rw[← Array.getElem?_toList] at q3
   simp only [Array.toList_append] at q3
   by_cases hi:i<xs.length
   ·rw[List.getElem?_append_left hi] at q1
    have:(i+1) * size≤xs.length * size:=Nat.mul_le_mul_right _ hi
    rw[Nat.succ_mul] at this
    rw[List.append_assoc,List.getElem?_append_left (by rw[ho];omega)] at q3
    exact hro i j r x v q1 q2 q3
   ·rw[List.getElem?_append_right (by omega)] at q1
    have hi2:i-xs.length<ys.length:=(List.getElem?_eq_some_iff.1 q1).1
    have e1:i * size=xs.length * size+(i-xs.length) * size:=by rw[← Nat.add_mul];congr 1;omega
    have:(i-xs.length+1) * size≤ys.length * size:=Nat.mul_le_mul_right _ hi2
    rw[Nat.succ_mul] at this
    rw[List.append_assoc,List.getElem?_append_right (by rw[ho];omega),List.getElem?_append_left (by rw[ho,hn];omega)] at q3
    exact hrn _ j r x v q1 q2 (by rw[← q3];congr 1;rw[ho];omega))
 refine⟨c',hw,?_,hi⟩
 rwa [List.length_append] at hr
theorem Inv.appended (h:Inv fc c st a) {t nn sz:Nat} {cap:Option Nat} {rows:List (List PV)} (ht:hget st.heap t=some (.arr nn cap sz rows)) {b off len0 cap0:Nat} (hv:(c.θ t).val=.slice (some ⟨b,off,none⟩) len0 cap0)
  {n:Nat} {ys:List (List PV)} {news:List Value} (hn:n≤rows.length) (hfit:n+ys.length≤cap0) (hys:∀ r∈ys,r.length=sz) (hnews:news.length=ys.length * sz) (h1:∀ u∈news,u.oneCell'=true)
  (hrn:∀ (i j:Nat) r x v,ys[i]?=some r→r[j]?=some x→news[i * sz+j]?=some v→PRep c.w c.Xk x v) {base:Nat} (hf:hget st.heap base=none) (hbase:fc.n0≤base) {nn':Nat} {cap':Option Nat} (hnn:nn'=2→rows.take n++ys≠[]) (hcap':∀ k,cap'=some k→k=cap0) :
  ∃ w',(storeCells (⟨b,off+n * sz,none⟩) news).run P c.w=.ok () w'∧∃ c':RC,c'.w=w'∧Inv fc c' { st with heap:=hset (hset st.heap t .dead) base (.arr nn' cap' sz (rows.take n++ys)) } a∧Rep c' (.ref base) (.slice (some ⟨b,off,none⟩) (n+ys.length) cap0):=by
 obtain⟨hz,ho⟩:=h.obj t _ ht
 rcases ho with ⟨e,_⟩ | ⟨b',o',cap2,e,hcap,h2,hlt,A,hx⟩
 ·rw[hv] at e;simp at e
 ·have e0:=e
  rw[hv] at e
  injection e with e1 e2 e3
  injection e1 with e1
  injection e1 with e4 e5
  subst e4;subst e5;subst e3;subst e2
  have hle:(n+ys.length) * sz≤cap0 * sz:=Nat.mul_le_mul_right _ hfit
  rw[Nat.add_mul] at hle
  obtain⟨w',hrun,W⟩:=run_storeCells P b (off+n * sz) news 0 c.w (fun j hj=>by
   obtain⟨⟨u,hu,_⟩,hf⟩:=A.room (n * sz+j) (by omega)
   rw[Nat.add_zero,Nat.add_assoc]
   exact⟨⟨u,hu⟩,hf⟩) h1
  rw[Nat.add_zero] at W
  refine⟨w',hrun,?_⟩
  have hrl:∀ (i j:Nat) r,(rows.take n)[i]?=some r→j<sz→i<n∧rows[i]?=some r∧i * sz+j<n * sz:=by
   intro i j r hr hj
   rw[List.getElem?_take] at hr
   split at hr
   ·rename_i hi
    have:(i+1) * sz≤n * sz:=Nat.mul_le_mul_right _ hi
    rw[Nat.succ_mul] at this
    exact⟨hi,hr,by omega⟩
   ·cases hr
  -- the array at t,as it is,its rows beyond n forgotten
  have hD:c.D t:=(h.dom t).2 (by simp [ht])
  have hne:base≠t:=fun e=>by subst e;rw[hf] at ht;cases ht
  let c1:RC:={ c with w:=w' }
  have hlive:blk (c.θ t).val=some b:=by rw[hv];rfl
  have hk:∀ b',c.Xk b'→w'.heap[b']?=c.w.heap[b']?:=fun b' hb'=>W.other b' fun e=>hx (e ▸ h.kr _ hb')
  have i1:Inv fc c1 { st with heap:=hset st.heap t .dead } a:=by
   have i0:=h.upd (o':=.arr 0 none sz (List.replicate rows.length (tops sz))) ht trivial (fun b2 hb2=>W.other b2 fun e=>hb2 (by rw[hlive,e])) W.size W.os W.tape W.out (by
    refine⟨hz,.inr ⟨b,off,cap0,by rw[List.length_replicate];exact hv,by simp,by simp,by rw[W.size];exact hlt,⟨rfl,by rw[List.length_replicate];exact A.hc,fun r hr=>by rw[List.eq_of_mem_replicate hr];exact length_tops sz,fun j hj=>?_,fun i j r x v q1 q2 q3=>?_,fun hz=>W.endok (A.endok hz)⟩,hx⟩⟩
    ·obtain⟨⟨u,hu,h5⟩,hfr⟩:=A.room j hj
     refine⟨?_,by rw[W.frozen];exact hfr⟩
     rw[W.cell]
     split
     ·rename_i hin
      have hlt':off+j-(off+n * sz)<news.length:=by omega
      exact⟨news[off+j-(off+n * sz)],by simp,h1 _ (by simp)⟩
     ·exact⟨u,hu,h5⟩
    ·have hr:r=tops sz:=List.eq_of_mem_replicate (List.mem_of_getElem? q1)
     subst hr
     have:x=.top:=mem_tops (List.mem_of_getElem? q2)
     subst this
     exact .top _)
   have i2:=i0.kill (l:=t) hD
   rwa [show hset (hset st.heap t (.arr 0 none sz (List.replicate rows.length (tops sz)))) t .dead=hset st.heap t .dead from hset_hset _ _ _ _] at i2
  have hf1:hget (hset st.heap t .dead) base=none:=by rw[hget_hset_ne _ _ hne];exact hf
  have i3:=i1.new (l:=base) (hd:=⟨.slice (some ⟨b,off,none⟩) (n+ys.length) cap0,sz⟩) (o:=.arr nn' cap' sz (rows.take n++ys)) hf1 hbase (fun b2 _ hb2=>by
   obtain rfl:b=b2:=by simpa [blk] using hb2
   refine⟨fun l' o' hl' hlv' hbk'=>?_,h.own t _ b ht trivial hlive⟩
   show False
   have hl2:hget (hset st.heap t .dead) l'=some o':=hl'
   rw[hget_hset] at hl2
   split at hl2
   ·obtain rfl:=Option.some.inj hl2;exact hlv'
   ·rename_i hne'
    exact h.dis t l' _ o' b ht hl2 trivial hlv' (Ne.symm hne') hlive hbk') (by
   have htl:(rows.take n).length=n:=by simp;omega
   refine⟨by simp [RC.more],.inr ⟨b,off,cap0,by simp [RC.more,htl],hcap',hnn,by show b<w'.heap.size;rw[W.size];exact hlt,?_,hx⟩⟩
   show ArrAt w' c.Xk b off _ cap0 sz _
   refine⟨rfl,by rw[List.length_append,htl];exact hfit,fun r hr=>?_,fun j hj=>?_,fun i j r x v q1 q2 q3=>?_,fun hz=>W.endok (A.endok hz)⟩
   ·rcases List.mem_append.1 hr with hr|hr
    ·exact A.hs r (List.mem_of_mem_take hr)
    ·exact hys r hr
   ·obtain⟨⟨u,hu,h5⟩,hfr⟩:=A.room j hj
    refine⟨?_,by rw[W.frozen];exact hfr⟩
    rw[W.cell]
    split
    ·rename_i hin
     have hlt':off+j-(off+n * sz)<news.length:=by omega
     exact⟨news[off+j-(off+n * sz)],by simp,h1 _ (by simp)⟩
    ·exact⟨u,hu,h5⟩
   ·rw[W.cell] at q3
    by_cases hi:i<n
    ·rw[List.getElem?_append_left (by omega)] at q1
     have hr:=A.hs r (List.mem_of_mem_take (List.mem_of_getElem? q1))
     have hj:j<sz:=by have:=(List.getElem?_eq_some_iff.1 q2).1;omega
     obtain⟨_,q4,q5⟩:=hrl i j r q1 hj
     rw[if_neg (by omega)] at q3
     exact(A.rep i j r x v q4 q2 q3).mono hk (fun _ h=>h)
    ·rw[List.getElem?_append_right (by omega),htl] at q1
     have hi2:i-n<ys.length:=(List.getElem?_eq_some_iff.1 q1).1
     have hj:j<sz:=by
      have:=(List.getElem?_eq_some_iff.1 q2).1
      have:=hys r (List.mem_of_getElem? q1)
      omega
     have e1:i * sz=n * sz+(i-n) * sz:=by rw[← Nat.add_mul];congr 1;omega
     have:(i-n+1) * sz≤ys.length * sz:=Nat.mul_le_mul_right _ hi2
     rw[Nat.succ_mul] at this
     rw[if_pos (by omega)] at q3
     exact(hrn _ j r x v q1 q2 (by rw[← q3];congr 1;omega)).mono hk (fun _ h=>h))
  exact⟨_,rfl,i3,.ref base _ (.inl rfl) (by simp [RC.more]) rfl⟩
structure AppSrc (P:Program) (t t2 ty e:TypeId) (ie:TypeInfo) (vy:Value) (n:Nat) (news:List Value) (w:World):Prop where
 nil:∀ sLen sCap,sLen+n≤sCap→(Builtin.append_ #[t,t2] ty #[.slice none sLen sCap,vy]).run P w=.ok (.slice none (sLen+n) sCap) w
 here:∀ (ad:Addr) sLen sCap (w':World),sLen+n≤sCap→(storeCells (ad.add (sLen * ie.size)) news).run P w=.ok () w' →
  (Builtin.append_ #[t,t2] ty #[.slice (some ad) sLen sCap,vy]).run P w=.ok (.slice (some ad) (sLen+n) sCap) w'
 new:∀ (z:Value) (base:Option Addr) sLen sCap (olds:List Value),ie.zero=some z→(Builtin.firstCells ie.size sLen (.slice base sLen sCap)).run P w.drew=.ok olds.toArray w.drew→sCap<sLen+n→((sLen+n:Nat):Int)≤9223372036854775807 →
  Builtin.nextslicecap (sLen+n) sCap * ie.bytes≤281474976710656 →
  (Builtin.append_ #[t,t2] ty #[.slice base sLen sCap,vy]).run P w =
   .ok (.slice (some ⟨w.heap.size,0,none⟩) (sLen+n) (grownCap w (sLen+n) sCap e)) (w.drew.alloc (.cells (olds.toArray++news.toArray++Builtin.zeroCells z.cells (grownCap w (sLen+n) sCap e-(sLen+n))) e))
theorem AppSrc.zeros {t t2 ty e:TypeId} {k k':IntKind} {ie:TypeInfo} {z:Value} (ht:P.underlying t=some (.slice e)) (ht2:P.underlying t2=some (.int k)) (hie:P.info? e=some ie) (hz:ie.zero=some z) (hzs:z.cells.size=ie.size) (n:Nat) (hn:(n:Int)≤9223372036854775807) (hb:n * ie.bytes≤281474976710656) (w:World) :
  AppSrc P t t2 ty e ie (.int k' n) n (Builtin.zeroCells z.cells n).toList w:=by
 have hwr:IntKind.i64.wrap (n:Int)=n:=by unfold IntKind.wrap;simp [IntKind.bits,IntKind.signed];omega
 have hneg:¬ ((n:Int)<0):=by omega
 have hb':¬ (281474976710656<(n:Int) * (ie.bytes:Int)):=by
  have:((n * ie.bytes:Nat):Int)≤281474976710656:=by omega
  rw[Int.natCast_mul] at this
  omega
 have hempty:n * ie.size=0→Builtin.zeroCells z.cells n=#[]:=by
  intro h
  rw[Builtin.zeroCells,hzs,h];simp
 refine⟨fun sLen sCap hroom=>?_,fun ad sLen sCap w' hroom hst=>?_,fun z' base sLen sCap olds hz' holds hg h63 hfit=>?_⟩
 ·by_cases h0:n * ie.size=0
  ·simp [Builtin.append_,run_underlying ht,run_underlying ht2,sizeOf,typeInfo,hie,asInt,asIntOf,hwr,hneg,hb',hroom,h0]
  ·simp [Builtin.append_,run_underlying ht,run_underlying ht2,sizeOf,typeInfo,hie,asInt,asIntOf,hwr,hneg,hb',hroom,h0,zeroValue,hz]
 ·by_cases h0:n * ie.size=0
  ·rw[hempty h0] at hst
   simp [Builtin.append_,run_underlying ht,run_underlying ht2,sizeOf,typeInfo,hie,asInt,asIntOf,hwr,hneg,hb',hroom,h0] at hst ⊢
   rw[hst]
   rfl
  ·simp [Builtin.append_,run_underlying ht,run_underlying ht2,sizeOf,typeInfo,hie,asInt,asIntOf,hwr,hneg,hb',hroom,h0,zeroValue,hz,hst]
 ·rw[hz] at hz'
  obtain rfl:=Option.some.inj hz'
  have hn':¬ (sLen+n≤sCap):=by omega
  have h63':¬ (9223372036854775807<((sLen:Int)+(n:Int))):=by omega
  have h48':¬ (281474976710656<Builtin.nextslicecap (sLen+n) sCap * ie.bytes):=by omega
  by_cases h0:n * ie.size=0
  ·simp [Builtin.append_,run_underlying ht,run_underlying ht2,sizeOf,typeInfo,zeroValue,hie,hz,asInt,asIntOf,hwr,hneg,hb',hn',h63',h48',Question.forced,h0,holds,newRow,grownCap,hempty h0]
  ·simp [Builtin.append_,run_underlying ht,run_underlying ht2,sizeOf,typeInfo,zeroValue,hie,hz,asInt,asIntOf,hwr,hneg,hb',hn',h63',h48',Question.forced,h0,holds,newRow,grownCap]
theorem append_core (hE:EnvOk P E) (h:Inv fc c st a) (h64:fc.n0≤64) {look:Nat→Option Sym.Obj} (hlook:∀ l x,look l=some x→hget st.heap l=some x) {base:Nat} (hbase:fc.n0≤base) (hfree:look base=none→hget st.heap base=none)
  {t t2 e ty':Nat} {te:TyI} {x:PV} {vx vy:Value} (hx:Rep c x vx) {nny:Nat} {ys:List (List PV)} {ie:TypeInfo} {z:Value} (hie:P.info? e=some ie) (hse:ie.size=te.size) (hby:ie.bytes=te.bytes) (hz:ie.zero=some z) (hz1:z.cells.size=te.size) (hz2:te.zero.length=te.size)
  (hz3:∀ (j:Nat) x v,te.zero[j]?=some x→z.cells[j]?=some v→ConstRep x v)
  (hny:nny=2→ys≠[]) (hys0:∀ r∈ys,r.length=te.size) {news:List Value} (hsrc:AppSrc P t t2 ty' e ie vy ys.length news c.w) (hn2:news.length=ys.length * te.size) (hn3:∀ u∈news,u.oneCell'=true)
  (hn4:∀ (i j:Nat) r x v,i<ys.length→ys[i]?=some r→r[j]?=some x→news[i * te.size+j]?=some v→PRep c.w c.Xk x v) (hg:(appendr look base te.bytes te.size x nny ys).gives F v u) :
  ∃ (rv:Value) (w':World) (c':RC),(Builtin.append_ #[t,t2] ty' #[vx,vy]).run P c.w=.ok rv w'∧c'.w=w'∧Inv fc c' { st with heap:=hsets st.heap u } a∧Rep c' v rv:=by
 have hzone:∀ v∈z.cells.toList,v.oneCell'=true:=by
  intro v hv
  obtain⟨j,hj,rfl⟩:=List.getElem_of_mem hv
  have hj':j<z.cells.size:=by simpa using hj
  exact(hz3 j (te.zero[j]'(by omega)) _ (by simp) (by simp [hj'])).one
 -- a new array is made
 have grow:∀ {c1:RC} {st1:ASt} (_:Inv fc c1 st1 a) (_:c1.w=c.w) (_:c.le c1) (_:hget st1.heap base=none) {bs:Option Addr} {k nn:Nat} {xs:List (List PV)} (_:vx=.slice bs xs.length k) (_:SrcOk P c1.w c1.Xk vx te.size xs)
   (_:k<xs.length+ys.length) (_:(xs.length+ys.length) * te.bytes≤2 ^ 44∧xs.length+ys.length≤2 ^ 60) (_:nn=2→xs++ys≠[]),
   ∃ (rv:Value) (w':World) (c':RC),(Builtin.append_ #[t,t2] ty' #[vx,vy]).run P c.w=.ok rv w'∧c'.w=w'∧Inv fc c' { st1 with heap:=hset st1.heap base (.arr nn none te.size (xs++ys)) } a∧Rep c' (.ref base) rv:=by
  intro c1 st1 h1 hw1 le1 hf1 bs k nn xs hvx hsx hk hb hnn
  obtain⟨olds,o1,o2,o3,o4⟩:=hsx.cells xs.length (Nat.le_refl _)
  have hrun:=hsrc.new z bs xs.length k olds hz (by rw[← hvx,hse];exact o1 _ (by rw[hw1];rfl)) hk (by omega)
   (by
    have:=nextslicecap_le hk
    have h5:Builtin.nextslicecap (xs.length+ys.length) k * ie.bytes≤2 * (xs.length+ys.length) * ie.bytes:=Nat.mul_le_mul_right _ this
    rw[hby] at h5 ⊢
    rw[Nat.mul_assoc] at h5
    omega)
  have hcap:xs.length+ys.length≤grownCap c.w (xs.length+ys.length) k e:=grownCap_ge _ _ _ _
  obtain⟨c',hw',hr',hi'⟩:=h1.grown hf1 hbase (nn:=nn) (e:=e) (w1:=c.w.drew) (by rw[hw1];exact Grow.drew _) hsx.hs hys0 o2 hn2 o3 hn3 hz1 hzone (fun i j r x v q1 q2 q3=>o4 i j r x v (List.getElem?_eq_some_iff.1 q1).1 q1 q2 q3)
   (fun i j r x v q1 q2 q3=>(hn4 i j r x v (List.getElem?_eq_some_iff.1 q1).1 q1 q2 q3).mono (fun b _=>by rw[hw1]) le1.xk) hcap hnn
  exact⟨_,_,c',by rw[hvx];exact hrun,hw',hi',hr'⟩
 have same:∀ {rv:Value},(Builtin.append_ #[t,t2] ty' #[vx,vy]).run P c.w=.ok rv c.w→u=[]→Rep c v rv→∃ (rv:Value) (w':World) (c':RC),(Builtin.append_ #[t,t2] ty' #[vx,vy]).run P c.w=.ok rv w'∧c'.w=w'∧Inv fc c' { st with heap:=hsets st.heap u } a∧Rep c' v rv:=by
  rintro rv hrun rfl hr
  exact⟨rv,c.w,c,hrun,rfl,h,hr⟩
 have nothing:ys=[]→news=[]:=fun e=>by rw[e] at hn2;simpa using hn2
 -- a slice that is full: nothing is appended,or a new array is made
 have full:∀ {bs:Option Addr} {k:Nat} {xs:List (List PV)},vx=.slice bs xs.length k→k=xs.length→SrcOk P c.w c.Xk vx te.size xs→(appFull look base te.bytes te.size x nny ys xs).gives F v u →
   ∃ (rv:Value) (w':World) (c':RC),(Builtin.append_ #[t,t2] ty' #[vx,vy]).run P c.w=.ok rv w'∧c'.w=w'∧Inv fc c' { st with heap:=hsets st.heap u } a∧Rep c' v rv:=by
  intro bs k xs hvx hk hsx hg
  have mk:ys≠[]→(appFresh look base te.bytes te.size nny ys xs 2 []).gives F v u →
    ∃ (rv:Value) (w':World) (c':RC),(Builtin.append_ #[t,t2] ty' #[vx,vy]).run P c.w=.ok rv w'∧c'.w=w'∧Inv fc c' { st with heap:=hsets st.heap u } a∧Rep c' v rv:=by
   intro hne hg
   unfold appFresh at hg
   split at hg
   ·exact hg.elim
   ·rename_i hl
    obtain⟨hb,rfl,rfl⟩:=hg
    have hpos:0<ys.length:=List.length_pos_iff.2 hne
    exact grow h rfl (.refl h.kr) (hfree hl) hvx hsx (by omega) hb (fun _ e=>hne (List.append_eq_nil_iff.1 e).2)
  unfold appFull at hg
  split at hg
  ·rename_i h2'
   exact mk (hny (is2_eq h2')) hg
  ·rcases hg with ⟨hys,hg⟩ | ⟨hys,hg⟩
   ·obtain⟨rfl,rfl⟩:=hg
    have hnw:=nothing hys
    have hlen:ys.length=0:=by rw[hys];rfl
    refine same (rv:=vx) ?_ rfl hx
    rw[hvx]
    cases bs with
    | none =>
     have:=hsrc.nil xs.length k (by omega)
     rwa [hlen,Nat.add_zero] at this
    | some ad =>
     have:=hsrc.here ad xs.length k c.w (by omega) (by rw[hnw];rfl)
     rwa [hlen,Nat.add_zero] at this
   ·exact mk hys hg
 cases x with
 | nils =>
  simp only [appendr] at hg
  obtain rfl:=hx.nils_inv
  exact full (bs:=none) (k:=0) (xs:=[]) rfl rfl (SrcOk.nil rfl) hg
 | sl bo nn full' sz rows =>
  simp only [appendr] at hg
  split at hg
  ·rename_i hc
   obtain⟨hc1,hc2⟩:=Bool.and_eq_true_iff.1 hc
   subst hc1
   have hc2:=Nat.eq_of_beq_eq_true hc2
   subst hc2
   rcases sl_cells h hx with ⟨rfl,rfl,_⟩ | ⟨ad,k,e,C,_,_,hf,_⟩
   ·exact full (bs:=none) (k:=0) (xs:=[]) rfl rfl (SrcOk.nil rfl) hg
   ·exact full (bs:=some ad) (k:=k) (xs:=rows) e (hf rfl) (by rw[e];exact C.src) hg
  ·exact hg.elim
 | ref t0 =>
  simp only [appendr] at hg
  split at hg
  ·rename_i nn cap sz rows hl
   split at hg
   ·rename_i hsz
    have hsz:=Nat.eq_of_beq_eq_true hsz
    subst hsz
    unfold appFresh at hg
    split at hg
    ·exact hg.elim
    ·rename_i hlb
     obtain⟨hb,rfl,rfl⟩:=hg
     have ht0:=hlook _ _ hl
     have hD:c.D t0:=(h.dom t0).2 (by simp [ht0])
     have hf:=hfree hlb
     have hne:base≠t0:=fun e=>by subst e;rw[hf] at ht0;cases ht0
     have hf1:hget (hset st.heap t0 .dead) base=none:=by rw[hget_hset_ne _ _ hne];exact hf
     obtain⟨ev,_,_⟩:=hx.ref_inv
     have hkn:kn2 nny nn=2→rows++ys≠[]:=by
      intro e e2
      obtain⟨r1,r2⟩:=List.append_eq_nil_iff.1 e2
      unfold kn2 at e
      split at e
      ·rename_i h2';exact hny (is2_eq h2') r2
      ·subst e
       rcases ref_cells h (.inl ht0) with ⟨_,_,e3⟩ | ⟨_,_,_,_,_,h3,_⟩
       ·cases e3
       ·exact h3 rfl r1
     rcases ref_cells h (.inl ht0) with ⟨e,rfl,hn0⟩ | ⟨b,off,k,hv,C,h3,hk⟩
     ·rw[e] at ev
      subst ev
      by_cases hys:ys=[]
      ·have hlen:ys.length=0:=by rw[hys];rfl
       have hrun:=hsrc.nil 0 0 (by omega)
       rw[hlen,Nat.add_zero] at hrun
       have i1:=h.kill hD
       have hkn0:kn2 nny nn=0:=by
        unfold kn2
        split
        ·rename_i h2';exact absurd hys (hny (is2_eq h2'))
        ·exact hn0
       refine⟨_,_,c.more base ⟨.slice none 0 0,te.size⟩,hrun,rfl,i1.new (l:=base) hf1 hbase (fun b _ hb=>by simp [blk] at hb) ⟨by simp [RC.more],.inl ⟨by simp [RC.more],by simp [hys],hkn0,by simp⟩⟩,.ref base _ (.inl rfl) (by simp [RC.more]) rfl⟩
      ·have hpos:0<ys.length:=List.length_pos_iff.2 hys
       exact grow (h.kill hD) rfl (.refl h.kr) hf1 (bs:=none) (k:=0) (xs:=[]) rfl (SrcOk.nil rfl) (by simpa using hpos) hb hkn
     ·rw[hv] at ev
      subst ev
      by_cases hroom:rows.length+ys.length≤k
      ·obtain⟨w',hst,c',hw',hi',hr'⟩:=h.appended ht0 hv (n:=rows.length) (Nat.le_refl _) hroom hys0 hn2 hn3 (fun i j r x v q1 q2 q3=>hn4 i j r x v (List.getElem?_eq_some_iff.1 q1).1 q1 q2 q3) hf hbase (nn':=kn2 nny nn) (cap':=none) (by rw[List.take_length];exact hkn) (by simp)
       rw[List.take_length] at hi'
       exact⟨_,w',c',hsrc.here _ rows.length k w' hroom (by rw[Addr.add_lit,hse];exact hst),hw',hi',hr'⟩
      ·exact grow (h.kill hD) rfl (.refl h.kr) hf1 (bs:=some _) (k:=k) (xs:=rows) rfl C.src (by omega) hb hkn
   ·exact hg.elim
  ·exact hg.elim
 | sub t0 full' lo n =>
  simp only [appendr] at hg
  split at hg
  ·rename_i nn cap sz rows hl
   split at hg
   ·rename_i hsz
    have hsz:=Nat.eq_of_beq_eq_true hsz
    subst hsz
    have ht0:=hlook _ _ hl
    split at hg
    ·have hsrc:=sub_src (P:=P) h hx (.inl ht0)
     have hl2:=hsrc.len c.w
     cases hx with
     | plain p=>cases p
     | subnil _ _ _ len cap0 hd hv =>
      rw[List.take_zero] at hg hsrc
      exact full (bs:=none) (k:=0) (xs:=[]) rfl rfl (SrcOk.nil rfl) hg
     | sub _ _ _ _ b off len cap0 cap' ad hdm hv' hn hf hgg ha hl0 =>
      have hlen:((rows.drop lo).take n).length=n:=by
       simp only [Builtin.lenOf,Sem.run_pure,Result.ok.injEq,and_true] at hl2
       exact hl2.symm
      have hk:=hf rfl
      subst hk
      exact full (bs:=some ad) (k:=cap') (xs:=(rows.drop lo).take cap') (by rw[hlen]) hlen.symm hsrc hg
    ·split at hg
     ·have here:(appHere look base t0 nn cap te.size n ys rows).gives F v u→∃ (rv:Value) (w':World) (c':RC),(Builtin.append_ #[t,t2] ty' #[vx,vy]).run P c.w=.ok rv w'∧c'.w=w'∧Inv fc c' { st with heap:=hsets st.heap u } a∧Rep c' v rv:=by
       intro hg
       unfold appHere at hg
       split at hg
       ·exact hg.elim
       ·rename_i hlb
        obtain⟨hb,rfl,rfl⟩:=hg
        have hD:c.D t0:=(h.dom t0).2 (by simp [ht0])
        have hf:=hfree hlb
        have hne:base≠t0:=fun e=>by subst e;rw[hf] at ht0;cases ht0
        have hf1:hget (hset st.heap t0 .dead) base=none:=by rw[hget_hset_ne _ _ hne];exact hf
        have hnn1:∀ m,nn1 m≠2:=fun m=>by cases m<;>simp [nn1]
        cases hx with
        | plain p=>cases p
        | subnil _ _ _ len cap0 hd hv =>
         obtain⟨hz0,ho⟩:=h.obj t0 _ ht0
         rcases ho with ⟨e,rfl,hnn0,hcap⟩ | ⟨b,o',cap1,e,_⟩
         ·have hys:ys=[]:=List.length_eq_zero_iff.1 (by simpa using hb)
          have hlen:ys.length=0:=by rw[hys];rfl
          have hrun:=hsrc.nil 0 0 (by omega)
          rw[hlen,Nat.add_zero] at hrun
          have i1:=h.kill hD
          refine⟨_,_,c.more base ⟨.slice none 0 0,te.size⟩,hrun,rfl,i1.new (l:=base) hf1 hbase (fun b _ hb=>by simp [blk] at hb) ⟨by simp [RC.more],.inl ⟨by simp [RC.more],by simp [hys],by rw[hnn0];rfl,hcap⟩⟩,.ref base _ (.inl rfl) (by simp [RC.more]) rfl⟩
         ·rw[hv] at e;cases e
        | sub _ _ _ _ b off len cap0 cap' ad hdm hv' hn hf' hgg ha hl0 =>
         have hk:=hgg rfl
         rw[Nat.sub_zero] at hk
         subst hk
         obtain⟨hz0,ho⟩:=h.obj t0 _ ht0
         rcases ho with ⟨e,_⟩ | ⟨b',o',cap1,e,hcap,_,_,A,_⟩
         ·rw[hv'] at e;cases e
         ·rw[hv'] at e
          injection e with e1 e2 e3
          subst e2;subst e3
          have hroom:n+ys.length≤cap':=by have:=A.hc;omega
          obtain⟨w',hst,c',hw',hi',hr'⟩:=h.appended ht0 hv' (n:=n) (ys:=ys) (news:=news) (by omega) hroom hys0 hn2 hn3 (fun i j r x v q1 q2 q3=>hn4 i j r x v (List.getElem?_eq_some_iff.1 q1).1 q1 q2 q3) hf hbase (nn':=nn1 nn) (cap':=cap) (fun e=>absurd e (hnn1 _)) hcap
          obtain rfl:=ha (.inr rfl)
          exact⟨_,w',c',hsrc.here _ n cap' w' hroom (by rw[Nat.zero_mul,Nat.add_zero,Addr.add_lit,hse];exact hst),hw',hi',by rw[Nat.zero_mul,Nat.add_zero];exact hr'⟩
      split at hg
      ·exact here hg
      ·rename_i cc
       rcases hg with ⟨hle,hg⟩ | ⟨hle,hg⟩
       ·exact here hg
       ·obtain⟨hcc,hg⟩:=hg
        simp only at hcc hle
        have hsrc:=sub_src (P:=P) h hx (.inl ht0)
        have hl2:=hsrc.len c.w
        cases hx with
        | plain p=>cases p
        | subnil _ _ _ len cap0 hd hv =>
         obtain⟨hz0,ho⟩:=h.obj t0 _ ht0
         rcases ho with ⟨e,rfl,hnn0,hcap⟩ | ⟨b,o',cap1,e,_⟩
         ·have hc0:=hcap cc rfl
          rw[List.take_zero] at hg hsrc
          unfold appFresh at hg
          split at hg
          ·exact hg.elim
          ·rename_i hlb
           obtain⟨hb,rfl,rfl⟩:=hg
           have hpos:0<ys.length:=by omega
           exact grow h rfl (.refl h.kr) (hfree hlb) (bs:=none) (k:=0) (xs:=[]) rfl (SrcOk.nil rfl) (by simpa using hpos) (by simpa using hb) (fun e=>by unfold kn2 at e;split at e<;>first|(intro e2;rw[(List.append_eq_nil_iff.1 e2).2] at hpos;simp at hpos)|cases e)
         ·rw[hv] at e;cases e
        | sub _ _ _ _ b off len cap0 cap' ad hdm hv' hn hf' hgg ha hl0 =>
         have hk:=hgg rfl
         rw[Nat.sub_zero] at hk
         subst hk
         obtain⟨hz0,ho⟩:=h.obj t0 _ ht0
         rcases ho with ⟨e,_⟩ | ⟨b',o',cap1,e,hcap,_,_,A,_⟩
         ·rw[hv'] at e;cases e
         ·rw[hv'] at e
          injection e with e1 e2 e3
          subst e2;subst e3
          have hck:=hcap cc rfl
          have hlen:((rows.drop 0).take n).length=n:=by
           simp only [Builtin.lenOf,Sem.run_pure,Result.ok.injEq,and_true] at hl2
           exact hl2.symm
          unfold appFresh at hg
          split at hg
          ·exact hg.elim
          ·rename_i hlb
           obtain⟨hb,rfl,rfl⟩:=hg
           have hpos:0<ys.length:=by have:=A.hc;omega
           exact grow h rfl (.refl h.kr) (hfree hlb) (bs:=some ad) (k:=cap') (xs:=(rows.drop 0).take n) (by rw[hlen]) hsrc (by omega) hb (fun e=>by unfold kn2 at e;split at e<;>first|(intro e2;rw[(List.append_eq_nil_iff.1 e2).2] at hpos;simp at hpos)|cases e)
     ·exact hg.elim
   ·exact hg.elim
  ·exact hg.elim
 | _=>exact hg.elim
theorem append_ok (hE:EnvOk P E) (h:Inv fc c st a) (h64:fc.n0≤64) {look:Nat→Option Sym.Obj} (hlook:∀ l x,look l=some x→hget st.heap l=some x) {base:Nat} (hbase:fc.n0≤base) (hfree:look base=none→hget st.heap base=none)
  {t t2 e ty':Nat} {ty te:TyI} (h2:(isSliceT (E.ty t2) || isStrT (E.ty t2))=true) (ht:E.ty t=some ty) (htk:ty.tk=.slice e) (hte:E.ty e=some te) {x:PV} {vx vy:Value} (hx:Rep c x vx) {nny:Nat} {ys:List (List PV)}
  (hny:nny=2→ys≠[]) (hy:SrcOk P c.w c.Xk vy te.size ys) (hg:(appendr look base te.bytes te.size x nny ys).gives F v u) :
  ∃ (rv:Value) (w':World) (c':RC),(Builtin.append_ #[t,t2] ty' #[vx,vy]).run P c.w=.ok rv w'∧c'.w=w'∧Inv fc c' { st with heap:=hsets st.heap u } a∧Rep c' v rv:=by
 obtain⟨u1,⟨d2,u2,u3⟩,ie,z,hie,hse,hby,hz,hz1,hz2,hz3⟩:=app_types hE h2 ht htk hte
 obtain⟨news,hn1,hn2,hn3,hn4⟩:=hy.cells ys.length (Nat.le_refl _)
 refine append_core hE h h64 hlook hbase hfree hx hie hse hby hz hz1 hz2 hz3 hny hy.hs ⟨fun sLen sCap hroom=>?_,fun ad sLen sCap w' hroom hst=>?_,fun z' base sLen sCap olds hz' holds hg h63 hfit=>?_⟩ hn2 hn3 hn4 hg
 ·exact run_append_none (ty:=ty') u1 u2 u3 hie sLen sCap ys.length vy news c.w (hy.len _) (by rw[hse];exact hn1 _ rfl) hroom
 ·exact run_append_here (ty:=ty') u1 u2 u3 hie ad sLen sCap ys.length vy news c.w w' (hy.len _) (by rw[hse];exact hn1 _ rfl) hroom hst
 ·exact run_append_new (ty:=ty') u1 u2 u3 hie hz' base sLen sCap ys.length vy olds news c.w (hy.len _) holds (by rw[hse];exact hn1 _ rfl) hg h63 hfit
theorem length_zeroCells (z:Array Value) (n:Nat):(Builtin.zeroCells z n).size=n * z.size:=by simp [Builtin.zeroCells]
theorem zeroCells_at (z:Array Value) (n i j:Nat) (hi:i<n) (hj:j<z.size):(Builtin.zeroCells z n)[i * z.size+j]?=z[j]?:=by
 have h1:(i+1) * z.size≤n * z.size:=Nat.mul_le_mul_right _ hi
 rw[Nat.add_mul,Nat.one_mul] at h1
 have hlt:i * z.size+j<(Builtin.zeroCells z n).size:=by rw[length_zeroCells];omega
 rw[Array.getElem?_eq_getElem hlt,Array.getElem?_eq_getElem hj]
 congr 1
 simp only [Builtin.zeroCells,Array.getElem_map,Array.getElem_range]
 have hm:(i * z.size+j) % z.size=j:=by
  rw[Nat.mul_comm,Nat.mul_add_mod];exact Nat.mod_eq_of_lt hj
 rw[hm,getElem!_pos z j hj]
theorem append_zeros (hE:EnvOk P E) (h:Inv fc c st a) (h64:fc.n0≤64) {look:Nat→Option Sym.Obj} (hlook:∀ l x,look l=some x→hget st.heap l=some x) {base:Nat} (hbase:fc.n0≤base) (hfree:look base=none→hget st.heap base=none)
  {t t2 e ty':Nat} {ty te:TyI} {k k':IntKind} (ht2:P.underlying t2=some (.int k)) (ht:E.ty t=some ty) (htk:ty.tk=.slice e) (hte:E.ty e=some te) {x:PV} {vx:Value} (hx:Rep c x vx) {n:Int}
  (h0:0≤n) (hm:n * te.bytes≤2 ^ 47) (hmx:n≤2 ^ 62) (hg:(appendr look base te.bytes te.size x 0 (List.replicate n.toNat te.zero)).gives F v u) :
  ∃ (rv:Value) (w':World) (c':RC),(Builtin.append_ #[t,t2] ty' #[vx,.int k' n]).run P c.w=.ok rv w'∧c'.w=w'∧Inv fc c' { st with heap:=hsets st.heap u } a∧Rep c' v rv:=by
 obtain⟨d,hd,hk⟩:=(hE t ty ht).und
 simp only [tkOk,htk] at hk
 obtain⟨rfl,_⟩:=hk
 obtain⟨ie,z,hie,hse,hby,hz,hz1,hz2,hz3⟩:=(hE e te hte).info
 obtain⟨m,rfl⟩:=Int.eq_ofNat_of_zero_le h0
 rw[Int.toNat_natCast] at hg
 have hzone:∀ v∈z.cells.toList,v.oneCell'=true:=by
  intro v hv
  obtain⟨j,hj,rfl⟩:=List.getElem_of_mem hv
  have hj':j<z.cells.size:=by simpa using hj
  exact(hz3 j (te.zero[j]'(by omega)) _ (by simp) (by simp [hj'])).one
 have hmb:m * ie.bytes≤281474976710656:=by
  rw[hby]
  have:((m * te.bytes:Nat):Int)≤2 ^ 47:=by rw[Int.natCast_mul];exact hm
  omega
 refine append_core hE h h64 hlook hbase hfree hx hie hse hby hz hz1 hz2 hz3 (fun e=>by cases e) (fun r hr=>by rw[List.eq_of_mem_replicate hr];exact hz2) (news:=(Builtin.zeroCells z.cells m).toList)
  (by rw[List.length_replicate];exact AppSrc.zeros hd ht2 hie hz (by rw[hz1,hse]) m (by omega) hmb _) ?_ (fun v hv=>?_) (fun i j r x v hi p q rr=>?_) hg
 ·rw[Array.length_toList,length_zeroCells,hz1,List.length_replicate]
 ·obtain⟨j,hj,rfl⟩:=List.getElem_of_mem hv
  simp only [Builtin.zeroCells,Array.toList_map,List.getElem_map]
  have hj2:j<m * z.cells.size:=by rw[Array.length_toList,length_zeroCells] at hj;exact hj
  have hpos:0<z.cells.size:=by
   rcases Nat.eq_zero_or_pos z.cells.size with h|h
   ·rw[h] at hj2;omega
   ·exact h
  simp only [Array.toList_range,List.getElem_range]
  rw[getElem!_pos z.cells _ (Nat.mod_lt _ hpos)]
  exact hzone _ (by simp)
 ·rw[List.length_replicate] at hi
  have hr:r=te.zero:=List.eq_of_mem_replicate (List.mem_of_getElem? p)
  subst hr
  have hj:j<te.zero.length:=(List.getElem?_eq_some_iff.1 q).1
  rw[Array.getElem?_toList,← hz1,zeroCells_at z.cells m i j hi (by omega)] at rr
  exact(hz3 j x v q rr).prep _ _
end
end Go.Sym
namespace Go.Sym
open Go
section
variable {P:Program} {fc:FC} {c:RC} {st:ASt} {a:Act} {o:Oper} {E:Env} {F:FnT} {v:PV} {u:List (Nat×Sym.Obj)}
def OV (c:RC):Option PV→Option Value→Prop
 | none,none=>True
 | some x,some v=>Rep c x v
 | _,_=>False
theorem OV.lit {x:PV} {v:Value} {n:Int} (h:Rep c x v) (hl:litInt x=some n):∃ k,v=.int k n:=by
 unfold litInt at hl
 split at hl
 ·obtain rfl:=Option.some.inj hl;exact⟨_,h.int_inv⟩
 ·cases hl
theorem slB_ok {lo hi mx:Option PV} {lo' hi' mx':Option Value} (h1:OV c lo lo') (h2:OV c hi hi') (h3:OV c mx mx') {len cap:Nat} (hcap:len≤cap) {kh:Int→Int→Bool→ORes} {kn:Int→ORes}
  (hg:(slB lo hi mx (fun _=>(len:Int)) kh kn).gives F v u) (w:World) :
  ∃ l h m:Nat,(Instr.sliceBounds true len cap lo' hi' mx').run P w=.ok (l,h,m) w∧l≤h∧h≤len∧h≤m∧m≤cap∧(lo=none→l=0) ∧
   ((∃ f,(kh l h f).gives F v u∧(f=true→m=h)∧(f=false→m=cap))∨((kn l).gives F v u∧h=len∧m=cap∧hi=none∧mx=none)∨(v=.top∧u=[])):=by
 unfold slB at hg
 split at hg
 ·exact hg.elim
 ·rename_i l hlow
  have lowrun:(lo'=none∧l=0)∨∃ k,lo'=some (.int k l):=by
   cases lo with
   | none =>
    cases lo' with
    | none=>simp only [slLow,Option.some.injEq] at hlow;exact .inl ⟨rfl,hlow.symm⟩
    | some=>exact h1.elim
   | some x =>
    cases lo' with
    | none=>exact h1.elim
    | some vl =>
     obtain⟨k,rfl⟩:=OV.lit h1 hlow
     exact .inr ⟨k,rfl⟩
  have hlo0:lo=none→l.toNat=0:=by
   rintro rfl
   simp only [slLow,Option.some.injEq] at hlow
   subst hlow;rfl
  split at hg
  ·rename_i x
   split at hg
   ·rename_i hh hx
    obtain⟨⟨a1,a2,a3⟩,hg⟩:=hg
    have a3:hh≤(len:Int):=a3
    cases hi' with
    | none=>exact h2.elim
    | some vh =>
     obtain⟨kk,rfl⟩:=OV.lit h2 hx
     unfold slMax at hg
     split at hg
     ·rename_i y
      split at hg
      ·rename_i m hm
       cases mx' with
       | none=>exact h3.elim
       | some vm =>
       obtain⟨km,rfl⟩:=OV.lit h3 hm
       rcases hg with ⟨e,hg⟩ | ⟨e,⟨b1,b2⟩,hg⟩
       ·have e:hh=m:=e
        subst e
        refine⟨l.toNat,hh.toNat,hh.toNat,?_,by omega,by omega,Nat.le_refl _,by omega,hlo0,.inl ⟨true,?_,fun _=>rfl,fun e=>by cases e⟩⟩
        ·rcases lowrun with ⟨rfl,rfl⟩ | ⟨k,rfl⟩
         ·simp only [Instr.sliceBounds,Sem.run_bind,run_sliceBound w km hh cap _ (by omega) (by omega),Result.andThen_ok,run_sliceBound w kk hh hh.toNat _ (by omega) (by omega),Sem.run_pure];rfl
         ·simp only [Instr.sliceBounds,Sem.run_bind,run_sliceBound w km hh cap _ (by omega) (by omega),Result.andThen_ok,run_sliceBound w kk hh hh.toNat _ (by omega) (by omega),run_sliceBound w k l hh.toNat _ (by omega) (by omega),Sem.run_pure]
        ·rwa [Int.toNat_of_nonneg a1,Int.toNat_of_nonneg (by omega)]
       ·have b2:m≤(len:Int):=b2
        refine⟨l.toNat,hh.toNat,m.toNat,?_,by omega,by omega,by omega,by omega,hlo0,.inr (.inr ⟨hg.1.symm,hg.2.symm⟩)⟩
        rcases lowrun with ⟨rfl,rfl⟩ | ⟨k,rfl⟩
        ·simp only [Instr.sliceBounds,Sem.run_bind,run_sliceBound w km m cap _ (by omega) (by omega),Result.andThen_ok,run_sliceBound w kk hh m.toNat _ (by omega) (by omega),Sem.run_pure];rfl
        ·simp only [Instr.sliceBounds,Sem.run_bind,run_sliceBound w km m cap _ (by omega) (by omega),Result.andThen_ok,run_sliceBound w kk hh m.toNat _ (by omega) (by omega),run_sliceBound w k l hh.toNat _ (by omega) (by omega),Sem.run_pure]
      ·exact hg.elim
     ·cases mx' with
      | some=>exact h3.elim
      | none =>
       refine⟨l.toNat,hh.toNat,cap,?_,by omega,by omega,by omega,Nat.le_refl _,hlo0,.inl ⟨false,?_,fun e=>by(cases e),fun _=>rfl⟩⟩
       ·rcases lowrun with ⟨rfl,rfl⟩ | ⟨k,rfl⟩
        ·simp only [Instr.sliceBounds,Sem.run_bind,Sem.run_pure,Result.andThen_ok,run_sliceBound w kk hh cap _ (by omega) (by omega)];rfl
        ·simp only [Instr.sliceBounds,Sem.run_bind,Sem.run_pure,Result.andThen_ok,run_sliceBound w kk hh cap _ (by omega) (by omega),run_sliceBound w k l hh.toNat _ (by omega) (by omega)]
       ·rwa [Int.toNat_of_nonneg a1,Int.toNat_of_nonneg (by omega)]
   ·exact hg.elim
  ·split at hg
   ·exact hg.elim
   ·obtain⟨⟨a1,a2⟩,hg⟩:=hg
    have a2:l≤(len:Int):=a2
    cases hi' with
    | some=>exact h2.elim
    | none =>
     cases mx' with
     | some=>exact h3.elim
     | none =>
      refine⟨l.toNat,len,cap,?_,by omega,Nat.le_refl _,hcap,Nat.le_refl _,hlo0,.inr (.inl ⟨?_,rfl,rfl,rfl,rfl⟩)⟩
      ·rcases lowrun with ⟨rfl,rfl⟩ | ⟨k,rfl⟩
       ·simp only [Instr.sliceBounds,Sem.run_bind,Sem.run_pure,Result.andThen_ok];rfl
       ·simp only [Instr.sliceBounds,Sem.run_bind,Sem.run_pure,Result.andThen_ok,run_sliceBound w k l len _ (by omega) (by omega)]
      ·rwa [Int.toNat_of_nonneg a1]
theorem run_slice_of {t e:Nat} {size:Nat} (ht:P.underlying t=some (.slice e)) (hs:∀ w:World,(sizeOf e).run P w=.ok size w) {ad:Option Addr} {len cap:Nat} {lo hi mx:Option Value} {l h m:Nat} {w:World}
  (hb:(Instr.sliceBounds true len cap lo hi mx).run P w=.ok (l,h,m) w) :
  (Instr.sliceAt t (.slice ad len cap) lo hi mx).run P w=.ok (.slice (if m=l then ad else ad.map (·.add (l * size))) (h-l) (m-l)) w:=by
 simp only [Instr.sliceAt,Sem.run_bind,run_underlying ht,Result.andThen_ok,Instr.slice,hb,hs,Sem.run_pure]
theorem mk_sl {w:World} (hw:w=c.w) {bo full:Bool} {nn sz:Nat} {rows:List (List PV)} {ad:Addr} {n cap:Nat} (hn:rows.length=n) (C:CellsAt w c.Xk ad sz rows) (hX:0<n→c.Xr ad.block∧(bo=false→c.Xk ad.block)) (hc:n≤cap) (hf:full=true→cap=n) (h2:nn≠2) :
  Rep c (.sl bo nn full sz rows) (.slice (some ad) n cap):=by
 subst hw
 let f:Nat→Nat→Value:=fun i j=>(c.w.cell? ⟨ad.block,ad.off+(i * sz+j),none⟩).getD default
 have get:∀ i j,i<n→j<sz→∃ r x,rows[i]?=some r∧r[j]?=some x∧c.w.cell? ⟨ad.block,ad.off+(i * sz+j),none⟩=some (f i j)∧PRep c.w c.Xk x (f i j)∧(f i j).oneCell'=true:=by
  intro i j hi hj
  have hr:rows[i]?=some (rows[i]'(by omega)):=by simp
  have hl:=C.hs _ (List.mem_of_getElem? hr)
  have hx:(rows[i]'(by omega))[j]?=some ((rows[i]'(by omega))[j]'(by omega)):=by simp
  obtain⟨v,q1,q2,q3⟩:=C.cell i j _ _ hr hx
  refine⟨_,_,hr,hx,?_⟩
  simp only [f,q1,Option.getD_some]
  exact⟨trivial,q2,q3⟩
 have hrep:∀ (i j:Nat) r x,rows[i]?=some r→r[j]?=some x→PRep c.w c.Xk x (f i j):=by
  intro i j r x hr hx
  have hi:i<n:=by rw[← hn];exact(List.getElem?_eq_some_iff.1 hr).1
  have hj:j<sz:=by rw[← C.hs r (List.mem_of_getElem? hr)];exact(List.getElem?_eq_some_iff.1 hx).1
  obtain⟨r',x',e1,e2,_,q,_⟩:=get i j hi hj
  rw[hr] at e1;obtain rfl:=Option.some.inj e1
  rw[hx] at e2;obtain rfl:=Option.some.inj e2
  exact q
 cases bo with
 | false=>exact .plain (.sl nn full rows ad n cap sz f hn hc hf (fun e=>absurd e h2) (fun h=>⟨(hX h).2 rfl,C.spot (by omega)⟩) C.hs (fun i j hi hj=>(get i j hi hj).choose_spec.choose_spec.2.2.1) (fun i j hi hj=>(get i j hi hj).choose_spec.choose_spec.2.2.2.2) hrep)
 | true=>exact .slb nn full rows ad n cap sz f hn hc hf (fun e=>absurd e h2) (fun h=>⟨(hX h).1,C.spot (by omega)⟩) C.hs (fun i j hi hj=>(get i j hi hj).choose_spec.choose_spec.2.2.1) (fun i j hi hj=>(get i j hi hj).choose_spec.choose_spec.2.2.2.2) hrep
theorem nn1_ne (m:Nat):nn1 m≠2:=by cases m<;>simp [nn1]
theorem slRows_ok (h:Inv fc c st a) {t e size:Nat} (ht:P.underlying t=some (.slice e)) (hs:∀ w:World,(sizeOf e).run P w=.ok size w) {bo was:Bool} {nn:Nat} {rows:List (List PV)} {vx:Value} (hx:Rep c (.sl bo nn was size rows) vx)
  {lo hi mx:Option PV} {lo' hi' mx':Option Value} (h1:OV c lo lo') (h2:OV c hi hi') (h3:OV c mx mx') (hg:(slRows bo nn size was rows lo hi mx).gives F v u) :
  u=[]∧∃ rv,(Instr.sliceAt t vx lo' hi' mx').run P c.w=.ok rv c.w∧Rep c v rv:=by
 unfold slRows at hg
 rcases sl_cells h hx with ⟨rfl,rfl,rfl⟩ | ⟨ad,k,rfl,C,_,hk,hf,hX,_⟩
 ·obtain⟨l,hh,m,hb,q1,q2,q3,q4,_,q5⟩:=slB_ok (P:=P) h1 h2 h3 (len:=0) (cap:=0) (Nat.le_refl _) hg c.w
  have hrun:=run_slice_of (ad:=none) ht hs hb
  obtain rfl:l=0:=by omega
  obtain rfl:hh=0:=by omega
  obtain rfl:m=0:=by omega
  rcases q5 with ⟨f,⟨rfl,rfl⟩,_⟩ | ⟨⟨rfl,rfl⟩,_⟩ | ⟨rfl,rfl⟩
  ·refine⟨rfl,_,hrun,?_⟩
   cases bo
   ·exact .plain (.slnil _ _)
   ·exact .slbnil _ _
  ·refine⟨rfl,_,hrun,?_⟩
   cases bo
   ·exact .plain (.slnil _ _)
   ·exact .slbnil _ _
  ·exact⟨rfl,_,hrun,.top _⟩
 ·obtain⟨l,hh,m,hb,q1,q2,q3,q4,_,q5⟩:=slB_ok (P:=P) h1 h2 h3 (len:=rows.length) (cap:=k) hk hg c.w
  have hrun:=run_slice_of (ad:=some ad) ht hs hb
  have fin:∀ {full:Bool} {rs:List (List PV)},rs=(rows.drop l).take (hh-l)→(full=true→m=hh)→Rep c (.sl bo (nn1 nn) full size rs) (.slice (if m=l then some ad else(some ad).map (·.add (l * size))) (hh-l) (m-l)):=by
   rintro full rs rfl hfull
   have hlen:((rows.drop l).take (hh-l)).length=hh-l:=by simp;omega
   by_cases hml:m=l
   ·subst hml
    rw[if_pos rfl]
    have h0:hh-m=0:=by omega
    rw[h0] at hlen ⊢
    rw[List.take_zero]
    exact mk_sl rfl rfl ⟨by simp,by simp,by simp⟩ (fun h=>by omega) (Nat.zero_le _) (fun e=>by have:=hfull e;omega) (nn1_ne _)
   ·rw[if_neg hml]
    by_cases hlt:l<hh
    ·have hsp:=C.spot (by omega)
     obtain⟨b,of,sp⟩:=ad
     simp only at hsp
     subst hsp
     simp only [Option.map_some,Addr.add_lit]
     exact mk_sl rfl hlen (C.sub (by omega)) (fun _=>hX (by omega)) (by omega) (fun e=>by have:=hfull e;omega) (nn1_ne _)
    ·have h0:hh-l=0:=by omega
     rw[h0] at hlen ⊢
     rw[List.take_zero]
     exact mk_sl rfl rfl ⟨by simp,by simp,by simp⟩ (fun h=>by omega) (Nat.zero_le _) (fun e=>by have:=hfull e;omega) (nn1_ne _)
  rcases q5 with ⟨f,⟨rfl,rfl⟩,qf,_⟩ | ⟨⟨rfl,rfl⟩,e1,e2,_⟩ | ⟨rfl,rfl⟩
  ·exact⟨rfl,_,hrun,fin rfl qf⟩
  rotate_left
  ·exact⟨rfl,_,hrun,.top _⟩
  ·subst e1;subst e2
   refine⟨rfl,_,hrun,fin ?_ (fun e=>hf e)⟩
   rw[Int.toNat_natCast,List.take_of_length_le (by simp)]
end
end Go.Sym
namespace Go.Sym
open Go
section
variable {P:Program} {fc:FC} {c:RC} {st:ASt} {a:Act} {o:Oper} {E:Env} {F:FnT} {v:PV} {u:List (Nat×Sym.Obj)}
theorem mk_sub {t:Nat} (hD:c.D t) {b off len k size:Nat} (hv:(c.θ t).val=.slice (some ⟨b,off,none⟩) len k) (hz:(c.θ t).sz=size) {full:Bool} {l h m:Nat} (h1:l≤h) (h2:h≤len) (h3:h≤m) (h4:m≤k) (hf:full=true→m=h) (hg:full=false→m=k) :
  Rep c (.sub t full l (h-l)) (.slice (if m=l then some ⟨b,off,none⟩ else(some (⟨b,off,none⟩:Addr)).map (·.add (l * size))) (h-l) (m-l)):=by
 by_cases hml:m=l
 ·subst hml
  rw[if_pos rfl]
  exact .sub t full m (h-m) b off len k (m-m) _ hD hv (by omega) (fun e=>by have:=hf e;omega) (fun e=>by have:=hg e;omega) (fun e=>by
   rcases e with e|e
   ·omega
   ·subst e;simp) (by omega)
 ·rw[if_neg hml]
  simp only [Option.map_some,Addr.add_lit]
  exact .sub t full l (h-l) b off len k (m-l) _ hD hv (by omega) (fun e=>by have:=hf e;omega) (fun e=>by have:=hg e;omega) (fun _=>by rw[hz]) (by omega)
theorem slRef_ok (h:Inv fc c st a) {t e size:Nat} (ht:P.underlying t=some (.slice e)) (hs:∀ w:World,(sizeOf e).run P w=.ok size w) {tt nn:Nat} {cap:Option Nat} {rows:List (List PV)} (ho:hget st.heap tt=some (.arr nn cap size rows)) {vx:Value} (hx:Rep c (.ref tt) vx)
  {lo hi mx:Option PV} {lo' hi' mx':Option Value} (h1:OV c lo lo') (h2:OV c hi hi') (h3:OV c mx mx') (hg:(slRef tt rows lo hi mx).gives F v u) :
  u=[]∧∃ rv,(Instr.sliceAt t vx lo' hi' mx').run P c.w=.ok rv c.w∧Rep c v rv:=by
 unfold slRef at hg
 obtain⟨ev,hD,hone⟩:=hx.ref_inv
 obtain⟨hz,hh⟩:=header h (.inl ho)
 rcases hh with ⟨e0,rfl⟩ | ⟨b,off,k,hv,hk⟩
 ·rw[e0] at ev
  subst ev
  obtain⟨l,hh,m,hb,q1,q2,q3,q4,qlo,q5⟩:=slB_ok (P:=P) h1 h2 h3 (len:=0) (cap:=0) (Nat.le_refl _) hg c.w
  have hrun:=run_slice_of (ad:=none) ht hs hb
  obtain rfl:l=0:=by omega
  obtain rfl:hh=0:=by omega
  obtain rfl:m=0:=by omega
  have fin:∀ {full:Bool} {l':Nat},Rep c (.sub tt full l' 0) (.slice none 0 0):=fun {full l'}=>.subnil tt full l' 0 0 hD e0
  rcases q5 with ⟨f,qg,_⟩ | ⟨qg,_⟩ | ⟨rfl,rfl⟩
  rotate_right
  ·exact⟨rfl,_,hrun,.top _⟩
  ·unfold slSub at qg
   split at qg
   ·obtain⟨rfl,rfl⟩:=qg;exact⟨rfl,_,hrun,fin⟩
   ·obtain⟨rfl,rfl⟩:=qg;exact⟨rfl,_,hrun,fin⟩
  ·split at qg
   ·obtain⟨rfl,rfl⟩:=qg;exact⟨rfl,_,hrun,.ref tt _ hD e0.symm rfl⟩
   ·obtain⟨rfl,rfl⟩:=qg;exact⟨rfl,_,hrun,fin⟩
 ·rw[hv] at ev
  subst ev
  obtain⟨l,hh,m,hb,q1,q2,q3,q4,qlo,q5⟩:=slB_ok (P:=P) h1 h2 h3 (len:=rows.length) (cap:=k) hk hg c.w
  have hrun:=run_slice_of (ad:=some ⟨b,off,none⟩) ht hs hb
  rcases q5 with ⟨f,qg,qf1,qf2⟩ | ⟨qg,e1,e2,_⟩ | ⟨rfl,rfl⟩
  rotate_right
  ·exact⟨rfl,_,hrun,.top _⟩
  ·have:=mk_sub hD hv hz q1 q2 q3 q4 qf1 qf2
   unfold slSub at qg
   split at qg
   ·obtain rfl:=qlo rfl
    obtain⟨rfl,rfl⟩:=qg
    exact⟨rfl,_,hrun,this⟩
   ·obtain⟨rfl,rfl⟩:=qg
    exact⟨rfl,_,hrun,this⟩
  ·subst e1;subst e2
   split at qg
   ·obtain rfl:=qlo rfl
    obtain⟨rfl,rfl⟩:=qg
    refine⟨rfl,_,hrun,?_⟩
    have e9:(Value.slice (if m=0 then some (⟨b,off,none⟩:Addr) else(some (⟨b,off,none⟩:Addr)).map (·.add (0 * size))) (rows.length-0) (m-0))=.slice (some ⟨b,off,none⟩) rows.length m:=by
     split<;>simp [Addr.add_lit]
    rw[e9]
    exact .ref tt _ hD hv.symm rfl
   ·obtain⟨rfl,rfl⟩:=qg
    refine⟨rfl,_,hrun,?_⟩
    have:=mk_sub hD hv hz q1 q2 q3 q4 (full:=false) (fun e=>by cases e) (fun _=>rfl)
    rwa [Int.toNat_natCast]
theorem slSubs_ok (h:Inv fc c st a) {t e size:Nat} (ht:P.underlying t=some (.slice e)) (hs:∀ w:World,(sizeOf e).run P w=.ok size w) {tt nn lo0 n0:Nat} {was:Bool} {cap:Option Nat} {rows:List (List PV)} (ho:hget st.heap tt=some (.arr nn cap size rows)) {vx:Value} (hx:Rep c (.sub tt was lo0 n0) vx)
  {lo hi mx:Option PV} {lo' hi' mx':Option Value} (h1:OV c lo lo') (h2:OV c hi hi') (h3:OV c mx mx') (hg:(slSubs tt lo0 n0 was lo hi mx).gives F v u) :
  u=[]∧∃ rv,(Instr.sliceAt t vx lo' hi' mx').run P c.w=.ok rv c.w∧Rep c v rv:=by
 unfold slSubs at hg
 obtain⟨hz,_⟩:=header h (.inl ho)
 cases hx with
 | plain p=>cases p
 | subnil _ _ _ len k hD e0 =>
  obtain⟨l,hh,m,hb,q1,q2,q3,q4,qlo,q5⟩:=slB_ok (P:=P) h1 h2 h3 (len:=0) (cap:=0) (Nat.le_refl _) hg c.w
  have hrun:=run_slice_of (ad:=none) ht hs hb
  obtain rfl:l=0:=by omega
  obtain rfl:hh=0:=by omega
  obtain rfl:m=0:=by omega
  have fin:∀ {full:Bool} {l':Nat},Rep c (.sub tt full l' 0) (.slice none 0 0):=fun {full l'}=>.subnil tt full l' len k hD e0
  rcases q5 with ⟨f,qg,_⟩ | ⟨⟨rfl,rfl⟩,_⟩ | ⟨rfl,rfl⟩
  rotate_right
  ·exact⟨rfl,_,hrun,.top _⟩
  ·cases hwf:was && !f with
   | true=>simp only [hwf] at qg;exact qg.elim
   | false =>
    simp only [hwf] at qg
    obtain⟨rfl,rfl⟩:=qg
    exact⟨rfl,_,hrun,fin⟩
  ·exact⟨rfl,_,hrun,fin⟩
 | sub _ _ _ _ b off len k k' ad hD hv hn hf hgg ha hl =>
  obtain⟨l,hh,m,hb,q1,q2,q3,q4,qlo,q5⟩:=slB_ok (P:=P) h1 h2 h3 (len:=n0) (cap:=k') hn hg c.w
  have hrun:=run_slice_of (ad:=some ad) ht hs hb
  have fin:∀ {full:Bool},(full=true→m-l=hh-l)→(full=false→m=k'∧was=false)→Rep c (.sub tt full (lo0+l) (hh-l)) (.slice (if m=l then some ad else(some ad).map (·.add (l * size))) (hh-l) (m-l)):=by
   intro full f1 f2
   by_cases hml:m=l
   ·subst hml
    rw[if_pos rfl]
    refine .sub tt full (lo0+m) (hh-m) b off len k (m-m) _ hD hv (by omega) (fun e=>by have:=f1 e;omega) (fun e=>by obtain⟨e1,e2⟩:=f2 e;have:=hgg e2;omega) (fun e=>?_) (by omega)
    rcases e with e|e
    ·omega
    ·have:lo0=0:=by omega
     have:m=0:=by omega
     subst this
     rw[ha (.inr (by omega))];simp
   ·rw[if_neg hml]
    obtain rfl:=ha (.inl (by omega))
    simp only [Option.map_some,Addr.add_lit]
    exact .sub tt full (lo0+l) (hh-l) b off len k (m-l) _ hD hv (by omega) (fun e=>by have:=f1 e;omega) (fun e=>by obtain⟨e1,e2⟩:=f2 e;have:=hgg e2;omega) (fun _=>by rw[hz,Nat.add_mul,Nat.add_assoc]) (by omega)
  rcases q5 with ⟨f,qg,qf1,qf2⟩ | ⟨⟨rfl,rfl⟩,e1,e2,_⟩ | ⟨rfl,rfl⟩
  rotate_right
  ·exact⟨rfl,_,hrun,.top _⟩
  ·cases hwf:was && !f with
   | true=>simp only [hwf] at qg;exact qg.elim
   | false =>
    simp only [hwf] at qg
    obtain⟨rfl,rfl⟩:=qg
    refine⟨rfl,_,hrun,fin (fun e=>by rw[qf1 e]) (fun e=>⟨qf2 e,?_⟩)⟩
    subst e
    simpa using hwf
  ·subst e1;subst e2
   refine⟨rfl,_,hrun,?_⟩
   rw[Int.toNat_natCast]
   exact fin (fun e=>by have:=hf e;omega) (fun e=>⟨rfl,e⟩)
theorem slMore_ok (h:Inv fc c st a) {t e size:Nat} (ht:P.underlying t=some (.slice e)) (hs:∀ w:World,(sizeOf e).run P w=.ok size w) {tt nn k0:Nat} {rows:List (List PV)} (ho:hget st.heap tt=some (.arr nn (some k0) size rows)) {vx:Value} (hx:Rep c (.ref tt) vx)
  {look:Nat→Option Sym.Obj} {base:Nat} (hbase:fc.n0≤base) (hfree:look base=none→hget st.heap base=none)
  {lo hi:Option PV} {lo' hi':Option Value} (h1:OV c lo lo') (h2:OV c hi hi') {hh:Int} (hhi:∃ x,hi=some x∧litInt x=some hh) (hg:(slMore look base size tt nn k0 size rows lo hh).gives F v u) :
  ∃ rv c',(Instr.sliceAt t vx lo' hi' none).run P c.w=.ok rv c.w∧c'.w=c.w∧Inv fc c' { st with heap:=hsets st.heap u } a∧Rep c' v rv:=by
 obtain⟨⟨b1,b2⟩,hg⟩:=hg
 obtain⟨ev,hD,_⟩:=hx.ref_inv
 obtain⟨x,rfl,hxl⟩:=hhi
 cases hi' with
 | none=>exact h2.elim
 | some vh =>
  obtain⟨kk,rfl⟩:=OV.lit h2 hxl
  obtain⟨hz,hob⟩:=h.obj tt _ ho
  rcases hob with ⟨e0,rfl,hnn0,hcap⟩ | ⟨b,off,cap1,e0,hcap,hnn2,hlt,A,hnx⟩
  ·have hk0:=hcap k0 rfl
   subst hk0
   rw[e0] at ev
   subst ev
   have hh0:hh=0:=by simp at b1;omega
   subst hh0
   split at hg
   ·split at hg
    ·exact hg.elim
    ·rename_i hlb
     obtain⟨rfl,rfl⟩:=hg
     cases lo' with
     | some=>exact h1.elim
     | none =>
      have hf:=hfree hlb
      have hne:base≠tt:=fun e=>by subst e;rw[hf] at ho;cases ho
      have hf1:hget (hset st.heap tt .dead) base=none:=by rw[hget_hset_ne _ _ hne];exact hf
      have hrun:=run_slice_of (ad:=none) (len:=0) (cap:=0) ht hs (lo:=none) (hi:=some (.int kk 0)) (mx:=none) (w:=c.w) (l:=0) (h:=0) (m:=0) (by
       simp only [Instr.sliceBounds,Sem.run_bind,Sem.run_pure,Result.andThen_ok,run_sliceBound c.w kk 0 0 _ (by omega) (by omega)];rfl)
      refine⟨_,c.more base ⟨.slice none 0 0,size⟩,hrun,rfl,(h.kill hD).new (l:=base) hf1 hbase (fun b _ hb=>by simp [blk] at hb) ⟨by simp [RC.more],.inl ⟨by simp [RC.more],by simp,by rw[hnn0];rfl,by simp⟩⟩,.ref base _ (.inl rfl) (by simp [RC.more]) rfl⟩
   ·rename_i y
    split at hg
    ·rename_i l hl
     obtain⟨⟨_,_,b5⟩,_⟩:=hg
     exact absurd b5 (by omega)
    ·exact hg.elim
  ·have hk0:=hcap k0 rfl
   subst hk0
   rw[e0] at ev
   subst ev
   have hbl:blk (c.θ tt).val=some b:=by rw[e0];rfl
   split at hg
   ·split at hg
    ·exact hg.elim
    ·rename_i hlb
     obtain⟨rfl,rfl⟩:=hg
     cases lo' with
     | some=>exact h1.elim
     | none =>
      have hf:=hfree hlb
      have hne:base≠tt:=fun e=>by subst e;rw[hf] at ho;cases ho
      have hf1:hget (hset st.heap tt .dead) base=none:=by rw[hget_hset_ne _ _ hne];exact hf
      have hrun:=run_slice_of (ad:=some ⟨b,off,none⟩) (len:=rows.length) (cap:=k0) ht hs (lo:=none) (hi:=some (.int kk hh)) (mx:=none) (w:=c.w) (l:=0) (h:=hh.toNat) (m:=k0) (by
       simp only [Instr.sliceBounds,Sem.run_bind,Sem.run_pure,Result.andThen_ok,run_sliceBound c.w kk hh k0 _ (by omega) (by omega)])
      have hlen:(rows++List.replicate (hh.toNat-rows.length) (tops size)).length=hh.toNat:=by simp;omega
      refine⟨_,c.more base ⟨.slice (some ⟨b,off,none⟩) hh.toNat k0,size⟩,hrun,rfl,(h.kill hD).new (l:=base) hf1 hbase (fun b2 _ hb2=>?_) ⟨by simp [RC.more],.inr ⟨b,off,k0,by simp [RC.more];omega,by simp,fun e=>absurd e (nn1_ne _),hlt,⟨rfl,by rw[hlen];omega,fun r hr=>?_,A.room,fun i j r x v p1 p2 p3=>?_,A.endok⟩,hnx⟩⟩,.ref base _ (.inl rfl) ?_ ?_⟩
      ·obtain rfl:b=b2:=by simpa [blk] using hb2
       refine⟨fun l' o' hl' hlv' hbk'=>?_,h.own tt _ b ho trivial hbl⟩
       have hl2:hget (hset st.heap tt .dead) l'=some o':=hl'
       rw[hget_hset] at hl2
       split at hl2
       ·obtain rfl:=Option.some.inj hl2;exact hlv'
       ·rename_i hne'
        exact h.dis tt l' _ o' b ho hl2 trivial hlv' (Ne.symm hne') hbl hbk'
      ·rcases List.mem_append.1 hr with hr|hr
       ·exact A.hs r hr
       ·rw[List.eq_of_mem_replicate hr];exact length_tops size
      ·by_cases hi:i<rows.length
       ·rw[List.getElem?_append_left hi] at p1
        exact A.rep i j r x v p1 p2 p3
       ·rw[List.getElem?_append_right (by omega)] at p1
        have hr:r=tops size:=List.eq_of_mem_replicate (List.mem_of_getElem? p1)
        subst hr
        obtain rfl:=mem_tops (List.mem_of_getElem? p2)
        exact .top _
      ·have e9:(if k0=0 then some (⟨b,off,none⟩:Addr) else(some (⟨b,off,none⟩:Addr)).map (·.add (0 * size)))=some ⟨b,off,none⟩:=by split<;>simp [Addr.add_lit]
       rw[e9]
       simp [RC.more]
      ·rfl
   ·rename_i y
    split at hg
    ·rename_i l hl
     obtain⟨⟨b3,b4,b5⟩,rfl,rfl⟩:=hg
     cases lo' with
     | none=>exact h1.elim
     | some vl =>
      obtain⟨kl,rfl⟩:=OV.lit h1 hl
      have hrun:=run_slice_of (ad:=some ⟨b,off,none⟩) (len:=rows.length) (cap:=k0) ht hs (lo:=some (.int kl l)) (hi:=some (.int kk hh)) (mx:=none) (w:=c.w) (l:=l.toNat) (h:=hh.toNat) (m:=k0) (by
       simp only [Instr.sliceBounds,Sem.run_bind,Sem.run_pure,Result.andThen_ok,run_sliceBound c.w kk hh k0 _ (by omega) (by omega),run_sliceBound c.w kl l hh.toNat _ (by omega) (by omega)])
      have key:∀ (q:Bool),Rep c (.spare tt) (.slice (if q=true then some (⟨b,off,none⟩:Addr) else(some (⟨b,off,none⟩:Addr)).map (·.add (l.toNat * size))) (hh.toNat-l.toNat) (k0-l.toNat))∨q=true:=by
       intro q
       cases q
       ·left
        simp only [Bool.false_eq_true,if_false,Option.map_some,Addr.add_lit]
        exact .spare tt b off rows.length k0 l.toNat (hh.toNat-l.toNat) (k0-l.toNat) _ hD e0 (fun _=>by rw[hz]) (by omega) (by omega)
       ·exact .inr rfl
      refine⟨_,c,hrun,rfl,h,?_⟩
      by_cases hml:k0=l.toNat
      ·rw[if_pos hml]
       exact .spare tt b off rows.length k0 l.toNat (hh.toNat-l.toNat) (k0-l.toNat) _ hD e0 (fun h=>by omega) (by omega) (by omega)
      ·rw[if_neg hml]
       simpa using key false
    ·exact hg.elim
end
end Go.Sym
namespace Go.Sym
open Go
section
variable {P:Program} {fc:FC} {c:RC} {st:ASt} {a:Act} {o:Oper} {E:Env} {F:FnT} {v:PV} {u:List (Nat×Sym.Obj)}
theorem OV.eval (h:Inv fc c st a) (x:Option Operand):OV c (x.map (evp st.tmps)) (x.map a.eval):=by
 cases x with
 | none=>trivial
 | some y=>exact h.eval y
theorem slicerStr_ok {s:ByteArray} {t:Nat} (ht:P.underlying t=some .string) {lo hi mx:Option PV} {lo' hi' mx':Option Value} (h1:OV c lo lo') (h2:OV c hi hi') (h3:OV c mx mx') (hg:(slicerStr s lo hi mx).gives F v u) (w:World) :
  u=[]∧∃ rv,(Instr.sliceAt t (.string s) lo' hi' mx').run P w=.ok rv w∧Rep c v rv:=by
 unfold slicerStr at hg
 split at hg
 ·exact hg.elim
 ·rename_i l hlow
  have lowrun:(lo'=none∧l=0)∨∃ k,lo'=some (.int k l):=by
   cases lo with
   | none =>
    cases lo' with
    | none=>simp only [slLow,Option.some.injEq] at hlow;exact .inl ⟨rfl,hlow.symm⟩
    | some=>exact h1.elim
   | some x =>
    cases lo' with
    | none=>exact h1.elim
    | some vl =>
     obtain⟨k,rfl⟩:=OV.lit h1 hlow
     exact .inr ⟨k,rfl⟩
  split at hg
  ·exact hg.elim
  ·cases mx' with
   | some=>exact h3.elim
   | none =>
    split at hg
    ·rename_i x
     split at hg
     ·rename_i hh hx
      obtain⟨⟨a1,a2,a3⟩,rfl,rfl⟩:=hg
      cases hi' with
      | none=>exact h2.elim
      | some vh =>
       obtain⟨kk,rfl⟩:=OV.lit h2 hx
       refine⟨rfl,_,?_,.plain (.str _)⟩
       rcases lowrun with ⟨rfl,rfl⟩ | ⟨k,rfl⟩
       ·simp [Instr.sliceAt,Instr.slice,run_underlying ht,Instr.sliceBounds,run_sliceBound w kk hh s.size _ (by omega) (by omega)]
       ·simp [Instr.sliceAt,Instr.slice,run_underlying ht,Instr.sliceBounds,run_sliceBound w kk hh s.size _ (by omega) (by omega),run_sliceBound w k l hh.toNat _ (by omega) (by omega)]
     ·exact hg.elim
    ·obtain⟨⟨a1,a2⟩,rfl,rfl⟩:=hg
     cases hi' with
     | some=>exact h2.elim
     | none =>
      refine⟨rfl,_,?_,.plain (.str _)⟩
      rcases lowrun with ⟨rfl,rfl⟩ | ⟨k,rfl⟩
      ·simp [Instr.sliceAt,Instr.slice,run_underlying ht,Instr.sliceBounds]
      ·simp [Instr.sliceAt,Instr.slice,run_underlying ht,Instr.sliceBounds,run_sliceBound w k l s.size _ (by omega) (by omega)]
theorem slice_ok (hE : EnvOk P E) (h : Inv fc c st a) (h64 : fc.n0 ≤ 64) {t : TypeId} {x : Operand} {lo hi mx : Option Operand} (hop : o.op = .slice t x lo hi mx)
    (hg : (opr E o (evp st.tmps) (only ((fpr o (evp st.tmps) (hget st.heap)).1 ++ (fpr o (evp st.tmps) (hget st.heap)).2) (hget st.heap))).gives F v u) : OpOk P fc st o a c.w v u := by
  simp only [opr, hop] at hg
  have hsite : hi.isSome = true → slPlain (edged o) (hget st.heap) (evp st.tmps x) = false → site o.dst ∈ (fpr o (evp st.tmps) (hget st.heap)).1 ++ (fpr o (evp st.tmps) (hget st.heap)).2 := by
    intro h1 h2
    cases hi with
    | none => cases h1
    | some y => simp [fpr, hop, h2]
  generalize hlk : only _ (hget st.heap) = look at hg
  have hlook : ∀ l x, look l = some x → hget st.heap l = some x := fun l x hx => by subst hlk; exact only_some hx
  have hnone : hi.isSome = true → slPlain (edged o) (hget st.heap) (evp st.tmps x) = false → look (site o.dst) = none → hget st.heap (site o.dst) = none := fun hs hp hx => by subst hlk; exact only_none (hsite hs hp) hx
  have hbase : fc.n0 ≤ site o.dst := le_site h64
  have hx := h.eval x
  have o1 := OV.eval h lo
  have o2 := OV.eval h hi
  have o3 := OV.eval h mx
  have pure : u = [] → (∃ rv, (Instr.sliceAt t (a.eval x) (lo.map a.eval) (hi.map a.eval) (mx.map a.eval)).run P c.w = .ok rv c.w ∧ Rep c v rv) → OpOk P fc st o a c.w v u := by
    rintro rfl ⟨rv, hrun, hr⟩
    refine .pure h (rv := rv) ?_ hr
    simp only [execOp, hop, Sem.run_bind, hrun, Result.andThen_ok, Sem.run_pure]
  split at hg
  · rename_i ty ht
    obtain ⟨d, hd, hk⟩ := (hE t ty ht).und
    split at hg
    · rename_i htk
      simp only [tkOk, htk] at hk
      obtain ⟨rfl, _⟩ := hk
      split at hg
      · rename_i s hp
        rw [hp] at hx
        have e := hx.str_inv
        obtain ⟨q1, rv, q2, q3⟩ := slicerStr_ok (P := P) hd o1 o2 o3 hg c.w
        exact pure q1 ⟨rv, by rw [e]; exact q2, q3⟩
      · exact hg.elim
    · rename_i e htk
      simp only [tkOk, htk] at hk
      obtain ⟨rfl, _⟩ := hk
      split at hg
      · rename_i te hte
        have hs := fun w : World => (hE e te hte).sizeOf w
        generalize hpx : evp st.tmps x = px at hg hx
        have beq : ∀ {m n : Nat} {A B : ORes}, (match Nat.beq m n with
            | false => A
            | true => B : ORes).gives F v u → (∀ F v u, A.gives F v u → False) → m = n ∧ B.gives F v u := by
          intro m n A B hg hA
          cases hb : Nat.beq m n with
          | false => simp only [hb] at hg; exact (hA _ _ _ hg).elim
          | true => simp only [hb] at hg; exact ⟨Nat.eq_of_beq_eq_true hb, hg⟩
        cases px with
        | nils =>
          simp only [slicer] at hg
          have e1 := hx.nils_inv
          rw [e1] at pure
          obtain ⟨l, hh, m, hb, q1, q2, q3, q4, _, q5⟩ := slB_ok (P := P) o1 o2 o3 (len := 0) (cap := 0) (Nat.le_refl _) hg c.w
          have hrun := run_slice_of (ad := none) hd hs hb
          obtain rfl : l = 0 := by omega
          obtain rfl : hh = 0 := by omega
          obtain rfl : m = 0 := by omega
          rcases q5 with ⟨f, ⟨rfl, rfl⟩, _⟩ | ⟨⟨rfl, rfl⟩, _⟩ | ⟨rfl, rfl⟩
          rotate_right
          · exact pure rfl ⟨_, hrun, .top _⟩
          · exact pure rfl ⟨_, hrun, .plain .nils⟩
          · exact pure rfl ⟨_, hrun, .plain .nils⟩
        | sl bo nn was sz rows =>
          simp only [slicer] at hg
          obtain ⟨rfl, hg⟩ := beq hg (fun _ _ _ h => h)
          obtain ⟨q1, q2⟩ := slRows_ok (P := P) h hd hs hx o1 o2 o3 hg
          exact pure q1 q2
        | ref tt =>
          simp only [slicer] at hg
          split at hg
          · rename_i nn cap sz rows hl
            obtain ⟨rfl, hg⟩ := beq hg (fun _ _ _ h => h)
            have ho := hlook _ _ hl
            have ref : (slRef tt rows (lo.map (evp st.tmps)) (hi.map (evp st.tmps)) (mx.map (evp st.tmps))).gives F v u → OpOk P fc st o a c.w v u := fun hg => by
              obtain ⟨q1, q2⟩ := slRef_ok (P := P) h hd hs ho hx o1 o2 o3 hg
              exact pure q1 q2
            split at hg
            · exact ref hg
            · rename_i k0
              split at hg
              · exact ref hg
              · rename_i hv hhi
                split at hg
                · exact ref hg
                · rename_i hmx
                  split at hg
                  · rename_i h' hl'
                    rcases hg with ⟨_, hg⟩ | ⟨_, hg⟩
                    · exact ref hg
                    · cases hed : edged o with
                      | true => rw [hed] at hg; exact hg.elim
                      | false =>
                      rw [hed] at hg
                      have hmx' : mx.map a.eval = none := by
                        cases mx with
                        | none => rfl
                        | some y => simp at hmx
                      obtain ⟨rv, c', hrun, hw, hi', hr⟩ := slMore_ok (P := P) h hd hs ho hx hbase (hnone (by cases hi <;> first | rfl | simp_all) (by rw [hpx]; simp only [slPlain, ho]; exact hed)) o1 o2 ⟨_, hhi, hl'⟩ hg
                      refine .value (w' := c.w) (rv := rv) ?_ c' hw hi' hr
                      simp only [execOp, hop, Sem.run_bind, hmx', hrun, Result.andThen_ok, Sem.run_pure]
                  · exact hg.elim
          · rename_i nn sz rows hl
            obtain ⟨rfl, hg⟩ := beq hg (fun _ _ _ h => h)
            have ho := hlook _ _ hl
            obtain ⟨ev, _, _⟩ := hx.ref_inv
            obtain ⟨q1, q2⟩ := slRows_ok (P := P) h hd hs (vx := a.eval x) (was := false) (.plain (by rw [ev]; exact (h.obj tt _ ho).2.1)) o1 o2 o3 hg
            exact pure q1 q2
          · exact hg.elim
        | sub tt was lo0 n0 =>
          simp only [slicer] at hg
          split at hg
          · rename_i nn cap sz rows hl
            obtain ⟨hsz, hg2⟩ := beq hg (fun _ _ _ h => h)
            subst hsz
            obtain ⟨q1, q2⟩ := slSubs_ok (P := P) h hd hs (hlook _ _ hl) hx o1 o2 o3 hg2
            exact pure q1 q2
          · exact hg.elim
        | _ => exact hg.elim
      · exact hg.elim
    · exact hg.elim
  · exact hg.elim
/-! ### copy and clear -/
theorem run_copy {t ty e:Nat} {size dLen dCap n:Nat} (ht:P.underlying t=some (.slice e)) (hs:∀ w:World,(sizeOf e).run P w=.ok size w) {base:Option Addr} {vy:Value} {news:List Value} {w w':World} (hlen:(Builtin.lenOf vy).run P w=.ok n w)
  (hcells:(Builtin.firstCells size (min n dLen) vy).run P w=.ok news.toArray w) (hst:(match base with
   | some ad=>storeCells ad news
   | none=>pure ():Sem Unit).run P w=.ok () w') (tys:Array TypeId) (h0:tys[0]?=some t) :
  (Builtin.copy_ tys ty #[.slice base dLen dCap,vy]).run P w=.ok (.int .i64 (min n dLen:Nat)) w':=by
 cases base with
 | none =>
  simp only [Sem.run_pure] at hst
  injection hst with _ hst
  subst hst
  simp [Builtin.copy_,h0,run_underlying ht,hlen,hs,hcells,goInt]
 | some ad =>
  simp only at hst
  simp [Builtin.copy_,h0,run_underlying ht,hlen,hs,hcells,hst,goInt]
theorem splice_get (rows ys:List (List PV)) (lo m i:Nat) (hm:m≤ys.length) (hl:lo+m≤rows.length):(rows.take lo++ys.take m++rows.drop (lo+m))[i]?=if lo≤i∧i<lo+m then ys[i-lo]? else rows[i]?:=by
 have e1:(rows.take lo).length=lo:=by simp;omega
 have e2:(rows.take lo++ys.take m).length=lo+m:=by simp;omega
 by_cases h1:i<lo+m
 ·rw[List.getElem?_append_left (by omega)]
  by_cases h2:i<lo
  ·rw[List.getElem?_append_left (by omega),if_neg (by omega),List.getElem?_take,if_pos h2]
  ·rw[List.getElem?_append_right (by omega),e1,if_pos (by omega),List.getElem?_take,if_pos (by omega)]
 ·rw[List.getElem?_append_right (by omega),e2,if_neg (by omega),List.getElem?_drop]
  congr 1
  omega
theorem copyTo0 (h:Inv fc c st a) {t nn sz:Nat} {cap:Option Nat} {rows ys:List (List PV)} (ht:hget st.heap t=some (.arr nn cap sz rows)) {lo m:Nat} {b off len k:Nat} (hv:(c.θ t).val=.slice (some ⟨b,off,none⟩) len k) (hm:m≤ys.length) (hl:lo+m≤rows.length)
  (hys:∀ r∈ys,r.length=sz) {news:List Value} (n2:news.length=m * sz) (n3:∀ u∈news,u.oneCell'=true) (n4:∀ (i j:Nat) r x v,i<m→ys[i]?=some r→r[j]?=some x→news[i * sz+j]?=some v→PRep c.w c.Xk x v) :
  ∃ w',(storeCells ⟨b,off+lo * sz,none⟩ news).run P c.w=.ok () w' ∧
   Inv fc { c with w:=w' } { st with heap:=hset st.heap t (.arr nn cap sz (rows.take lo++ys.take m++rows.drop (lo+m))) } a:=by
 obtain⟨hz,ho⟩:=h.obj t _ ht
 rcases ho with ⟨e,_⟩ | ⟨b',o',cap',e,_,_,_,A,_⟩
 ·rw[hv] at e;cases e
 ·rw[hv] at e
  injection e with e1 e2 e3
  injection e1 with e1
  injection e1 with e4 e5
  subst e4;subst e5;subst e3
  have hle:(lo+m) * sz≤k * sz:=Nat.mul_le_mul_right _ (by have:=A.hc;omega)
  rw[Nat.add_mul] at hle
  obtain⟨w',hrun,W⟩:=run_storeCells P b (off+lo * sz) news 0 c.w (fun j hj=>by
   obtain⟨⟨u,hu,_⟩,hf⟩:=A.room (lo * sz+j) (by omega)
   rw[Nat.add_zero,Nat.add_assoc]
   exact⟨⟨u,hu⟩,hf⟩) n3
  rw[Nat.add_zero] at W
  refine⟨w',hrun,h.wroteArr ht hv W n3 (by simp;omega) ?_ ?_ ?_⟩
  ·intro r hr
   rcases List.mem_append.1 hr with hr|hr
   ·rcases List.mem_append.1 hr with hr|hr
    ·exact A.hs r (List.mem_of_mem_take hr)
    ·exact hys r (List.mem_of_mem_take hr)
   ·exact A.hs r (List.mem_of_mem_drop hr)
  ·intro i j r x q1 q2 q3
   have hj:j<sz:=by
    have:=(List.getElem?_eq_some_iff.1 q2).1
    have:r.length=sz:=by
     have hr:=List.mem_of_getElem? q1
     rcases List.mem_append.1 hr with hr|hr
     ·rcases List.mem_append.1 hr with hr|hr
      ·exact A.hs r (List.mem_of_mem_take hr)
      ·exact hys r (List.mem_of_mem_take hr)
     ·exact A.hs r (List.mem_of_mem_drop hr)
    omega
   rw[splice_get _ _ _ _ _ hm hl] at q1
   by_cases hin:lo≤i∧i<lo+m
   ·have e1:lo * sz≤i * sz:=Nat.mul_le_mul_right _ hin.1
    have e2:(i+1) * sz≤(lo+m) * sz:=Nat.mul_le_mul_right _ hin.2
    rw[Nat.succ_mul,Nat.add_mul] at e2
    exact absurd (And.intro (by omega) (by omega)) q3
   ·rw[if_neg hin] at q1
    exact⟨r,q1,q2⟩
  ·intro i j r x v q1 q2 q3 q4 q5
   have hj:j<sz:=by
    have:=(List.getElem?_eq_some_iff.1 q2).1
    have:r.length=sz:=by
     have hr:=List.mem_of_getElem? q1
     rcases List.mem_append.1 hr with hr|hr
     ·rcases List.mem_append.1 hr with hr|hr
      ·exact A.hs r (List.mem_of_mem_take hr)
      ·exact hys r (List.mem_of_mem_take hr)
     ·exact A.hs r (List.mem_of_mem_drop hr)
    omega
   rw[splice_get _ _ _ _ _ hm hl] at q1
   have hin:lo≤i∧i<lo+m:=by
    constructor
    ·rcases Nat.lt_or_ge i lo with h5|h5
     ·have:(i+1) * sz≤lo * sz:=Nat.mul_le_mul_right _ h5
      rw[Nat.succ_mul] at this
      omega
     ·exact h5
    ·rcases Nat.lt_or_ge i (lo+m) with h5|h5
     ·exact h5
     ·have:(lo+m) * sz≤i * sz:=Nat.mul_le_mul_right _ h5
      rw[Nat.add_mul] at this
      omega
   rw[if_pos hin] at q1
   have e1:i * sz=lo * sz+(i-lo) * sz:=by rw[← Nat.add_mul];congr 1;omega
   exact n4 (i-lo) j r x v (by omega) q1 q2 (by rw[← q5];congr 1;omega)
theorem copyTo (h:Inv fc c st a) {t nn sz:Nat} {cap:Option Nat} {rows ys:List (List PV)} (ht:hget st.heap t=some (.arr nn cap sz rows)) {lo m:Nat} {b off len k:Nat} (hv:(c.θ t).val=.slice (some ⟨b,off,none⟩) len k) (hm:m≤ys.length) (hl:lo+m≤rows.length)
  {vy:Value} (hy:SrcOk P c.w c.Xk vy sz ys):∃ news:List Value,(Builtin.firstCells sz m vy).run P c.w=.ok news.toArray c.w∧∃ w',(storeCells ⟨b,off+lo * sz,none⟩ news).run P c.w=.ok () w' ∧
   Inv fc { c with w:=w' } { st with heap:=hset st.heap t (.arr nn cap sz (rows.take lo++ys.take m++rows.drop (lo+m))) } a:=by
 obtain⟨news,n1,n2,n3,n4⟩:=hy.cells m hm
 exact⟨news,n1 _ rfl,copyTo0 h ht hv hm hl hy.hs n2 n3 n4⟩
end
end Go.Sym
namespace Go.Sym
open Go
section
variable {P:Program} {fc:FC} {c:RC} {st:ASt} {a:Act} {o:Oper} {E:Env} {F:FnT} {v:PV} {u:List (Nat×Sym.Obj)}
theorem args1 {ρ:Operand→PV} {l:List Operand} {x:PV} (h:argsOf ρ l=[x]):∃ y,l=[y]∧x=ρ y:=by
 rw[argsOf_eq] at h
 match l,h with
 | [y],h=>exact⟨y,rfl,by simpa using h.symm⟩
 | [],h=>simp at h
 | _::_::_,h=>simp at h
theorem args2 {ρ:Operand→PV} {l:List Operand} {x y:PV} (h:argsOf ρ l=[x,y]):∃ z w,l=[z,w]∧x=ρ z∧y=ρ w:=by
 rw[argsOf_eq] at h
 match l,h with
 | [z,w],h=>simp at h;exact⟨z,w,rfl,h.1.symm,h.2.symm⟩
 | [],h=>simp at h
 | [_],h=>simp at h
 | _::_::_::_,h=>simp at h
theorem und_str {t:Nat} (hE:EnvOk P E) (h:isStrT (E.ty t)=true):P.underlying t=some .string:=by
 cases ht:E.ty t with
 | none=>simp [ht,isStrT] at h
 | some i =>
  obtain⟨d,hd,hk⟩:=(hE t i ht).und
  rw[ht] at h
  cases htk:i.tk<;>simp only [isStrT,htk] at h<;>first|(cases h;done)|skip
  simp only [tkOk,htk] at hk
  rw[hd,hk.1]
theorem toArr1 {A:Array Operand} {y:Operand} (h:A.toList=[y]) (f:Operand→Value):A.map f=#[f y]:=by
 cases A with|mk l=>simp at h;subst h;simp
theorem toArr2 {A:Array Operand} {y z:Operand} (h:A.toList=[y,z]) (f:Operand→Value):A.map f=#[f y,f z]:=by
 cases A with|mk l=>simp at h;subst h;simp
theorem toTys {A:Array Nat} {t:Nat} {r:List Nat} (h:A.toList=t::r):A[0]?=some t:=by
 cases A with|mk l=>simp at h;subst h;simp
theorem slice_header (h:Inv fc c st a) {look:Nat→Option Sym.Obj} (hlook:∀ l x,look l=some x→hget st.heap l=some x) {x:PV} {vx:Value} (hx:Rep c x vx) {nn:Nat} {z:Option Nat} {rows:List (List PV)} (hr:rowsOf look x=some (nn,z,rows)) :
  ∃ ad k,vx=.slice ad rows.length k:=by
 unfold rowsOf at hr
 split at hr
 ·simp only [Option.some.injEq,Prod.mk.injEq] at hr
  obtain⟨_,_,rfl⟩:=hr
  exact⟨none,0,hx.nils_inv⟩
 ·simp only [Option.some.injEq,Prod.mk.injEq] at hr
  obtain⟨_,_,rfl⟩:=hr
  rcases sl_cells h hx with ⟨rfl,rfl,_⟩ | ⟨ad,k,rfl,_⟩
  ·exact⟨none,0,rfl⟩
  ·exact⟨some ad,k,rfl⟩
 ·obtain⟨ev,_,_⟩:=hx.ref_inv
  have ref:∀ {t nn' sz:Nat} {cap:Option Nat} {rows':List (List PV)},vx=(c.θ t).val→(hget st.heap t=some (.arr nn' cap sz rows')∨hget st.heap t=some (.frz nn' sz rows'))→some (nn',some sz,rows')=some (nn,z,rows)→∃ ad k,vx=.slice ad rows.length k:=by
   intro t nn' sz cap rows' ev ho e
   simp only [Option.some.injEq,Prod.mk.injEq] at e
   obtain⟨_,_,rfl⟩:=e
   rcases ref_cells h ho with ⟨e,rfl,_⟩ | ⟨b,off,k',hv,_⟩
   ·exact⟨none,0,by rw[ev,e];rfl⟩
   ·exact⟨_,k',by rw[ev,hv]⟩
  split at hr
  ·rename_i hl;exact ref ev (.inl (hlook _ _ hl)) hr
  ·rename_i hl;exact ref (cap:=none) ev (.inr (hlook _ _ hl)) hr
  ·cases hr
 ·cases hr
theorem builtin_ok (hE:EnvOk P E) (h:Inv fc c st a) (h64:fc.n0≤64) {cl:Call} {b:Builtin} (hop:o.op=.call cl) (hcal:cl.callee=.builtin b)
  (hg:(opr E o (evp st.tmps) (only ((fpr o (evp st.tmps) (hget st.heap)).1++(fpr o (evp st.tmps) (hget st.heap)).2) (hget st.heap))).gives F v u):OpOk P fc st o a c.w v u:=by
 have hrunOf:∀ {rv:Value} {w':World},(builtin b cl.argTypes o.type (cl.args.map fun | .const _=>true|_=>false) (cl.args.map a.eval)).run P c.w=.ok (.value rv) w'→(execOp a.eval o).run P c.w=.ok (.value rv) w':=by
  intro rv w' hr
  simp only [execOp,hop,resolve,hcal,Sem.run_bind,Sem.run_pure,Result.andThen_ok,invoke]
  exact hr
 simp only [opr,hop,hcal] at hg
 have hsite:b=.append→site o.dst∈(fpr o (evp st.tmps) (hget st.heap)).1++(fpr o (evp st.tmps) (hget st.heap)).2:=by rintro rfl;simp [fpr,hop,hcal]
 generalize hlk:only _ (hget st.heap)=look at hg
 have hlook:∀ l x,look l=some x→hget st.heap l=some x:=fun l x hx=>by subst hlk;exact only_some hx
 have hnone:b=.append→look (site o.dst)=none→hget st.heap (site o.dst)=none:=fun hb hx=>by subst hlk;exact only_none (hsite hb) hx
 have pure1:∀ {rv:Value} {y:Operand},cl.args.toList=[y]→(∀ ty,(builtin b cl.argTypes o.type (cl.args.map fun | .const _=>true|_=>false) #[a.eval y]).run P ty=.ok (.value rv) ty)→u=[]→Rep c v rv→OpOk P fc st o a c.w v u:=by
  rintro rv y hl hr rfl hrep
  exact .pure h (hrunOf (by rw[toArr1 hl];exact hr _)) hrep
 cases b with
 | len =>
  simp only [builtinr] at hg
  split at hg
  ·rename_i x t rest hargs htys
   obtain⟨y,hl,rfl⟩:=args1 hargs
   have hy:=h.eval y
   have ht0:=toTys htys
   split at hg
   ·rename_i s hs
    rw[hs] at hy
    have ey:=hy.str_inv
    split at hg
    ·rename_i hT
     obtain⟨rfl,rfl⟩:=hg
     refine pure1 (rv:=.int .i64 s.size) hl (fun w=>?_) rfl (.plain (.int _ _))
     simp [builtin,Builtin.len_,ht0,ey,run_underlying (und_str hE hT),goInt]
    ·exact hg.elim
   ·split at hg
    ·rename_i hT
     obtain⟨e,he⟩:=und_slice hE hT
     have fin:∀ {ad:Option Addr} {n k:Nat},a.eval y=.slice ad n k→v=.int .i64 n→u=[]→OpOk P fc st o a c.w v u:=by
      rintro ad n k ey rfl rfl
      refine pure1 (rv:=.int .i64 n) hl (fun w=>?_) rfl (.plain (.int _ _))
      simp [builtin,Builtin.len_,ht0,ey,run_underlying he,goInt]
     split at hg
     ·rename_i tt full lo n hs
      obtain⟨rfl,rfl⟩:=hg
      rw[hs] at hy
      generalize hv:a.eval y=vy at hy
      cases hy with
      | plain p=>cases p
      | subnil=>exact fin hv rfl rfl
      | sub=>exact fin hv rfl rfl
     ·rename_i hs
      obtain⟨rfl,rfl⟩:=hg
      rw[hs] at hy
      exact fin hy.nils_inv rfl rfl
     ·split at hg
      ·rename_i rows hr
       obtain⟨rfl,rfl⟩:=hg
       unfold openLen at hr
       split at hr
       ·rename_i tt hs
        split at hr
        ·rename_i nn sz rows' kk ro hl
         obtain rfl:=Option.some.inj hr
         rw[hs] at hy
         obtain⟨ex,_,_⟩:=hy.ref_inv
         obtain⟨_,b,off,k',hv,_⟩:=h.obj tt _ (hlook _ _ hl)
         rw[hv] at ex
         exact fin ex rfl rfl
        ·cases hr
       ·cases hr
      ·split at hg
       ·rename_i nn z rows hr
        obtain⟨rfl,rfl⟩:=hg
        obtain⟨ad,k,ey⟩:=slice_header h hlook hy hr
        exact fin ey rfl rfl
       ·exact hg.elim
    ·exact hg.elim
  ·exact hg.elim
 | complex =>
  simp only [builtinr] at hg
  split at hg
  ·rename_i x y hargs
   obtain⟨p,q,hl,rfl,rfl⟩:=args2 hargs
   have hp:=h.eval p
   have hq:=h.eval q
   split at hg
   ·rename_i m n e1 e2
    rw[e1] at hp;rw[e2] at hq
    obtain⟨rfl,rfl⟩:=hg
    obtain⟨b1,f1,g1⟩:=hp.fl_inv
    obtain⟨b2,f2,g2⟩:=hq.fl_inv
    refine .pure h (hrunOf (rv:=.complex .f64 b1 b2) ?_) (.plain (.cx _ _ _ _ g1 g2))
    rw[toArr2 hl,f1,f2]
    simp [builtin,run_complex]
   ·exact hg.elim
  ·exact hg.elim
 | real =>
  simp only [builtinr] at hg
  split at hg
  ·rename_i x hargs
   obtain⟨p,hl,rfl⟩:=args1 hargs
   have hp:=h.eval p
   split at hg
   ·rename_i m n e1
    rw[e1] at hp
    obtain⟨rfl,rfl⟩:=hg
    obtain⟨b1,b2,f1,g1,g2⟩:=hp.cx_inv
    exact pure1 (rv:=.float .f64 b1) hl (fun w=>by rw[f1];simp [builtin,run_real]) rfl (.plain (.fl _ _ g1))
   ·exact hg.elim
  ·exact hg.elim
 | imag =>
  simp only [builtinr] at hg
  split at hg
  ·rename_i x hargs
   obtain⟨p,hl,rfl⟩:=args1 hargs
   have hp:=h.eval p
   split at hg
   ·rename_i m n e1
    rw[e1] at hp
    obtain⟨rfl,rfl⟩:=hg
    obtain⟨b1,b2,f1,g1,g2⟩:=hp.cx_inv
    exact pure1 (rv:=.float .f64 b2) hl (fun w=>by rw[f1];simp [builtin,run_imag]) rfl (.plain (.fl _ _ g2))
   ·exact hg.elim
  ·exact hg.elim
 | cap =>
  simp only [builtinr] at hg
  split at hg
  ·rename_i x t rest hargs htys
   obtain⟨y,hl,rfl⟩:=args1 hargs
   have hy:=h.eval y
   have ht0:=toTys htys
   split at hg
   ·rename_i hT
    obtain⟨e,he⟩:=und_slice hE hT
    have fin:∀ {ad:Option Addr} {n k:Nat},a.eval y=.slice ad n k→v=.int .i64 k→u=[]→OpOk P fc st o a c.w v u:=by
     rintro ad n k ey rfl rfl
     refine pure1 (rv:=.int .i64 k) hl (fun w=>?_) rfl (.plain (.int _ _))
     simp [builtin,Builtin.cap_,ht0,ey,run_underlying he,goInt]
    split at hg
    ·rename_i tt hs
     rw[hs] at hy
     obtain⟨ev,_,_⟩:=hy.ref_inv
     split at hg
     ·rename_i nn cap sz rows hl2
      split at hg
      ·rename_i k0
       obtain⟨rfl,rfl⟩:=hg
       obtain⟨_,ho⟩:=h.obj tt _ (hlook _ _ hl2)
       rcases ho with ⟨e1,_,_,hc⟩ | ⟨b,o',cap',e1,hc,_⟩
       ·exact fin (by rw[ev,e1]) (by rw[hc k0 rfl]) rfl
       ·exact fin (by rw[ev,e1]) (by rw[hc k0 rfl]) rfl
      ·exact hg.elim
     ·exact hg.elim
    ·rename_i bo nn full sz rows hs
     rw[hs] at hy
     split at hg
     ·obtain⟨rfl,rfl⟩:=hg
      rcases sl_cells h hy with ⟨e1,rfl,_⟩ | ⟨ad,k,e1,_,_,_,hf,_⟩
      ·exact fin e1 rfl rfl
      ·exact fin e1 (by rw[hf rfl]) rfl
     ·exact hg.elim
    ·rename_i hs
     obtain⟨rfl,rfl⟩:=hg
     rw[hs] at hy
     exact fin hy.nils_inv rfl rfl
    ·exact hg.elim
   ·exact hg.elim
  ·exact hg.elim
 | min =>
  simp only [builtinr] at hg
  split at hg
  ·rename_i x y hargs
   obtain⟨p,q,hl,rfl,rfl⟩:=args2 hargs
   have hp:=h.eval p
   have hq:=h.eval q
   split at hg
   ·rename_i k n j m e1 e2
    rw[e1] at hp;rw[e2] at hq
    obtain⟨rfl,rfl⟩:=hg
    refine .pure h (hrunOf (rv:=.int k (if m<n then m else n)) ?_) (.plain (.int _ _))
    rw[toArr2 hl,hp.int_inv,hq.int_inv]
    simp [builtin,Builtin.min_,Builtin.min2]
   ·exact hg.elim
  ·exact hg.elim
 | max =>
  simp only [builtinr] at hg
  split at hg
  ·rename_i x y hargs
   obtain⟨p,q,hl,rfl,rfl⟩:=args2 hargs
   have hp:=h.eval p
   have hq:=h.eval q
   split at hg
   ·rename_i k n j m e1 e2
    rw[e1] at hp;rw[e2] at hq
    obtain⟨rfl,rfl⟩:=hg
    refine .pure h (hrunOf (rv:=.int k (if n<m then m else n)) ?_) (.plain (.int _ _))
    rw[toArr2 hl,hp.int_inv,hq.int_inv]
    simp [builtin,Builtin.max_,Builtin.max2]
   ·exact hg.elim
  ·exact hg.elim
 | append =>
  simp only [builtinr] at hg
  split at hg
  ·rename_i x y t t2 hargs htys
   obtain⟨p,q,hl,rfl,rfl⟩:=args2 hargs
   have hp:=h.eval p
   have hq:=h.eval q
   split at hg
   ·rename_i ty h2 ht
    split at hg
    ·rename_i e htk
     split at hg
     ·rename_i te hte
      obtain⟨nny,z,ys,hg,hny,hsrc⟩:=withRows_ok (P:=P) h hlook hq hg
      cases hz:szOk z te.size with
      | false=>simp only [hz] at hg;exact hg.elim
      | true =>
       simp only [hz] at hg
       obtain⟨rv,w',c',hrun,hw,hi,hr⟩:=append_ok (P:=P) hE h h64 hlook (le_site h64) (hnone rfl) (ty':=o.type) h2 ht htk hte hp hny (hsrc _ hz) hg
       refine .value (hrunOf ?_) c' hw hi hr
       rw[toArr2 hl]
       have:cl.argTypes=#[t,t2]:=by cases hA:cl.argTypes with|mk l=>rw[hA] at htys;simp at htys;rw[htys]
       rw[this]
       simp only [builtin,Sem.run_bind,hrun,Result.andThen_ok,Sem.run_pure]
     ·exact hg.elim
    ·exact hg.elim
   ·rename_i ty h2 ht
    split at hg
    ·rename_i hi2
     split at hg
     ·rename_i k n hy
      split at hg
      ·rename_i e htk
       split at hg
       ·rename_i te hte
        obtain⟨⟨hn0,hnb,hnm⟩,hg⟩:=hg
        obtain⟨kk,hund⟩:=und_int hE hi2
        obtain⟨rv,w',c',hrun,hw,hi,hr⟩:=append_zeros (P:=P) (k':=k) hE h h64 hlook (le_site h64) (hnone rfl) (ty':=o.type) hund ht htk hte hp hn0 hnb hnm hg
        refine .value (hrunOf ?_) c' hw hi hr
        rw[toArr2 hl]
        have:cl.argTypes=#[t,t2]:=by cases hA:cl.argTypes with|mk l=>rw[hA] at htys;simp at htys;rw[htys]
        rw[this]
        have hqv:a.eval q=.int k n:=by rw[hy] at hq;exact hq.int_inv
        rw[hqv]
        simp only [builtin,Sem.run_bind,hrun,Result.andThen_ok,Sem.run_pure]
       ·exact hg.elim
      ·exact hg.elim
     ·exact hg.elim
    ·exact hg.elim
   ·exact hg.elim
  ·exact hg.elim
 | copy =>
  simp only [builtinr] at hg
  split at hg
  ·rename_i x y t rest hargs htys
   obtain⟨p,q,hl,rfl,rfl⟩:=args2 hargs
   have hp:=h.eval p
   have hq:=h.eval q
   split at hg
   ·rename_i ty ht
    obtain⟨d,hd,hk⟩:=(hE t ty ht).und
    split at hg
    ·rename_i e htk
     simp only [tkOk,htk] at hk
     obtain⟨rfl,_⟩:=hk
     split at hg
     ·rename_i te hte
      obtain⟨nny,z,ys,hg,hny,hsrc⟩:=withRows_ok (P:=P) h hlook hq hg
      cases hz:szOk z te.size with
      | false=>simp only [hz] at hg;exact hg.elim
      | true =>
       simp only [hz] at hg
       have hS:=hsrc _ hz
       have hs:=fun w:World=>(hE e te hte).sizeOf w
       have fin:∀ {rv:Value} {w':World} {c':RC},(Builtin.copy_ cl.argTypes o.type #[a.eval p,a.eval q]).run P c.w=.ok rv w'→c'.w=w'→Inv fc c' { st with heap:=hsets st.heap u } a→Rep c' v rv→OpOk P fc st o a c.w v u:=by
        intro rv w' c' hrun hw hi hr
        refine .value (hrunOf ?_) c' hw hi hr
        rw[toArr2 hl]
        simp only [builtin,Sem.run_bind,hrun,Result.andThen_ok,Sem.run_pure]
       split at hg
       ·rename_i tt hpx
        rw[hpx] at hp
        obtain⟨ev,hD,_⟩:=hp.ref_inv
        split at hg
        ·rename_i nn cap sz rows hlk2
         have ho:=hlook _ _ hlk2
         cases hsz:Nat.beq sz te.size with
         | false=>simp only [hsz] at hg;exact hg.elim
         | true =>
          simp only [hsz] at hg
          have hsz:=Nat.eq_of_beq_eq_true hsz
          subst hsz
          obtain⟨rfl,rfl⟩:=hg
          obtain⟨_,hh⟩:=header h (.inl ho)
          rcases hh with ⟨e1,rfl⟩ | ⟨b,off,k,hv,hk⟩
          ·have hrun:=run_copy (ty:=o.type) hd hs (base:=none) (dLen:=0) (dCap:=0) (news:=[]) (w':=c.w) (hS.len c.w) (by
            obtain⟨news,g1,g2,_⟩:=hS.cells 0 (Nat.zero_le _)
            rw[Nat.min_zero]
            have:=g1 c.w rfl
            have e0:news=[]:=by simpa using g2
            rw[this,e0]) rfl cl.argTypes (toTys htys)
           refine fin (c':=c) (by rw[ev,e1];exact hrun) rfl ?_ (.plain (.int _ _))
           have:hset st.heap tt (.arr nn cap te.size (ys.take ([]:List (List PV)).length++([]:List (List PV)).drop ys.length))=st.heap:=hset_same (by simpa using ho)
           show Inv fc c { st with heap:=hset st.heap tt _ } a
           rw[this]
           exact h
          ·have hm:min ys.length rows.length≤ys.length:=Nat.min_le_left _ _
           obtain⟨news,g1,w',g2,g3⟩:=copyTo (P:=P) h ho (lo:=0) (m:=min ys.length rows.length) hv hm (by omega) hS
           have hrun:=run_copy (ty:=o.type) hd hs (base:=some ⟨b,off,none⟩) (dLen:=rows.length) (dCap:=k) (news:=news) (w':=w') (hS.len c.w) g1 (by simpa using g2) cl.argTypes (toTys htys)
           refine fin (c':={ c with w:=w' }) (by rw[ev,hv];exact hrun) rfl ?_ (.plain (.int _ _))
           have e9:rows.take 0++ys.take (min ys.length rows.length)++rows.drop (0+min ys.length rows.length)=ys.take rows.length++rows.drop ys.length:=by
            rw[List.take_zero,List.nil_append,Nat.zero_add]
            congr 1
            ·rw[Nat.min_comm,← List.take_take,List.take_length]
            ·rcases Nat.le_total ys.length rows.length with e|e
             ·rw[Nat.min_eq_left e]
             ·rw[Nat.min_eq_right e,List.drop_eq_nil_of_le (Nat.le_refl _),List.drop_eq_nil_of_le e]
           rw[e9] at g3
           exact g3
        ·exact hg.elim
       ·rename_i tt full lo n hpx
        rw[hpx] at hp
        split at hg
        ·rename_i nn cap sz rows hlk2
         have ho:=hlook _ _ hlk2
         cases hsz:Nat.beq sz te.size with
         | false=>simp only [hsz] at hg;exact hg.elim
         | true =>
          simp only [hsz] at hg
          have hsz:=Nat.eq_of_beq_eq_true hsz
          subst hsz
          obtain⟨rfl,rfl⟩:=hg
          obtain⟨hz0,hh⟩:=header h (.inl ho)
          have zero:∀ {ad:Option Addr} {k:Nat},a.eval p=.slice ad 0 k→n=0→OpOk P fc st o a c.w (.int .i64 (min ys.length n:Nat)) [(tt,.arr nn cap te.size (rows.take lo++ys.take n++rows.drop (lo+min ys.length n)))]:=by
           rintro ad k ep rfl
           obtain⟨news,g1,g2,_⟩:=hS.cells 0 (Nat.zero_le _)
           have e0:news=[]:=by simpa using g2
           subst e0
           have hrun:=run_copy (ty:=o.type) hd hs (base:=ad) (dLen:=0) (dCap:=k) (news:=[]) (w':=c.w) (hS.len c.w) (by rw[Nat.min_zero];exact g1 c.w rfl) (by cases ad<;>rfl) cl.argTypes (toTys htys)
           refine fin (c':=c) (by rw[ep];exact hrun) rfl ?_ (.plain (.int _ _))
           have:rows.take lo++ys.take 0++rows.drop (lo+min ys.length 0)=rows:=by simp
           rw[this]
           show Inv fc c { st with heap:=hset st.heap tt _ } a
           rw[hset_same ho]
           exact h
          generalize hvp:a.eval p=vp at hp zero fin
          cases hp with
          | plain p=>cases p
          | subnil=>exact zero rfl rfl
          | sub _ _ _ _ b off len k k' ad hD hv hn hf hgg ha hl0 =>
           rcases Nat.eq_zero_or_pos n with e0|e0
           ·subst e0;exact zero rfl rfl
           ·obtain rfl:=ha (.inl (by omega))
            have hlen:len=rows.length:=by
             rcases hh with ⟨e1,_⟩ | ⟨_,_,_,e1,_⟩
             ·rw[hv] at e1;cases e1
             ·rw[hv] at e1;injection e1 with _ e1 _
            have hm:min ys.length n≤ys.length:=Nat.min_le_left _ _
            obtain⟨news,g1,w',g2,g3⟩:=copyTo (P:=P) h ho (lo:=lo) (m:=min ys.length n) hv hm (by omega) hS
            have hrun:=run_copy (ty:=o.type) hd hs (base:=some ⟨b,off+lo * (c.θ tt).sz,none⟩) (dLen:=n) (dCap:=k') (news:=news) (w':=w') (hS.len c.w) g1 (by rw[hz0];exact g2) cl.argTypes (toTys htys)
            refine fin (c':={ c with w:=w' }) hrun rfl ?_ (.plain (.int _ _))
            have e9:ys.take (min ys.length n)=ys.take n:=by
             rw[Nat.min_comm,← List.take_take,List.take_length]
            rw[e9] at g3
            exact g3
        ·exact hg.elim
       ·exact hg.elim
     ·exact hg.elim
    ·exact hg.elim
   ·exact hg.elim
  ·exact hg.elim
 | clear =>
  simp only [builtinr] at hg
  split at hg
  ·rename_i x t rest hargs htys
   obtain⟨p,hl,rfl⟩:=args1 hargs
   have hp:=h.eval p
   split at hg
   ·rename_i ty ht
    obtain⟨d,hd,hk⟩:=(hE t ty ht).und
    split at hg
    ·rename_i e htk
     simp only [tkOk,htk] at hk
     obtain⟨rfl,_⟩:=hk
     split at hg
     ·rename_i te hte
      obtain⟨ie,z,hie,hse,hby,hz,hz1,hz2,hz3⟩:=(hE e te hte).info
      have fin:∀ {w':World} {c':RC},(Builtin.clear_ cl.argTypes o.type #[a.eval p]).run P c.w=.ok (.tuple #[]) w'→c'.w=w'→Inv fc c' { st with heap:=hsets st.heap u } a→v=.lit (.tuple #[])→OpOk P fc st o a c.w v u:=by
       rintro w' c' hrun hw hi rfl
       refine .value (hrunOf ?_) c' hw hi (.lit _)
       rw[toArr1 hl]
       simp only [builtin,Sem.run_bind,hrun,Result.andThen_ok,Sem.run_pure]
      have run0:∀ {ad:Option Addr} {k:Nat},a.eval p=.slice ad 0 k→(Builtin.clear_ cl.argTypes o.type #[a.eval p]).run P c.w=.ok (.tuple #[]) c.w:=by
       intro ad k ep
       cases ad<;>simp [Builtin.clear_,toTys htys,ep,run_underlying hd]
      have runS:∀ {ad:Addr} {n k:Nat} {w':World},a.eval p=.slice (some ad) n k→0<n→(storeCells ad ((Array.range (n * te.size)).map (z.cells[· % z.cells.size]!)).toList).run P c.w=.ok () w'→(Builtin.clear_ cl.argTypes o.type #[a.eval p]).run P c.w=.ok (.tuple #[]) w':=by
       intro ad n k w' ep hn hst
       obtain⟨m,rfl⟩:∃ m,n=m+1:=⟨n-1,by omega⟩
       have hzc:Builtin.zeroCells z.cells (m+1)=(Array.range ((m+1) * te.size)).map (z.cells[· % z.cells.size]!):=by simp [Builtin.zeroCells,hz1]
       simp only [Builtin.clear_,toTys htys,ep,Sem.run_bind,run_underlying hd,Result.andThen_ok,List.getElem?_toArray,List.getElem?_cons_zero,zeroValue,typeInfo,run_program,hie,hz,Sem.run_pure,hzc,hst]
      split at hg
      ·rename_i tt hpx
       rw[hpx] at hp
       split at hg
       ·rename_i nn cap sz rows hlk2
        have ho:=hlook _ _ hlk2
        cases hsz:Nat.beq sz te.size with
        | false=>simp only [hsz] at hg;exact hg.elim
        | true =>
         simp only [hsz] at hg
         have hsz:=Nat.eq_of_beq_eq_true hsz
         subst hsz
         obtain⟨rfl,rfl⟩:=hg
         obtain⟨hz0,hh⟩:=header h (.inl ho)
         have same:Inv fc c { st with heap:=hsets st.heap [(tt,.arr nn cap te.size rows)] } a:=by
          show Inv fc c { st with heap:=hset st.heap tt _ } a
          rw[hset_same ho];exact h
         generalize hvp:a.eval p=vp at hp run0 fin runS
         cases hp with
         | plain p=>cases p
         | spare _ b off len k lo n k' ad hD hv ha hl0 hn0 =>
          rcases Nat.eq_zero_or_pos n with e0|e0
          ·subst e0;exact fin (run0 rfl) rfl same rfl
          ·obtain rfl:=ha e0
           have hlen:len=rows.length:=by
            rcases hh with ⟨e1,_⟩ | ⟨_,_,_,e1,_⟩
            ·rw[hv] at e1;cases e1
            ·rw[hv] at e1;injection e1 with _ e1 _
           obtain⟨g1,_⟩:=RR.plainZeros (hE e te hte) hz1 hz2 hz3 n n (Nat.le_refl _)
           obtain⟨_,hob⟩:=h.obj tt _ ho
           rcases hob with ⟨e1,_⟩ | ⟨b',o',cap',e1,_,_,_,A,_⟩
           ·rw[hv] at e1;cases e1
           ·rw[hv] at e1
            injection e1 with e1 e2 e3
            injection e1 with e1
            injection e1 with e4 e5
            subst e4;subst e5;subst e3
            have hle:(lo+n) * te.size≤k * te.size:=Nat.mul_le_mul_right _ hn0
            rw[Nat.add_mul] at hle
            obtain⟨w',hrun,W⟩:=run_storeCells P b (off+lo * te.size) ((Array.range (n * te.size)).map (z.cells[· % z.cells.size]!)).toList 0 c.w (fun j hj=>by
             obtain⟨⟨u,hu,_⟩,hf⟩:=A.room (lo * te.size+j) (by simp at hj;omega)
             rw[Nat.add_zero,Nat.add_assoc]
             exact⟨⟨u,hu⟩,hf⟩) g1
            rw[Nat.add_zero] at W
            have i2:=h.wroteArr (rows':=rows) ho hv W g1 rfl A.hs (fun i j r x q1 q2 _=>⟨r,q1,q2⟩) (fun i j r x v q1 q2 q3 q4 _=>by
             have hi:i<rows.length:=(List.getElem?_eq_some_iff.1 q1).1
             have hj:j<te.size:=by rw[← A.hs r (List.mem_of_getElem? q1)];exact(List.getElem?_eq_some_iff.1 q2).1
             have:(i+1) * te.size≤lo * te.size:=Nat.mul_le_mul_right _ (by omega)
             rw[Nat.succ_mul] at this
             omega)
            exact fin (c':={ c with w:=w' }) (runS rfl e0 (by rw[hz0];exact hrun)) rfl i2 rfl
       ·exact hg.elim
      ·rename_i tt full lo n hpx
       rw[hpx] at hp
       split at hg
       ·rename_i nn cap sz rows hlk2
        have ho:=hlook _ _ hlk2
        cases hsz:Nat.beq sz te.size with
        | false=>simp only [hsz] at hg;exact hg.elim
        | true =>
         simp only [hsz] at hg
         have hsz:=Nat.eq_of_beq_eq_true hsz
         subst hsz
         obtain⟨rfl,rfl⟩:=hg
         obtain⟨hz0,hh⟩:=header h (.inl ho)
         have same:n=0→Inv fc c { st with heap:=hsets st.heap [(tt,.arr nn cap te.size (rows.take lo++List.replicate n te.zero++rows.drop (lo+n)))] } a:=by
          rintro rfl
          have:rows.take lo++List.replicate 0 te.zero++rows.drop (lo+0)=rows:=by simp
          rw[this]
          show Inv fc c { st with heap:=hset st.heap tt _ } a
          rw[hset_same ho];exact h
         generalize hvp:a.eval p=vp at hp run0 fin runS
         cases hp with
         | plain p=>cases p
         | subnil=>exact fin (run0 rfl) rfl (same rfl) rfl
         | sub _ _ _ _ b off len k k' ad hD hv hn hf hgg ha hl0 =>
          rcases Nat.eq_zero_or_pos n with e0|e0
          ·subst e0;exact fin (run0 rfl) rfl (same rfl) rfl
          ·obtain rfl:=ha (.inl (by omega))
           have hlen:len=rows.length:=by
            rcases hh with ⟨e1,_⟩ | ⟨_,_,_,e1,_⟩
            ·rw[hv] at e1;cases e1
            ·rw[hv] at e1;injection e1 with _ e1 _
           obtain⟨g1,g2⟩:=RR.plainZeros (hE e te hte) hz1 hz2 hz3 n n (Nat.le_refl _)
           obtain⟨w',hst,i2⟩:=copyTo0 (P:=P) h ho (lo:=lo) (m:=n) (ys:=List.replicate n te.zero) hv (by simp) (by omega) (fun r hr=>by rw[List.eq_of_mem_replicate hr,hz2]) (news:=((Array.range (n * te.size)).map (z.cells[· % z.cells.size]!)).toList) (by simp) g1
            (fun i j r x v _ q1 q2 q3=>g2 _ _ i j r x v q1 q2 (by rw[Array.getElem?_toList] at q3;exact q3))
           have e9:(List.replicate n te.zero).take n=List.replicate n te.zero:=List.take_of_length_le (by simp)
           rw[e9] at i2
           exact fin (c':={ c with w:=w' }) (runS rfl e0 (by rw[hz0];exact hst)) rfl i2 rfl
       ·exact hg.elim
      ·exact hg.elim
     ·exact hg.elim
    ·exact hg.elim
   ·exact hg.elim
  ·exact hg.elim
 | _=>exact hg.elim
end
end Go.Sym
namespace Go.Sym
open Go
section
variable {P:Program} {fc:FC} {c:RC} {st:ASt} {a:Act} {o:Oper} {E:Env} {F:FnT} {v:PV} {u:List (Nat×Sym.Obj)}
theorem move_ok (h:Inv fc c st a) {x:Operand} (hop:o.op=.move x∨o.op=.assign x) {look:Nat→Option Sym.Obj} (hg:(opr E o (evp st.tmps) look).gives F v u):OpOk P fc st o a c.w v u:=by
 rcases hop with hop|hop<;>simp only [opr,hop,ret1] at hg<;>obtain⟨rfl,rfl⟩:=hg<;>exact .pure h (by simp only [execOp,hop,Sem.run_pure]) (h.eval x)
theorem pick_ok (h:Inv fc c st a) {q x y:Operand} (hop:o.op=.pick q x y) {look:Nat→Option Sym.Obj} (hg:(opr E o (evp st.tmps) look).gives F v u):OpOk P fc st o a c.w v u:=by
 simp only [opr,hop,ret1] at hg
 split at hg
 ·rename_i t ht
  have et:=h.eval q
  rw[ht] at et
  have et:=et.bool_inv
  cases t with
  | true=>obtain⟨rfl,rfl⟩:=hg;exact .pure h (by simp [execOp,hop,et,asBool]) (h.eval x)
  | false=>obtain⟨rfl,rfl⟩:=hg;exact .pure h (by simp [execOp,hop,et,asBool]) (h.eval y)
 ·exact hg.elim
theorem nilCheck_ok (h:Inv fc c st a) {x:Operand} (hop:o.op=.nilCheck x) {look:Nat→Option Sym.Obj} (hg:(opr E o (evp st.tmps) look).gives F v u):OpOk P fc st o a c.w v u:=by
 simp only [opr,hop,ret1] at hg
 have hx:=h.eval x
 split at hg
 ·rename_i e;rw[e] at hx;obtain⟨rfl,rfl⟩:=hg;obtain⟨b,ev,_⟩:=hx.ptr_inv;exact .pure h (rv:=a.eval x) (by simp only [execOp,hop,ev,Sem.run_pure]) hx
 ·rename_i e;rw[e] at hx;obtain⟨rfl,rfl⟩:=hg;obtain⟨b,o',_,ev,_⟩:=hx.ep_inv;exact .pure h (rv:=a.eval x) (by simp only [execOp,hop,ev,Sem.run_pure]) hx
 ·rename_i e;rw[e] at hx;obtain⟨rfl,rfl⟩:=hg;obtain⟨b,o',_,_,ev,_⟩:=hx.er_inv;exact .pure h (rv:=a.eval x) (by simp only [execOp,hop,ev,Sem.run_pure]) hx
 ·rename_i e;rw[e] at hx;obtain⟨rfl,rfl⟩:=hg;obtain⟨fv,cv,ev,_⟩:=hx.fn_inv;exact .pure h (rv:=a.eval x) (by simp only [execOp,hop,ev,Sem.run_pure]) hx
 ·exact hg.elim
theorem extract_ok (h:Inv fc c st a) {x:Operand} {i:Nat} (hop:o.op=.extract x i) {look:Nat→Option Sym.Obj} (hg:(opr E o (evp st.tmps) look).gives F v u):OpOk P fc st o a c.w v u:=by
 simp only [opr,hop,ret1] at hg
 have hx:=h.eval x
 split at hg
 ·rename_i vs e
  rw[e] at hx
  obtain⟨rv,ev,h1,h2⟩:=hx.tup_inv
  split at hg
  ·rename_i y hy
   obtain⟨rfl,rfl⟩:=hg
   rw[nth_eq] at hy
   have hi:i<vs.length:=(List.getElem?_eq_some_iff.1 hy).1
   have hi':i<rv.size:=by omega
   exact .pure h (rv:=rv[i]) (by simp only [execOp,hop,ev,Instr.extract,Array.getElem?_eq_getElem hi',Sem.run_bind,Sem.run_pure,Result.andThen_ok]) (h2 i y _ hy (by simp [hi']))
  ·exact hg.elim
 ·exact hg.elim
theorem makeFunc_ok (h:Inv fc c st a) {f:Fn} {x y:Array Operand} (hop:o.op=.makeFunc f x y) {look:Nat→Option Sym.Obj} (hg:(opr E o (evp st.tmps) look).gives F v u):OpOk P fc st o a c.w v u:=by
 simp only [opr,hop,ret1] at hg
 split at hg
 ·obtain⟨rfl,rfl⟩:=hg
  have h1:=h.args x
  have h2:=h.args y
  exact .pure h (by simp only [execOp,hop,Instr.makeFunc,Sem.run_bind,Sem.run_pure,Result.andThen_ok]) (.fn _ _ _ _ _ h1.1 h2.1 h1.2 h2.2)
 ·exact hg.elim
theorem unOp_ok (h:Inv fc c st a) {p:UnOp} {t:TypeId} {x:Operand} (hop:o.op=.unOp p t x) {look:Nat→Option Sym.Obj} (hg:(opr E o (evp st.tmps) look).gives F v u):OpOk P fc st o a c.w v u:=by
 simp only [opr,hop,ret1,nameI] at hg
 have hx:=h.eval x
 split at hg
 ·rename_i e;rw[e] at hx;have ev:=hx.bool_inv;obtain⟨rfl,rfl⟩:=hg
  exact .pure h (by simp only [execOp,hop,ev,Op.unary,Sem.run_bind,Sem.run_pure,Result.andThen_ok]) (.plain (.bool _))
 ·rename_i e;rw[e] at hx;have ev:=hx.int_inv;obtain⟨rfl,rfl⟩:=hg
  exact .pure h (by simp only [execOp,hop,ev,Op.unary,Op.intArith,Sem.run_bind,Sem.run_pure,Result.andThen_ok]) (.plain (.int _ _))
 ·rename_i e;rw[e] at hx;have ev:=hx.int_inv;obtain⟨rfl,rfl⟩:=hg
  exact .pure h (by simp only [execOp,hop,ev,Op.unary,Op.intBits,Sem.run_bind,Sem.run_pure,Result.andThen_ok];rfl) (.plain (.int _ _))
 ·exact hg.elim
theorem index_ok (hE:EnvOk P E) (h:Inv fc c st a) {t:TypeId} {x i:Operand} (hop:o.op=.index t x i) {look:Nat→Option Sym.Obj} (hg:(opr E o (evp st.tmps) look).gives F v u):OpOk P fc st o a c.w v u:=by
 simp only [opr,hop,ret1,nameI] at hg
 have hx:=h.eval x
 have hi:=h.eval i
 split at hg
 ·rename_i s k n e1 e2 e3
  rw[e1] at hx
  rw[e2] at hi
  have ex:=hx.str_inv
  have ei:=hi.int_inv
  obtain⟨⟨b1,b2⟩,rfl,rfl⟩:=hg
  have ht:=und_str hE e3
  obtain⟨m,rfl⟩:=Int.eq_ofNat_of_zero_le b1
  have hm:m<s.size:=by omega
  have hm':m<s.data.size:=hm
  refine .pure h (rv:=.int .u8 (s.data[m]'hm').toNat) ?_ ?_
  ·simp only [execOp,hop,ex,ei,Instr.index,asIntOf,Sem.run_bind,Sem.run_pure,Result.andThen_ok,run_underlying ht,Int.toNat_natCast]
   rw[if_pos (Int.natCast_nonneg m),getElem?_pos s m hm]
   rfl
  ·have:byteAt s m=((s.data[m]'hm').toNat:Int):=by
    unfold byteAt
    rw[Int.toNat_natCast,List.getD_eq_getElem?_getD,Array.getElem?_toList,Array.getElem?_eq_getElem hm']
    rfl
   rw[this]
   exact .plain (.int _ _)
 ·exact hg.elim
theorem field_ok (hE:EnvOk P E) (h:Inv fc c st a) {t:TypeId} {x:Operand} {f:Nat} (hop:o.op=.field t x f) {look:Nat→Option Sym.Obj} (hg:(opr E o (evp st.tmps) look).gives F v u):OpOk P fc st o a c.w v u:=by
 simp only [opr,hop,ret1] at hg
 have hx:=h.eval x
 split at hg
 ·rename_i ty hty
  obtain⟨d,hd,hk⟩:=(hE t ty hty).und
  split at hg
  ·rename_i fs htk
   simp only [tkOk,htk] at hk
   obtain⟨_,fields,rfl,hfs,hk⟩:=hk
   split at hg
   ·rename_i off size ag cs hf e
    rw[nth_eq] at hf
    obtain⟨fd,fi,k1,k2,k3,k4,k5,k6⟩:=hk f off size ag hf
    rw[e] at hx
    obtain⟨vs,ev,h1,h2⟩:=hx.agg_inv
    split at hg
    ·rename_i hb
     have hb:=ble_le hb
     obtain⟨rfl,rfl⟩:=hg
     have hsz:(sizeOf fd.type).run P c.w=.ok size c.w:=by simp [Go.sizeOf,typeInfo,k3,k4]
     cases hag:ag with
     | true =>
      subst hag
      refine .pure h (rv:=.agg (vs.extract off (off+size))) ?_ ?_
      ·simp only [execOp,hop,ev,Instr.field,Sem.run_bind,Sem.run_pure,Result.andThen_ok,run_underlying hd,k1,asAgg,part,k6,if_true,hsz,k2]
      ·refine .agg _ _ ?_ fun j y w q1 q2=>?_
       ·rw[length_slice1 _ _ _ hb];simp;omega
       ·have hj:j<size:=by have:=(List.getElem?_eq_some_iff.1 q1).1;rwa [length_slice1 _ _ _ hb] at this
        rw[getElem?_slice1 _ _ _ _ hj] at q1
        rw[Array.getElem?_extract] at q2
        split at q2
        ·exact h2 _ _ _ q1 q2
        ·cases q2
     | false =>
      subst hag
      have hs1:=k5 rfl
      subst hs1
      have ho:off<vs.size:=by omega
      refine .pure h (rv:=vs[off]) ?_ ?_
      ·simp only [execOp,hop,ev,Instr.field,Sem.run_bind,Sem.run_pure,Result.andThen_ok,run_underlying hd,k1,asAgg,part,k6,k2,Bool.false_eq_true,if_false,Array.getElem?_eq_getElem ho,Sem.run_bind,Sem.run_pure,Result.andThen_ok]
      ·have ho':off<cs.length:=by omega
       have es:slice1 cs off 1=[cs[off]]:=by
        simp only [slice1]
        rw[List.drop_eq_getElem_cons ho',List.take_succ_cons,List.take_zero]
       rw[es]
       show Rep c cs[off] vs[off]
       exact h2 off _ _ (by simp [ho']) (by simp [ho])
    ·exact hg.elim
   ·exact hg.elim
  ·exact hg.elim
 ·exact hg.elim
theorem binOp_ok (hE:EnvOk P E) (h:Inv fc c st a) {p:BinOp} {t:TypeId} {x y:Operand} {q:TypeId} (hop:o.op=.binOp p t x y q) {look:Nat→Option Sym.Obj} (hlook:∀ l x,look l=some x→hget st.heap l=some x)
  (hg:(opr E o (evp st.tmps) look).gives F v u):OpOk P fc st o a c.w v u:=by
 simp only [opr,hop] at hg
 obtain⟨rfl,rv,hr,hp⟩:=binr_ok (P:=P) hE h hlook hg
 refine .pure h (rv:=rv) ?_ (.plain hp)
 simp only [execOp,hop]
 simp only [Sem.run_bind] at hr ⊢
 rw[hr]
 rfl
theorem withRows_slice (h:Inv fc c st a) {look:Nat→Option Sym.Obj} (hlook:∀ l x,look l=some x→hget st.heap l=some x) {y:PV} {vy:Value} (hy:Rep c y vy) (hns:∀ s,y≠.str s) {k:Nat→Option Nat→List (List PV)→ORes}
  (hg:(withRows look y k).gives F v u):∃ ad n m,vy=.slice ad n m:=by
 unfold withRows at hg
 split at hg
 ·cases hy with
  | plain p=>cases p
  | subnil=>exact⟨none,0,0,rfl⟩
  | sub=>exact⟨_,_,_,rfl⟩
 ·exact absurd rfl (hns _)
 ·split at hg
  ·rename_i hro
   obtain⟨ad,k',e⟩:=slice_header h hlook hy hro
   exact⟨ad,_,k',e⟩
  ·exact hg.elim
theorem und_u8 {e:Nat} (hE:EnvOk P E) {te:TyI} (hte:E.ty e=some te) (htk:te.tk=.int .u8):P.underlying e=some (.int .u8):=by
 obtain⟨d,hd,hk⟩:=(hE e te hte).und
 simp only [tkOk,htk] at hk
 rw[hd,hk.1]
theorem prep_int {w:World} {X:Nat→Prop} {k:IntKind} {n:Int} {z:Value} (h:PRep w X (.int k n) z):z=.int k n:=by cases h;rfl
theorem src_bytes {w:World} {X:Nat→Prop} {s:ByteArray} {ad:Option Addr} {n m:Nat} (S:SrcOk P w X (.slice ad n m) 1 (byteRows s)):(Conv.bytesToString (.slice ad n m)).run P w=.ok (.string s) w:=by
 have hn:=S.len w
 simp only [Builtin.lenOf,Sem.run_pure,Result.ok.injEq,and_true] at hn
 rw[length_byteRows] at hn
 obtain⟨news,h1,h2,_,h4⟩:=S.cells n (by rw[length_byteRows,hn];exact Nat.le_refl _)
 have hnews:news=(s.data.toList.map (fun b=>(b.toNat:Int))).map (Value.int .u8):=by
  apply List.ext_getElem?
  intro i
  rcases Nat.lt_or_ge i n with hi|hi
  ·have hi':i<s.data.toList.length:=by
    have:s.data.toList.length=s.size:=by simp [← ByteArray.size_data]
    omega
   have hr:(byteRows s)[i]?=some [PV.int .u8 s.data.toList[i].toNat]:=by rw[byteRows_get,List.getElem?_eq_getElem hi'];rfl
   have hl:i * 1+0<news.length:=by rw[h2];omega
   have:=h4 i 0 _ _ _ hi hr rfl (List.getElem?_eq_getElem hl)
   simp only [Nat.mul_one,Nat.add_zero] at this hl
   rw[List.getElem?_eq_getElem hl,prep_int this,List.getElem?_map,List.getElem?_map,List.getElem?_eq_getElem hi']
   rfl
  ·rw[List.getElem?_eq_none (by omega),List.getElem?_eq_none]
   simp
   have:s.data.size=s.size:=rfl
   omega
 cases ad with
 | none =>
  have h1:=h1 w rfl
  simp only [Builtin.firstCells,Sem.run_pure,Result.ok.injEq,and_true] at h1
  have:news=[]:=by simpa using h1.symm
  rw[this] at h2
  simp at h2
  subst h2
  have:s=ByteArray.empty:=by
   have h0:s.data=#[]:=Array.eq_empty_of_size_eq_zero hn.symm
   cases s
   simp only at h0
   subst h0
   rfl
  rw[this]
  simp [Conv.bytesToString]
 | some ad =>
  have h1:=h1 w rfl
  simp only [Builtin.firstCells,Nat.mul_one] at h1
  rw[hnews] at h1
  rw[run_bytesToString w ad n m _ h1,foldl_push_byteCells]
  have he0:ByteArray.empty.data=#[]:=rfl
  rw[he0]
  cases s
  simp
theorem Inv.newBytes (h:Inv fc c st a) {l:Nat} (hl:hget st.heap l=none) (hn:fc.n0≤l) (s:ByteArray) (e:TypeId) (k:Nat) (hk:s.size≤k) :
  ∃ c':RC,c'.w=c.w.drew.alloc (.cells (bytesRow s k) e ((bytesRow s k).size,(bytesRow s k).size+1))∧Rep c' (.ref l) (.slice (some ⟨c.w.heap.size,0,none⟩) s.size k)∧Inv fc c' { st with heap:=hset st.heap l (.arr 1 none 1 (byteRows s)) } a:=by
 have hsize:(bytesRow s k).size=k:=by
  have:s.data.size=s.size:=rfl
  simp [bytesRow];omega
 generalize hx:Obj.cells (bytesRow s k) e ((bytesRow s k).size,(bytesRow s k).size+1)=x
 have hbk:(c.w.drew.alloc x).heap[c.w.heap.size]?=some x:=heap_alloc_new c.w.drew x
 have g:Grow c.w (c.w.drew.alloc x):=(Grow.drew c.w).trans (Grow.alloc _ _)
 have h1:=h.grow g
 have le1:c.le { c with w:=c.w.drew.alloc x }:=h.le_world fun b hb=>g.same b (h.xlt b hb)
 have nx:¬ c.Xr c.w.heap.size:=fun hx=>by have:=h.xlt _ hx;omega
 have le2:=RC.more_le (hd:=⟨.slice (some ⟨c.w.heap.size,0,none⟩) s.size k,1⟩) h1 hl
 refine⟨RC.more { c with w:=c.w.drew.alloc x } l ⟨.slice (some ⟨c.w.heap.size,0,none⟩) s.size k,1⟩,rfl,.ref l _ (.inl rfl) (by simp [RC.more]) rfl,h1.new hl hn ?_ ?_⟩
 ·intro b _ hb
  obtain rfl:c.w.heap.size=b:=by simpa [blk] using hb
  refine⟨fun l' o' hl' hlv' hbk'=>?_,.inr h.size⟩
  have:=(h.obj l' o' hl').block_lt hlv' hbk'
  omega
 ·refine⟨by simp [RC.more],.inr ⟨c.w.heap.size,0,k,?_,by simp,by simp,?_,⟨rfl,by rw[length_byteRows];exact hk,?_,fun j hj=>?_,fun i j r y v p q hv=>?_,fun h=>absurd rfl h⟩,nx⟩⟩
  ·simp only [RC.more,if_true,length_byteRows]
  ·show c.w.heap.size<(c.w.heap.push x).size
   simp
  ·intro r hr
   simp only [byteRows,List.mem_map] at hr
   obtain⟨b,_,rfl⟩:=hr
   rfl
  ·have hj':j<(bytesRow s k).size:=by omega
   refine⟨⟨(bytesRow s k)[j],?_,?_⟩,?_⟩
   ·show World.cell? (c.w.drew.alloc x) _=_
    unfold World.cell?
    rw[hbk,← hx]
    simp [hj']
   ·simp only [bytesRow]
    rw[Array.getElem_append]
    split<;>simp [Value.oneCell']
   ·show World.frozen? (c.w.drew.alloc x) _=_
    unfold World.frozen?
    rw[hbk,← hx]
    simp
    omega
  ·have hi:i<s.size:=by rw[← length_byteRows];exact(List.getElem?_eq_some_iff.1 p).1
   rw[byteRows_get] at p
   have hi':i<s.data.toList.length:=by
    have:s.data.toList.length=s.size:=by simp [← ByteArray.size_data]
    omega
   rw[List.getElem?_eq_getElem hi'] at p
   simp only [Option.map_some,Option.some.injEq] at p
   subst p
   have hj:j=0:=by have:=(List.getElem?_eq_some_iff.1 q).1;simp at this;omega
   subst hj
   simp at q
   subst q
   have:World.cell? (c.w.drew.alloc x) ⟨c.w.heap.size,0+(i * 1+0),none⟩=some (.int .u8 (s.data.toList[i]).toNat):=by
    unfold World.cell?
    rw[hbk,← hx]
    have hi2:i<s.data.size:=by simpa using hi'
    have hi3:i<(bytesRow s k).size:=by rw[hsize];omega
    show(bytesRow s k)[0+(i * 1+0)]?=_
    rw[show 0+(i * 1+0)=i by omega,Array.getElem?_eq_getElem hi3]
    simp only [bytesRow]
    rw[Array.getElem_append_left (by simpa using hi2)]
    simp
   have hv2:World.cell? (c.w.drew.alloc x) ⟨c.w.heap.size,0+(i * 1+0),none⟩=some v:=hv
   rw[this] at hv2
   obtain rfl:=Option.some.inj hv2
   exact .int _ _
theorem convert_ok (hE:EnvOk P E) (h:Inv fc c st a) (h64:fc.n0≤64) {src dst:TypeId} {x:Operand} (hop:o.op=.convert src dst x)
  (hg:(opr E o (evp st.tmps) (only ((fpr o (evp st.tmps) (hget st.heap)).1++(fpr o (evp st.tmps) (hget st.heap)).2) (hget st.heap))).gives F v u):OpOk P fc st o a c.w v u:=by
 simp only [opr,hop] at hg
 have hsite:site o.dst∈(fpr o (evp st.tmps) (hget st.heap)).1++(fpr o (evp st.tmps) (hget st.heap)).2:=by simp [fpr,hop]
 generalize hlk:only _ (hget st.heap)=look at hg
 have hlook:∀ l x,look l=some x→hget st.heap l=some x:=fun l x hx=>by subst hlk;exact only_some hx
 have hnone:look (site o.dst)=none→hget st.heap (site o.dst)=none:=fun hx=>by subst hlk;exact only_none hsite hx
 have hx:=h.eval x
 have hrunOf:∀ {rv:Value} {w':World},(convert src dst (a.eval x)).run P c.w=.ok rv w'→(execOp a.eval o).run P c.w=.ok (.value rv) w':=by
  intro rv w' hr
  simp only [execOp,hop,Sem.run_bind,hr,Sem.run_pure,Result.andThen_ok]
 split at hg
 ·rename_i s d hs hd
  obtain⟨ds,hds,hks⟩:=(hE src s hs).und
  obtain⟨dd,hdd,hkd⟩:=(hE dst d hd).und
  unfold convertr at hg
  split at hg
  ·rename_i k htk
   simp only [tkOk,htk] at hkd
   obtain⟨rfl,_⟩:=hkd
   split at hg
   ·rename_i k' n e
    rw[e] at hx
    have ev:=hx.int_inv
    obtain⟨rfl,rfl⟩:=hg
    refine .pure h (rv:=.int k (k.wrap n)) (hrunOf ?_) (.plain (.int _ _))
    simp only [convert,run_underlying hds,run_underlying hdd,Sem.run_bind,Result.andThen_ok,ev]
    cases ds<;>rfl
   ·rename_i n e
    rw[e] at hx
    obtain⟨b,ev,hb⟩:=hx.fl_inv
    obtain⟨hr,rfl,rfl⟩:=hg
    refine .pure h (rv:=.int k n) (hrunOf ?_) (.plain (.int _ _))
    rw[ev]
    exact run_convert_float_int c.w src dst .f64 k b n (by rw[hds];rfl) hdd (hb.conv hr)
   ·exact hg.elim
  ·rename_i k htk
   simp only [tkOk,htk] at hkd
   obtain⟨rfl,_⟩:=hkd
   cases k with
   | f32=>exact hg.elim
   | f64 =>
    simp only at hg
    split at hg
    ·rename_i k' n e
     rw[e] at hx
     have ev:=hx.int_inv
     obtain⟨hr,rfl,rfl⟩:=hg
     refine .pure h (rv:=.float .f64 (floatOfInt .f64 n)) (hrunOf ?_) (.plain (.fl _ _ (FlEx.ofInt hr)))
     rw[ev]
     simp only [convert,run_underlying hds,run_underlying hdd,Sem.run_bind,Result.andThen_ok]
     cases ds<;>rfl
    ·exact hg.elim
  ·rename_i htk
   simp only [tkOk,htk] at hkd
   obtain⟨rfl,_⟩:=hkd
   split at hg
   ·rename_i s' e
    rw[e] at hx
    have ev:=hx.str_inv
    obtain⟨rfl,rfl⟩:=hg
    refine .pure h (rv:=.string s') (hrunOf ?_) (.plain (.str _))
    simp only [convert,run_underlying hds,run_underlying hdd,Sem.run_bind,Result.andThen_ok,ev]
    cases ds<;>rfl
   ·rename_i px hns
    split at hg
    ·rename_i e htks
     simp only [tkOk,htks] at hks
     obtain⟨rfl,_⟩:=hks
     split at hg
     ·rename_i te hte
      split at hg
      ·rename_i htke
       have hu8:=und_u8 hE hte htke
       obtain⟨ad,n,m,ev⟩:=withRows_slice h hlook hx hns hg
       obtain⟨nn,z,rows,hg,_,hS⟩:=withRows_ok (P:=P) h hlook hx hg
       split at hg
       ·rename_i hz
        obtain⟨s',rfl,rfl,rfl⟩:=hg
        have S:=hS 1 hz
        rw[ev] at S
        refine .pure h (rv:=.string s') (hrunOf ?_) (.plain (.str _))
        rw[ev,run_convert_bytes_string c.w src dst e ad n m hds hu8 hdd]
        exact src_bytes S
       ·exact hg.elim
      ·exact hg.elim
     ·exact hg.elim
    ·exact hg.elim
  ·rename_i e htk
   simp only [tkOk,htk] at hkd
   obtain⟨rfl,_⟩:=hkd
   split at hg
   ·rename_i s' es
    rw[es] at hx
    have ev:=hx.str_inv
    split at hg
    ·rename_i te hte
     have hst:P.underlying src=some .string∧E.ty e=some te:=by
      split at hte
      ·rename_i hst
       exact⟨und_str hE (by rw[hs];exact hst),hte⟩
      ·cases hte
     obtain⟨hst,hte⟩:=hst
     split at hg
     ·rename_i htke
      have hu8:=und_u8 hE hte htke
      split at hg
      ·rename_i hl
       obtain⟨_,rfl,rfl⟩:=hg
       obtain⟨c2,w2,r2,i2⟩:=h.newBytes (hnone hl) (le_site h64) s' e (grownCap c.w s'.size 0 e) (grownCap_ge _ _ _ _)
       refine .value (hrunOf ?_) c2 w2 i2 r2
       rw[ev]
       exact run_bytes_of_string c.w src dst e s' hst hdd hu8
      ·exact hg.elim
     ·exact hg.elim
    ·exact hg.elim
   ·exact hg.elim
  ·exact hg.elim
 ·exact hg.elim
end
end Go.Sym
namespace Go.Sym
open Go
section
variable {P:Program} {fc:FC} {c:RC} {st:ASt} {a:Act} {o:Oper} {E:Env} {F:FnT} {v:PV} {u:List (Nat×Sym.Obj)}
theorem ik_inj {k j:IntKind} (h:ikNum k=ikNum j):k=j:=by cases k<;>cases j<;>first|rfl|(exact absurd h (by decide))
def keyVal:PV→Value
 | .int k n=>.int k n
 | .bool b=>.bool b
 | .str s=>.string s
 | _=>undef
theorem keyFit_val {kk:TK} {x:PV} (h:keyFit kk x=true) {w:World} {X:Nat→Prop} {v:Value} (r:PRep w X x v):v=keyVal x:=by
 cases r<;>first|rfl|(cases kk<;>simp [keyFit] at h)
theorem keyFit_rep {kk:TK} {x:PV} (h:keyFit kk x=true) {v:Value} (r:Rep c x v):v=keyVal x∧PRep c.w c.Xk x v:=by
 cases r<;>first|(rename_i p;exact⟨keyFit_val h p,p⟩)|(cases kk<;>simp [keyFit] at h)
theorem keyFit_is {kk:TK} {x:PV} (h:keyFit kk x=true) {i:TyI} {d:TypeDesc} (hi:i.tk=kk) (hd:tkOk P i d):MapKept.IsKey d (keyVal x):=by
 unfold tkOk at hd
 rw[hi] at hd
 cases kk<;>cases x<;>simp [keyFit] at h<;>simp only at hd<;>obtain⟨rfl,_⟩:=hd<;>simp [keyVal,MapKept.IsKey]
 exact(ik_inj h).symm
theorem keyEq_iff {kk:TK} {x k:PV} (hx:keyFit kk x=true) (hk:keyFit kk k=true):keyEq x k=true ↔ keyVal x=keyVal k:=by
 cases kk<;>cases x<;>cases k<;>simp [keyFit] at hx hk<;>simp [keyEq,keyVal]
 intro _
 rw[← ik_inj hx,← ik_inj hk]
theorem sameNow_fit {kk:TK} {x k:PV} {d:TypeDesc} (hx:keyFit kk x=true) (hk:keyFit kk k=true) (h1:MapKept.IsKey d (keyVal x)):Instr.sameNow d (keyVal x) (keyVal k)=some (keyEq x k):=by
 have h2:MapKept.IsKey d (keyVal k):=by
  cases kk<;>cases x<;>cases k<;>simp [keyFit] at hx hk<;>cases d<;>simp [keyVal,MapKept.IsKey] at h1 ⊢
  rw[← h1,← ik_inj hx,← ik_inj hk]
 obtain⟨r,h3,h4⟩:=MapKept.sameNow_of_keys h1 h2
 rw[h3]
 refine congrArg some ?_
 rw[Bool.eq_iff_iff,h4,keyEq_iff hx hk]
def mat (x:PV):List (PV×PV)→Option Nat
 | []=>none
 | (k,_)::r=>if keyEq x k=true then some 0 else(mat x r).map (·+1)
theorem mget_mat (x:PV):∀ es:List (PV×PV),mget x es=(mat x es).bind fun j=>(es[j]?).map (·.2)
 | []=>rfl
 | (k,v)::r=>by
  simp only [mget,mat]
  split
  ·rfl
  ·rw[mget_mat x r]
   cases mat x r<;>simp
theorem find_fit {kk:TK} {w:World} {X:Nat→Prop} {x:PV} {d:TypeDesc} (hx:keyFit kk x=true) (h1:MapKept.IsKey d (keyVal x)):∀ {es:List (PV×PV)} {l:List MapEntry},EntsR w X kk es l→∀ i,
  Instr.findNow d (keyVal x) l i=some ((mat x es).bind fun j=>(l[j]?).map fun e=>(i+j,e.val))
 | _,_,.nil,i=>rfl
 | _,_,.cons (k:=k) (v:=v) (e:=e) (es:=es) (l:=l) g1 g2 g3 t,i=>by
  have hk:=keyFit_val g1 g2
  simp only [Instr.findNow,mat]
  rw[hk,sameNow_fit hx g1 h1]
  cases hb:keyEq x k with
  | true=>simp
  | false =>
   simp only [Bool.false_eq_true,if_false]
   rw[find_fit hx h1 t (i+1)]
   cases mat x es with
   | none=>rfl
   | some j=>simp [Nat.add_assoc,Nat.add_comm 1 j]
theorem EntsR.len {kk:TK} {w:World} {X:Nat→Prop} {es:List (PV×PV)} {l:List MapEntry} (h:EntsR w X kk es l):es.length=l.length:=by
 induction h with
 | nil=>rfl
 | cons _ _ _ _ ih=>simp [ih]
theorem mat_lt {x:PV}:∀ {es:List (PV×PV)} {j:Nat},mat x es=some j→∃ k v,es[j]?=some (k,v)∧keyEq x k=true
 | [],j,h=>by simp [mat] at h
 | (k,v)::r,j,h=>by
  simp only [mat] at h
  split at h
  ·rename_i hb
   cases h
   exact⟨k,v,rfl,hb⟩
  ·cases hm:mat x r with
   | none=>simp [hm] at h
   | some i =>
    simp only [hm,Option.map_some,Option.some.injEq] at h
    subst h
    obtain⟨k',v',h1,h2⟩:=mat_lt hm
    exact⟨k',v',by simpa using h1,h2⟩
theorem mat_none {x:PV}:∀ {es:List (PV×PV)},mat x es=none→∀ (j:Nat) k v,es[j]?=some (k,v)→¬ keyEq x k=true
 | [],_,j,k,v,h1,_=>by simp at h1
 | (k,v)::r,h,j,k',v',h1,h2=>by
  simp only [mat] at h
  split at h
  ·cases h
  ·rename_i hn
   cases j with
   | zero=>simp at h1;obtain⟨rfl,_⟩:=h1;exact hn h2
   | succ j=>exact mat_none (by cases hm:mat x r with|none=>rfl|some i=>simp [hm] at h) j k' v' (by simpa using h1) h2
theorem EntsR.get {kk:TK} {w:World} {X:Nat→Prop} {es:List (PV×PV)} {l:List MapEntry} (h:EntsR w X kk es l) {j:Nat} {k v:PV} {e:MapEntry} (h1:es[j]?=some (k,v)) (h2:l[j]?=some e):keyFit kk k=true∧PRep w X k e.key∧MRep w X v e.val:=by
 induction h generalizing j with
 | nil=>simp at h1
 | cons g1 g2 g3 _ ih =>
  cases j with
  | zero =>
   simp only [List.getElem?_cons_zero,Option.some.injEq,Prod.mk.injEq] at h1 h2
   obtain⟨rfl,rfl⟩:=h1
   subst h2
   exact⟨g1,g2,g3⟩
  | succ j=>exact ih (by simpa using h1) (by simpa using h2)
theorem EntsR.push {kk:TK} {w:World} {X:Nat→Prop} {es:List (PV×PV)} {l:List MapEntry} (h:EntsR w X kk es l) {k v:PV} {e:MapEntry} (h1:keyFit kk k=true) (h2:PRep w X k e.key) (h3:MRep w X v e.val):EntsR w X kk (es++[(k,v)]) (l++[e]):=by
 induction h with
 | nil=>exact .cons h1 h2 h3 .nil
 | cons g1 g2 g3 _ ih=>exact .cons g1 g2 g3 ih
theorem EntsR.set {kk:TK} {w:World} {X:Nat→Prop} {es:List (PV×PV)} {l:List MapEntry} (h:EntsR w X kk es l) (j:Nat) {k v:PV} {e:MapEntry} (h1:keyFit kk k=true) (h2:PRep w X k e.key) (h3:MRep w X v e.val):EntsR w X kk (es.set j (k,v)) (l.set j e):=by
 induction h generalizing j with
 | nil=>exact .nil
 | cons g1 g2 g3 t ih =>
  cases j with
  | zero=>exact .cons h1 h2 h3 t
  | succ j=>exact .cons g1 g2 g3 (ih j)
theorem mset_mat (x v:PV):∀ es:List (PV×PV),mset x v es=match mat x es with
  | none=>es++[(x,v)]
  | some j=>es.set j (x,v)
 | []=>rfl
 | (k,w)::r=>by
  simp only [mset,mat]
  split
  ·rfl
  ·rw[mset_mat x v r]
   cases mat x r<;>simp
theorem makeMap_ok (h:Inv fc c st a) (h64:fc.n0≤64) {t:TypeId} {r:Option Operand} (hop:o.op=.makeMap t r)
  (hg:(opr E o (evp st.tmps) (only ((fpr o (evp st.tmps) (hget st.heap)).1++(fpr o (evp st.tmps) (hget st.heap)).2) (hget st.heap))).gives F v u):OpOk P fc st o a c.w v u:=by
 simp only [opr,hop] at hg
 have hsite:site o.dst∈(fpr o (evp st.tmps) (hget st.heap)).1++(fpr o (evp st.tmps) (hget st.heap)).2:=by simp [fpr,hop]
 generalize hlk:only _ (hget st.heap)=look at hg
 have hnone:look (site o.dst)=none→hget st.heap (site o.dst)=none:=fun hx=>by subst hlk;exact only_none hsite hx
 split at hg
 ·rename_i d ty hd ht hl
  have hfree:=hnone hl
  split at hg
  ·split at hg
   ·rename_i tk hkt
    obtain⟨rfl,rfl⟩:=hg
    generalize hx:Go.Obj.map #[] 0=x
    have hbk:(c.w.alloc x).heap[c.w.heap.size]?=some x:=heap_alloc_new c.w x
    have g:Grow c.w (c.w.alloc x):=Grow.alloc _ _
    have h1:=h.grow g
    have nx:¬ c.Xr c.w.heap.size:=fun hx=>by have:=h.xlt _ hx;omega
    refine .value (w':=c.w.alloc x) (rv:=.map (some c.w.heap.size)) ?_ (RC.more { c with w:=c.w.alloc x } (site o.dst) ⟨.map (some c.w.heap.size),0⟩) rfl (h1.new hfree (le_site h64) ?_ ?_) (.mp _ _ (.inl rfl) (by simp [RC.more]))
    ·simp only [execOp,hop,Option.map_none,Instr.makeMap,Sem.run_bind,Sem.run_pure,Result.andThen_ok,← hx]
     rfl
    ·intro b _ hb
     obtain rfl:c.w.heap.size=b:=by simpa [blk] using hb
     refine⟨fun l' o' hl' hlv' hbk'=>?_,.inr h.size⟩
     have:=(h.obj l' o' hl').block_lt hlv' hbk'
     omega
    ·exact⟨c.w.heap.size,#[],0,by simp [RC.more],⟨by show(c.w.alloc x).heap[_]?=_;rw[hbk,hx],.nil,MapKept.stamped_empty 0⟩,nx⟩
   ·exact hg.elim
  ·exact hg.elim
 ·exact hg.elim
theorem key_is (hE:EnvOk P E) {k:Nat} {tk:TyI} (hk:E.ty k=some tk) {x:PV} (hf:keyFit tk.tk x=true):∃ d,P.underlying k=some d∧MapKept.IsKey d (keyVal x):=by
 obtain⟨d,hd,hkd⟩:=(hE k tk hk).und
 exact⟨d,hd,keyFit_is hf rfl hkd⟩
theorem zero_pack (hE:EnvOk P E) {e:Nat} {te:TyI} (he:E.ty e=some te) (c:RC):∃ z,(zeroValue e).run P c.w=.ok z c.w∧Rep c (packV te.agg te.zero) z:=by
 obtain⟨inf,z,hi,_,_,hz,h1,h2,h3⟩:=(hE e te he).info
 refine⟨z,by simp [Go.zeroValue,typeInfo,hi,hz],?_⟩
 rcases(hE e te he).zk inf z hi hz with ⟨ha,vs,rfl⟩ | ⟨ha,hn⟩
 ·rw[ha]
  exact .agg _ vs (by rw[h2];exact h1.symm) fun j x v p q=>.plain ((h3 j x v p q).prep _ _)
 ·rw[ha]
  have h1s:=(hE e te he).one ha
  rw[h1s] at h2
  match hzl:te.zero,h2 with
  | [x],_ =>
   have hc:z.cells=#[z]:=by cases z<;>first|rfl|exact absurd rfl (hn _)
   exact .plain ((h3 0 x z (by rw[hzl];rfl) (by rw[hc];rfl)).prep _ _)
theorem lookup_ok (hE:EnvOk P E) (h:Inv fc c st a) {t:TypeId} {x i:Operand} {ok:Bool} (hop:o.op=.lookup t x i ok) {look:Nat→Option Sym.Obj} (hlook:∀ l x,look l=some x→hget st.heap l=some x)
  (hg:(opr E o (evp st.tmps) look).gives F v u):OpOk P fc st o a c.w v u:=by
 simp only [opr,hop,ret1,lookupr] at hg
 have hx:=h.eval x
 have hi:=h.eval i
 split at hg
 ·rename_i ty hty
  obtain⟨dm,hdm,hkm⟩:=(hE t ty hty).und
  split at hg
  ·rename_i k e htk
   simp only [tkOk,htk] at hkm
   obtain⟨rfl,_⟩:=hkm
   split at hg
   ·rename_i tk te hk he
    split at hg
    ·rename_i l hl
     rw[hl] at hx
     obtain⟨b,ev,hD,hv⟩:=hx.mp_inv
     split at hg
     ·rename_i kk es hlo
      obtain⟨b',ents,clock,e1,M,_⟩:=h.obj l _ (hlook _ _ hlo)
      rw[hv] at e1
      obtain rfl:b=b':=by simpa using e1
      split at hg
      ·rename_i hf
       obtain⟨f1,f2⟩:=Bool.and_eq_true_iff.1 hf
       obtain⟨d,hd,hkey⟩:=key_is hE hk f1
       obtain⟨ei,_⟩:=keyFit_rep f2 hi
       obtain⟨z,hz,rz⟩:=zero_pack hE he c
       have hfind:=find_fit f2 hkey M.ent 0
       have hrun:∀ ok,(Instr.lookup t (a.eval x) (a.eval i) ok).run P c.w=.ok (match (mat (evp st.tmps i) es).bind fun j=>(ents.toList[j]?).map fun e=>(j,e.val) with
         | some (_,v)=>if ok then .tuple #[v,.bool true] else v
         | none=>if ok then .tuple #[z,.bool false] else z) c.w:=by
        intro ok
        rw[ev,ei]
        simp only [Instr.lookup,Sem.run_bind,run_underlying hdm,Result.andThen_ok,MapKept.run_getObj_map M.at',Sem.run_pure,MapKept.run_checkKey hd hkey,MapKept.run_findKey hd hfind,Nat.zero_add]
        cases (mat (evp st.tmps i) es).bind fun j=>(ents.toList[j]?).map fun e=>(j,e.val) with
        | none=>simp only [Sem.run_bind,hz,Result.andThen_ok,Sem.run_pure]
        | some p=>simp only [Sem.run_bind,Result.andThen_ok,Sem.run_pure]
       have hget:∀ y,mget (evp st.tmps i) es=some y→∃ j w,((mat (evp st.tmps i) es).bind fun j=>(ents.toList[j]?).map fun e=>(j,e.val))=some (j,w)∧Rep c y w:=by
        intro y hy
        rw[mget_mat] at hy
        cases hm:mat (evp st.tmps i) es with
        | none=>simp [hm] at hy
        | some j =>
         obtain⟨k',v',g1,g2⟩:=mat_lt hm
         simp only [hm,Option.bind_some,g1,Option.map_some,Option.some.injEq] at hy
         subst hy
         have hj:j<ents.toList.length:=by rw[← M.ent.len];exact(List.getElem?_eq_some_iff.1 g1).1
         exact⟨j,ents.toList[j].val,by simp only [Option.bind_some,List.getElem?_eq_getElem hj,Option.map_some],(M.ent.get g1 (List.getElem?_eq_getElem hj)).2.2.rep⟩
       have hnone:mget (evp st.tmps i) es=none→((mat (evp st.tmps i) es).bind fun j=>(ents.toList[j]?).map fun e=>(j,e.val))=none:=by
        intro hy
        rw[mget_mat] at hy
        cases hm:mat (evp st.tmps i) es with
        | none=>rfl
        | some j =>
         obtain⟨k',v',g1,g2⟩:=mat_lt hm
         simp [hm,g1] at hy
       have hpure:∀ {rv:Value} {y:PV},(Instr.lookup t (a.eval x) (a.eval i) ok).run P c.w=.ok rv c.w→Rep c y rv→OpOk P fc st o a c.w y []:=fun hr rr=>.pure h (by simp only [execOp,hop,Sem.run_bind,hr,Sem.run_pure,Result.andThen_ok]) rr
       cases ok with
       | false =>
        obtain⟨y,hy,rfl,rfl⟩:=hg
        refine hpure (hrun false) ?_
        cases hm:mget (evp st.tmps i) es with
        | none =>
         rw[hm] at hy
         subst hy
         rw[hnone hm]
         exact rz
        | some q =>
         rw[hm] at hy
         obtain rfl:q=y:=hy
         obtain⟨j,w,h1,h2⟩:=hget _ hm
         rw[h1]
         exact h2
       | true =>
        rcases hg with ⟨_,y,hy,rfl,rfl⟩ | ⟨hn,rfl,rfl⟩
        ·refine hpure (hrun true) ?_
         obtain⟨j,w,h1,h2⟩:=hget _ hy
         rw[h1]
         refine .tup _ _ rfl fun n q r e1 e2=>?_
         match n with
         | 0=>simp at e1 e2;subst e1;subst e2;exact h2
         | 1=>simp at e1 e2;subst e1;subst e2;exact .plain (.bool _)
         | n+2=>simp at e1
        ·refine hpure (hrun true) ?_
         rw[hnone (by cases hm:mget (evp st.tmps i) es with|none=>rfl|some q=>exact absurd (by rw[hm];rfl) hn)]
         refine .tup _ _ rfl fun n q r e1 e2=>?_
         match n with
         | 0=>simp at e1 e2;subst e1;subst e2;exact rz
         | 1=>simp at e1 e2;subst e1;subst e2;exact .plain (.bool _)
         | n+2=>simp at e1
      ·exact hg.elim
     ·exact hg.elim
    ·exact hg.elim
   ·exact hg.elim
  ·exact hg.elim
 ·exact hg.elim
theorem plainVal_ok (h:Inv fc c st a) {look:Nat→Option Sym.Obj} (hlook:LookF look st.heap) {x y:PV} {u:List (Nat×Sym.Obj)} (hp:plainVal look x=some (y,u)) {v:Value} (hr:Rep c x v) :
  ∃ c',c'.w=c.w∧c'.θ=c.θ∧c.le c'∧Inv fc c' { st with heap:=hsets st.heap u } a∧MRep c'.w c'.Xk y v∧LookF look (hsets st.heap u):=by
 unfold plainVal at hp
 split at hp
 ·rename_i cs
  obtain⟨vs,rfl,hl,hv⟩:=hr.agg_inv
  split at hp
  ·rename_i ys u' hc
   simp only [Option.some.injEq,Prod.mk.injEq] at hp
   obtain⟨rfl,rfl⟩:=hp
   obtain⟨c',h1,h2,h3,h4,h5,h6,h7,_⟩:=plainCells_ok h hlook hc (vs:=vs.toList) (by simpa using hl) (fun j x v p q=>hv j x v p (by simpa using q))
   exact⟨c',h1,h2,h3,h4,.agg ys vs (by rw[h5,hl]) (fun j x v p q=>h6 j x v p (by simpa using q)),h7⟩
  ·cases hp
 ·split at hp
  ·rename_i y' u' hc
   split at hp
   ·rename_i ho
    simp only [Option.some.injEq,Prod.mk.injEq] at hp
    obtain⟨rfl,rfl⟩:=hp
    obtain⟨c',h1,h2,h3,h4,h5,h6,_⟩:=plainCell_ok h hlook hc hr
    have h1':v.oneCell'=true:=by
     cases h5<;>first|rfl|(simp [oneP] at ho;done)|simpa [oneP] using ho
    exact⟨c',h1,h2,h3,h4,.one h5 h1',h6⟩
   ·cases hp
  ·cases hp
theorem mapUpdate_ok (hE:EnvOk P E) (h:Inv fc c st a) {t:TypeId} {x i z:Operand} (hop:o.op=.mapUpdate t x i z) {look:Nat→Option Sym.Obj} (hlook:∀ l x,look l=some x→hget st.heap l=some x)
  (hg:(opr E o (evp st.tmps) look).gives F v u):OpOk P fc st o a c.w v u:=by
 simp only [opr,hop,updater] at hg
 have hx:=h.eval x
 have hi:=h.eval i
 have hz:=h.eval z
 split at hg
 ·rename_i ty hty
  obtain⟨dm,hdm,hkm⟩:=(hE t ty hty).und
  split at hg
  ·rename_i k e htk
   simp only [tkOk,htk] at hkm
   obtain⟨rfl,_⟩:=hkm
   split at hg
   ·rename_i tk hk
    split at hg
    ·rename_i l hl
     rw[hl] at hx
     obtain⟨b,ev,hD,hv⟩:=hx.mp_inv
     split at hg
     ·rename_i kk es hlo
      split at hg
      ·rename_i hf
       obtain⟨f1,f2⟩:=Bool.and_eq_true_iff.1 hf
       obtain⟨d,hd,hkey⟩:=key_is hE hk f1
       obtain⟨ei,hip⟩:=keyFit_rep f2 hi
       split at hg
       ·rename_i y u' hpl
        obtain⟨rfl,rfl⟩:=hg
        obtain⟨c1,w1,t1,le1,i1,r1,l1⟩:=plainVal_ok h (fun l x q=>.inl (hlook l x q)) hpl hz
        have hl1:hget (hsets st.heap u') l=some (.map kk es):=by
         rcases l1 l _ hlo with q | ⟨_,_,_,_,q,_⟩
         ·exact q
         ·cases q
        obtain⟨b',ents,clock,e1,M,nx⟩:=i1.obj l _ hl1
        rw[t1,hv] at e1
        obtain rfl:b=b':=by simpa using e1
        have e1':(c1.θ l).val=.map (some b):=by rw[t1,hv]
        have hfind:=find_fit f2 hkey M.ent 0
        have hlt:b<c1.w.heap.size:=(Array.getElem?_eq_some_iff.1 M.at').1
        have hip1:PRep c1.w c1.Xk (evp st.tmps i) (a.eval i):=hip.mono (fun b hb=>by rw[w1]) le1.xk
        have hat:c.w.heap[b]?=some (.map ents clock):=by rw[← w1];exact M.at'
        have hkeys:∀ (j:Nat) e,ents.toList[j]?=some e→∃ k' v',es[j]?=some (k',v')∧keyFit kk k'=true∧e.key=keyVal k':=by
         intro j e he
         have hj:j<es.length:=by rw[M.ent.len];exact(List.getElem?_eq_some_iff.1 he).1
         have q:es[j]?=some (es[j].1,es[j].2):=by simp [hj]
         obtain⟨g1,g2,_⟩:=M.ent.get q he
         exact⟨_,_,q,g1,keyFit_val g1 g2⟩
        -- what the machine does
        have key:∃ ents' clock',(Instr.mapUpdate t (a.eval x) (a.eval i) (a.eval z)).run P c.w=.ok () { c.w with heap:=c.w.heap.setIfInBounds b (.map ents' clock') } ∧
          EntsR c1.w c1.Xk kk (mset (evp st.tmps i) y es) ents'.toList∧MapKept.Stamped ents' clock':=by
         rw[mset_mat]
         cases hm:mat (evp st.tmps i) es with
         | none =>
          rw[hm] at hfind
          refine⟨ents.push { key:=a.eval i,val:=a.eval z,born:=clock },clock+1,?_,?_,?_⟩
          ·rw[ev,ei]
           simp only [Option.bind_none] at hfind
           simp [Instr.mapUpdate,run_underlying hdm,MapKept.run_getObj_map hat,MapKept.run_checkKey hd hkey,MapKept.run_findKey hd hfind,MapKept.run_setObj_map _ hat,Result.andThen]
          ·simp only [Array.toList_push]
           exact M.ent.push f2 hip1 r1
          ·refine MapKept.stamped_push M.st fun q hq e=>?_
           obtain⟨j,hj,rfl⟩:=List.getElem_of_mem hq
           obtain⟨k',v',g1,g2,g3⟩:=hkeys j _ (List.getElem?_eq_getElem hj)
           have he:keyEq (evp st.tmps i) k'=true:=(keyEq_iff f2 g2).2 (by rw[← ei,← g3,e])
           exact mat_none hm j k' v' g1 he
         | some j =>
          obtain⟨k',v',g1,g2⟩:=mat_lt hm
          have hj:j<ents.toList.length:=by rw[← M.ent.len];exact(List.getElem?_eq_some_iff.1 g1).1
          have hje:ents[j]?=some ents.toList[j]:=by rw[← Array.getElem?_toList];exact List.getElem?_eq_getElem hj
          obtain⟨k2,v2,q1,q2,q3⟩:=hkeys j _ (List.getElem?_eq_getElem hj)
          rw[g1] at q1
          cases q1
          have hkk:(ents.toList[j]).key=a.eval i:=by rw[q3,ei,(keyEq_iff f2 q2).1 g2]
          rw[hm] at hfind
          simp only [Option.bind_some,List.getElem?_eq_getElem hj,Option.map_some,Nat.zero_add] at hfind
          refine⟨ents.modify j fun e=>{ e with key:=a.eval i,val:=a.eval z },clock,?_,?_,?_⟩
          ·have hkt:(Instr.keyThatStays (keyVal (evp st.tmps i)) (keyVal (evp st.tmps i))).run P c.w=.ok (keyVal (evp st.tmps i)) c.w:=MapKept.run_keyThatStays hkey
           rw[ei] at hkk
           rw[ev,ei]
           simp [Instr.mapUpdate,run_underlying hdm,MapKept.run_getObj_map hat,MapKept.run_checkKey hd hkey,MapKept.run_findKey hd hfind,MapKept.run_setObj_map _ hat,hje,hkk,hkt,Result.andThen]
           simp at hkk
           simp [hkk,hkt,Result.andThen,MapKept.run_setObj_map _ hat]
          ·have e2:(ents.modify j fun e=>{ e with key:=a.eval i,val:=a.eval z }).toList=ents.toList.set j { ents.toList[j] with key:=a.eval i,val:=a.eval z }:=by
            apply List.ext_getElem?
            intro n
            rw[Array.getElem?_toList,Array.getElem?_modify,List.getElem?_set]
            by_cases hn:j=n
            ·subst hn
             rw[if_pos rfl,if_pos rfl,hje,if_pos hj]
             rfl
            ·rw[if_neg hn,if_neg hn,Array.getElem?_toList]
           rw[e2]
           exact M.ent.set j f2 hip1 r1
          ·exact MapKept.stamped_modify M.st _ _ (fun _ _=>rfl) (fun e' _ he'=>by
            rw[hje] at he'
            cases he'
            exact hkk.symm)
        obtain⟨ents',clock',hrun,hent,hst⟩:=key
        have hw:∀ b',b'≠b→(c1.w.heap.setIfInBounds b (Go.Obj.map ents' clock'))[b']?=c1.w.heap[b']?:=fun b' hb=>by rw[Array.getElem?_setIfInBounds_ne (Ne.symm hb)]
        have i2:=i1.upd (o':=.map kk (mset (evp st.tmps i) y es)) (w':={ c1.w with heap:=c1.w.heap.setIfInBounds b (.map ents' clock') }) hl1 trivial
         (fun b' hb=>hw b' fun e=>hb (by rw[e1',e];rfl)) (by simp) rfl rfl rfl
         ⟨b,ents',clock',e1',⟨by show(c1.w.heap.setIfInBounds b _)[b]?=_;simp [hlt],hent.mono (fun b' hb=>hw b' fun e=>nx (e ▸ i1.kr b' hb)) (fun _ h=>h),hst⟩,nx⟩
        refine .skip (w':={ c.w with heap:=c.w.heap.setIfInBounds b (.map ents' clock') }) ?_ { c1 with w:={ c1.w with heap:=c1.w.heap.setIfInBounds b (.map ents' clock') } } (by show({ c1.w with heap:=c1.w.heap.setIfInBounds b (.map ents' clock') }:World)=_;rw[w1]) (by rw[hsets_append];exact i2) (.plain (.lit _))
        simp only [execOp,hop,Sem.run_bind,hrun,Sem.run_pure,Result.andThen_ok]
       ·exact hg.elim
      ·exact hg.elim
     ·exact hg.elim
    ·exact hg.elim
   ·exact hg.elim
  ·exact hg.elim
 ·exact hg.elim
end
end Go.Sym
