/- Calls: what is handed on. -/
import Derived.Test.YtjlefaabcalkkaaGreatDoorJ2
import Derived.Orders
import Derived.ScopeJumps
import Derived.Laws.StructEq
set_option linter.all false
set_option linter.unusedVariables false
set_option linter.unusedSimpArgs false
namespace Go.Sym
open Go
section
variable {P:Program} {fc:FC} {c:RC} {st:ASt} {a:Act} {o:Oper} {E:Env} {F:FnT} {v:PV} {u:List (Nat×Sym.Obj)}
def lend (c:RC) (X:Nat→Prop):RC:={ c with Xr:=fun b=>c.Xr b∨X b }
theorem lend_le {c d:RC} {X Y:Nat→Prop} (h:c.le d) (hw:d.w=c.w) (hX:∀ b,X b→Y b):(lend c X).le (lend d Y) :=
 ⟨fun b _=>by show d.w.heap[b]?=c.w.heap[b]?;rw[hw],h.xk,fun b hb=>hb.imp (h.xr b) (hX b),fun b hb=>.inl (h.kr b hb),h.dom,h.hd⟩
theorem le_lend {c:RC} (kr:∀ b,c.Xk b→c.Xr b) (X:Nat→Prop):c.le (lend c X) :=
 ⟨fun _ _=>rfl,fun _ h=>h,fun _ h=>.inl h,kr,fun _ h=>h,fun _ _=>rfl⟩
def LB (look:Nat→Option Sym.Obj) (θ:Nat→Hd) (ls:List Nat) (b:Nat):Prop :=
 ∃ t∈ls,∃ nn cap sz rows,look t=some (.arr nn cap sz rows)∧blk (θ t).val=some b
theorem cells_vals {w:World} {X:Nat→Prop} {ad:Addr} {sz:Nat} {rows:List (List PV)} (C:CellsAt w X ad sz rows) :
  ∃ vals:Nat→Nat→Value,(∀ i j,i<rows.length→j<sz→w.cell? ⟨ad.block,ad.off+(i * sz+j),none⟩=some (vals i j))∧(∀ i j,i<rows.length→j<sz→(vals i j).oneCell'=true) ∧
   ∀ (i j:Nat) r x,rows[i]?=some r→r[j]?=some x→PRep w X x (vals i j):=by
 have key:∀ i j,i<rows.length→j<sz→∃ r x v,rows[i]?=some r∧r[j]?=some x∧w.cell? ⟨ad.block,ad.off+(i * sz+j),none⟩=some v∧PRep w X x v∧v.oneCell'=true:=by
  intro i j hi hj
  have hr:rows[i]?=some rows[i]:=by simp [hi]
  have hl:=C.hs _ (List.mem_of_getElem? hr)
  have hx:rows[i][j]?=some (rows[i][j]'(by omega)):=by simp
  obtain⟨v,h1,h2,h3⟩:=C.cell i j _ _ hr hx
  exact⟨_,_,v,hr,hx,h1,h2,h3⟩
 refine⟨fun i j=>(w.cell? ⟨ad.block,ad.off+(i * sz+j),none⟩).getD default,fun i j hi hj=>?_,fun i j hi hj=>?_,fun i j r x hr hx=>?_⟩
 ·obtain⟨_,_,v,_,_,h1,_⟩:=key i j hi hj;simp [h1]
 ·obtain⟨_,_,v,_,_,h1,_,h3⟩:=key i j hi hj;simp [h1,h3]
 ·obtain⟨v,h1,h2,_⟩:=C.cell i j r x hr hx
  simp only [h1,Option.getD_some]
  exact h2
theorem part_rep (h:Inv fc c st a) {t:Nat} {full:Bool} {lo n nn sz:Nat} {cap:Option Nat} {rows:List (List PV)} {vy:Value} (hy:Rep c (.sub t full lo n) vy) (ho:hget st.heap t=some (.arr nn cap sz rows)∨hget st.heap t=some (.frz nn sz rows))
  (X:Nat→Prop) (hX:∀ b,blk (c.θ t).val=some b→X b):Rep (lend c X) (.sl true 0 full sz ((rows.drop lo).take n)) vy∧((∀ b,0<rows.length→blk (c.θ t).val=some b→c.Xk b)→PRep c.w c.Xk (.sl false 0 full sz ((rows.drop lo).take n)) vy):=by
 obtain⟨hz,_⟩:=header h ho
 cases hy with
 | plain p=>cases p
 | subnil=>rw[List.take_zero];exact⟨.slbnil full sz,fun _=>.slnil full sz⟩
 | sub _ _ _ _ b off len cap0 cap' ad hdm hv' hn hf hgg ha hl =>
  rcases ref_cells h ho with ⟨e,_⟩ | ⟨b2,off2,k2,hv2,C,_,_⟩
  ·rw[hv'] at e;cases e
  ·rw[hv'] at hv2
   injection hv2 with e1 e2 e3
   injection e1 with e1
   injection e1 with e4 e5
   subst e4;subst e5;subst e2
   have hlen:((rows.drop lo).take n).length=n:=by simp;omega
   have C:=C.sub hl
   have had:0<n→ad=⟨b,off+lo * sz,none⟩:=fun hp=>by have:=ha (.inl (by omega));rw[hz] at this;exact this
   obtain⟨vals,q1,q2,q3⟩:=cells_vals C
   rw[hlen] at q1 q2
   refine⟨.slb 0 full _ ad n cap' sz vals hlen hn hf (by simp) (fun hp=>?_) C.hs (fun i j hi hj=>?_) q2 q3,fun hk=>.sl 0 full _ ad n cap' sz vals hlen hn hf (by simp) (fun hp=>?_) C.hs (fun i j hi hj=>?_) q2 q3⟩
   ·rw[had hp];exact⟨.inr (hX b (by rw[hv'];rfl)),rfl⟩
   ·have:=had (by omega);rw[this];exact q1 i j hi hj
   ·rw[had hp];exact⟨hk b (by omega) (by rw[hv'];rfl),rfl⟩
   ·have:=had (by omega);rw[this];exact q1 i j hi hj
theorem frz_xk (h:Inv fc c st a) {t nn sz:Nat} {rows:List (List PV)} (ho:hget st.heap t=some (.frz nn sz rows)):∀ b,0<rows.length→blk (c.θ t).val=some b→c.Xk b:=by
 intro b hpos hb
 obtain⟨_,hp,_⟩:=h.obj t _ ho
 generalize (c.θ t).val=val at hp hb
 cases hp with
 | slnil=>simp at hpos
 | sl _ _ _ ad n cap _ vals hn hc hf h2 hX =>
  obtain rfl:ad.block=b:=by simpa [blk] using hb
  exact(hX (by omega)).1
structure Handed (fc:FC) (c:RC) (st:ASt) (a:Act) (look:Nat→Option Sym.Obj) (c':RC) (u:List (Nat×Sym.Obj)) (ls:List Nat):Prop where
 w:c'.w=c.w
 θ:c'.θ=c.θ
 le:c.le c'
 inv:Inv fc c' { st with heap:=hsets st.heap u } a
 look:LookF look (hsets st.heap u)
 same:∀ l,(l ∉ ls∨hget st.heap l=none)→hget (hsets st.heap u) l=hget st.heap l
theorem Handed.refl (h:Inv fc c st a) {look:Nat→Option Sym.Obj} (hl:LookF look st.heap) (ls:List Nat):Handed fc c st a look c [] ls:=⟨rfl,rfl,.refl h.kr,h,hl,fun _ _=>rfl⟩
theorem LookF.get {look:Nat→Option Sym.Obj} {heap:Heap} (hl:LookF look heap) {t nn sz:Nat} {cap:Option Nat} {rows:List (List PV)} (h:look t=some (.arr nn cap sz rows)):hget heap t=some (.arr nn cap sz rows)∨hget heap t=some (.frz nn sz rows):=by
 rcases hl _ _ h with hh | ⟨_,_,_,_,e,hh⟩
 ·exact .inl hh
 ·obtain⟨rfl,rfl,rfl,rfl⟩:=Obj.arr.inj e;exact .inr hh
theorem LookF.frz {look:Nat→Option Sym.Obj} {heap:Heap} (hl:LookF look heap) {t nn sz:Nat} {rows:List (List PV)} (h:look t=some (.frz nn sz rows)):hget heap t=some (.frz nn sz rows):=by
 rcases hl _ _ h with hh | ⟨_,_,_,_,e,hh⟩
 ·exact hh
 ·cases e
theorem passCell_ok (h:Inv fc c st a) {look:Nat→Option Sym.Obj} (hl:LookF look st.heap) {m:Mode} {x:PV} {vx:Value} (hx:Rep c x vx) {k:PV→List (Nat×Sym.Obj)→List Nat→ORes} (hg:(passCell look m x k).gives F v u) :
  ∃ y u1 l1 c',(k y u1 l1).gives F v u∧Handed fc c st a look c' u1 l1∧Rep (lend c' (LB look c.θ l1)) y vx:=by
 have freeze:∀ {t nn sz:Nat} {cap:Option Nat} {rows:List (List PV)},look t=some (.arr nn cap sz rows)→∃ c',Handed fc c st a look c' [(t,.frz nn sz rows)] [t]∧hget (hsets st.heap [(t,.frz nn sz rows)]) t=some (.frz nn sz rows):=by
  intro t nn sz cap rows ht
  have hv:(∃ v,Rep c (.ref t) v):=by
   refine⟨_,.ref t _ ((h.dom t).2 ?_) rfl ?_⟩
   ·rcases hl.get ht with e|e<;>simp [e]
   ·rcases ref_cells h (hl.get ht) with ⟨e,_⟩ | ⟨b,off,k2,hv2,_⟩
    ·rw[e];rfl
    ·rw[hv2];rfl
  obtain⟨v,hv⟩:=hv
  obtain⟨c',h1,h2,h3,h4,_,h5,h6⟩:=plainCell_ok (y:=.sl false nn false sz rows) (u:=[(t,.frz nn sz rows)]) h hl (by simp only [plainCell,ht]) hv
  exact⟨c',⟨h1,h2,h3,h4,h5,fun l hl'=>h6 l (hl'.imp (by simp [PV.locs]) id)⟩,hget_hset_same _ _ _⟩
 unfold passCell at hg
 split at hg
 ·rename_i t
  obtain⟨ev,hD,h1⟩:=hx.ref_inv
  split at hg
  ·rename_i nn cap sz rows ht
   split at hg
   ·refine⟨_,_,_,c,hg,.refl h hl _,?_⟩
    rcases ref_cells h (hl.get ht) with ⟨e,rfl,rfl⟩ | ⟨b,off,k2,hv2,C,h2,hk2⟩
    ·rw[ev,e];exact .slbnil _ _
    ·obtain⟨vals,q1,q2,q3⟩:=cells_vals C
     rw[ev,hv2]
     exact .slb nn false rows _ rows.length k2 sz vals rfl hk2 (by simp) h2 (fun _=>⟨.inr ⟨t,by simp,_,_,_,_,ht,by rw[hv2];rfl⟩,rfl⟩) C.hs q1 q2 q3
   ·exact⟨_,_,_,c,hg,.refl h hl _,hx.mono (le_lend h.kr _)⟩
   ·obtain⟨c',H,ht'⟩:=freeze ht
    refine⟨_,_,_,c',hg,H,?_⟩
    have:=(H.inv.obj t _ ht').2.1
    rw[ev,← H.θ]
    exact .plain this
  ·rename_i nn sz rows ht
   refine⟨_,_,_,c,hg,.refl h hl _,?_⟩
   rw[ev]
   exact .plain (h.obj t _ (hl.frz ht)).2.1
  ·exact hg.elim
 ·rename_i t full lo n
  split at hg
  ·rename_i nn cap sz rows ht
   split at hg
   ·refine⟨_,_,_,c,hg,.refl h hl _,?_⟩
    exact(part_rep h hx (hl.get ht) _ (fun b hb=>⟨t,by simp,_,_,_,_,ht,hb⟩)).1
   ·exact⟨_,_,_,c,hg,.refl h hl _,hx.mono (le_lend h.kr _)⟩
   ·obtain⟨c',H,ht'⟩:=freeze ht
    refine⟨_,_,_,c',hg,H,?_⟩
    exact .plain ((part_rep (cap:=none) H.inv (hx.mono H.le) (.inr ht') (fun _=>True) (fun _ _=>trivial)).2 (frz_xk H.inv ht'))
  ·rename_i nn sz rows ht
   refine⟨_,_,_,c,hg,.refl h hl _,?_⟩
   exact .plain ((part_rep (cap:=none) h hx (.inr (hl.frz ht)) (fun _=>True) (fun _ _=>trivial)).2 (frz_xk h (hl.frz ht)))
  ·exact hg.elim
 ·exact⟨_,_,_,c,hg,.refl h hl _,hx.mono (le_lend h.kr _)⟩
theorem Handed.trans {look:Nat→Option Sym.Obj} {c1 c2:RC} {u1 u2:List (Nat×Sym.Obj)} {l1 l2:List Nat} (h1:Handed fc c st a look c1 u1 l1) (h2:Handed fc c1 { st with heap:=hsets st.heap u1 } a look c2 u2 l2):Handed fc c st a look c2 (u1++u2) (l1++l2):=by
 refine⟨by rw[h2.w,h1.w],by rw[h2.θ,h1.θ],h1.le.trans h2.le,by rw[hsets_append];exact h2.inv,by rw[hsets_append];exact h2.look,fun l hl=>?_⟩
 have e1:=h1.same l (hl.imp (fun h=>fun m=>h (by simp [m])) id)
 rw[hsets_append]
 have e2:=h2.same l (hl.imp (fun h=>fun m=>h (by simp [m])) (fun h=>by show hget (hsets st.heap u1) l=none;rw[e1];exact h))
 rw[e2];exact e1
theorem LB_mono {look:Nat→Option Sym.Obj} {θ:Nat→Hd} {l1 l2:List Nat} (h:∀ t∈l1,t∈l2) {b:Nat} (hb:LB look θ l1 b):LB look θ l2 b:=by
 obtain⟨t,ht,r⟩:=hb
 exact⟨t,h t ht,r⟩
theorem passCells_ok {look:Nat→Option Sym.Obj} {m:Mode}:∀ {xs:List PV} {c:RC} {st:ASt} (_:Inv fc c st a) (_:LookF look st.heap) {vs:Array Value} (_:RepL c xs vs) {k:List PV→List (Nat×Sym.Obj)→List Nat→ORes} (_:(passCells look m xs k).gives F v u),
  ∃ ys u1 l1 c',(k ys u1 l1).gives F v u∧Handed fc c st a look c' u1 l1∧RepL (lend c' (LB look c.θ l1)) ys vs
 | [],c,st,h,hl,vs,hx,k,hg=>⟨[],[],[],c,hg,.refl h hl _,hx.1,by simp⟩
 | x::xs,c,st,h,hl,vs,hx,k,hg=>by
  obtain⟨n,hr⟩:=hx
  match vs,n with
  | ⟨v0::vs⟩,n =>
  simp only [passCells] at hg
  obtain⟨y,u1,l1,c1,g1,H1,r1⟩:=passCell_ok h hl (hr 0 x v0 rfl (by simp)) hg
  have hxs:RepL c xs ⟨vs⟩:=⟨by simpa using n,fun i x' v' q1 q2=>hr (i+1) x' v' (by simpa using q1) (by simpa using q2)⟩
  obtain⟨ys,u2,l2,c2,g2,H2,r2⟩:=passCells_ok H1.inv H1.look (hxs.mono H1.le) g1
  refine⟨y::ys,u1++u2,l1++l2,c2,g2,H1.trans H2,?_⟩
  have e1:=r1.mono (lend_le (Y:=LB look c.θ (l1++l2)) H2.le H2.w (fun b hb=>LB_mono (by simp +contextual) hb))
  have e2:RepL (lend c2 (LB look c.θ (l1++l2))) ys ⟨vs⟩:=r2.mono (lend_le (.refl H2.inv.kr) rfl (fun b hb=>by rw[H1.θ] at hb;exact LB_mono (by simp +contextual) hb))
  refine⟨by simp [e2.1],fun i x' v' q1 q2=>?_⟩
  cases i with
  | zero =>
   simp at q1 q2
   subst q1;subst q2
   exact e1
  | succ i=>exact e2.2 i x' v' (by simpa using q1) (by simpa using q2)
theorem passArg_ok (h:Inv fc c st a) {look:Nat→Option Sym.Obj} (hl:LookF look st.heap) {m:Mode} {x:PV} {vx:Value} (hx:Rep c x vx) {k:PV→List (Nat×Sym.Obj)→List Nat→ORes} (hg:(passArg look m x k).gives F v u) :
  ∃ y u1 l1 c',(k y u1 l1).gives F v u∧Handed fc c st a look c' u1 l1∧Rep (lend c' (LB look c.θ l1)) y vx:=by
 unfold passArg at hg
 split at hg
 ·obtain⟨vs,rfl,hr⟩:=hx.agg_inv
  obtain⟨ys,u1,l1,c1,g1,H1,r1⟩:=passCells_ok h hl hr hg
  exact⟨_,u1,l1,c1,g1,H1,.agg ys vs r1.1 r1.2⟩
 ·exact passCell_ok h hl hx hg
theorem passArgs_ok {look:Nat→Option Sym.Obj}:∀ {ms:List Mode} {xs:List PV} {c:RC} {st:ASt} (_:Inv fc c st a) (_:LookF look st.heap) {vs:Array Value} (_:RepL c xs vs) {k:List PV→List (Nat×Sym.Obj)→List Nat→ORes} (_:(passArgs look ms xs k).gives F v u),
  ∃ ys u1 l1 c',(k ys u1 l1).gives F v u∧Handed fc c st a look c' u1 l1∧RepL (lend c' (LB look c.θ l1)) ys vs
 | ms,[],c,st,h,hl,vs,hx,k,hg=>⟨[],[],[],c,by simpa [passArgs] using hg,.refl h hl _,hx.1,by simp⟩
 | ms,x::xs,c,st,h,hl,vs,hx,k,hg=>by
  obtain⟨n,hr⟩:=hx
  match vs,n with
  | ⟨v0::vs⟩,n =>
  simp only [passArgs] at hg
  obtain⟨y,u1,l1,c1,g1,H1,r1⟩:=passArg_ok h hl (hr 0 x v0 rfl (by simp)) hg
  have hxs:RepL c xs ⟨vs⟩:=⟨by simpa using n,fun i x' v' q1 q2=>hr (i+1) x' v' (by simpa using q1) (by simpa using q2)⟩
  obtain⟨ys,u2,l2,c2,g2,H2,r2⟩:=passArgs_ok H1.inv H1.look (hxs.mono H1.le) g1
  refine⟨y::ys,u1++u2,l1++l2,c2,g2,H1.trans H2,?_⟩
  have e1:=r1.mono (lend_le (Y:=LB look c.θ (l1++l2)) H2.le H2.w (fun b hb=>LB_mono (by simp +contextual) hb))
  have e2:RepL (lend c2 (LB look c.θ (l1++l2))) ys ⟨vs⟩:=r2.mono (lend_le (.refl H2.inv.kr) rfl (fun b hb=>by rw[H1.θ] at hb;exact LB_mono (by simp +contextual) hb))
  refine⟨by simp [e2.1],fun i x' v' q1 q2=>?_⟩
  cases i with
  | zero =>
   simp at q1 q2
   subst q1;subst q2
   exact e1
  | succ i=>exact e2.2 i x' v' (by simpa using q1) (by simpa using q2)
end
end Go.Sym
namespace Go.Sym
open Go
/-! ### Renaming -/
theorem renL_get (g:Nat→Nat):∀ (l:List PV) (i:Nat),(renL g l)[i]?=(l[i]?).map (PV.ren g)
 | [],i=>by simp [renL]
 | x::r,0=>by simp [renL]
 | x::r,i+1=>by simp [renL,renL_get g r i]
theorem length_renL (g:Nat→Nat):∀ l:List PV,(renL g l).length=l.length
 | []=>rfl
 | x::r=>by simp [renL,length_renL g r]
theorem mem_locsL {l:List PV} {i:Nat} {x:PV} (h:l[i]?=some x) {k:Nat} (hk:k∈x.locs):k∈locsL l:=by
 induction l generalizing i with
 | nil=>simp at h
 | cons y r ih =>
  simp only [locsL,List.mem_append]
  cases i with
  | zero=>simp at h;subst h;exact .inl hk
  | succ i=>exact .inr (ih (by simpa using h))
theorem noBorL_get {l:List PV} {i:Nat} {x:PV} (h:l[i]?=some x) (hb:noBorL l=true):noBor x=true:=by
 induction l generalizing i with
 | nil=>simp at h
 | cons y r ih =>
  simp only [noBorL,Bool.and_eq_true] at hb
  cases i with
  | zero=>simp at h;subst h;exact hb.1
  | succ i=>exact ih (by simpa using h) hb.2
theorem PRep.ren {w:World} {X:Nat→Prop} {x:PV} {v:Value} (g:Nat→Nat) (h:PRep w X x v):x.ren g=x:=by cases h<;>simp [PV.ren]
theorem Rep.ren {c d:RC} {g:Nat→Nat} (hw:d.w=c.w) (hk:∀ b,c.Xk b→d.Xk b) {x:PV} {v:Value} (h:Rep c x v) :
  ((∀ b,c.Xr b→d.Xr b)∨noBor x=true)→(∀ l∈x.locs,c.D l→d.D (g l)∧d.θ (g l)=c.θ l)→Rep d (x.ren g) v:=by
 have kk:∀ b,c.Xk b→d.w.heap[b]?=c.w.heap[b]?:=fun b _=>by rw[hw]
 induction h with
 | plain p=>intro _ _;rw[p.ren];exact .plain (p.mono kk hk)
 | lit v=>intro _ _;exact .lit v
 | top v=>intro _ _;exact .top v
 | slbnil full sz=>intro _ _;exact .slbnil full sz
 | slb nn full rows a n cap sz vals hn hc hf h2 hX hs' hcell h1 hrep =>
  intro hr _
  rcases hr with hr|hr
  ·exact .slb nn full rows a n cap sz vals hn hc hf h2 (fun h'=>⟨hr _ (hX h').1,(hX h').2⟩) hs' (fun i j hi hj=>by rw[hw];exact hcell i j hi hj) h1 (fun i j r x h1 h2=>(hrep i j r x h1 h2).mono kk hk)
  ·simp [noBor] at hr
 | ref t v hd hv h1 =>
  intro _ hl
  obtain⟨e1,e2⟩:=hl t (by simp [PV.locs]) hd
  exact .ref _ v e1 (by rw[e2];exact hv) h1
 | subnil t full lo len cap hd hv =>
  intro _ hl
  obtain⟨e1,e2⟩:=hl t (by simp [PV.locs]) hd
  exact .subnil _ full lo len cap e1 (by rw[e2];exact hv)
 | sub t full lo n b o len cap cap' a hd hv hn hf hg ha hl' =>
  intro _ hl
  obtain⟨e1,e2⟩:=hl t (by simp [PV.locs]) hd
  exact .sub _ full lo n b o len cap cap' a e1 (by rw[e2];exact hv) hn hf hg (by rw[e2];exact ha) hl'
 | spare t b o len cap lo n cap' a hd hv ha hl' hn =>
  intro _ hl
  obtain⟨e1,e2⟩:=hl t (by simp [PV.locs]) hd
  exact .spare _ b o len cap lo n cap' a e1 (by rw[e2];exact hv) (by rw[e2];exact ha) hl' hn
 | ptr l off b hd hv =>
  intro _ hl
  obtain⟨e1,e2⟩:=hl l (by simp [PV.locs]) hd
  exact .ptr _ off b e1 (by rw[e2];exact hv)
 | ep row off b o vals hX hcell h1 hrep =>
  intro hr _
  rcases hr with hr|hr
  ·exact .ep row off b o vals (hr _ hX) (fun j hj=>by rw[hw];exact hcell j hj) h1 (fun j x hj=>(hrep j x hj).mono kk hk)
  ·simp [noBor] at hr
 | er t i off b o len cap hd hv hi =>
  intro _ hl
  obtain⟨e1,e2⟩:=hl t (by simp [PV.locs]) hd
  have:=Rep.er (c:=d) (g t) i off b o len cap e1 (by rw[e2];exact hv) hi
  rwa [e2] at this
 | ifc t v=>intro _ _;exact .ifc t v
 | mp t b hd hv =>
  intro _ hl
  obtain⟨e1,e2⟩:=hl t (by simp [PV.locs]) hd
  exact .mp _ b e1 (by rw[e2];exact hv)
 | fn f first caps fv cv h1 h2 _ _ ih1 ih2 =>
  intro hr hl
  refine .fn f _ _ fv cv (by rw[length_renL];exact h1) (by rw[length_renL];exact h2) (fun i x v p q=>?_) (fun i x v p q=>?_)
  ·rw[renL_get] at p
   cases hx:first[i]? with
   | none=>simp [hx] at p
   | some y =>
    simp only [hx,Option.map_some,Option.some.injEq] at p
    subst p
    exact ih1 i y v hx q (hr.imp id fun hb=>by simp only [noBor,Bool.and_eq_true] at hb;exact noBorL_get hx hb.1) fun l hl'=>hl l (by simp only [PV.locs,List.mem_append];exact .inl (mem_locsL hx hl'))
  ·rw[renL_get] at p
   cases hx:caps[i]? with
   | none=>simp [hx] at p
   | some y =>
    simp only [hx,Option.map_some,Option.some.injEq] at p
    subst p
    exact ih2 i y v hx q (hr.imp id fun hb=>by simp only [noBor,Bool.and_eq_true] at hb;exact noBorL_get hx hb.2) fun l hl'=>hl l (by simp only [PV.locs,List.mem_append];exact .inr (mem_locsL hx hl'))
 | agg cs vs h1 _ ih =>
  intro hr hl
  refine .agg _ vs (by rw[length_renL];exact h1) (fun i x v p q=>?_)
  rw[renL_get] at p
  cases hx:cs[i]? with
  | none=>simp [hx] at p
  | some y =>
   simp only [hx,Option.map_some,Option.some.injEq] at p
   subst p
   exact ih i y v hx q (hr.imp id fun hb=>by simp only [noBor] at hb;exact noBorL_get hx hb) fun l hl'=>hl l (mem_locsL hx hl')
 | tup cs vs h1 _ ih =>
  intro hr hl
  refine .tup _ vs (by rw[length_renL];exact h1) (fun i x v p q=>?_)
  rw[renL_get] at p
  cases hx:cs[i]? with
  | none=>simp [hx] at p
  | some y =>
   simp only [hx,Option.map_some,Option.some.injEq] at p
   subst p
   exact ih i y v hx q (hr.imp id fun hb=>by simp only [noBor] at hb;exact noBorL_get hx hb) fun l hl'=>hl l (mem_locsL hx hl')
theorem ren_live (g:Nat→Nat) (o:Sym.Obj):(o.ren g).live ↔ o.live:=by cases o<;>exact Iff.rfl
theorem ORel.ren {c d : RC} {g : Nat → Nat} (hw : d.w = c.w) (hk : ∀ b, c.Xk b → d.Xk b) {l l' : Nat} {o : Sym.Obj} (hθ : d.θ l' = c.θ l) (hx : ∀ b, o.live → blk (c.θ l).val = some b → ¬ d.Xr b)
    (hr : (∀ b, c.Xr b → d.Xr b) ∨ (∀ cs, (o = .box cs ∨ ∃ nn sz rows i, o = .arrx nn sz rows i cs) → noBorL cs = true)) (hl : ∀ k ∈ o.locs, c.D k → d.D (g k) ∧ d.θ (g k) = c.θ k) (h : ORel c l o) : ORel d l' (o.ren g) := by
  have kk : ∀ b, c.Xk b → d.w.heap[b]? = c.w.heap[b]? := fun b _ => by rw [hw]
  cases o with
  | box cs =>
    obtain ⟨b, arr, e, fr, h1, h2, h3, h4, h7, h5, h6⟩ := h
    refine ⟨b, arr, e, fr, by rw [hθ]; exact h1, by rw [hw]; exact h2, fun j hj => by rw [hw]; exact h3 j hj, by rw [length_renL]; exact h4, h7, fun j x v hx' hv => ?_, hx b trivial (by rw [h1]; rfl)⟩
    rw [renL_get] at hx'
    cases hy : cs[j]? with
    | none => simp [hy] at hx'
    | some y =>
      simp only [hy, Option.map_some, Option.some.injEq] at hx'
      subst hx'
      exact (h5 j y v hy hv).ren hw hk (hr.imp id fun hb => noBorL_get hy (hb cs (.inl rfl))) fun k hk' => hl k (mem_locsL hy hk')
  | arr nn cap sz rows =>
    obtain ⟨hz, h⟩ := h
    refine ⟨by rw [hθ]; exact hz, ?_⟩
    rcases h with ⟨h1, h2⟩ | ⟨b, o, cap', h1, h2, h3, h4, h5, h6⟩
    · exact .inl ⟨by rw [hθ]; exact h1, h2⟩
    · exact .inr ⟨b, o, cap', by rw [hθ]; exact h1, h2, h3, by rw [hw]; exact h4, h5.mono (by rw [hw]) kk hk, hx b trivial (by rw [h1]; rfl)⟩
  | frz nn sz rows =>
    obtain ⟨hz, h1, h3⟩ := h
    exact ⟨by rw [hθ]; exact hz, by rw [hθ]; exact h1.mono kk hk, by rw [hθ]; exact h3⟩
  | map kk' es =>
    obtain ⟨b, ents, clock, h1, h2, h3⟩ := h
    exact ⟨b, ents, clock, by rw [hθ]; exact h1, h2.mono (by rw [hw]) kk hk, hx b trivial (by rw [h1]; rfl)⟩
  | arrx nn sz rows k ro =>
    obtain ⟨hz, b, o, cap', h1, h2, A, h4⟩ := h
    refine ⟨by rw [hθ]; exact hz, b, o, cap', by rw [hθ]; exact h1, by rw [hw]; exact h2, ?_, hx b trivial (by rw [h1]; rfl)⟩
    refine ⟨A.hn, A.hc, A.hs, A.hk, by rw [length_renL]; exact A.hro, fun j hj => by rw [hw]; exact A.room j hj, fun i j r x v h0 q1 q2 q3 => by rw [hw] at q3; exact (A.rep i j r x v h0 q1 q2 q3).mono kk hk, fun j x v q1 q2 => ?_, fun hz t n hsh => by rw [hw] at hsh ⊢; exact A.endok hz t n hsh⟩
    rw [hw] at q2
    rw [renL_get] at q1
    cases hy : ro[j]? with
    | none => simp [hy] at q1
    | some y =>
      simp only [hy, Option.map_some, Option.some.injEq] at q1
      subst q1
      exact (A.orep j y v hy q2).ren hw hk (hr.imp id fun hb => noBorL_get hy (hb ro (.inr ⟨_, _, _, _, rfl⟩))) fun k hk' => hl k (mem_locsL hy hk')
  | dead => trivial
/-! ### Heaps as lists -/
def heapOf:Nat→List Sym.Obj→Heap
 | _,[]=>[]
 | i,o::r=>(i,o)::heapOf (i+1) r
theorem hget_heapOf:∀ (l:List Sym.Obj) (k i:Nat),hget (heapOf k l) i=if k≤i then l[i-k]? else none
 | [],k,i=>by simp [heapOf,hget]
 | o::r,k,i=>by
  simp only [heapOf,hget]
  cases hb:Nat.beq k i with
  | true =>
   obtain rfl:=Nat.eq_of_beq_eq_true hb
   simp
  | false =>
   have hne:k≠i:=fun e=>by subst e;simp at hb
   simp only
   rw[hget_heapOf r (k+1) i]
   by_cases h:k+1≤i
   ·rw[if_pos h,if_pos (by omega),show i-k=(i-(k+1))+1 by omega,List.getElem?_cons_succ]
   ·rw[if_neg h,if_neg (by omega)]
theorem hget_heapOf0 (l:List Sym.Obj) (i:Nat):hget (heapOf 0 l) i=l[i]?:=by rw[hget_heapOf];simp
theorem hget_backU (g : Nat → Nat) : ∀ (H : List Sym.Obj) (k : Nat) (h : Heap), (∀ i j, k ≤ i → i < k + H.length → k ≤ j → j < k + H.length → g i = g j → i = j) →
    (∀ i o, H[i]? = some o → hget (hsets h (backU g k H)) (g (k + i)) = some (o.ren g)) ∧ ∀ l, (∀ i, i < H.length → l ≠ g (k + i)) → hget (hsets h (backU g k H)) l = hget h l
  | [], k, h, _ => ⟨by simp, fun _ _ => rfl⟩
  | o :: r, k, h, hi => by
    obtain ⟨h1, h2⟩ := hget_backU g r (k + 1) (hset h (g k) (o.ren g)) (fun i j a1 a2 a3 a4 => hi i j (by omega) (by simp; omega) (by omega) (by simp; omega))
    refine ⟨fun i o' ho => ?_, fun l hl => ?_⟩
    · cases i with
      | zero =>
        simp at ho
        subst ho
        show hget (hsets (hset h (g k) (o.ren g)) (backU g (k + 1) r)) (g (k + 0)) = _
        rw [h2 _ (fun i hi' e => by have := hi (k + 0) (k + 1 + i) (by omega) (by simp) (by omega) (by simp; omega) e; omega)]
        exact hget_hset_same _ _ _
      | succ i =>
        have := h1 i o' (by simpa using ho)
        rw [show k + (i + 1) = k + 1 + i by omega]
        exact this
    · show hget (hsets (hset h (g k) (o.ren g)) (backU g (k + 1) r)) l = _
      rw [h2 l (fun i hi' => by have := hl (i + 1) (by simp; omega); rwa [show k + (i + 1) = k + 1 + i by omega] at this)]
      exact hget_hset_ne _ _ (hl 0 (by simp))
/-! ### The contract of a function -/
def act0:Act:={ tmps:=#[],defers:=[] }
def FC.enter (c:RC) (H:List Sym.Obj):FC :=
 { w0:=c.w,B:=fun b=>∃ i o,H[i]?=some o∧o.live∧blk (c.θ i).val=some b,Xk0:=c.Xk,Xr0:=c.Xr,n0:=H.length,θ0:=c.θ }
structure FnB (P : Program) (f : Nat) (args : List PV) (H : List Sym.Obj) (res : List PV) (H' : List Sym.Obj) : Prop where
  fn : ∃ fn, P.funcs[f]? = some fn ∧ fn.name ≠ "runtime.NumGoroutine" ∧ fn.body.isSome = true
  run : ∀ (c : RC) (vs : Array Value), H.length ≤ 64 → Inv (FC.enter c H) c ⟨[], heapOf 0 H⟩ act0 → RepL c args vs →
    Calls P f vs c.w fun
      | .returned v, w' => ∃ c', c'.w = w' ∧ Inv (FC.enter c H) c' ⟨[], heapOf 0 H'⟩ act0 ∧ Rep c' (packRes res) v
      | _, _ => False
structure FnX (P:Program) (f:Nat) (args:List PV) (H:List Sym.Obj) (res:List PV) (H':List Sym.Obj):Prop where
 same:H'=H
 run:∀ (c:RC) (vs:Array Value),H.length≤64→Inv (FC.enter c H) c ⟨[],heapOf 0 H⟩ act0→RepL c args vs→∃ v,(callFunc f vs).run P c.w=.ok (.value v) c.w∧Rep c (packRes res) v
def Fn (P:Program):FnT:=fun f args H res H'=>FnB P f args H res H'∨FnX P f args H res H'
end Go.Sym
namespace Go.Sym
open Go
theorem gather_nodup (look:Nat→Option Sym.Obj):∀ (k:Nat) (ws acc:List Nat),acc.Nodup→(gather k ws look acc).Nodup
 | 0,_,acc,h=>by simpa [gather] using h
 | k+1,[],acc,h=>by simpa [gather] using h
 | k+1,l::ws,acc,h=>by
  simp only [gather]
  split
  ·exact gather_nodup look k ws acc h
  ·rename_i hm
   refine gather_nodup look k _ _ ?_
   rw[List.nodup_append]
   refine⟨h,by simp,fun x hx y hy=>?_⟩
   simp at hy
   subst hy
   rintro rfl
   rw[memN_iff.2 hx] at hm
   cases hm
theorem inAll_iff {L:List Nat}:∀ {l:List Nat},inAll L l=true→∀ x∈l,x∈L
 | [],_,x,hx=>by simp at hx
 | y::r,h,x,hx=>by
  simp only [inAll] at h
  split at h
  ·rename_i hm
   rcases List.mem_cons.1 hx with rfl|hx
   ·exact memN_iff.1 hm
   ·exact inAll_iff h x hx
  ·cases h
theorem outAll_iff {L:List Nat}:∀ {l:List Nat},outAll L l=true→∀ x∈l,x ∉ L
 | [],_,x,hx=>by simp at hx
 | y::r,h,x,hx=>by
  simp only [outAll] at h
  split at h
  ·cases h
  ·rename_i hm
   rcases List.mem_cons.1 hx with rfl|hx
   ·intro h2;rw[memN_iff.2 h2] at hm;cases hm
   ·exact outAll_iff h x hx
theorem closedIn_iff {look:Nat→Option Sym.Obj} {L:List Nat}:∀ {l:List Nat},closedIn look L l=true→∀ x∈l,∀ o,look x=some o→∀ k∈o.locs,k∈L
 | [],_,x,hx=>by simp at hx
 | y::r,h,x,hx=>by
  simp only [closedIn] at h
  split at h
  ·rename_i hm
   rcases List.mem_cons.1 hx with rfl|hx
   ·intro o ho k hk
    refine inAll_iff hm k ?_
    simp only [locsAt,ho];exact hk
   ·exact closedIn_iff h x hx
  ·cases h
theorem idxN_get {L:List Nat} {l:Nat} (h:l∈L):L[idxN L l]?=some l:=by
 induction L with
 | nil=>simp at h
 | cons k r ih =>
  simp only [idxN]
  cases hb:Nat.beq k l with
  | true=>obtain rfl:=Nat.eq_of_beq_eq_true hb;simp
  | false =>
   rcases List.mem_cons.1 h with rfl|h
   ·simp at hb
   ·simpa using ih h
theorem backN_lt (base:Nat):∀ {L:List Nat} {i:Nat},i<L.length→L[i]?=some (backN base L i)
 | [],i,h=>by simp at h
 | k::r,0,_=>by simp [backN]
 | k::r,i+1,h=>by simpa [backN] using backN_lt base (L:=r) (i:=i) (by simpa using h)
theorem backN_ge (base:Nat):∀ {L:List Nat} {i:Nat},L.length≤i→backN base L i=base+(i-L.length)
 | [],i,h=>by simp [backN]
 | k::r,0,h=>by simp at h
 | k::r,i+1,h=>by simp only [backN,List.length_cons,Nat.add_sub_add_right];exact backN_ge base (L:=r) (i:=i) (by simpa using h)
theorem objsOf_get (look:Nat→Option Sym.Obj) (g:Nat→Nat):∀ (L:List Nat) (i:Nat),(objsOf look g L)[i]?=(L[i]?).map fun l=>match look l with
  | some o=>o.ren g
  | none=>.dead
 | [],i=>by simp [objsOf]
 | k::r,0=>by simp [objsOf];cases look k<;>rfl
 | k::r,i+1=>by simp [objsOf,objsOf_get look g r i]
theorem length_objsOf (look:Nat→Option Sym.Obj) (g:Nat→Nat):∀ L:List Nat,(objsOf look g L).length=L.length
 | []=>rfl
 | k::r=>by simp [objsOf,length_objsOf look g r]
theorem freshOk_iff {look:Nat→Option Sym.Obj}:∀ {n b:Nat},freshOk look n b=true→∀ j,j<n→look (b+j)=none
 | 0,b,_,j,hj=>by omega
 | n+1,b,h,j,hj=>by
  simp only [freshOk] at h
  split at h
  ·rename_i hb
   cases j with
   | zero=>exact hb
   | succ j=>rw[show b+(j+1)=b+1+j by omega];exact freshOk_iff h j (by omega)
  ·cases h
theorem noBorO_get {l:List Sym.Obj} {i:Nat} {cs:List PV} (h:l[i]?=some (.box cs)∨∃ nn sz rows k,l[i]?=some (.arrx nn sz rows k cs)) (hb:noBorO l=true):noBorL cs=true:=by
 induction l generalizing i with
 | nil=>simp at h
 | cons y r ih =>
  simp only [noBorO,Bool.and_eq_true] at hb
  cases i with
  | zero =>
   rcases h with h | ⟨_,_,_,_,h⟩
   ·simp at h;subst h;exact hb.1
   ·simp at h;subst h;exact hb.1
  | succ i=>exact ih (by simpa using h) hb.2
theorem noBor_pack {res:List PV} (h:noBorL res=true):noBor (packRes res)=true:=by
 match res,h with
 | [],_=>rfl
 | [x],h=>simpa [packRes,noBorL] using h
 | x::y::r,h=>simpa [packRes,noBor] using h
section
variable {P:Program} {fc:FC} {c:RC} {st:ASt} {a:Act} {o:Oper} {E:Env} {v:PV} {u:List (Nat×Sym.Obj)}
def inner (c:RC) (look:Nat→Option Sym.Obj) (L ls:List Nat):RC :=
 { w:=c.w,Xk:=c.Xk,Xr:=fun b=>c.Xr b∨LB look c.θ ls b,D:=fun i=>i<L.length,θ:=fun i=>c.θ (L[i]?.getD 0) }
theorem enter_inv {c0:RC} (h0:Inv fc c0 st a) {look:Nat→Option Sym.Obj} (hlook:∀ l x,look l=some x→hget st.heap l=some x) {u1:List (Nat×Sym.Obj)} {ls L:List Nat} (H1:Handed fc c0 st a look c u1 ls)
  (hnd:L.Nodup) (hcl:closedIn look L L=true) (hout:outAll L ls=true) :
  Inv (FC.enter (inner c look L ls) (objsOf look (idxN L) L)) (inner c look L ls) ⟨[],heapOf 0 (objsOf look (idxN L) L)⟩ act0:=by
 have i1:=H1.inv
 have hget1:∀ l∈L,∀ x,look l=some x→hget (hsets st.heap u1) l=some x:=fun l hl x hx=>by
  rw[H1.same l (.inl fun hm=>outAll_iff hout l hm hl)]
  exact hlook l x hx
 have hobj:∀ (i:Nat) x,(objsOf look (idxN L) L)[i]?=some x→∃ l:Nat,L[i]?=some l∧((∃ y,look l=some y∧x=y.ren (idxN L))∨x=.dead):=by
  intro i x hx
  rw[objsOf_get] at hx
  cases hl:L[i]? with
  | none=>simp [hl] at hx
  | some l =>
   simp only [hl,Option.map_some,Option.some.injEq] at hx
   refine⟨l,rfl,?_⟩
   cases ho:look l with
   | none=>simp only [ho] at hx;exact .inr hx.symm
   | some y=>simp only [ho] at hx;exact .inl ⟨y,rfl,hx.symm⟩
 have lbx:∀ b,LB look c.θ ls b→∃ t∈ls,∃ x,hget st.heap t=some x∧x.live∧blk (c0.θ t).val=some b:=by
  rintro b ⟨t,ht,nn,cap,sz,rows,h1,h2⟩
  exact⟨t,ht,_,hlook _ _ h1,trivial,by rw[← H1.θ];exact h2⟩
 have hθ:∀ (i l:Nat),L[i]?=some l→(inner c look L ls).θ i=c.θ l:=fun i l hl=>by simp [inner,hl]
 refine { lb:=fun b hb=>.inl (i1.lb b hb),lok:=i1.lok,kr:=fun b hb=>.inl (i1.kr b hb),xlt:=?_,dom:=?_,obj:=?_,dis:=?_,tsz:=rfl,tmp:=by simp,nod:=rfl,size:=Nat.le_refl _,same:=fun _ _ _=>rfl,os:=rfl,tape:=rfl,out:=rfl,xk0:=fun _ h=>h,xr0:=fun _ h=>h,xkn:=fun _ h=>.inl h,xrn:=fun _ h=>.inl h,par:=fun _ _=>rfl,pdom:=?_,own:=?_ }
 ·rintro b (hb|hb)
  ·exact i1.xlt b hb
  ·obtain⟨t,_,x,hx,hlv,hbk⟩:=lbx b hb
   have:=(h0.obj t x hx).block_lt hlv hbk
   rw[← H1.w] at this
   exact this
 ·intro i
  rw[hget_heapOf0,objsOf_get]
  show i<L.length ↔ _
  simp
 ·intro i x hx
  rw[hget_heapOf0] at hx
  obtain⟨l,hl,⟨y,hy,rfl⟩|rfl⟩:=hobj i x hx
  ·have hlm:l∈L:=List.mem_of_getElem? hl
   refine ORel.ren (c:=c) (d:=inner c look L ls) (g:=idxN L) (l:=l) (l':=i) rfl (fun _ h=>h) (hθ i l hl) (fun b hlv hbk=>?_) (.inl fun b hb=>.inl hb) (fun k hk _=>?_) (i1.obj l y (hget1 l hlm y hy))
   ·rintro (hb|hb)
    ·exact(i1.obj l y (hget1 l hlm y hy)).not_xr hlv hbk hb
    ·obtain⟨t,ht,z,hz,hlz,hbz⟩:=lbx b hb
     rw[H1.θ] at hbk
     exact h0.dis l t y z b (hlook l y hy) hz hlv hlz (fun e=>outAll_iff hout t ht (e ▸ hlm)) hbk hbz
   ·have hkL:=closedIn_iff hcl l hlm y hy k hk
    have:=idxN_get hkL
    exact⟨(List.getElem?_eq_some_iff.1 this).1,hθ _ k this⟩
  ·trivial
 ·intro i j x y b hx hy hlx hly hne hbx hby
  rw[hget_heapOf0] at hx hy
  obtain⟨l,hl,⟨x',hx',rfl⟩|rfl⟩:=hobj i x hx
  ·obtain⟨k,hk,⟨y',hy',rfl⟩|rfl⟩:=hobj j y hy
   ·rw[hθ i l hl] at hbx
    rw[hθ j k hk] at hby
    rw[H1.θ] at hbx hby
    refine h0.dis l k x' y' b (hlook l x' hx') (hlook k y' hy') ((ren_live _ _).1 hlx) ((ren_live _ _).1 hly) (fun e=>?_) hbx hby
    subst e
    exact hne ((List.getElem?_inj (List.getElem?_eq_some_iff.1 hl).1 hnd).1 (by rw[hl,hk]))
   ·exact hly
  ·exact hlx
 ·intro i hi
  show i<L.length
  have:(objsOf look (idxN L) L).length=L.length:=length_objsOf _ _ _
  exact this ▸ hi
 ·intro i x b hx hlx hbx
  rw[hget_heapOf0] at hx
  exact .inl ⟨i,x,hx,hlx,hbx⟩
theorem leave_inv {c0:RC} (h0:Inv fc c0 st a) (h64:fc.n0≤64) {look:Nat→Option Sym.Obj} (hlook:∀ l x,look l=some x→hget st.heap l=some x) {u1:List (Nat×Sym.Obj)} {ls L:List Nat} (H1:Handed fc c0 st a look c u1 ls)
  (hnd:L.Nodup) (hcl:closedIn look L L=true) (hout:outAll L ls=true) {base:Nat} (hbase:64≤base) {H':List Sym.Obj} (hle:L.length≤H'.length) (hfresh:∀ j,j<H'.length-L.length→hget st.heap (base+j)=none) (hnew:∀ j,j<H'.length-L.length→base+j ∉ L) {c2:RC}
  (i2:Inv (FC.enter (inner c look L ls) (objsOf look (idxN L) L)) c2 ⟨[],heapOf 0 H'⟩ act0) {res:List PV} (hlent:lentOk ls res H'=true) {rv:Value} (hr:Rep c2 (packRes res) rv) :
  ∃ c3,c3.w=c2.w∧Inv fc c3 { st with heap:=hsets st.heap (u1++backU (backN base L) 0 H') } a∧Rep c3 ((packRes res).ren (backN base L)) rv:=by
 have ie:=enter_inv h0 hlook H1 hnd hcl hout
 have i1:=H1.inv
 generalize hH:objsOf look (idxN L) L=H at i2 ie
 have hHl:H.length=L.length:=by rw[← hH];exact length_objsOf _ _ _
 let heap1:=hsets st.heap u1
 let g:=backN base L
 have hfresh1:∀ j,j<H'.length-L.length→hget heap1 (base+j)=none:=fun j hj=>by
  have:=H1.same (base+j) (.inr (hfresh j hj))
  rw[show hget heap1 (base+j)=_ from this]
  exact hfresh j hj
 -- the names
 have gl:∀ i,i<L.length→L[i]?=some (g i):=fun i hi=>backN_lt base hi
 have gg:∀ i,L.length≤i→g i=base+(i-L.length):=fun i hi=>backN_ge base hi
 have gmem:∀ i,i<L.length→g i∈L:=fun i hi=>List.mem_of_getElem? (gl i hi)
 have ginj:∀ i j,i<H'.length→j<H'.length→g i=g j→i=j:=by
  intro i j hi hj e
  rcases Nat.lt_or_ge i L.length with h1|h1<;>rcases Nat.lt_or_ge j L.length with h2|h2
  ·exact(List.getElem?_inj h1 hnd).1 (by rw[gl i h1,gl j h2,e])
  ·exact absurd (gmem i h1) (by rw[e,gg j h2];exact hnew _ (by omega))
  ·exact absurd (gmem j h2) (by rw[← e,gg i h1];exact hnew _ (by omega))
  ·rw[gg i h1,gg j h2] at e;omega
 obtain⟨k1,k2⟩:=hget_backU g H' 0 heap1 (fun i j _ a2 _ a4=>ginj i j (by omega) (by omega))
 let heap3:=hsets heap1 (backU g 0 H')
 have k1:∀ i x,H'[i]?=some x→hget heap3 (g i)=some (x.ren g):=fun i x hx=>by have:=k1 i x hx;rwa [Nat.zero_add] at this
 have k2:∀ l,(∀ i,i<H'.length→l≠g i)→hget heap3 l=hget heap1 l:=fun l hl=>k2 l (fun i hi=>by rw[Nat.zero_add];exact hl i hi)
 have kc:∀ l,(∃ i,i<H'.length∧l=g i)∨(∀ i,i<H'.length→l≠g i):=by
  intro l
  by_cases h:∃ i,i<H'.length∧l=g i
  ·exact .inl h
  ·exact .inr fun i hi e=>h ⟨i,hi,e⟩
 let θ3:Nat→Hd:=fun l=>if base≤l∧l<base+(H'.length-L.length) then c2.θ (L.length+(l-base)) else c.θ l
 let c3:RC:={ w:=c2.w,Xk:=c2.Xk,Xr:=fun b=>c.Xr b∨c2.Xk b,D:=fun l=>(hget heap3 l).isSome,θ:=θ3 }
 have hin:∀ i (l:Nat),L[i]?=some l→(inner c look L ls).θ i=c.θ l:=fun i l hl=>by simp [inner,hl]
 have θg:∀ i,i<H'.length→θ3 (g i)=c2.θ i:=by
  intro i hi
  rcases Nat.lt_or_ge i L.length with h1|h1
  ·have hn:¬ (base≤g i∧g i<base+(H'.length-L.length)):=fun⟨a1,a2⟩=>by
    have:=hnew (g i-base) (by omega)
    rw[show base+(g i-base)=g i by omega] at this
    exact this (gmem i h1)
   simp only [θ3,if_neg hn]
   rw[i2.par i (by show i<H.length;omega)]
   exact(hin i _ (gl i h1)).symm
  ·have hp:base≤g i∧g i<base+(H'.length-L.length):=by rw[gg i h1];omega
   simp only [θ3,if_pos hp]
   rw[gg i h1]
   congr 1
   omega
 have θD:∀ l,c.D l→θ3 l=c.θ l:=by
  intro l hl
  have hn:¬ (base≤l∧l<base+(H'.length-L.length)):=fun⟨a1,a2⟩=>by
   have h1:=hfresh1 (l-base) (by omega)
   rw[show base+(l-base)=l by omega] at h1
   have h2:=(i1.dom l).1 hl
   rw[show hget ({ st with heap:=hsets st.heap u1 }:ASt).heap l=hget heap1 l from rfl,h1] at h2
   cases h2
  simp only [θ3,if_neg hn]
 have D3:∀ i,i<H'.length→c3.D (g i):=fun i hi=>by
  show(hget heap3 (g i)).isSome
  rw[k1 i H'[i] (by simp [hi])];rfl
 have D2:∀ i,c2.D i→i<H'.length:=fun i hi=>by
  have:=(i2.dom i).1 hi
  rw[show hget (⟨[],heapOf 0 H'⟩:ASt).heap i=H'[i]? from hget_heapOf0 _ _] at this
  rcases Nat.lt_or_ge i H'.length with h|h
  ·exact h
  ·rw[List.getElem?_eq_none h] at this;cases this
 -- blocks
 have nB:∀ b,c.Xr b→¬ (FC.enter (inner c look L ls) H).B b:=by
  rintro b hb ⟨i,x,hx,hlv,hbk⟩
  exact(ie.obj i x (by show hget (heapOf 0 H) i=_;rw[hget_heapOf0];exact hx)).not_xr hlv hbk (.inl hb)
 have oldB:∀ b,(FC.enter (inner c look L ls) H).B b→∃ l∈L,∃ x,hget st.heap l=some x∧x.live∧blk (c0.θ l).val=some b:=by
  rintro b ⟨i,x,hx,hlv,hbk⟩
  rw[← hH,objsOf_get] at hx
  cases hl:L[i]? with
  | none=>simp [hl] at hx
  | some l =>
   simp only [hl,Option.map_some,Option.some.injEq] at hx
   cases hy:look l with
   | none=>simp only [hy] at hx;subst hx;exact hlv.elim
   | some y =>
    simp only [hy] at hx
    subst hx
    rw[hin i l hl,H1.θ] at hbk
    exact⟨l,List.mem_of_getElem? hl,y,hlook l y hy,(ren_live _ _).1 hlv,hbk⟩
 have le3:c.le c3:=by
  refine⟨fun b hb=>i2.same b (i1.xlt b hb) (nB b hb),fun b hb=>i2.xk0 b hb,fun b hb=>.inl hb,i1.kr,fun l hl=>?_,θD⟩
  show(hget heap3 l).isSome
  rcases kc l with ⟨i,hi,rfl⟩|hn
  ·exact D3 i hi
  ·rw[k2 l hn];exact(i1.dom l).1 hl
 -- what a location's object was,before the call,where it is not handed on
 have liveOld:∀ l x b,(∀ i,i<H'.length→l≠g i)→hget heap1 l=some x→x.live→blk (c.θ l).val=some b→¬ (FC.enter (inner c look L ls) H).B b:=by
  intro l x b hn hx hlv hbk hB
  obtain⟨l2,hl2,y,hy,hlv2,hbk2⟩:=oldB b hB
  have hne:l≠l2:=by
   rintro rfl
   obtain⟨i,hi,hi2⟩:=List.getElem_of_mem hl2
   have:=gl i hi
   rw[List.getElem?_eq_getElem hi] at this
   exact hn i (by omega) (by rw[← hi2];exact Option.some.inj this)
  have hy1:hget heap1 l2=some y:=by
   rw[show hget heap1 l2=_ from H1.same l2 (.inl fun hm=>outAll_iff hout l2 hm hl2)];exact hy
  exact i1.dis l l2 x y b hx hy1 hlv hlv2 hne hbk (by rw[H1.θ];exact hbk2)
 have xk2:∀ b,c2.Xk b→c.Xk b∨c.w.heap.size≤b∨(FC.enter (inner c look L ls) H).B b:=fun b hb=>i2.xkn b hb
 have hlentX:(∀ b,c2.Xr b→c3.Xr b)∨(noBorL res=true∧noBorO H'=true):=by
  cases ls with
  | nil =>
   refine .inl fun b hb=>?_
   rcases i2.xrn b hb with (hb | ⟨t,ht,_⟩)|hb
   ·exact .inl hb
   ·cases ht
   ·exact .inr hb
  | cons t r=>simp only [lentOk,Bool.and_eq_true] at hlent;exact .inr hlent
 refine⟨c3,rfl,?_,?_⟩
 ·rw[hsets_append]
  have live2:∀ i x b,H'[i]?=some x→x.live→blk (c2.θ i).val=some b→(FC.enter (inner c look L ls) H).B b∨c.w.heap.size≤b:=fun i x b hx hlv hb =>
   i2.own i x b (by show hget (heapOf 0 H') i=_;rw[hget_heapOf0];exact hx) hlv hb
  refine { lb:=fun b hb=>.inl (i1.lb b hb),lok:=i2.lok,kr:=fun b hb=>.inr hb,xlt:=?_,dom:=fun l=>Iff.rfl,obj:=?_,dis:=?_,tsz:=i1.tsz,tmp:=fun i x v p q=>(i1.tmp i x v p q).mono le3,nod:=i1.nod,size:=Nat.le_trans i1.size i2.size,same:=?_,os:=by rw[← i1.os];exact i2.os,tape:=by rw[← i1.tape];exact i2.tape,out:=by rw[← i1.out];exact i2.out,xk0:=fun b hb=>i2.xk0 b (i1.xk0 b hb),xr0:=fun b hb=>.inl (i1.xr0 b hb),xkn:=?_,xrn:=?_,par:=?_,pdom:=fun l hl=>le3.dom l (i1.pdom l hl),own:=?_ }
  ·rintro b (hb|hb)
   ·exact Nat.lt_of_lt_of_le (i1.xlt b hb) i2.size
   ·exact i2.xlt b (i2.kr b hb)
  ·intro l x hx
   rcases kc l with ⟨i,hi,rfl⟩|hn
   ·have e:=k1 i H'[i] (by simp [hi])
    rw[show hget ({ st with heap:=hsets (hsets st.heap u1) (backU g 0 H') }:ASt).heap (g i)=hget heap3 (g i) from rfl,e] at hx
    obtain rfl:=Option.some.inj hx
    have ho:=i2.obj i H'[i] (by show hget (heapOf 0 H') i=_;rw[hget_heapOf0];simp [hi])
    refine ORel.ren (c:=c2) (d:=c3) (g:=g) (l:=i) (l':=g i) rfl (fun _ h=>h) (θg i hi) (fun b hlv hbk=>?_) (hlentX.imp id fun hb cs hcs=>noBorO_get (i:=i) (hcs.imp (fun h=>by rw[← h];simp [hi]) fun⟨q1,q2,q3,q4,h⟩=>⟨q1,q2,q3,q4,by rw[← h];simp [hi]⟩) hb.2) (fun k _ hk=>⟨D3 k (D2 k hk),θg k (D2 k hk)⟩) ho
    rintro (hb|hb)
    ·exact ho.not_xr hlv hbk (i2.xr0 b (.inl hb))
    ·exact ho.not_xr hlv hbk (i2.kr b hb)
   ·rw[show hget ({ st with heap:=hsets (hsets st.heap u1) (backU g 0 H') }:ASt).heap l=hget heap3 l from rfl,k2 l hn] at hx
    have ho:=i1.obj l x hx
    refine ho.mono le3 ((i1.dom l).2 (by rw[show hget ({ st with heap:=hsets st.heap u1 }:ASt).heap l=hget heap1 l from rfl,hx];rfl)) (fun b hlv hbk=>?_) i2.size
    have hlt:=ho.block_lt hlv hbk
    have hnb:=liveOld l x b hn hx hlv hbk
    refine⟨i2.same b hlt hnb,?_⟩
    rintro (hb|hb)
    ·exact ho.not_xr hlv hbk hb
    ·rcases xk2 b hb with h|h|h
     ·exact ho.not_xr hlv hbk (i1.kr b h)
     ·omega
     ·exact hnb h
  ·intro l l' x x' b hx hx' hlv hlv' hne hbk hbk'
   have hD:∀ l x,hget heap1 l=some x→θ3 l=c.θ l:=fun l x hx=>θD l ((i1.dom l).2 (by rw[show hget ({ st with heap:=hsets st.heap u1 }:ASt).heap l=hget heap1 l from rfl,hx];rfl))
   have hx:hget heap3 l=some x:=hx
   have hx':hget heap3 l'=some x':=hx'
   have hbk:blk (θ3 l).val=some b:=hbk
   have hbk':blk (θ3 l').val=some b:=hbk'
   have mixed:∀ i l x x',i<H'.length→(∀ j,j<H'.length→l≠g j)→H'[i]?=some x'→hget heap1 l=some x→x.live→x'.live→blk (θ3 l).val=some b→blk (c2.θ i).val≠some b:=by
    intro i l x x' hi hn hx' hx hlv hlv' hbk hbk'
    rw[hD l x hx] at hbk
    have hlt:=(i1.obj l x hx).block_lt hlv hbk
    rcases live2 i x' b hx' hlv' hbk' with h|h
    ·exact liveOld l x b hn hx hlv hbk h
    ·have:b<c.w.heap.size:=hlt
     omega
   rcases kc l with ⟨i,hi,rfl⟩|hn<;>rcases kc l' with ⟨j,hj,rfl⟩|hn'
   ·rw[k1 i H'[i] (by simp [hi])] at hx
    rw[k1 j H'[j] (by simp [hj])] at hx'
    obtain rfl:=Option.some.inj hx
    obtain rfl:=Option.some.inj hx'
    rw[θg i hi] at hbk
    rw[θg j hj] at hbk'
    exact i2.dis i j _ _ b (by show hget (heapOf 0 H') i=_;rw[hget_heapOf0];simp [hi]) (by show hget (heapOf 0 H') j=_;rw[hget_heapOf0];simp [hj]) ((ren_live _ _).1 hlv) ((ren_live _ _).1 hlv') (fun e=>hne (by rw[e])) hbk hbk'
   ·rw[k1 i H'[i] (by simp [hi])] at hx
    obtain rfl:=Option.some.inj hx
    rw[k2 l' hn'] at hx'
    rw[θg i hi] at hbk
    exact mixed i l' x' H'[i] hi hn' (by simp [hi]) hx' hlv' ((ren_live _ _).1 hlv) hbk' hbk
   ·rw[k1 j H'[j] (by simp [hj])] at hx'
    obtain rfl:=Option.some.inj hx'
    rw[k2 l hn] at hx
    rw[θg j hj] at hbk'
    exact mixed j l x H'[j] hj hn (by simp [hj]) hx hlv ((ren_live _ _).1 hlv') hbk hbk'
   ·rw[k2 l hn] at hx
    rw[k2 l' hn'] at hx'
    rw[hD l x hx] at hbk
    rw[hD l' x' hx'] at hbk'
    exact i1.dis l l' x x' b hx hx' hlv hlv' hne hbk hbk'
  ·intro b hb hn
   have e1:=i1.same b hb hn
   have hlt:b<c.w.heap.size:=Nat.lt_of_lt_of_le hb i1.size
   rw[← e1]
   refine i2.same b hlt fun hB=>?_
   obtain⟨l,hl,x,hx,hlv,hbk⟩:=oldB b hB
   rcases h0.own l x b hx hlv hbk with h|h
   ·exact hn h
   ·omega
  ·intro b hb
   rcases xk2 b hb with h|h|h
   ·exact i1.xkn b h
   ·exact .inr (.inl (Nat.le_trans i1.size h))
   ·obtain⟨l,hl,x,hx,hlv,hbk⟩:=oldB b h
    rcases h0.own l x b hx hlv hbk with h|h
    ·exact .inr (.inr h)
    ·exact .inr (.inl h)
  ·rintro b (hb|hb)
   ·exact(i1.xrn b hb).imp id (i2.xk0 b)
   ·exact .inr hb
  ·intro l hl
   have hn:¬ (base≤l∧l<base+(H'.length-L.length)):=by omega
   show θ3 l=_
   simp only [θ3,if_neg hn]
   exact i1.par l hl
  ·intro l x b hx hlv hbk
   have hx:hget heap3 l=some x:=hx
   have hbk:blk (θ3 l).val=some b:=hbk
   rcases kc l with ⟨i,hi,rfl⟩|hn
   ·rw[k1 i H'[i] (by simp [hi])] at hx
    obtain rfl:=Option.some.inj hx
    rw[θg i hi] at hbk
    rcases live2 i H'[i] b (by simp [hi]) ((ren_live _ _).1 hlv) hbk with h|h
    ·obtain⟨l,hl,x,hx,hlv,hbk⟩:=oldB b h
     exact h0.own l x b hx hlv hbk
    ·exact .inr (Nat.le_trans i1.size h)
   ·rw[k2 l hn] at hx
    rw[θD l ((i1.dom l).2 (by rw[show hget ({ st with heap:=hsets st.heap u1 }:ASt).heap l=hget heap1 l from rfl,hx];rfl))] at hbk
    exact i1.own l x b hx hlv hbk
 ·exact Rep.ren (c:=c2) (d:=c3) (g:=g) rfl (fun _ h=>h) hr (hlentX.imp id fun hb=>noBor_pack hb.1) fun k _ hk=>⟨D3 k (D2 k hk),θg k (D2 k hk)⟩
theorem mem_upTo {n b j:Nat} (h:j<n):b+j∈upTo n b:=by
 induction n generalizing b j with
 | zero=>omega
 | succ n ih =>
  simp only [upTo,List.mem_cons]
  cases j with
  | zero=>exact .inl rfl
  | succ j=>exact .inr (by have:=ih (b:=b+1) (j:=j) (by omega);rwa [show b+1+j=b+(j+1) by omega] at this)
theorem call_ok (h : Inv fc c st a) (h64 : fc.n0 ≤ 64) {cl : Call} {g : Operand} (hop : o.op = .call cl) (hcal : cl.callee = .value g)
    (hg : (opr E o (evp st.tmps) (only ((fpr o (evp st.tmps) (hget st.heap)).1 ++ (fpr o (evp st.tmps) (hget st.heap)).2) (hget st.heap))).gives (Fn P) v u) : OpOk P fc st o a c.w v u := by
  simp only [opr, hop, hcal] at hg
  split at hg
  · rename_i f first caps ef
    have hev := h.eval g
    rw [ef] at hev
    obtain ⟨fv, cv, ev, hf, hc⟩ := hev.fn_inv
    have hW : ∀ j, j < callRoom → site o.dst + j ∈ (fpr o (evp st.tmps) (hget st.heap)).1 ++ (fpr o (evp st.tmps) (hget st.heap)).2 := by
      intro j hj
      simp only [fpr, hop, hcal, ef, fpCall, List.mem_append]
      exact .inr (.inr (mem_upTo hj))
    generalize hlk : only _ (hget st.heap) = look at hg
    have hlook : ∀ l x, look l = some x → hget st.heap l = some x := fun l x hx => by subst hlk; exact only_some hx
    have hnone : ∀ j, j < callRoom → look (site o.dst + j) = none → hget st.heap (site o.dst + j) = none := fun j hj hx => by subst hlk; exact only_none (hW j hj) hx
    have hargs := h.args cl.args
    have hall : RepL c (first ++ argsOf (evp st.tmps) cl.args.toList ++ caps) (fv ++ cl.args.map a.eval ++ cv) := by
      refine ⟨by simp only [List.length_append, Array.size_append, hf.1, hc.1, hargs.1], fun i x w p q => ?_⟩
      rw [List.getElem?_append] at p
      rw [Array.getElem?_append] at q
      have hlen : (first ++ argsOf (evp st.tmps) cl.args.toList).length = (fv ++ cl.args.map a.eval).size := by simp only [List.length_append, Array.size_append, hf.1, hargs.1]
      rw [hlen] at p
      split at p
      · rename_i hi
        rw [if_pos hi] at q
        rw [List.getElem?_append, hf.1] at p
        rw [Array.getElem?_append] at q
        split at p
        · rename_i hi; rw [if_pos hi] at q; exact hf.2 i x w p q
        · rename_i hi; rw [if_neg hi] at q; exact hargs.2 _ x w p q
      · rename_i hi
        rw [if_neg hi] at q
        exact hc.2 _ x w p q
    unfold callr at hg
    obtain ⟨az, u1, ls, c1, hg, H1, ras⟩ := passArgs_ok h (fun l x hx => .inl (hlook l x hx)) hall hg
    generalize hL : gather 100 (locsL az) look [] = L at hg
    have hnd : L.Nodup := by rw [← hL]; exact gather_nodup _ _ _ _ (by simp)
    unfold callL at hg
    split at hg
    · exact hg.elim
    · rename_i hchk
      simp only [Bool.and_eq_true] at hchk
      obtain ⟨⟨⟨hin, hcl⟩, hout⟩, h64L⟩ := hchk
      obtain ⟨res, H', hFn, hg⟩ := hg
      simp only at hg
      split at hg
      · rename_i hchk2
        simp only [Bool.and_eq_true] at hchk2
        obtain ⟨⟨⟨⟨b1, b2⟩, b3⟩, b4⟩, b5⟩ := hchk2
        obtain ⟨rfl, rfl⟩ := hg
        have b1 := ble_le b1
        have b2 := ble_le b2
        have ie := enter_inv (c := c1) h hlook H1 hnd hcl hout
        have hHl : (objsOf look (idxN L) L).length = L.length := length_objsOf _ _ _
        have hargs2 : RepL (inner c1 look L ls) (renL (idxN L) az) (fv ++ cl.args.map a.eval ++ cv) := by
          refine ⟨by rw [length_renL]; exact ras.1, fun i x w p q => ?_⟩
          rw [renL_get] at p
          cases hy : az[i]? with
          | none => simp [hy] at p
          | some y =>
            simp only [hy, Option.map_some, Option.some.injEq] at p
            subst p
            refine Rep.ren (c := lend c1 (LB look c.θ ls)) (d := inner c1 look L ls) (g := idxN L) rfl (fun _ h => h) (ras.2 i y w hy q) (.inl fun b hb => ?_) fun k hk _ => ?_
            · rcases hb with hb | hb
              · exact .inl hb
              · exact .inr (by rw [H1.θ]; exact hb)
            · have := idxN_get (inAll_iff hin k (mem_locsL hy hk))
              exact ⟨(List.getElem?_eq_some_iff.1 this).1, by simp only [inner, this, Option.getD_some]; rfl⟩
        rcases hFn with ⟨⟨fn, hfn, hname, hbody⟩, hF⟩ | ⟨rfl, hF⟩
        · have hcall := hF (inner c1 look L ls) _ (by rw [hHl]; exact ble_le h64L) ie hargs2
          intro K Q hK
          unfold Oper.wp
          have hrun : (execOp a.eval o).run P c.w = .ok (.enter f (fv ++ cl.args.map a.eval ++ cv)) c.w := by
            have hb2 : fn.body.isNone = false := by cases hx : fn.body <;> simp [hx] at hbody ⊢
            have hnm : (fn.name == "runtime.NumGoroutine") = false := by simpa using hname
            simp only [execOp, hop, resolve, hcal, ev, Deferred.ofValue, Sem.run_bind, Sem.run_pure, Result.andThen_ok, invoke, callFunc, run_program, hfn, hnm, hb2, Bool.false_eq_true, if_false]
          rw [hrun]
          show Calls P f _ c.w _
          have hw1 : (inner c1 look L ls).w = c.w := H1.w
          rw [hw1] at hcall
          refine Calls.mono hcall fun e w' he => ?_
          cases e with
          | returned rv =>
            obtain ⟨c2, rfl, i2, r2⟩ := he
            obtain ⟨c3, e3, i3, r3⟩ := leave_inv (c := c1) h h64 hlook H1 hnd hcl hout (base := site o.dst) (by cases o.dst <;> simp only [site] <;> omega) b1 (fun j hj => hnone j (by omega) (freshOk_iff b3 j hj)) (fun j hj => outAll_iff b4 _ (mem_upTo hj)) i2 b5 r2
            rw [← e3]
            exact hK _ c3 (i3.put o.dst r3)
          | panicked chain => exact he.elim
          | outgrown => exact he.elim
        · obtain ⟨v, hv, rv⟩ := hF (inner c1 look L ls) _ (by rw [hHl]; exact ble_le h64L) ie hargs2
          have hw1 : (inner c1 look L ls).w = c.w := H1.w
          intro K Q hK
          unfold Oper.wp
          have hrun : (execOp a.eval o).run P c.w = .ok (.value v) c.w := by
            rw [hw1] at hv
            simp only [execOp, hop, resolve, hcal, ev, Deferred.ofValue, Sem.run_bind, Sem.run_pure, Result.andThen_ok, invoke]
            exact hv
          rw [hrun, Oper.upon_value]
          obtain ⟨c3, e3, i3, r3⟩ := leave_inv (c := c1) h h64 hlook H1 hnd hcl hout (base := site o.dst) (by cases o.dst <;> simp only [site] <;> omega) b1 (fun j hj => hnone j (by omega) (freshOk_iff b3 j hj)) (fun j hj => outAll_iff b4 _ (mem_upTo hj)) ie b5 rv
          have e3' : c3.w = c.w := by rw [e3]; exact hw1
          rw [← e3']
          exact hK _ c3 (i3.put o.dst r3)
      · exact hg.elim
  · exact hg.elim
end
end Go.Sym
namespace Go.Sym
open Go
section
variable {P:Program} {fc:FC} {c:RC} {st:ASt} {a:Act} {o:Oper} {E:Env} {v:PV} {u:List (Nat×Sym.Obj)}
theorem op_ok (hE:EnvOk P E) (h:Inv fc c st a) (h64:fc.n0≤64)
  (hg:(opr E o (evp st.tmps) (only ((fpr o (evp st.tmps) (hget st.heap)).1++(fpr o (evp st.tmps) (hget st.heap)).2) (hget st.heap))).gives (Fn P) v u):OpOk P fc st o a c.w v u:=by
 have hlook:∀ ls,∀ l x,only ls (hget st.heap) l=some x→hget st.heap l=some x:=fun ls l x hx=>only_some hx
 cases hop:o.op with
 | move x=>exact move_ok h (.inl hop) hg
 | assign x=>exact move_ok h (.inr hop) hg
 | pick q x y=>exact pick_ok h hop hg
 | alloc e=>exact alloc_ok hE h h64 hop hg
 | box e x=>exact box_ok hE h h64 hop hg
 | build t ps=>exact build_ok hE h hop hg
 | buildSlice t n ps=>exact buildSlice_ok hE h h64 hop hg
 | load e x=>exact load_ok hE h hop hg
 | store e x y=>exact store_ok hE h hop hg
 | nilCheck x=>exact nilCheck_ok h hop hg
 | binOp p t x y q=>exact binOp_ok hE h hop (hlook _) hg
 | unOp p t x=>exact unOp_ok h hop hg
 | convert s d x=>exact convert_ok hE h h64 hop hg
 | makeFunc f x y=>exact makeFunc_ok h hop hg
 | makeSlice t l k=>exact makeSlice_ok hE h h64 hop hg
 | slice t x lo hi mx=>exact slice_ok hE h h64 hop hg
 | fieldAddr s x f=>exact fieldAddr_ok hE h hop hg
 | field s x f=>exact field_ok hE h hop hg
 | indexAddr t x i=>exact indexAddr_ok hE h hop (hlook _) hg
 | index t x i=>exact index_ok hE h hop hg
 | extract x i=>exact extract_ok h hop hg
 | makeMap t r=>exact makeMap_ok h h64 hop hg
 | lookup t x i q=>exact lookup_ok hE h hop (hlook _) hg
 | mapUpdate t x i z=>exact mapUpdate_ok hE h hop (hlook _) hg
 | call cl =>
  cases hcal:cl.callee with
  | builtin b=>exact builtin_ok hE h h64 hop hcal hg
  | value g=>exact call_ok h h64 hop hcal hg
  | invoke r m=>simp only [opr,hop,hcal] at hg;exact hg.elim
 | _=>simp only [opr,hop] at hg;exact hg.elim
def StepOk (P:Program) (ops:Array Oper) (fc:FC) (st:ASt) (o:Oper) (a:Act) (w:World) (v:PV) (u:List (Nat×Sym.Obj)):Prop :=
 ∀ (K:Act→World→Prop) (Q:Exit→Act→World→Prop),
  (∀ a' c',Inv fc c' { tmps:=putT st.tmps o.dst v,heap:=hsets st.heap u } a'→K a' c'.w)→if Region.wanted o (yielded ops a.tmps) then o.wp P a w K Q else K (a.put o.dst undef) w
theorem step_ok (hE:EnvOk P E) (h:Inv fc c st a) (h64:fc.n0≤64) {ops:Array Oper} (hg:(stepr E ops.toList o st).gives (Fn P) v u):StepOk P ops fc st o a c.w v u:=by
 intro K Q hK
 unfold stepr at hg
 have go:(opr E o (evp st.tmps) (only ((fpr o (evp st.tmps) (hget st.heap)).1++(fpr o (evp st.tmps) (hget st.heap)).2) (hget st.heap))).gives (Fn P) v u→o.wp P a c.w K Q:=fun hg=>op_ok hE h h64 hg K Q hK
 have skip:(ORes.ret (.lit undef) []).gives (Fn P) v u→K (a.put o.dst undef) c.w:=by
  rintro ⟨rfl,rfl⟩
  exact hK _ c (h.put o.dst (.lit undef))
 split at hg
 ·rename_i hgd
  simp only [Region.wanted,hgd,if_true]
  exact go hg
 ·rename_i g want hgd
  simp only [Region.wanted,hgd]
  split at hg
  ·rename_i og hog
   rw[nth_eq,Array.getElem?_toList] at hog
   split at hg
   ·rename_i d hd
    have hr:Rep c (lget st.tmps d) (a.tmps.getD d undef):=h.eval (.tmp d)
    have hy:yielded ops a.tmps g=match a.tmps[d]? with
      | some (.bool b)=>some b
      | _=>none:=by
     simp only [yielded,hog,Option.bind_some,hd]
     cases a.tmps[d]? with
     | none=>rfl
     | some x=>cases x<;>rfl
    split at hg
    ·rename_i b hb
     rw[hb] at hr
     have hv:=hr.bool_inv
     have hd2:a.tmps[d]?=some (.bool b):=by
      rcases Nat.lt_or_ge d a.tmps.size with hlt|hlt
      ·rw[Array.getElem?_eq_getElem hlt]
       have e:a.tmps.getD d undef=a.tmps[d]:=by simp [Array.getD,hlt]
       rw[← e,hv]
      ·have e:a.tmps.getD d undef=undef:=by simp [Array.getD,Nat.not_lt.2 hlt]
       rw[e] at hv
       cases hv
     rw[hd2] at hy
     simp only at hy
     rw[hy]
     cases b<;>cases want<;>simp only at hg ⊢
     ·exact go hg
     ·exact skip hg
     ·exact skip hg
     ·exact go hg
    ·rename_i vv hvv
     rw[hvv] at hr
     have hv:=hr.lit_inv
     split at hg
     ·exact hg.elim
     ·rename_i hnb
      have:yielded ops a.tmps g=none:=by
       rw[hy]
       rcases Nat.lt_or_ge d a.tmps.size with hlt|hlt
       ·rw[Array.getElem?_eq_getElem hlt]
        have e:a.tmps[d]=vv:=by rw[← hv];simp [Array.getD,hlt]
        rw[e]
        cases vv<;>first|rfl|exact absurd rfl (hnb _)
       ·rw[Array.getElem?_eq_none hlt]
      rw[this]
      exact skip hg
    ·exact hg.elim
   ·exact hg.elim
  ·exact hg.elim
theorem StepOk.wpOp {ops:Array Oper} {i:Nat} {w:World} (hi:ops[i]?=some o) (h:StepOk P ops fc st o a w v u) {K:Act→World→Prop} {Q:Exit→Act→World→Prop}
  (hK:∀ a' c',Inv fc c' { tmps:=putT st.tmps o.dst v,heap:=hsets st.heap u } a'→K a' c'.w):Go.wpOp P ops Q i K a w:=by
 have:=h K Q hK
 unfold Go.wpOp
 simp only [hi]
 split
 ·rename_i hw;rw[if_pos hw] at this;exact .inl this
 ·rename_i hw;rw[if_neg hw] at this;exact this
theorem opsw_ok (hE:EnvOk P E) (h64:fc.n0≤64) {ops:Array Oper} {Q:Exit→Act→World→Prop} {K:ASt→Prop}:∀ (r:List Oper) (k:Nat) (c:RC) (st:ASt) (a:Act),ops.toList.drop k=r→Inv fc c st a→opsw E (Fn P) ops.toList r st K →
  (∀ st' a' c',Inv fc c' st' a'→K st'→Q .normal a' c'.w)→wpOps P ops Q (List.range' k r.length) a c.w
 | [],k,c,st,a,_,h,hw,hQ=>by
  simp only [List.length_nil,List.range'_zero,wpOps]
  exact hQ st a c h hw
 | o::r,k,c,st,a,hd,h,hw,hQ=>by
  simp only [List.length_cons,List.range'_succ]
  rw[wpOps_cons]
  simp only [opsw] at hw
  obtain⟨v,u,hg,hw⟩:=ORes.holds_gives hw
  have ho:ops[k]?=some o:=by
   have:ops.toList[k]?=some o:=by
    have h0:(ops.toList.drop k)[0]?=some o:=by rw[hd];rfl
    simpa using h0
   simpa using this
  refine(step_ok hE h h64 hg).wpOp ho fun a' c' i'=>?_
  split at hw
  ·refine opsw_ok hE h64 r (k+1) c' _ a' ?_ i' hw hQ
   rw[← List.tail_drop,hd];rfl
  ·cases hw
theorem region_text (hE:EnvOk P E) (h:Inv fc c st a) (h64:fc.n0≤64) {id:Nat} {ops:Array Oper} {Q:Exit→Act→World→Prop} {K:ASt→Prop} (hw:opsw E (Fn P) ops.toList ops.toList st K)
  (hQ:∀ st' a' c',Inv fc c' st' a'→K st'→Q .normal a' c'.w):(Code.region id ops false).wp P Q a c.w:=by
 refine wp_region ?_
 have:=opsw_ok hE h64 ops.toList 0 c st a rfl h hw hQ
 rwa [Array.length_toList,← List.range_eq_range'] at this
end
end Go.Sym
namespace Go.Sym
open Go
/-! ### States that are alike -/
structure ASt.eqv (s t:ASt):Prop where
 tmps:s.tmps=t.tmps
 heap:∀ l,hget s.heap l=hget t.heap l
theorem ASt.eqv.refl (s:ASt):s.eqv s:=⟨rfl,fun _=>rfl⟩
theorem ASt.eqv.symm {s t:ASt} (h:s.eqv t):t.eqv s:=⟨h.tmps.symm,fun l=>(h.heap l).symm⟩
theorem ASt.eqv.trans {s t r:ASt} (h:s.eqv t) (k:t.eqv r):s.eqv r:=⟨h.tmps.trans k.tmps,fun l=>(h.heap l).trans (k.heap l)⟩
theorem Inv.eqv {fc:FC} {c:RC} {s t:ASt} {a:Act} (e:s.eqv t) (h:Inv fc c s a):Inv fc c t a:=by
 obtain⟨s1,s2⟩:=s
 obtain⟨t1,t2⟩:=t
 obtain⟨rfl,e⟩:=e
 have e:∀ l,hget s2 l=hget t2 l:=e
 refine { h with dom:=fun l=>?_,obj:=fun l o ho=>?_,dis:=fun l l' o o' b ho ho'=>?_,own:=fun l o b ho=>?_ }
 ·show _ ↔ (hget t2 l).isSome
  rw[← e];exact h.dom l
 ·have ho:hget t2 l=some o:=ho
  rw[← e] at ho;exact h.obj l o ho
 ·have ho:hget t2 l=some o:=ho
  have ho':hget t2 l'=some o':=ho'
  rw[← e] at ho ho';exact h.dis l l' o o' b ho ho'
 ·have ho:hget t2 l=some o:=ho
  rw[← e] at ho;exact h.own l o b ho
theorem hget_hsets_not:∀ {u:List (Nat×Sym.Obj)} {h:Heap} {l:Nat},(∀ p∈u,p.1≠l)→hget (hsets h u) l=hget h l
 | [],_,_,_=>rfl
 | (k,x)::u,h,l,hl=>by
  show hget (hsets (hset h k x) u) l=_
  rw[hget_hsets_not (fun p hp=>hl p (by simp [hp]))]
  exact hget_hset_ne _ _ (hl (k,x) (by simp)).symm
theorem hget_hsets_congr:∀ {u:List (Nat×Sym.Obj)} {h h':Heap} {l:Nat},hget h l=hget h' l→hget (hsets h u) l=hget (hsets h' u) l
 | [],_,_,_,e=>e
 | (k,x)::u,h,h',l,e=>by
  show hget (hsets (hset h k x) u) l=hget (hsets (hset h' k x) u) l
  refine hget_hsets_congr ?_
  rw[hget_hset,hget_hset,e]
theorem keysIn_iff {W : List Nat} : ∀ {u : List (Nat × Sym.Obj)}, keysIn W u = true → ∀ p ∈ u, p.1 ∈ W
  | [], _, p, hp => by simp at hp
  | (k, x) :: u, h, p, hp => by
    simp only [keysIn] at h
    split at h
    · rename_i hm
      rcases List.mem_cons.1 hp with rfl | hp
      · exact memN_iff.1 hm
      · exact keysIn_iff h p hp
    · cases h
/-! ### What an operation does hangs on its operands and its footprint alone -/
theorem argsOf_congr {ρ ρ':Operand→PV} {l:List Operand} (h:∀ x∈l,ρ x=ρ' x):argsOf ρ l=argsOf ρ' l:=by
 rw[argsOf_eq,argsOf_eq];exact List.map_congr_left h
theorem partsOf_congr {ρ ρ':Operand→PV}:∀ {l:List (Nat×Operand)},(∀ x∈l.map (·.2),ρ x=ρ' x)→partsOf ρ l=partsOf ρ' l
 | [],_=>rfl
 | (i,x)::r,h=>by simp only [partsOf];rw[h x (by simp),partsOf_congr fun y hy=>h y (by simp at hy ⊢;exact .inr hy)]
theorem opr_congr {E:Env} {o:Oper} {ρ ρ':Operand→PV} {look:Nat→Option Sym.Obj} (h:∀ x∈o.op.operands,ρ x=ρ' x):opr E o ρ look=opr E o ρ' look:=by
 obtain⟨dst,op,type,pos,after,guard⟩:=o
 cases op<;>simp only [Op.operands] at h<;>simp only [opr]
 case build t ps=>rw[partsOf_congr (ρ':=ρ') fun x hx=>h x (by simpa using hx)]
 case buildSlice t n ps=>rw[partsOf_congr (ρ':=ρ') fun x hx=>h x (by simpa using hx)]
 case makeFunc fn first captured =>
  rw[argsOf_congr (l:=first.toList) (ρ':=ρ') fun x hx=>h x (by simp at hx;simp [hx]),argsOf_congr (l:=captured.toList) (ρ':=ρ') fun x hx=>h x (by simp at hx;simp [hx])]
 case call c =>
  have ha:argsOf ρ c.args.toList=argsOf ρ' c.args.toList:=argsOf_congr fun x hx=>h x (by simp at hx;simp [Call.operands,hx])
  rw[ha]
  cases hc:c.callee with
  | value f=>have hf:ρ f=ρ' f:=h f (by simp [Call.operands,hc]);simp only [hf]
  | invoke r m=>rfl
  | builtin b=>rfl
 case slice t x lo hi mx=>cases lo<;>cases hi<;>cases mx<;>simp_all
 all_goals(first|rfl|(simp_all;done))
theorem gather_congr {look look':Nat→Option Sym.Obj}:∀ (k:Nat) (ws acc:List Nat),(∀ l∈gather k ws look acc,look' l=look l)→gather k ws look' acc=gather k ws look acc
 | 0,_,acc,_=>by simp [gather]
 | k+1,[],acc,_=>by simp [gather]
 | k+1,l::ws,acc,h=>by
  simp only [gather] at h ⊢
  cases hm:memN acc l with
  | true=>simp only [hm] at h;exact gather_congr k ws acc h
  | false =>
   simp only [hm] at h
   have sub:∀ (k:Nat) (ws acc:List Nat),∀ x∈acc,x∈gather k ws look acc:=by
    intro k
    induction k with
    | zero=>intro ws acc x hx;simpa [gather] using hx
    | succ k ih =>
     intro ws acc x hx
     cases ws with
     | nil=>simpa [gather] using hx
     | cons y ws =>
      simp only [gather]
      cases memN acc y with
      | true=>exact ih _ _ x hx
      | false=>exact ih _ _ x (by simp [hx])
   have e:=h l (sub _ _ _ l (by simp))
   simp only [e]
   exact gather_congr k _ _ h
theorem fpr_congr {o:Oper} {ρ ρ':Operand→PV} {look look':Nat→Option Sym.Obj} (h:∀ x∈o.op.operands,ρ x=ρ' x) (hl:∀ l∈(fpr o ρ look).1++(fpr o ρ look).2,look' l=look l):fpr o ρ' look'=fpr o ρ look:=by
 obtain⟨dst,op,type,pos,after,guard⟩:=o
 cases op<;>simp only [Op.operands] at h<;>simp only [fpr] at hl ⊢
 case buildSlice t n ps=>rw[partsOf_congr (ρ':=ρ') fun x hx=>h x (by simpa using hx)]
 case call c =>
  have ha:argsOf ρ c.args.toList=argsOf ρ' c.args.toList:=argsOf_congr fun x hx=>h x (by simp at hx;simp [Call.operands,hx])
  rw[ha] at hl ⊢
  cases hc:c.callee with
  | value f =>
   have hf:ρ f=ρ' f:=h f (by simp [Call.operands,hc])
   simp only [hc,hf] at hl ⊢
   split
   ·rename_i hfe
    simp only [hfe,fpCall] at hl ⊢
    rw[gather_congr]
    intro l hl'
    exact hl l (List.mem_append.2 (.inr (List.mem_append.2 (.inl hl'))))
   ·rfl
  | invoke r m=>rfl
  | builtin b=>rfl
 case slice t x lo hi mx =>
  have hx:ρ x=ρ' x:=h x (by simp)
  rw[hx] at hl ⊢
  cases hi with
  | none=>rfl
  | some y =>
   have e:∀ ed,slPlain ed look' (ρ' x)=slPlain ed look (ρ' x):=by
    intro ed
    generalize ρ' x=px at hl ⊢
    cases px<;>try rfl
    rename_i t
    have e1:look' t=look t:=hl t (by simp only;split<;>simp [PV.locs])
    simp only [slPlain,e1]
   simp only [e]
 all_goals(first|rfl|(simp_all;done))
theorem names_operand {all:List Oper} {o:Oper} {t:Nat} (h:Operand.tmp t∈o.op.operands):t∈namesOf all o:=by
 unfold namesOf
 refine List.mem_append.2 (.inr (List.mem_filterMap.2 ⟨.tmp t,by simpa using h,rfl⟩))
theorem stepr_congr {E : Env} {all : List Oper} {o : Oper} {s t : ASt} (ht : ∀ d ∈ namesOf all o, lget t.tmps d = lget s.tmps d) (hl : ∀ l ∈ (fpr o (evp s.tmps) (hget s.heap)).1 ++ (fpr o (evp s.tmps) (hget s.heap)).2, hget t.heap l = hget s.heap l) :
    fpr o (evp t.tmps) (hget t.heap) = fpr o (evp s.tmps) (hget s.heap) ∧ stepr E all o t = stepr E all o s := by
  have hop : ∀ x ∈ o.op.operands, evp s.tmps x = evp t.tmps x := by
    intro x hx
    cases x with
    | tmp d => exact (ht d (names_operand hx)).symm
    | _ => rfl
  have hfp := fpr_congr (ρ' := evp t.tmps) (look' := hget t.heap) hop hl
  have honly : only ((fpr o (evp t.tmps) (hget t.heap)).1 ++ (fpr o (evp t.tmps) (hget t.heap)).2) (hget t.heap) = only ((fpr o (evp s.tmps) (hget s.heap)).1 ++ (fpr o (evp s.tmps) (hget s.heap)).2) (hget s.heap) := by
    funext l
    rw [hfp]
    unfold only
    split
    · rename_i hm; exact hl l (memN_iff.1 hm)
    · rfl
  refine ⟨hfp, ?_⟩
  unfold stepr
  simp only [honly, opr_congr hop]
  split
  · rfl
  · rename_i g want hgd
    split
    · rename_i og hog
      split
      · rename_i d hd
        rw [ht d (by simp [namesOf, hgd, hog, hd])]
      · rfl
    · rfl
/-! ### Runs in the text's order, as data -/
def after (o:Oper) (st:ASt) (v:PV) (u:List (Nat×Sym.Obj)):ASt:={ tmps:=putT st.tmps o.dst v,heap:=hsets st.heap u }
inductive Tr (E:Env) (F:FnT) (all:List Oper):List (Nat×Oper)→ASt→List Fp→ASt→Prop
 | nil (st:ASt):Tr E F all [] st [] st
 | cons {i:Nat} {o:Oper} {r:List (Nat×Oper)} {st st':ASt} {fps:List Fp} (v:PV) (u:List (Nat×Sym.Obj)) (hg:(stepr E all o st).gives F v u) (hk:keysIn (fpr o (evp st.tmps) (hget st.heap)).2 u=true)
   (h:Tr E F all r (after o st v u) fps st'):Tr E F all ((i,o)::r) st (fpAt o st i::fps) st'
theorem lget_lset_ne {l:List PV} {d e:Nat} (v:PV) (h:e≠d):lget (lset l d v) e=lget l e:=by
 induction l generalizing d e with
 | nil=>rfl
 | cons x r ih =>
  cases d with
  | zero=>cases e with
   | zero=>exact absurd rfl h
   | succ e=>rfl
  | succ d=>cases e with
   | zero=>rfl
   | succ e=>exact ih (by omega)
theorem lget_putT_ne {l:List PV} {d:Option Nat} {e:Nat} (v:PV) (h:∀ k,d=some k→e≠k):lget (putT l d v) e=lget l e:=by
 cases d with
 | none=>rfl
 | some d=>exact lget_lset_ne v (h d rfl)
theorem lset_comm {l:List PV} {d e:Nat} (v w:PV) (h:d≠e):lset (lset l d v) e w=lset (lset l e w) d v:=by
 induction l generalizing d e with
 | nil=>rfl
 | cons x r ih =>
  cases d with
  | zero=>cases e with
   | zero=>exact absurd rfl h
   | succ e=>rfl
  | succ d=>cases e with
   | zero=>rfl
   | succ e=>simp only [lset];rw[ih (by omega)]
theorem putT_comm {l:List PV} {d e:Option Nat} (v w:PV) (h:∀ k,d=some k→e≠some k):putT (putT l d v) e w=putT (putT l e w) d v:=by
 cases d with
 | none=>rfl
 | some d=>cases e with
  | none=>rfl
  | some e=>exact lset_comm v w fun he=>h d rfl (he ▸ rfl)
theorem after_eqv {o:Oper} {s t:ASt} {v:PV} {u:List (Nat×Sym.Obj)} (h:s.eqv t):(after o s v u).eqv (after o t v u) :=
 ⟨by simp only [after,h.tmps],fun l=>hget_hsets_congr (h.heap l)⟩
theorem step_eqv {E:Env} {all:List Oper} {o:Oper} {s t:ASt} (h:s.eqv t):fpr o (evp t.tmps) (hget t.heap)=fpr o (evp s.tmps) (hget s.heap)∧stepr E all o t=stepr E all o s :=
 stepr_congr (fun d _=>by rw[h.tmps]) (fun l _=>(h.heap l).symm)
theorem fpAt_eq {o:Oper} {s t:ASt} (i:Nat) (h:fpr o (evp t.tmps) (hget t.heap)=fpr o (evp s.tmps) (hget s.heap)):fpAt o t i=fpAt o s i:=by
 simp only [fpAt,h]
theorem Tr.eqv {E:Env} {F:FnT} {all:List Oper} {r:List (Nat×Oper)} {s s':ASt} {fps:List Fp} (h:Tr E F all r s fps s'):∀ {t:ASt},s.eqv t→∃ t',Tr E F all r t fps t'∧s'.eqv t':=by
 induction h with
 | nil st=>intro t e;exact⟨t,.nil t,e⟩
 | @cons i o r st st' fps v u hg hk _ ih =>
  intro t e
  obtain⟨e1,e2⟩:=step_eqv (E:=E) (all:=all) (o:=o) e
  obtain⟨t',h',e'⟩:=ih (after_eqv (o:=o) (v:=v) (u:=u) e)
  refine⟨t',?_,e'⟩
  rw[← fpAt_eq i e1]
  exact .cons v u (by rw[e2];exact hg) (by rw[e1];exact hk) h'
structure Apart (all:List Oper) (x y:Oper):Prop where
 xy:∀ d,x.dst=some d→d ∉ namesOf all y
 yx:∀ d,y.dst=some d→d ∉ namesOf all x
 ne:∀ d,x.dst=some d→y.dst≠some d
theorem apartN_iff {all:List Oper} {x y:Oper} (h:apartN all x y=true):Apart all x y:=by
 unfold apartN at h
 simp only [Bool.and_eq_true] at h
 obtain⟨h1,h2⟩:=h
 have nm:∀ {L:List Nat} {d:Nat},(!(memN L d))=true→d ∉ L:=fun hn hm=>by rw[memN_iff.2 hm] at hn;cases hn
 refine⟨fun d hd=>?_,fun d hd=>?_,fun d hd he=>?_⟩
 ·simp only [hd,Bool.and_eq_true] at h1;exact nm h1.1
 ·simp only [hd] at h2;exact nm h2
 ·simp only [hd,he,Bool.and_eq_true] at h1
  have:=h1.2
  simp at this
theorem meets_iff {l s:List Nat}:meets l s=false→∀ x∈l,x ∉ s:=by
 induction l with
 | nil=>intro _ x hx;simp at hx
 | cons y r ih =>
  intro h x hx
  simp only [meets] at h
  split at h
  ·cases h
  ·rename_i hm
   rcases List.mem_cons.1 hx with rfl|hx
   ·intro hs;rw[memN_iff.2 hs] at hm;cases hm
   ·exact ih h x hx
theorem clash_iff {x y:Fp} (h:clash x y=false):(∀ l∈x.2.2,l ∉ y.2.2)∧(∀ l∈x.2.2,l ∉ y.2.1)∧∀ l∈x.2.1,l ∉ y.2.2:=by
 unfold clash at h
 split at h
 ·cases h
 ·rename_i h1
  split at h
  ·cases h
  ·rename_i h2
   exact⟨meets_iff h1,meets_iff h2,meets_iff h⟩
theorem swap {E:Env} {F:FnT} {all:List Oper} {p o:Oper} {i j:Nat} {st:ASt} {vp vo:PV} {up uo:List (Nat×Sym.Obj)} (hgp:(stepr E all p st).gives F vp up) (hkp:keysIn (fpr p (evp st.tmps) (hget st.heap)).2 up=true)
  (hgo:(stepr E all o (after p st vp up)).gives F vo uo) (hko:keysIn (fpr o (evp (after p st vp up).tmps) (hget (after p st vp up).heap)).2 uo=true) (hap:Apart all o p) (hcl:clash (fpAt o (after p st vp up) j) (fpAt p st i)=false) :
  fpAt o (after p st vp up) j=fpAt o st j∧(stepr E all o st).gives F vo uo∧keysIn (fpr o (evp st.tmps) (hget st.heap)).2 uo=true∧fpAt p (after o st vo uo) i=fpAt p st i∧(stepr E all p (after o st vo uo)).gives F vp up ∧
   keysIn (fpr p (evp (after o st vo uo).tmps) (hget (after o st vo uo).heap)).2 up=true∧(after o (after p st vp up) vo uo).eqv (after p (after o st vo uo) vp up):=by
 obtain⟨c1,c2,c3⟩:=clash_iff hcl
 simp only [fpAt] at c1 c2 c3
 have kp:=keysIn_iff hkp
 have ko:=keysIn_iff hko
 obtain⟨e1,e2⟩:=stepr_congr (E:=E) (all:=all) (o:=o) (s:=after p st vp up) (t:=st) (fun d hd=>(lget_putT_ne vp fun k hk=>by rintro rfl;exact hap.yx _ hk hd).symm) (fun l hl=>by
  refine(hget_hsets_not fun q hq=>?_).symm
  rintro rfl
  rcases List.mem_append.1 hl with hl|hl
  ·exact c3 _ hl (kp q hq)
  ·exact c1 _ hl (kp q hq))
 have hko':keysIn (fpr o (evp st.tmps) (hget st.heap)).2 uo=true:=by rw[e1];exact hko
 obtain⟨e3,e4⟩:=stepr_congr (E:=E) (all:=all) (o:=p) (s:=st) (t:=after o st vo uo) (fun d hd=>lget_putT_ne vo fun k hk=>by rintro rfl;exact hap.xy _ hk hd) (fun l hl=>by
  refine hget_hsets_not fun q hq=>?_
  rintro rfl
  rcases List.mem_append.1 hl with hl|hl
  ·exact c2 _ (ko q hq) hl
  ·exact c1 _ (ko q hq) hl)
 refine⟨(fpAt_eq j e1).symm,by rw[e2];exact hgo,hko',fpAt_eq i e3,by rw[e4];exact hgp,by rw[e3];exact hkp,?_,fun l=>?_⟩
 ·simp only [after]
  exact putT_comm vp vo fun d hd he=>hap.ne d he hd
 ·show hget (hsets (hsets st.heap up) uo) l=hget (hsets (hsets st.heap uo) up) l
  by_cases hu:∃ q∈uo,q.1=l
  ·obtain⟨q,hq,rfl⟩:=hu
   have hn:∀ r∈up,r.1≠q.1:=fun r hr e=>c1 _ (ko q hq) (e ▸ kp r hr)
   rw[hget_hsets_not (h:=hsets st.heap uo) hn]
   exact hget_hsets_congr (hget_hsets_not hn)
  ·have hn:∀ r∈uo,r.1≠l:=fun r hr e=>hu ⟨r,hr,e⟩
   rw[hget_hsets_not hn]
   exact(hget_hsets_congr (hget_hsets_not hn)).symm
def Free (bef:List (List Nat)) (x y:Fp):Prop:=(∃ b,nth bef y.1=some b∧x.1∈b)∨clash y x=false
theorem Tr.front {E:Env} {F:FnT} {all:List Oper} {bef:List (List Nat)} {j:Nat} {o:Oper} {l2:List (Nat×Oper)}:∀ {l1:List (Nat×Oper)} {st st':ASt} {fps:List Fp},Tr E F all (l1++(j,o)::l2) st fps st'→fps.Pairwise (Free bef) →
  (∀ q∈l1,Apart all o q.2∧∀ b,nth bef j=some b→q.1 ∉ b) →
  ∃ v u fps1 fps2 st'',(stepr E all o st).gives F v u∧keysIn (fpr o (evp st.tmps) (hget st.heap)).2 u=true∧fps=fps1++fpAt o st j::fps2∧fps1.length=l1.length∧Tr E F all (l1++l2) (after o st v u) (fps1++fps2) st''∧st'.eqv st''
 | [],st,st',fps,h,_,_=>by
  cases h with
  | cons v u hg hk h=>exact⟨v,u,[],_,st',hg,hk,rfl,rfl,h,.refl _⟩
 | (i,p)::l1,st,st',fps,h,hpw,hl=>by
  cases h with
  | @cons _ _ _ _ _ fps v u hg hk h =>
   rw[List.pairwise_cons] at hpw
   obtain⟨vo,uo,fps1,fps2,st'',g1,g2,g3,g4,g5,g6⟩:=Tr.front h hpw.2 fun q hq=>hl q (by simp [hq])
   obtain⟨hap,hnb⟩:=hl (i,p) (by simp)
   have hfree:=hpw.1 (fpAt o (after p st v u) j) (by rw[g3];simp)
   have hcl:clash (fpAt o (after p st v u) j) (fpAt p st i)=false:=by
    rcases hfree with ⟨b,hb,hm⟩|hc
    ·exact absurd hm (hnb b hb)
    ·exact hc
   obtain⟨s1,s2,s3,s4,s5,s6,s7⟩:=swap hg hk g1 g2 hap hcl
   obtain⟨t,ht,et⟩:=g5.eqv s7
   refine⟨vo,uo,fpAt p st i::fps1,fps2,t,s2,s3,by rw[g3,← s1];rfl,by simp [g4],?_,g6.trans et⟩
   have:=Tr.cons (i:=i) (E:=E) (F:=F) (all:=all) v u s5 s6 ht
   rw[s4] at this
   exact this
end Go.Sym
namespace Go.Sym
open Go
def numb:Nat→List Oper→List (Nat×Oper)
 | _,[]=>[]
 | i,o::r=>(i,o)::numb (i+1) r
theorem mem_numb:∀ {l:List Oper} {k:Nat} {q:Nat×Oper},q∈numb k l ↔ k≤q.1∧l[q.1-k]?=some q.2
 | [],k,q=>by simp [numb]
 | o::r,k,(i,p)=>by
  simp only [numb,List.mem_cons,mem_numb (l:=r)]
  constructor
  ·rintro (h | ⟨h1,h2⟩)
   ·obtain⟨rfl,rfl⟩:=Prod.mk.inj h
    simp
   ·refine⟨by omega,?_⟩
    rw[show i-k=(i-(k+1))+1 by omega,List.getElem?_cons_succ]
    exact h2
  ·rintro ⟨h1,h2⟩
   rcases Nat.eq_or_lt_of_le h1 with rfl|h1
   ·simp at h2;subst h2;exact .inl rfl
   ·refine .inr ⟨h1,?_⟩
    have h1:k<i:=h1
    have h2:(o::r)[i-k]?=some p:=h2
    rw[show i-k=(i-(k+1))+1 by omega,List.getElem?_cons_succ] at h2
    exact h2
theorem length_numb:∀ (l:List Oper) (k:Nat),(numb k l).length=l.length
 | [],_=>rfl
 | o::r,k=>by simp [numb,length_numb r]
theorem numb_sorted:∀ (l:List Oper) (k:Nat),(numb k l).Pairwise (fun x y=>x.1<y.1)
 | [],_=>.nil
 | o::r,k=>by
  simp only [numb,List.pairwise_cons]
  exact⟨fun q hq=>by have:=(mem_numb.1 hq).1;show k<q.1;omega,numb_sorted r (k+1)⟩
theorem meets_nil (l:List Nat):meets l []=false:=by
 induction l with
 | nil=>rfl
 | cons x r ih=>simp [meets,memN,ih]
theorem idle_free {bef:List (List Nat)} {x y:Fp} (h:idle x=true):Free bef x y:=by
 refine .inr ?_
 obtain⟨i,r,w⟩:=x
 have:r=[]∧w=[]:=by
  unfold idle at h
  split at h
  ·rename_i e;injection e with _ e;injection e with e1 e2;exact⟨e1,e2⟩
  ·cases h
 obtain⟨rfl,rfl⟩:=this
 simp [clash,meets_nil]
theorem clashIn_free {bef:List (List Nat)} {x:Fp}:∀ {fps:List Fp},clashIn bef x fps=false→∀ y∈fps,Free bef y x
 | [],_,y,hy=>by simp at hy
 | z::r,h,y,hy=>by
  simp only [clashIn] at h
  split at h
  ·rename_i hm
   rcases List.mem_cons.1 hy with rfl|hy
   ·split at hm
    ·rename_i b hb;exact .inl ⟨b,hb,memN_iff.1 hm⟩
    ·cases hm
   ·exact clashIn_free h y hy
  ·split at h
   ·cases h
   ·rename_i hc
    rcases List.mem_cons.1 hy with rfl|hy
    ·exact .inr hc
    ·exact clashIn_free h y hy
theorem opsd_tr {E : Env} {F : FnT} {all : List Oper} {bef : List (List Nat)} {K : ASt → Prop} : ∀ (r : List Oper) (i : Nat) (st : ASt) (fps : List Fp), opsd E F all bef i r st fps K →
    ∃ fps' st', Tr E F all (numb i r) st fps' st' ∧ K st' ∧ fps'.Pairwise (Free bef) ∧ ∀ x ∈ fps, ∀ y ∈ fps', Free bef x y
  | [], i, st, fps, h => ⟨[], st, .nil st, h, .nil, by simp⟩
  | o :: r, i, st, fps, h => by
    simp only [opsd] at h
    obtain ⟨v, u, hg, h⟩ := ORes.holds_gives h
    split at h
    · rename_i hk
      split at h
      · rename_i hc
        obtain ⟨fps', st', h1, h2, h3, h4⟩ := opsd_tr r (i + 1) _ _ h
        have hfirst : ∀ y ∈ fps', Free bef (fpAt o st i) y := by
          intro y hy
          cases hid : idle (fpAt o st i) with
          | true => exact idle_free hid
          | false => rw [hid] at h4; exact h4 _ (by simp) y hy
        have hrest : ∀ x ∈ fps, ∀ y ∈ fps', Free bef x y := by
          intro x hx y hy
          cases hid : idle (fpAt o st i) with
          | true => rw [hid] at h4; exact h4 x hx y hy
          | false => rw [hid] at h4; exact h4 x (by simp [hx]) y hy
        refine ⟨fpAt o st i :: fps', st', .cons v u hg hk h1, h2, List.pairwise_cons.2 ⟨hfirst, h3⟩, fun x hx y hy => ?_⟩
        rcases List.mem_cons.1 hy with rfl | hy
        · exact clashIn_free hc x hx
        · exact hrest x hx y hy
      · cases h
    · cases h
/-! ### Who goes before whom -/
theorem mem_insertAll:∀ {x s:List Nat} {k:Nat},k∈insertAll x s ↔ k∈x∨k∈s
 | [],s,k=>by simp [insertAll]
 | y::r,s,k=>by
  simp only [insertAll,mem_insertAll (x:=r)]
  split
  ·rename_i hm
   have:=memN_iff.1 hm
   constructor
   ·rintro (h|h)
    ·exact .inl (by simp [h])
    ·exact .inr h
   ·rintro (h|h)
    ·rcases List.mem_cons.1 h with rfl|h
     ·exact .inr this
     ·exact .inl h
    ·exact .inr h
  ·simp only [List.mem_cons]
   constructor
   ·rintro (h|h|h)
    ·exact .inl (.inr h)
    ·exact .inl (.inl h)
    ·exact .inr h
   ·rintro ((h|h)|h)
    ·exact .inr (.inl h)
    ·exact .inl h
    ·exact .inr (.inr h)
theorem mem_befOne:∀ {es:List Edge} {acc:List (List Nat)} {k:Nat},k∈befOne es acc ↔ ∃ e∈es,Region.binds .any e=true∧(k=e.on∨∃ b,nth acc e.on=some b∧k∈b)
 | [],acc,k=>by simp [befOne]
 | e::r,acc,k=>by
  simp only [befOne]
  cases hb:Region.binds .any e with
  | false =>
   simp only [mem_befOne (es:=r),List.mem_cons]
   constructor
   ·rintro ⟨e',h1,h2⟩;exact⟨e',.inr h1,h2⟩
   ·rintro ⟨e',rfl|h1,h2,h3⟩
    ·rw[hb] at h2;cases h2
    ·exact⟨e',h1,h2,h3⟩
  | true =>
   simp only [mem_insertAll,mem_befOne (es:=r),List.mem_cons]
   constructor
   ·rintro ((rfl|h) | ⟨e',h1,h2⟩)
    ·exact⟨e,.inl rfl,hb,.inl rfl⟩
    ·cases hn:nth acc e.on with
     | none=>simp [hn] at h
     | some b=>simp only [hn] at h;exact⟨e,.inl rfl,hb,.inr ⟨b,hn,h⟩⟩
    ·exact⟨e',.inr h1,h2⟩
   ·rintro ⟨e',rfl|h1,h2,h3⟩
    ·rcases h3 with rfl | ⟨b,h3,h4⟩
     ·exact .inl (.inl rfl)
     ·rw[h3];exact .inl (.inr h4)
    ·exact .inr ⟨e',h1,h2,h3⟩
theorem befs_get:∀ (ops:List Oper) (acc:List (List Nat)),(∀ j,j<acc.length→nth (befs ops acc) j=nth acc j)∧(befs ops acc).length=acc.length+ops.length ∧
  ∀ k o,ops[k]?=some o→∃ pre,nth (befs ops acc) (acc.length+k)=some (befOne o.after.toList pre)∧∀ j b,nth pre j=some b→nth (befs ops acc) j=some b∧j<acc.length+k
 | [],acc=>by simp [befs]
 | o::r,acc=>by
  obtain⟨h1,h2,h3⟩:=befs_get r (acc++[befOne o.after.toList acc])
  simp only [befs]
  refine⟨fun j hj=>?_,by rw[h2];simp;omega,fun k o' ho=>?_⟩
  ·rw[h1 j (by simp;omega),nth_eq,nth_eq,List.getElem?_append_left hj]
  ·cases k with
   | zero =>
    simp at ho
    subst ho
    refine⟨acc,?_,fun j b hb=>?_⟩
    ·rw[h1 _ (by simp),nth_eq];simp
    ·rw[nth_eq] at hb
     have hj:=(List.getElem?_eq_some_iff.1 hb).1
     exact⟨by rw[h1 j (by simp;omega),nth_eq,List.getElem?_append_left hj];exact hb,by omega⟩
   | succ k =>
    obtain⟨pre,p1,p2⟩:=h3 k o' (by simpa using ho)
    simp only [List.length_append,List.length_singleton] at p1 p2
    refine⟨pre,by rw[show acc.length+(k+1)=acc.length+1+k by omega];exact p1,fun j b hb=>?_⟩
    obtain⟨q1,q2⟩:=p2 j b hb
    exact⟨q1,by omega⟩
structure Ordered (ops:List Oper):Prop where
 ex:∀ (i:Nat) o,ops[i]?=some o→∃ b,nth (befs ops []) i=some b∧(∀ k∈b,k<i)∧(∀ k,k∈b→∃ e∈o.after,Region.binds .any e=true∧(k=e.on∨∃ b',nth (befs ops []) e.on=some b'∧k∈b'))∧∀ e∈o.after,Region.binds .any e=true→e.on∈b
 apart:∀ (i j:Nat) o p,ops[i]?=some o→ops[j]?=some p→j<i→(∀ b,nth (befs ops []) i=some b→j ∉ b)→Apart ops o p
theorem orderOk_iff {ops:List Oper} (h:orderOk ops=true):Ordered ops:=by
 unfold orderOk at h
 simp only [List.all_eq_true] at h
 obtain⟨_,_,g3⟩:=befs_get ops []
 have hz:∀ (i:Nat) o,ops[i]?=some o→(o,i)∈ops.zipIdx:=by
  intro i o ho
  rw[List.mem_zipIdx_iff_getElem?]
  exact ho
 refine⟨fun i o ho=>?_,fun i j o p ho hp hji hnb=>?_⟩
 ·have:=h (o,i) (hz i o ho)
  simp only [Bool.and_eq_true] at this
  obtain⟨hb,_⟩:=this
  obtain⟨pre,p1,p2⟩:=g3 i o ho
  simp only [List.length_nil,Nat.zero_add] at p1 p2
  rw[p1] at hb
  simp only [List.all_eq_true] at hb
  refine⟨_,p1,fun k hk=>?_,fun k hk=>?_,fun e he hbd=>?_⟩
  ·have:=hb k hk
   unfold Nat.blt at this
   have:=ble_le this
   omega
  ·obtain⟨e,he,h1,h2⟩:=mem_befOne.1 hk
   refine⟨e,by simpa using he,h1,h2.imp id ?_⟩
   rintro ⟨b',q1,q2⟩
   exact⟨b',(p2 _ _ q1).1,q2⟩
  ·exact mem_befOne.2 ⟨e,by simpa using he,hbd,.inl rfl⟩
 ·have:=h (o,i) (hz i o ho)
  simp only [Bool.and_eq_true,List.all_eq_true] at this
  have:=this.2 (p,j) (hz j p hp)
  simp only [Bool.or_eq_true] at this
  rcases this with (h1|h1)|h1
  ·have:=ble_le h1;omega
  ·split at h1
   ·rename_i b hb;exact absurd (memN_iff.1 h1) (hnb b hb)
   ·cases h1
  ·exact apartN_iff h1
section
variable {P:Program} {fc:FC} {E:Env}
theorem any_ok (hE:EnvOk P E) (h64:fc.n0≤64) {ops:Array Oper} (hord:Ordered ops.toList) {Q:Exit→Act→World→Prop} {sx:ASt} (hQ:∀ a' c',Inv fc c' sx a'→Q .normal a' c'.w) :
  ∀ (fuel:Nat) (rem:List (Nat×Oper)) (listed:Array Bool) (c:RC) (st st':ASt) (fps:List Fp) (a:Act),rem.length=fuel→listed.size=ops.size→rem.Pairwise (fun x y=>x.1<y.1) →
   (∀ q∈rem,ops[q.1]?=some q.2)→(∀ i o,ops[i]?=some o→(listed.getD i true=false ↔ (i,o)∈rem)) →
   (∀ j b k,listed.getD j false=true→nth (befs ops.toList []) j=some b→k∈b→listed.getD k false=true) →
   Tr E (Fn P) ops.toList rem st fps st'→fps.Pairwise (Free (befs ops.toList []))→st'.eqv sx→Inv fc c st a→wpAny P .any ops Q fuel listed a c.w:=by
 intro fuel
 induction fuel with
 | zero =>
  intro rem listed c st st' fps a hl hsz hs hrem hli hdown htr hpw hsx hi
  have:rem=[]:=List.length_eq_zero_iff.1 hl
  subst this
  cases htr
  refine⟨?_,hQ a c (hi.eqv hsx)⟩
  rcases hr:Region.ready .any ops listed with _ | ⟨j,r⟩
  ·rfl
  ·have hj:j∈Region.ready .any ops listed:=by rw[hr];simp
   obtain⟨h1,o,ho,_⟩:=mem_ready.1 hj
   exact absurd ((hli j o ho).1 h1) (by simp)
 | succ fuel ih =>
  intro rem listed c st st' fps a hl hsz hs hrem hli hdown htr hpw hsx hi
  have isL:∀ j,j<ops.size→listed.getD j false=false→listed.getD j true=false:=by
   intro j hj hf
   have:j<listed.size:=by omega
   simpa [Array.getD,this] using hf
  have notL:∀ j,listed.getD j true=false→listed.getD j false=false:=by
   intro j hj
   rcases Nat.lt_or_ge j listed.size with h|h
   ·simpa [Array.getD,h] using hj
   ·simp [Array.getD,Nat.not_lt.2 h] at hj
  refine⟨fun hr=>?_,fun i hir=>?_⟩
  ·exfalso
   match rem,hl with
   | (i,o)::rem,hl =>
   rw[List.pairwise_cons] at hs
   have ho:ops[i]?=some o:=hrem (i,o) (by simp)
   obtain⟨b,hb,hlt,_,hin⟩:=hord.ex i o (by simpa using ho)
   have:i∈Region.ready .any ops listed:=by
    refine mem_ready.2 ⟨(hli i o ho).2 (by simp),o,ho,fun e he hbd=>?_⟩
    have hm:=hin e he hbd
    have hei:=hlt _ hm
    have his:i<ops.size:=(Array.getElem?_eq_some_iff.1 ho).1
    cases hcase:listed.getD e.on false with
    | true=>rfl
    | false =>
     have hes:e.on<ops.size:=by omega
     have:=(hli e.on ops[e.on] (by simp [hes])).1 (isL _ hes hcase)
     rcases List.mem_cons.1 this with h|h
     ·have:=(Prod.mk.inj h).1;omega
     ·have:=hs.1 _ h
      have:i<e.on:=this
      omega
   rw[hr] at this
   cases this
  ·obtain⟨h1,o,ho,hall⟩:=mem_ready.1 hir
   have hm:=(hli i o ho).1 h1
   obtain⟨l1,l2,rfl⟩:=List.append_of_mem hm
   have his:i<ops.size:=(Array.getElem?_eq_some_iff.1 ho).1
   have hbefL:∀ b k,nth (befs ops.toList []) i=some b→k∈b→listed.getD k false=true:=by
    intro b k hb hk
    obtain⟨b2,hb2,_,hex,_⟩:=hord.ex i o (by simpa using ho)
    rw[hb] at hb2
    obtain rfl:=Option.some.inj hb2
    obtain⟨e,he,hbd,rfl | ⟨b',hb',hk'⟩⟩:=hex k hk
    ·exact hall e he hbd
    ·exact hdown e.on b' k (hall e he hbd) hb' hk'
   have hlt1:∀ q∈l1,q.1<i:=fun q hq=>by
    have:=List.pairwise_append.1 hs
    exact this.2.2 q hq (i,o) (by simp)
   have hunl:∀ q∈l1,listed.getD q.1 false=false:=fun q hq=>notL _ ((hli q.1 q.2 (hrem q (by simp [hq]))).2 (by simp [hq]))
   have hfront:∀ q∈l1,Apart ops.toList o q.2∧∀ b,nth (befs ops.toList []) i=some b→q.1 ∉ b:=by
    intro q hq
    have hnb:∀ b,nth (befs ops.toList []) i=some b→q.1 ∉ b:=fun b hb hk=>by
     have:=hbefL b _ hb hk
     rw[hunl q hq] at this
     cases this
    exact⟨hord.apart i q.1 o q.2 (by simpa using ho) (by simpa using hrem q (by simp [hq])) (hlt1 q hq) hnb,hnb⟩
   obtain⟨v,u,fps1,fps2,st'',g1,g2,g3,g4,g5,g6⟩:=htr.front hpw hfront
   refine(step_ok hE hi h64 g1).wpOp ho fun a' c' i'=>?_
   refine ih (l1++l2) _ c' _ st'' (fps1++fps2) a' (by simp at hl ⊢;omega) (by simp [hsz]) ?_ (fun q hq=>hrem q (by simp at hq ⊢;rcases hq with h|h<;>simp [h])) ?_ ?_ g5 ?_ (g6.symm.trans hsx) i'
   ·refine hs.sublist ?_
    exact List.Sublist.append (List.Sublist.refl _) (List.sublist_cons_self _ _)
   ·intro j p hp
    by_cases hji:j=i
    ·subst hji
     rw[ho] at hp
     obtain rfl:=Option.some.inj hp
     have e1:(listed.setIfInBounds j true).getD j true=true:=by
      have:j<listed.size:=by omega
      simp [Array.getD,this]
     rw[e1]
     simp only [Bool.true_eq_false,false_iff,List.mem_append,not_or]
     have hs2:=List.pairwise_append.1 hs
     refine⟨fun h=>?_,fun h=>?_⟩
     ·have:=hlt1 _ h;exact Nat.lt_irrefl _ this
     ·have:=(List.pairwise_cons.1 hs2.2.1).1 _ h;exact Nat.lt_irrefl _ this
    ·rw[getD_set_ne true (Ne.symm hji),hli j p hp]
     simp only [List.mem_append,List.mem_cons]
     constructor
     ·rintro (h|h|h)
      ·exact .inl h
      ·exact absurd (Prod.mk.inj h).1 hji
      ·exact .inr h
     ·rintro (h|h)
      ·exact .inl h
      ·exact .inr (.inr h)
   ·intro j b k hj hb hk
    by_cases hji:j=i
    ·subst hji;exact getD_set_true (hbefL b k hb hk)
    ·rw[getD_set_ne false (Ne.symm hji)] at hj
     exact getD_set_true (hdown j b k hj hb hk)
   ·rw[g3] at hpw
    refine hpw.sublist ?_
    exact List.Sublist.append (List.Sublist.refl _) (List.sublist_cons_self _ _)
theorem Grow.drawn (w:World):Grow w { w with drawn:=w.drawn+1 }:=⟨Nat.le_refl _,fun _ _=>rfl,rfl,rfl,rfl⟩
theorem region_any (hE:EnvOk P E) {c:RC} {st:ASt} {a:Act} (h:Inv fc c st a) (h64:fc.n0≤64) (hm:P.follows .mixedOrders=true) {id:Nat} {ops:Array Oper} (hord:orderOk ops.toList=true) {Q:Exit→Act→World→Prop} {K:ASt→Prop}
  (hw:opsd E (Fn P) ops.toList (befs ops.toList []) 0 ops.toList st [] K) (hQ:∀ st' a' c',Inv fc c' st' a'→K st'→Q .normal a' c'.w):(Code.region id ops true).wp P Q a c.w:=by
 refine wp_region_any hm ?_
 obtain⟨fps,st',h1,h2,h3,_⟩:=opsd_tr _ _ _ _ hw
 refine any_ok hE h64 (orderOk_iff hord) (sx:=st') (fun a' c' i'=>hQ st' a' c' i' h2) ops.size (numb 0 ops.toList) _ { c with w:={ c.w with drawn:=c.w.drawn+1 } } st st' fps a (by rw[length_numb];simp) (by simp) (numb_sorted _ _) (fun q hq=>?_) (fun i o ho=>?_) (fun j b k hj=>?_) h1 h3 (.refl _) (h.grow (Grow.drawn c.w))
 ·have:=(mem_numb.1 hq).2;simpa using this
 ·have his:i<ops.size:=(Array.getElem?_eq_some_iff.1 ho).1
  constructor
  ·intro _;exact mem_numb.2 ⟨Nat.zero_le _,by simpa using ho⟩
  ·intro _;simp [Array.getD,his]
 ·have:(Array.replicate ops.size false).getD j false=false:=by
   simp only [Array.getD];split<;>simp
  rw[this] at hj;cases hj
end
end Go.Sym
namespace Go.Sym
open Go
def exOf:AEx→Exit
 | .normal=>.normal
 | .exit i=>.exit i
 | .ret=>.ret
 | .goto l=>.goto l
def lpCode:Code→Code
 | .scope s=>.scope s
 | b=>.loop b
def Lp (P:Program) (fc:FC):LpT:=fun b st K =>
 ∀ (c:RC) (a:Act) (Q:Exit→Act→World→Prop),Inv fc c st a→(∀ e st' a' c',Inv fc c' st' a'→K e st'→Q (exOf e) a' c'.w)→(lpCode b).wp P Q a c.w
def regOk:Code→Bool
 | .region _ ops draw=>match draw with
  | true=>orderOk ops.toList
  | false=>true
 | .seq a b=>regOk a && regOk b
 | .cond _ a b=>regOk a && regOk b
 | .block _ c=>regOk c
 | .loop c=>regOk c
 | .scope c=>regOk c
 | _=>true
section
variable {P:Program} {fc:FC} {E:Env}
theorem cw_ok (hE:EnvOk P E) (h64:fc.n0≤64) (hm:P.follows .mixedOrders=true):∀ (code:Code) (st:ASt) (K:AEx→ASt→Prop),regOk code=true→cw E (Fn P) (Lp P fc) code st K →
  ∀ (c:RC) (a:Act) (Q:Exit→Act→World→Prop),Inv fc c st a→(∀ e st' a' c',Inv fc c' st' a'→K e st'→Q (exOf e) a' c'.w)→code.wp P Q a c.w
 | .skip,st,K,_,hw,c,a,Q,hi,hQ=>wp_skip (hQ .normal st a c hi hw)
 | .region id ops draw,st,K,hr,hw,c,a,Q,hi,hQ=>by
  cases draw with
  | false=>exact region_text hE hi h64 hw fun st' a' c' i' k'=>hQ .normal st' a' c' i' k'
  | true=>exact region_any hE hi h64 hm hr hw fun st' a' c' i' k'=>hQ .normal st' a' c' i' k'
 | .seq x y,st,K,hr,hw,c,a,Q,hi,hQ=>by
  simp only [regOk,Bool.and_eq_true] at hr
  refine wp_seq (cw_ok hE h64 hm x st _ hr.1 hw c a _ hi fun e st' a' c' i' k'=>?_)
  cases e with
  | normal=>exact cw_ok hE h64 hm y st' K hr.2 k' c' a' Q i' hQ
  | exit i=>exact hQ (.exit i) st' a' c' i' k'
  | ret=>exact hQ .ret st' a' c' i' k'
  | goto l=>exact hQ (.goto l) st' a' c' i' k'
 | .cond q x y,st,K,hr,hw,c,a,Q,hi,hQ=>by
  simp only [regOk,Bool.and_eq_true] at hr
  simp only [cw] at hw
  have hq:=hi.eval q
  split at hw
  ·rename_i t ht
   rw[ht] at hq
   have hv:=hq.bool_inv
   cases t with
   | true=>exact wp_cond_true hv (cw_ok hE h64 hm x st K hr.1 hw c a Q hi hQ)
   | false=>exact wp_cond_false hv (cw_ok hE h64 hm y st K hr.2 hw c a Q hi hQ)
  ·cases hw
 | .block id x,st,K,hr,hw,c,a,Q,hi,hQ=>by
  refine wp_block (cw_ok hE h64 hm x st _ hr hw c a _ hi fun e st' a' c' i' k'=>?_)
  cases e with
  | normal=>exact hQ .normal st' a' c' i' k'
  | exit i =>
   simp only at k'
   show if i=id then Q .normal a' c'.w else Q (.exit i) a' c'.w
   split at k'
   ·rename_i hb
    rw[if_pos (Nat.eq_of_beq_eq_true hb)]
    exact hQ .normal st' a' c' i' k'
   ·rename_i hb
    rw[if_neg (fun e=>by subst e;simp at hb)]
    exact hQ (.exit i) st' a' c' i' k'
  | ret=>exact hQ .ret st' a' c' i' k'
  | goto l=>exact hQ (.goto l) st' a' c' i' k'
 | .exit i,st,K,_,hw,c,a,Q,hi,hQ=>wp_exit (hQ (.exit i) st a c hi hw)
 | .ret,st,K,_,hw,c,a,Q,hi,hQ=>wp_ret (hQ .ret st a c hi hw)
 | .loop b,st,K,_,hw,c,a,Q,hi,hQ=>by
  simp only [cw] at hw
  split at hw
  ·cases hw
  ·rename_i hb
   cases hw with
   | mk h =>
    have:=h c a Q hi hQ
    unfold lpCode at this
    split at this
    ·exact absurd rfl (hb _)
    ·exact this
 | .rangeFunc _ _ _ _,_,_,_,hw,_,_,_,_,_=>nomatch hw
 | .scope b,st,K,_,hw,c,a,Q,hi,hQ=>by
  cases hw with
  | mk h=>exact h c a Q hi hQ
 | .label _,st,K,_,hw,c,a,Q,hi,hQ=>wp_label (hQ .normal st a c hi hw)
 | .goto l,st,K,_,hw,c,a,Q,hi,hQ=>wp_goto (hQ (.goto l) st a c hi hw)
 | .refuse _,_,_,_,hw,_,_,_,_,_=>nomatch hw
end
/-! ### One state read as another -/
inductive Src where
 | loc (l:Nat)
 | nil (sz:Nat)
structure Wit where
 ρ:List (Nat×Src)
 ks:List Nat
def rnL:List (Nat×Src)→Nat→Src
 | [],l=>.loc l
 | (k,s)::r,l=>match Nat.beq k l with
  | true=>s
  | false=>rnL r l
def sameLoc (W:Wit) (l l':Nat):Bool:=match memN W.ks l with
 | true=>(match rnL W.ρ l with
  | .loc k=>Nat.beq k l'
  | .nil _=>false)
 | false=>false
def isNew (W:Wit) (l:Nat):Bool:=match memN W.ks l with
 | true=>(match rnL W.ρ l with
  | .loc _=>false
  | .nil _=>true)
 | false=>false
def frzRows (look:Nat→Option Obj):PV→Option (Nat×Bool×Nat×(Unit→List (List PV)))
 | .ref t=>(match look t with
  | some (.frz nn sz rows)=>some (nn,false,sz,fun _=>rows)
  | _=>none)
 | .sub t full lo n=>(match look t with
  | some (.frz _ sz rows)=>some (0,full,sz,fun _=>(rows.drop lo).take n)
  | _=>none)
 | _=>none
def impB (a b:Bool):Bool:=match a with
 | true=>b
 | false=>true
def eqB (a b:Bool):Bool:=match a with
 | true=>b
 | false=>!b
def nnLe (a b:Nat):Bool:=match a with
 | 0=>true
 | 1=>(match b with
  | 0=>false
  | _+1=>true)
 | 2=>is2 b
 | _=>false
def andT (b:Bool) (why:String) (k:Unit→Prop):Prop:=match b with
 | true=>k ()
 | false=>Stop why
inductive Wk:PV→PV→Prop
 | refl (x:PV):Wk x x
 | nil (full:Bool) (sz:Nat):Wk (.sl false 0 full sz []) .nils
 | sl {nn nn' sz:Nat} {full full':Bool} {rows rows':List (List PV)} (hn:nnLe nn nn'=true) (hf:impB full full'=true) (hl:rows.length=rows'.length)
   (hr:∀ (i:Nat) r r',rows[i]?=some r→rows'[i]?=some r'→r.length=r'.length)
   (hx:∀ (i j:Nat) r r' x y,rows[i]?=some r→rows'[i]?=some r'→r[j]?=some x→r'[j]?=some y→Wk x y):Wk (.sl false nn full sz rows) (.sl false nn' full' sz rows')
structure WkL (xs ys:List PV):Prop where
 len:xs.length=ys.length
 at':∀ (j:Nat) x y,xs[j]?=some x→ys[j]?=some y→Wk x y
structure WkR (xs ys:List (List PV)):Prop where
 len:xs.length=ys.length
 at':∀ (i:Nat) r r',xs[i]?=some r→ys[i]?=some r'→WkL r r'
mutual
def mt (W : Wit) (look : Nat → Option Obj) : PV → PV → (Unit → Prop) → Prop
  | .top, _, k => k ()
  | .int i n, y, k => (match y with
    | .int j m => andT (Nat.beq (ikNum i) (ikNum j)) "match: kinds" fun _ => n = m ∧ k ()
    | _ => Stop "match: int")
  | .bool b, y, k => (match y with
    | .bool b' => b = b' ∧ k ()
    | _ => Stop "match: bool")
  | .str s, y, k => (match y with
    | .str s' => s = s' ∧ k ()
    | _ => Stop "match: str")
  | .lit v, y, k => (match y with
    | .lit v' => v = v' ∧ k ()
    | _ => Stop "match: lit")
  | .nils, y, k => (match y with
    | .nils => k ()
    | _ => Stop "match: nils")
  | .sl bo nn full sz rows, y, k => (match y with
    | .nils => andT (Nat.beq nn 0) "match: nil" fun _ => rows = [] ∧ k ()
    | .sl bo' nn' full' sz' rows' => andT (impB bo' bo && nnLe nn nn' && impB full full' && Nat.beq sz sz') "match: slice" fun _ => WkR rows rows' ∧ k ()
    | y => (match frzRows look y with
      | some (nn', full', sz', rows') => andT (nnLe nn nn' && impB full full' && Nat.beq sz sz') "match: frozen" fun _ => Named _ rows' fun rs => WkR rows rs ∧ k ()
      | none => Stop "match: slice"))
  | .ref t, y, k => (match y with
    | .ref t' => andT (sameLoc W t t') "match: ref" k
    | .nils => andT (isNew W t) "match: new ref" k
    | _ => Stop "match: ref")
  | .sub t f lo n, y, k => (match y with
    | .sub t' f' lo' n' => andT (sameLoc W t t' && eqB f f') "match: sub" fun _ => lo = lo' ∧ n = n' ∧ k ()
    | _ => Stop "match: sub")
  | .spare t, y, k => (match y with
    | .spare t' => andT (sameLoc W t t') "match: spare" k
    | _ => Stop "match: spare")
  | .ptr l off, y, k => (match y with
    | .ptr l' off' => andT (sameLoc W l l' && Nat.beq off off') "match: ptr" k
    | _ => Stop "match: ptr")
  | .ep row off, y, k => (match y with
    | .ep row' off' => andT (Nat.beq off off') "match: ep" fun _ => row = row' ∧ k ()
    | _ => Stop "match: ep")
  | .er t i off, y, k => (match y with
    | .er t' i' off' => andT (sameLoc W t t' && Nat.beq off off') "match: er" fun _ => i = i' ∧ k ()
    | _ => Stop "match: er")
  | .ifc, y, k => (match y with
    | .ifc => k ()
    | _ => Stop "match: interface")
  | .fl n, y, k => (match y with
    | .fl m => n = m ∧ k ()
    | _ => Stop "match: float")
  | .cx p q, y, k => (match y with
    | .cx p' q' => p = p' ∧ q = q' ∧ k ()
    | _ => Stop "match: complex")
  | .mp t, y, k => (match y with
    | .mp t' => andT (sameLoc W t t') "match: map" k
    | _ => Stop "match: map")
  | .fn f a b, y, k => (match y with
    | .fn f' a' b' => f = f' ∧ mtL W look a a' fun _ => mtL W look b b' k
    | _ => Stop "match: fn")
  | .agg cs, y, k => (match y with
    | .agg ds => mtL W look cs ds k
    | _ => Stop "match: agg")
  | .tup cs, y, k => (match y with
    | .tup ds => mtL W look cs ds k
    | _ => Stop "match: tup")
def mtL (W : Wit) (look : Nat → Option Obj) : List PV → List PV → (Unit → Prop) → Prop
  | [], ys, k => (match ys with
    | [] => k ()
    | _ => Stop "match: length")
  | x :: xs, ys, k => (match ys with
    | y :: ys => mt W look x y fun _ => mtL W look xs ys k
    | _ => Stop "match: length")
end
def mtO (W : Wit) (look : Nat → Option Obj) (l : Nat) (o : Obj) (k : Unit → Prop) : Prop :=
  match rnL W.ρ l with
  | .nil z => (match o with
    | .arr nn cap sz rows => andT (Nat.beq nn 0 && Nat.beq z sz && (match cap with
        | none => true
        | some _ => false)) "match: new array" fun _ => rows = [] ∧ k ()
    | _ => Stop "match: new array")
  | .loc l' => (match o with
    | .dead => k ()
    | .box cs => (match look l' with
      | some (.box ds) => mtL W look cs ds k
      | _ => Stop "match: box")
    | .arr nn cap sz rows => (match look l' with
      | some (.arr nn' cap' sz' rows') => andT (nnLe nn nn' && Nat.beq sz sz') "match: array" fun _ => (match cap with
        | none => WkR rows rows' ∧ k ()
        | some c => (match cap' with
          | some c' => c = c' ∧ WkR rows rows' ∧ k ()
          | none => Stop "match: cap"))
      | _ => Stop "match: array")
    | .frz nn sz rows => (match look l' with
      | some (.frz nn' sz' rows') => andT (nnLe nn nn' && Nat.beq sz sz') "match: frozen array" fun _ => WkR rows rows' ∧ k ()
      | _ => Stop "match: frozen array")
    | .map kk es => (match look l' with
      | some (.map kk' es') => kk = kk' ∧ es = es' ∧ k ()
      | _ => Stop "match: map")
    | .arrx nn sz rows i row => (match look l' with
      | some (.arrx nn' sz' rows' i' row') => andT (nnLe nn nn' && Nat.beq sz sz') "match: open array" fun _ => i = i' ∧ WkR rows rows' ∧ mtL W look row row' k
      | some (.arr nn' _ sz' rows') => andT (nnLe nn nn' && Nat.beq sz sz') "match: array opened" fun _ => rows'[i]? = some row ∧ WkR rows rows' ∧ k ()
      | _ => Stop "match: open array"))
def mtH (W:Wit) (look:Nat→Option Obj):Heap→(Unit→Prop)→Prop
 | [],k=>k ()
 | (l,o)::r,k=>mtO W look l o fun _=>mtH W look r k
def keysOf:Heap→List Nat
 | []=>[]
 | (l,_)::r=>l::keysOf r
def isLive:Obj→Bool
 | .box _=>true
 | .arr _ _ _ _=>true
 | .map _ _=>true
 | .arrx _ _ _ _ _=>true
 | _=>false
def srcsOf (ρ:List (Nat×Src)):Heap→List Nat
 | []=>[]
 | (l,o)::r=>match isLive o with
  | true=>(match rnL ρ l with
   | .loc l'=>l'::srcsOf ρ r
   | .nil _=>srcsOf ρ r)
  | false=>srcsOf ρ r
def nodupN:List Nat→Bool
 | []=>true
 | x::r=>match memN r x with
  | true=>false
  | false=>nodupN r
def parOk (W:Wit):List Nat→Bool
 | []=>true
 | l::r=>match sameLoc W l l with
  | true=>parOk W r
  | false=>false
def subH (ρ : List (Nat × Src)) (n0 : Nat) (h : Heap) (look : Nat → Option Obj) (k : Wit → Prop) : Prop :=
  andT (nodupN (keysOf h) && nodupN (srcsOf ρ h) && parOk ⟨ρ, keysOf h⟩ (upTo n0 0)) "match: locations" fun _ => mtH ⟨ρ, keysOf h⟩ look h fun _ => k ⟨ρ, keysOf h⟩
def sub (ρ:List (Nat×Src)) (n0:Nat) (S st:ASt):Prop :=
 subH ρ n0 S.heap (hget st.heap) fun W=>mtL W (hget st.heap) S.tmps st.tmps fun _=>True
def frzs:List Nat→Heap→Heap
 | [],h=>h
 | t::r,h=>frzs r (match hget h t with
  | some (.arr nn _ sz rows)=>hset h t (.frz nn sz rows)
  | some (.arrx nn sz rows i row)=>(match plainCellsOf (hget h) row with
   | some (ys,u)=>hset (hsets h u) t (.frz (nn1 nn) sz (rows.set i ys))
   | none=>h)
  | _=>h)
def frzSt (fz:List Nat) (st:ASt):ASt:={ st with heap:=frzs fz st.heap }
end Go.Sym
namespace Go.Sym
open Go
def RC.read (c:RC) (ρ:List (Nat×Src)) (h:Heap):RC :=
 { w:=c.w,Xk:=c.Xk,Xr:=c.Xr,D:=fun l=>(hget h l).isSome,θ:=fun l=>match rnL ρ l with
  | .loc l'=>c.θ l'
  | .nil z=>⟨.slice none 0 0,z⟩ }
theorem mem_keysOf {h:Heap} {l:Nat}:l∈keysOf h ↔ (hget h l).isSome:=by
 induction h with
 | nil=>simp [keysOf,hget]
 | cons p r ih =>
  obtain⟨k,o⟩:=p
  simp only [keysOf,List.mem_cons,hget]
  cases hb:Nat.beq k l with
  | true=>obtain rfl:=Nat.eq_of_beq_eq_true hb;simp
  | false =>
   have:l≠k:=fun e=>by subst e;simp at hb
   simp [this,ih]
theorem hget_mem {h:Heap} {l:Nat} {o:Sym.Obj} (e:hget h l=some o):(l,o)∈h:=by
 induction h with
 | nil=>simp [hget] at e
 | cons p r ih =>
  obtain⟨k,x⟩:=p
  simp only [hget] at e
  split at e
  ·rename_i hb
   obtain rfl:=Nat.eq_of_beq_eq_true hb
   obtain rfl:=Option.some.inj e
   simp
  ·exact List.mem_cons_of_mem _ (ih e)
theorem andT_iff {b:Bool} {why:String} {k:Unit→Prop} (h:andT b why k):b=true∧k ():=by
 cases b with
 | true=>exact⟨rfl,h⟩
 | false=>cases h
section
variable {fc:FC} {c:RC} {st:ASt} {a:Act} {ρ:List (Nat×Src)} {h:Heap}
theorem sameLoc_ok {l l':Nat} (e:sameLoc ⟨ρ,keysOf h⟩ l l'=true):(c.read ρ h).D l∧(c.read ρ h).θ l=c.θ l':=by
 unfold sameLoc at e
 split at e
 ·rename_i hm
  split at e
  ·rename_i k hk
   obtain rfl:=Nat.eq_of_beq_eq_true e
   exact⟨mem_keysOf.1 (memN_iff.1 hm),by simp only [RC.read];simp only at hk;rw[hk]⟩
  ·cases e
 ·cases e
theorem isNew_ok {l:Nat} (e:isNew ⟨ρ,keysOf h⟩ l=true):(c.read ρ h).D l∧((c.read ρ h).θ l).val=.slice none 0 0:=by
 unfold isNew at e
 split at e
 ·rename_i hm
  split at e
  ·cases e
  ·rename_i k hk
   exact⟨mem_keysOf.1 (memN_iff.1 hm),by simp only [RC.read];simp only at hk;rw[hk]⟩
 ·cases e
theorem nnLe_ok {a b:Nat} (h:nnLe a b=true):(b=0→a=0)∧(a=2→b=2):=by
 unfold nnLe at h
 split at h
 ·simp
 ·split at h
  ·cases h
  ·simp
 ·have:=is2_eq h;subst this;simp
 ·cases h
theorem impB_ok {a b:Bool} (h:impB a b=true):a=true→b=true:=by cases a<;>simp [impB] at h ⊢;exact h
theorem PRep.weak {w:World} {X:Nat→Prop} {nn nn' sz:Nat} {full full':Bool} {rows:List (List PV)} {v:Value} (hn:nnLe nn nn'=true) (hf:impB full full'=true) (r:PRep w X (.sl false nn' full' sz rows) v):PRep w X (.sl false nn full sz rows) v:=by
 have hf':=impB_ok hf
 obtain⟨n1,n2⟩:=nnLe_ok hn
 cases r with
 | slnil=>rw[n1 rfl];exact .slnil _ _
 | sl _ _ _ a n cap _ vals hn' hc hf2 h2 hX hs' hcell h1 hrep=>exact .sl nn full rows a n cap sz vals hn' hc (fun e=>hf2 (hf' e)) (fun e=>h2 (n2 e)) hX hs' hcell h1 hrep
theorem Rep.weak {nn nn' sz : Nat} {bo bo' full full' : Bool} {rows : List (List PV)} {v : Value} (kr : ∀ b, c.Xk b → c.Xr b) (hb : impB bo' bo = true) (hn : nnLe nn nn' = true) (hf : impB full full' = true) (r : Rep c (.sl bo' nn' full' sz rows) v) : Rep c (.sl bo nn full sz rows) v := by
  have hf' := impB_ok hf
  obtain ⟨n1, n2⟩ := nnLe_ok hn
  cases r with
  | plain p =>
    have q : ∀ {x : PV}, x = .sl bo' nn' full' sz rows → PRep c.w c.Xk x v → bo' = false := by
      intro x e p; cases p <;> first | (cases e; rfl) | cases e
    have := q rfl p
    subst this
    have p := p.weak hn hf
    cases bo with
    | false => exact .plain p
    | true =>
      cases p with
      | slnil => exact .slbnil _ _
      | sl _ _ _ a n cap _ vals hn' hc hf2 h2 hX hs' hcell h1 hrep => exact .slb nn full rows a n cap sz vals hn' hc hf2 h2 (fun e => ⟨kr _ (hX e).1, (hX e).2⟩) hs' hcell h1 hrep
  | slbnil =>
    cases bo with
    | false => simp [impB] at hb
    | true => rw [n1 rfl]; exact .slbnil _ _
  | slb _ _ _ a n cap _ vals hn' hc hf2 h2 hX hs' hcell h1 hrep =>
    cases bo with
    | false => simp [impB] at hb
    | true => exact .slb nn full rows a n cap sz vals hn' hc (fun e => hf2 (hf' e)) (fun e => h2 (n2 e)) hX hs' hcell h1 hrep
/-! ### Less is known -/
theorem WkL.refl (xs:List PV):WkL xs xs:=⟨rfl,fun j x y h1 h2=>by rw[h1] at h2;cases h2;exact .refl x⟩
theorem WkR.refl (xs:List (List PV)):WkR xs xs:=⟨rfl,fun i r r' h1 h2=>by rw[h1] at h2;cases h2;exact .refl r⟩
theorem WkL.of_eq {xs ys:List PV} (h:xs=ys):WkL xs ys:=h ▸ .refl xs
theorem WkR.of_eq {xs ys:List (List PV)} (h:xs=ys):WkR xs ys:=h ▸ .refl xs
theorem WkL.cons {x y:PV} {xs ys:List PV} (h:Wk x y) (t:WkL xs ys):WkL (x::xs) (y::ys) :=
 ⟨by simp [t.len],fun j a b h1 h2=>by cases j with
  | zero=>simp at h1 h2;subst h1;subst h2;exact h
  | succ j=>exact t.at' j a b (by simpa using h1) (by simpa using h2)⟩
theorem WkL.append {xs ys xs' ys':List PV} (h:WkL xs xs') (t:WkL ys ys'):WkL (xs++ys) (xs'++ys'):=by
 refine⟨by simp [h.len,t.len],fun j a b h1 h2=>?_⟩
 rw[List.getElem?_append] at h1 h2
 rw[← h.len] at h2
 split at h1
 ·rename_i hj;rw[if_pos hj] at h2;exact h.at' j a b h1 h2
 ·rename_i hj;rw[if_neg hj] at h2;exact t.at' _ a b h1 h2
theorem WkR.cons {x y:List PV} {xs ys:List (List PV)} (h:WkL x y) (t:WkR xs ys):WkR (x::xs) (y::ys) :=
 ⟨by simp [t.len],fun j a b h1 h2=>by cases j with
  | zero=>simp at h1 h2;subst h1;subst h2;exact h
  | succ j=>exact t.at' j a b (by simpa using h1) (by simpa using h2)⟩
theorem WkR.append {xs ys xs' ys':List (List PV)} (h:WkR xs xs') (t:WkR ys ys'):WkR (xs++ys) (xs'++ys'):=by
 refine⟨by simp [h.len,t.len],fun j a b h1 h2=>?_⟩
 rw[List.getElem?_append] at h1 h2
 rw[← h.len] at h2
 split at h1
 ·rename_i hj;rw[if_pos hj] at h2;exact h.at' j a b h1 h2
 ·rename_i hj;rw[if_neg hj] at h2;exact t.at' _ a b h1 h2
theorem WkR.set {xs xs':List (List PV)} {y y':List PV} (h:WkR xs xs') (t:WkL y y') (i:Nat):WkR (xs.set i y) (xs'.set i y'):=by
 refine⟨by simp [h.len],fun j a b h1 h2=>?_⟩
 rw[List.getElem?_set] at h1 h2
 rw[← h.len] at h2
 split at h1
 ·rename_i e;rw[if_pos e] at h2
  split at h1
  ·rename_i e2;rw[if_pos e2] at h2;cases h1;cases h2;exact t
  ·cases h1
 ·rename_i e;rw[if_neg e] at h2;exact h.at' j a b h1 h2
theorem WkR.take {xs xs':List (List PV)} (h:WkR xs xs') (i:Nat):WkR (xs.take i) (xs'.take i):=by
 refine⟨by simp [h.len],fun j a b h1 h2=>?_⟩
 rw[List.getElem?_take] at h1 h2
 split at h1
 ·rename_i e;rw[if_pos e] at h2;exact h.at' j a b h1 h2
 ·cases h1
theorem WkR.drop {xs xs':List (List PV)} (h:WkR xs xs') (i:Nat):WkR (xs.drop i) (xs'.drop i):=by
 refine⟨by simp [h.len],fun j a b h1 h2=>?_⟩
 rw[List.getElem?_drop] at h1 h2
 exact h.at' _ a b h1 h2
theorem WkR.map {α:Type} {f g:α→List PV} (l:List α) (h:∀ x∈l,WkL (f x) (g x)):WkR (l.map f) (l.map g):=by
 refine⟨by simp,fun j a b h1 h2=>?_⟩
 simp only [List.getElem?_map,Option.map_eq_some_iff] at h1 h2
 obtain⟨x,hx,rfl⟩:=h1
 obtain⟨y,hy,rfl⟩:=h2
 rw[hx] at hy
 cases hy
 exact h x (List.mem_of_getElem? hx)
theorem Wk.sl' {nn nn' sz:Nat} {full full':Bool} {rows rows':List (List PV)} (hn:nnLe nn nn'=true) (hf:impB full full'=true) (h:WkR rows rows'):Wk (.sl false nn full sz rows) (.sl false nn' full' sz rows') :=
 .sl hn hf h.len (fun i r r' h1 h2=>(h.at' i r r' h1 h2).len) fun i j r r' x y h1 h2 h3 h4=>(h.at' i r r' h1 h2).at' j x y h3 h4
theorem PRep.wk {w:World} {X:Nat→Prop} {x y:PV} (h:Wk x y):∀ {v:Value},PRep w X y v→PRep w X x v:=by
 induction h with
 | refl x=>exact fun p=>p
 | nil full sz=>intro v p;cases p;exact .slnil _ _
 | sl hn hf hl hr hx ih =>
  intro v p
  rename_i nn nn' sz full full' rows rows'
  obtain⟨n1,n2⟩:=nnLe_ok hn
  have hf:=impB_ok hf
  cases p with
  | slnil =>
   have:rows=[]:=by simpa using hl
   subst this
   rw[n1 rfl];exact .slnil _ _
  | sl _ _ _ a n cap _ vals hn' hc hf2 h2 hX hs' hcell h1 hrep =>
   refine .sl nn full rows a n cap sz vals (by rw[hl];exact hn') hc (fun e=>hf2 (hf e)) (fun e=>?_) hX (fun r h=>?_) hcell h1 (fun i j r x p q=>?_)
   ·have:=h2 (n2 e)
    intro e;subst e;exact this (by simpa using hl.symm)
   ·obtain⟨i,hi,rfl⟩:=List.getElem_of_mem h
    rw[hr i _ rows'[i] (by simp) (by simp)]
    exact hs' _ (List.getElem_mem _)
   ·have hi:=(List.getElem?_eq_some_iff.1 p).1
    have hj:=(List.getElem?_eq_some_iff.1 q).1
    have hi':i<rows'.length:=by omega
    have hlen:=hr i r rows'[i] p (by simp [hi'])
    exact ih i j r rows'[i] x (rows'[i][j]'(by omega)) p (by simp [hi']) q (by simp) (hrep i j rows'[i] _ (by simp [hi']) (by simp))
theorem WkR.sz {rows rows':List (List PV)} (h:WkR rows rows') {sz:Nat} (k:∀ r∈rows',r.length=sz):∀ r∈rows,r.length=sz:=by
 intro r hr
 obtain⟨i,hi,rfl⟩:=List.getElem_of_mem hr
 have hi':i<rows'.length:=by rw[← h.len];exact hi
 rw[(h.at' i _ rows'[i] (by simp) (by simp)).len]
 exact k _ (List.getElem_mem _)
theorem WkR.rep {w:World} {X:Nat→Prop} {rows rows':List (List PV)} (h:WkR rows rows') {vals:Nat→Nat→Value} (k:∀ (i j:Nat) r x,rows'[i]?=some r→r[j]?=some x→PRep w X x (vals i j)) :
  ∀ (i j:Nat) r x,rows[i]?=some r→r[j]?=some x→PRep w X x (vals i j):=by
 intro i j r x p q
 have hi:=(List.getElem?_eq_some_iff.1 p).1
 have hj:=(List.getElem?_eq_some_iff.1 q).1
 have hi':i<rows'.length:=by rw[← h.len];exact hi
 have hw:=h.at' i r rows'[i] p (by simp [hi'])
 have hj':j<rows'[i].length:=by rw[← hw.len];exact hj
 exact(k i j rows'[i] rows'[i][j] (by simp [hi']) (by simp [hj'])).wk (hw.at' j _ _ q (by simp [hj']))
theorem WkR.nil_iff {rows rows':List (List PV)} (h:WkR rows rows'):rows=[] ↔ rows'=[]:=by
 have:=h.len
 constructor<;>rintro rfl
 ·exact List.eq_nil_of_length_eq_zero (by simpa using this.symm)
 ·exact List.eq_nil_of_length_eq_zero (by simpa using this)
theorem PRep.wkR {w:World} {X:Nat→Prop} {nn sz:Nat} {full:Bool} {rows rows':List (List PV)} (h:WkR rows rows') {v:Value} (p:PRep w X (.sl false nn full sz rows') v):PRep w X (.sl false nn full sz rows) v:=by
 cases p with
 | slnil=>obtain rfl:=h.nil_iff.2 rfl;exact .slnil _ _
 | sl _ _ _ a n cap _ vals hn hc hf2 h2 hX hs' hcell h1 hrep =>
  exact .sl nn full rows a n cap sz vals (by rw[h.len];exact hn) hc hf2 (fun e k=>h2 e (h.nil_iff.1 k)) hX (h.sz hs') hcell h1 (h.rep hrep)
theorem Rep.wkR {c:RC} {bo:Bool} {nn sz:Nat} {full:Bool} {rows rows':List (List PV)} (h:WkR rows rows') {v:Value} (p:Rep c (.sl bo nn full sz rows') v):Rep c (.sl bo nn full sz rows) v:=by
 cases p with
 | plain p =>
  have q:∀ {x:PV},x=.sl bo nn full sz rows'→PRep c.w c.Xk x v→bo=false:=by
   intro x e p;cases p<;>first|(cases e;rfl)|cases e
  have:=q rfl p
  subst this
  exact .plain (p.wkR h)
 | slbnil=>obtain rfl:=h.nil_iff.2 rfl;exact .slbnil _ _
 | slb _ _ _ a n cap _ vals hn hc hf2 h2 hX hs' hcell h1 hrep =>
  exact .slb nn full rows a n cap sz vals (by rw[h.len];exact hn) hc hf2 (fun e k=>h2 e (h.nil_iff.1 k)) hX (h.sz hs') hcell h1 (h.rep hrep)
theorem Rep.wk {c:RC} {x y:PV} (h:Wk x y) {v:Value} (p:Rep c y v):Rep c x v:=by
 cases h with
 | refl=>exact p
 | nil full sz=>cases p with|plain p=>exact .plain (p.wk (.nil full sz))
 | sl hn hf hl hr hx =>
  have q:∀ {x:PV} {nn sz:Nat} {full:Bool} {rows:List (List PV)},x=.sl false nn full sz rows→Rep c x v→PRep c.w c.Xk x v:=by
   intro x _ _ _ _ e p;cases p<;>first|assumption|cases e
  exact .plain ((q rfl p).wk (.sl hn hf hl hr hx))
theorem RepL.wk {c:RC} {xs ys:List PV} (h:WkL xs ys) {vs:Array Value} (p:RepL c ys vs):RepL c xs vs:=by
 refine⟨by rw[h.len];exact p.1,fun i x v q r=>?_⟩
 have hi:=(List.getElem?_eq_some_iff.1 q).1
 have hi':i<ys.length:=by rw[← h.len];exact hi
 exact(p.2 i ys[i] v (by simp [hi']) r).wk (h.at' i x ys[i] q (by simp [hi']))
theorem ArrAt.wk {w:World} {X:Nat→Prop} {b o n cap sz:Nat} {rows rows':List (List PV)} (h:WkR rows rows') (p:ArrAt w X b o n cap sz rows'):ArrAt w X b o n cap sz rows:=by
 refine⟨by rw[h.len];exact p.hn,p.hc,h.sz p.hs,p.room,fun i j r x v q1 q2 q3=>?_,p.endok⟩
 have hi:=(List.getElem?_eq_some_iff.1 q1).1
 have hj:=(List.getElem?_eq_some_iff.1 q2).1
 have hi':i<rows'.length:=by rw[← h.len];exact hi
 have hw:=h.at' i r rows'[i] q1 (by simp [hi'])
 have hj':j<rows'[i].length:=by rw[← hw.len];exact hj
 exact(p.rep i j rows'[i] rows'[i][j] v (by simp [hi']) (by simp [hj']) q3).wk (hw.at' j _ _ q2 (by simp [hj']))
theorem frzRows_ok (hi:Inv fc c st a) {y:PV} {nn sz:Nat} {full:Bool} {rows:Unit→List (List PV)} (e:frzRows (hget st.heap) y=some (nn,full,sz,rows)) {v:Value} (hy:Rep c y v):PRep c.w c.Xk (.sl false nn full sz (rows ())) v:=by
 unfold frzRows at e
 split at e
 ·obtain⟨ev,_,_⟩:=hy.ref_inv
  split at e
  ·rename_i hl
   obtain⟨rfl,rfl,rfl,rfl⟩:=by simpa only [Option.some.injEq,Prod.mk.injEq] using e
   rw[ev]
   exact(hi.obj _ _ hl).2.1
  ·cases e
 ·split at e
  ·rename_i hl
   obtain⟨rfl,rfl,rfl,rfl⟩:=by simpa only [Option.some.injEq,Prod.mk.injEq] using e
   exact(part_rep (cap:=none) hi hy (.inr hl) (fun _=>True) (fun _ _=>trivial)).2 (frz_xk hi hl)
  ·cases e
 ·cases e
mutual
theorem mt_ok (hi:Inv fc c st a):∀ (x y:PV) (k:Unit→Prop),mt ⟨ρ,keysOf h⟩ (hget st.heap) x y k→k ()∧∀ v,Rep c y v→Rep (c.read ρ h) x v
 | .top,y,k,e=>⟨e,fun v _=>.top v⟩
 | .int i n,y,k,e=>by
  simp only [mt] at e
  split at e
  ·obtain⟨e1,rfl,e9⟩:=andT_iff e
   refine⟨e9,fun v hv=>?_⟩
   obtain rfl:=hv.int_inv
   rename_i j
   have:i=j:=by cases i<;>cases j<;>first|rfl|simp [ikNum] at e1
   subst this
   exact .plain (.int _ _)
  ·cases e
 | .bool b,y,k,e=>by
  simp only [mt] at e
  split at e
  ·obtain⟨rfl,e⟩:=e
   exact⟨e,fun v hv=>by obtain rfl:=hv.bool_inv;exact .plain (.bool _)⟩
  ·cases e
 | .str s,y,k,e=>by
  simp only [mt] at e
  split at e
  ·obtain⟨rfl,e⟩:=e
   exact⟨e,fun v hv=>by obtain rfl:=hv.str_inv;exact .plain (.str _)⟩
  ·cases e
 | .lit l,y,k,e=>by
  simp only [mt] at e
  split at e
  ·obtain⟨rfl,e⟩:=e
   exact⟨e,fun v hv=>by obtain rfl:=hv.lit_inv;exact .lit _⟩
  ·cases e
 | .nils,y,k,e=>by
  simp only [mt] at e
  split at e
  ·exact⟨e,fun v hv=>by obtain rfl:=hv.nils_inv;exact .plain .nils⟩
  ·cases e
 | .sl bo nn full sz rows,y,k,e=>by
  simp only [mt] at e
  split at e
  ·obtain⟨e1,rfl,e9⟩:=andT_iff e
   obtain rfl:=Nat.eq_of_beq_eq_true e1
   refine⟨e9,fun v hv=>?_⟩
   obtain rfl:=hv.nils_inv
   cases bo with
   | false=>exact .plain (.slnil _ _)
   | true=>exact .slbnil _ _
  ·rename_i bo' nn' full' sz' rows'
   have q:=andT_iff e
   clear e
   obtain⟨e1,ew,e9⟩:=q
   simp only [Bool.and_eq_true] at e1
   obtain⟨⟨⟨e1,e2⟩,e3⟩,e4⟩:=e1
   obtain rfl:=Nat.eq_of_beq_eq_true e4
   refine⟨e9,fun v hv=>?_⟩
   replace hv:=hv.wkR ew
   have hv:Rep (c.read ρ h) (.sl bo' nn' full' sz rows) v:=by
    cases hv with
    | plain p=>exact .plain p
    | slbnil=>exact .slbnil _ _
    | slb _ _ _ a n cap _ vals hn' hc hf2 h2 hX hs' hcell h1 hrep=>exact .slb _ _ _ a n cap sz vals hn' hc hf2 h2 hX hs' hcell h1 hrep
   exact hv.weak hi.kr e1 e2 e3
  ·split at e
   ·rename_i hfr
    have q:=andT_iff e
    clear e
    obtain⟨e1,e9⟩:=q
    cases e9 with
    | mk e9 =>
    obtain⟨ew,e9⟩:=e9 _ rfl
    simp only [Bool.and_eq_true] at e1
    obtain⟨⟨e1,e2⟩,e3⟩:=e1
    obtain rfl:=Nat.eq_of_beq_eq_true e3
    refine⟨e9,fun v hv=>?_⟩
    have:=(frzRows_ok hi hfr hv).wkR ew
    exact Rep.weak (c:=c.read ρ h) (bo':=false) hi.kr (by rfl) e1 e2 (.plain this)
   ·cases e
 | .ref t,y,k,e=>by
  simp only [mt] at e
  split at e
  ·obtain⟨e1,e9⟩:=andT_iff e
   obtain⟨d1,d2⟩:=sameLoc_ok e1
   refine⟨e9,fun v hv=>?_⟩
   obtain⟨ev,_,h1⟩:=hv.ref_inv
   exact .ref _ v d1 (by rw[d2];exact ev) h1
  ·obtain⟨e1,e9⟩:=andT_iff e
   obtain⟨d1,d2⟩:=isNew_ok e1
   refine⟨e9,fun v hv=>?_⟩
   obtain rfl:=hv.nils_inv
   exact .ref _ _ d1 d2.symm rfl
  ·cases e
 | .sub t f lo n,y,k,e=>by
  simp only [mt] at e
  split at e
  ·rename_i t' f' lo' n'
   have q:=andT_iff e
   clear e
   obtain⟨e1,rfl,rfl,e9⟩:=q
   simp only [Bool.and_eq_true] at e1
   obtain⟨d1,d2⟩:=sameLoc_ok e1.1
   obtain rfl:f=f':=by have:=e1.2;cases f<;>cases f'<;>first|rfl|simp [eqB] at this
   refine⟨e9,fun v hv=>?_⟩
   cases hv with
   | plain p=>cases p
   | subnil _ _ _ len cap hd hv=>exact .subnil _ _ _ len cap d1 (by rw[d2];exact hv)
   | sub _ _ _ _ b o len cap cap' a hd hv hn hf hg ha hl=>exact .sub _ _ _ _ b o len cap cap' a d1 (by rw[d2];exact hv) hn hf hg (by rw[d2];exact ha) hl
  ·cases e
 | .spare t,y,k,e=>by
  simp only [mt] at e
  split at e
  ·obtain⟨e1,e9⟩:=andT_iff e
   obtain⟨d1,d2⟩:=sameLoc_ok e1
   refine⟨e9,fun v hv=>?_⟩
   cases hv with
   | plain p=>cases p
   | spare _ b o len cap lo n cap' a hd hv ha hl hn=>exact .spare _ b o len cap lo n cap' a d1 (by rw[d2];exact hv) (by rw[d2];exact ha) hl hn
  ·cases e
 | .ptr l off,y,k,e=>by
  simp only [mt] at e
  split at e
  ·obtain⟨e1,e9⟩:=andT_iff e
   simp only [Bool.and_eq_true] at e1
   obtain⟨d1,d2⟩:=sameLoc_ok e1.1
   obtain rfl:=Nat.eq_of_beq_eq_true e1.2
   refine⟨e9,fun v hv=>?_⟩
   obtain⟨b,rfl,_,hv⟩:=hv.ptr_inv
   exact .ptr _ _ b d1 (by rw[d2];exact hv)
  ·cases e
 | .ep row off,y,k,e=>by
  simp only [mt] at e
  split at e
  ·obtain⟨e1,rfl,e9⟩:=andT_iff e
   obtain rfl:=Nat.eq_of_beq_eq_true e1
   refine⟨e9,fun v hv=>?_⟩
   obtain⟨b,o,vals,rfl,q1,q2,q3,q4⟩:=hv.ep_inv
   exact .ep _ _ b o vals q1 q2 q3 q4
  ·cases e
 | .er t i off,y,k,e=>by
  simp only [mt] at e
  split at e
  ·obtain⟨e1,rfl,e9⟩:=andT_iff e
   simp only [Bool.and_eq_true] at e1
   obtain⟨d1,d2⟩:=sameLoc_ok e1.1
   obtain rfl:=Nat.eq_of_beq_eq_true e1.2
   refine⟨e9,fun v hv=>?_⟩
   obtain⟨b,o,len,cap,rfl,_,q1,q2⟩:=hv.er_inv
   have:=Rep.er (c:=c.read ρ h) t i off b o len cap d1 (by rw[d2];exact q1) q2
   rwa [d2] at this
  ·cases e
 | .ifc,y,k,e=>by
  simp only [mt] at e
  split at e
  ·refine⟨e,fun v hv=>?_⟩
   obtain⟨t,u,rfl⟩:=hv.ifc_inv
   exact .ifc t u
  ·cases e
 | .fl n,y,k,e=>by
  simp only [mt] at e
  split at e
  ·obtain⟨rfl,e⟩:=e
   exact⟨e,fun v hv=>by obtain⟨b,rfl,hb⟩:=hv.fl_inv;exact .plain (.fl _ _ hb)⟩
  ·cases e
 | .cx p q,y,k,e=>by
  simp only [mt] at e
  split at e
  ·obtain⟨rfl,rfl,e⟩:=e
   exact⟨e,fun v hv=>by obtain⟨b1,b2,rfl,h1,h2⟩:=hv.cx_inv;exact .plain (.cx _ _ _ _ h1 h2)⟩
  ·cases e
 | .mp t,y,k,e=>by
  simp only [mt] at e
  split at e
  ·obtain⟨e1,e9⟩:=andT_iff e
   obtain⟨d1,d2⟩:=sameLoc_ok e1
   refine⟨e9,fun v hv=>?_⟩
   obtain⟨b,rfl,_,q1⟩:=hv.mp_inv
   exact .mp _ b d1 (by rw[d2];exact q1)
  ·cases e
 | .fn f x1 x2,y,k,e=>by
  simp only [mt] at e
  split at e
  ·obtain⟨rfl,e9⟩:=e
   obtain⟨e9,r1⟩:=mtL_ok hi x1 _ _ e9
   obtain⟨e9,r2⟩:=mtL_ok hi x2 _ _ e9
   refine⟨e9,fun v hv=>?_⟩
   obtain⟨fv,cv,rfl,q1,q2⟩:=hv.fn_inv
   have:=r1 _ q1
   have h2:=r2 _ q2
   exact .fn _ _ _ _ _ this.1 h2.1 this.2 h2.2
  ·cases e
 | .agg cs,y,k,e=>by
  simp only [mt] at e
  split at e
  ·obtain⟨e,r1⟩:=mtL_ok hi cs _ _ e
   refine⟨e,fun v hv=>?_⟩
   obtain⟨vs,rfl,q⟩:=hv.agg_inv
   have:=r1 _ q
   exact .agg _ _ this.1 this.2
  ·cases e
 | .tup cs,y,k,e=>by
  simp only [mt] at e
  split at e
  ·obtain⟨e,r1⟩:=mtL_ok hi cs _ _ e
   refine⟨e,fun v hv=>?_⟩
   obtain⟨vs,rfl,q⟩:=hv.tup_inv
   have:=r1 _ q
   exact .tup _ _ this.1 this.2
  ·cases e
theorem mtL_ok (hi:Inv fc c st a):∀ (xs ys:List PV) (k:Unit→Prop),mtL ⟨ρ,keysOf h⟩ (hget st.heap) xs ys k→k ()∧∀ vs,RepL c ys vs→RepL (c.read ρ h) xs vs
 | [],ys,k,e=>by
  simp only [mtL] at e
  split at e
  ·exact⟨e,fun vs hv=>⟨hv.1,by simp⟩⟩
  ·cases e
 | x::xs,ys,k,e=>by
  simp only [mtL] at e
  split at e
  ·rename_i y ys
   obtain⟨e,r1⟩:=mt_ok hi x y _ e
   obtain⟨e,r2⟩:=mtL_ok hi xs ys _ e
   refine⟨e,fun vs hv=>?_⟩
   obtain⟨n,hv⟩:=hv
   match vs,n with
   | ⟨v0::vs⟩,n =>
   have:=r2 ⟨vs⟩ ⟨by simpa using n,fun i x v p q=>hv (i+1) x v (by simpa using p) (by simpa using q)⟩
   refine⟨by simp [this.1],fun i x' v p q=>?_⟩
   cases i with
   | zero =>
    simp at p q
    subst p;subst q
    exact r1 _ (hv 0 y v0 rfl (by simp))
   | succ i=>exact this.2 i x' v (by simpa using p) (by simpa using q)
  ·cases e
end
end
end Go.Sym
namespace Go.Sym
open Go
section
variable {fc:FC} {c:RC} {st:ASt} {a:Act} {ρ:List (Nat×Src)} {h:Heap}
theorem PRep.weak' {w:World} {X:Nat→Prop} {nn nn' sz:Nat} {rows:List (List PV)} {v:Value} (hn:nnLe nn nn'=true) (r:PRep w X (.sl false nn' false sz rows) v):PRep w X (.sl false nn false sz rows) v:=r.weak hn rfl
theorem mtO_ok (hi:Inv fc c st a) {l:Nat} {o:Sym.Obj} {k:Unit→Prop} (e:mtO ⟨ρ,keysOf h⟩ (hget st.heap) l o k):k ()∧ORel (c.read ρ h) l o ∧
  ∀ l',rnL ρ l=.loc l'→o.live→∃ o',hget st.heap l'=some o'∧o'.live:=by
 unfold mtO at e
 split at e
 ·rename_i z hz
  simp only at hz
  have hθ:(c.read ρ h).θ l=⟨.slice none 0 0,z⟩:=by simp only [RC.read,hz]
  split at e
  ·rename_i nn cap sz rows
   have q:=andT_iff e
   clear e
   obtain⟨e1,rfl,e9⟩:=q
   simp only [Bool.and_eq_true] at e1
   obtain⟨⟨e1,e2⟩,e3⟩:=e1
   obtain rfl:=Nat.eq_of_beq_eq_true e1
   obtain rfl:=Nat.eq_of_beq_eq_true e2
   refine⟨e9,⟨by rw[hθ],.inl ⟨by rw[hθ],rfl,rfl,fun k hk=>?_⟩⟩,fun l' hl'=>by rw[hl'] at hz;cases hz⟩
   rw[hk] at e3;cases e3
  ·cases e
 ·rename_i l' hl'
  simp only at hl'
  have hθ:(c.read ρ h).θ l=c.θ l':=by simp only [RC.read,hl']
  have hlv:∀ {P:Prop} {o':Sym.Obj},hget st.heap l'=some o'→o'.live→∀ l2,rnL ρ l=.loc l2→P→∃ o',hget st.heap l2=some o'∧o'.live:=by
   intro P o' h1 h2 l2 h3 _
   rw[hl'] at h3
   injection h3 with h3
   subst h3
   exact⟨o',h1,h2⟩
  split at e
  ·exact⟨e,trivial,fun l2 h3 h4=>h4.elim⟩
  ·rename_i cs
   split at e
   ·rename_i ds hd
    obtain⟨e9,r⟩:=mtL_ok hi cs ds _ e
    obtain⟨b,arr,t,fr,h1,h2,h3,h4,h7,h5,h6⟩:=hi.obj _ _ hd
    have:=r arr ⟨h4,h5⟩
    exact⟨e9,⟨b,arr,t,fr,by rw[hθ];exact h1,h2,h3,this.1,h7,this.2,h6⟩,hlv hd trivial⟩
   ·cases e
  ·rename_i nn cap sz rows
   split at e
   ·rename_i nn' cap' sz' rows' hd
    have q:=andT_iff e
    clear e
    obtain⟨e1,e9⟩:=q
    simp only [Bool.and_eq_true] at e1
    obtain⟨e1,e2⟩:=e1
    obtain rfl:=Nat.eq_of_beq_eq_true e2
    obtain⟨n1,n2⟩:=nnLe_ok e1
    have key:(∀ k,cap=some k→cap'=some k)→WkR rows rows'→ORel (c.read ρ h) l (.arr nn cap sz rows):=by
     intro hcap ew
     obtain⟨hz,ho⟩:=hi.obj _ _ hd
     refine⟨by rw[hθ];exact hz,?_⟩
     rcases ho with ⟨h1,h2,h3,h4⟩ | ⟨b,o,k',h1,h2,h3,h4,h5,h6⟩
     ·exact .inl ⟨by rw[hθ];exact h1,ew.nil_iff.2 h2,n1 h3,fun k hk=>h4 k (hcap k hk)⟩
     ·exact .inr ⟨b,o,k',by rw[hθ,ew.len];exact h1,fun k hk=>h2 k (hcap k hk),fun e k=>h3 (n2 e) (ew.nil_iff.1 k),h4,by rw[ew.len];exact h5.wk ew,h6⟩
    split at e9
    ·exact⟨e9.2,key (by simp) e9.1,hlv hd trivial⟩
    ·split at e9
     ·obtain⟨rfl,e9,e10⟩:=e9
      exact⟨e10,key (by simp) e9,hlv hd trivial⟩
     ·cases e9
   ·cases e
  ·rename_i nn sz rows
   split at e
   ·rename_i nn' sz' rows' hd
    have q:=andT_iff e
    clear e
    obtain⟨e1,ew,e9⟩:=q
    simp only [Bool.and_eq_true] at e1
    obtain⟨e1,e2⟩:=e1
    obtain rfl:=Nat.eq_of_beq_eq_true e2
    obtain⟨hz,hp,hh⟩:=hi.obj _ _ hd
    exact⟨e9,⟨by rw[hθ];exact hz,by rw[hθ];exact(hp.wkR ew).weak' e1,by rw[hθ,ew.len];exact hh⟩,fun l2 h3 h4=>h4.elim⟩
   ·cases e
  ·rename_i kk es
   split at e
   ·rename_i kk' es' hd
    obtain⟨rfl,rfl,e9⟩:=e
    obtain⟨b,ents,clock,h1,h2,h3⟩:=hi.obj _ _ hd
    exact⟨e9,⟨b,ents,clock,by rw[hθ];exact h1,h2,h3⟩,hlv hd trivial⟩
   ·cases e
  ·rename_i nn sz rows i ro
   split at e
   ·rename_i nn' sz' rows' i' ro' hd
    have q:=andT_iff e
    clear e
    obtain⟨e1,rfl,ew,e9⟩:=q
    simp only [Bool.and_eq_true] at e1
    obtain rfl:=Nat.eq_of_beq_eq_true e1.2
    obtain⟨e9,r⟩:=mtL_ok hi ro ro' _ e9
    obtain⟨hz,b,o,cap',h1,h2,A,h4⟩:=hi.obj _ _ hd
    refine⟨e9,⟨by rw[hθ];exact hz,b,o,cap',by rw[hθ,ew.len];exact h1,h2,?_,h4⟩,hlv hd trivial⟩
    have hcells:∀ j,j<sz→∃ v,c.w.cell? ⟨b,o+(i * sz+j),none⟩=some v:=fun j hj=>by
     obtain⟨⟨v,hv,_⟩,_⟩:=A.room (i * sz+j) (A.in_room A.hk hj)
     exact⟨v,hv⟩
    have:=r (Array.ofFn (n:=sz) fun j=>(c.w.cell? ⟨b,o+(i * sz+j),none⟩).getD default) ⟨by simp [A.hro],fun j x v q1 q2=>by
     have hj:j<sz:=by rw[← A.hro];exact(List.getElem?_eq_some_iff.1 q1).1
     obtain⟨v',hv'⟩:=hcells j hj
     simp [hj,hv'] at q2
     subst q2
     exact A.orep j x _ q1 hv'⟩
    rw[ew.len]
    refine⟨ew.len,A.hc,ew.sz A.hs,A.hk,by rw[this.1];simp,A.room,fun i2 j r x v h0 q1 q2 q3=>?_,fun j x v q1 q2=>?_,A.endok⟩
    ·have hi2:i2<rows'.length:=by rw[← ew.len];exact(List.getElem?_eq_some_iff.1 q1).1
     have hw:=ew.at' i2 r rows'[i2] q1 (by simp [hi2])
     have hj':j<rows'[i2].length:=by rw[← hw.len];exact(List.getElem?_eq_some_iff.1 q2).1
     exact(A.rep i2 j rows'[i2] rows'[i2][j] v h0 (by simp [hi2]) (by simp [hj']) q3).wk (hw.at' j _ _ q2 (by simp [hj']))
    ·have hj:j<sz:=by have:=this.1;simp at this;rw[← this];exact(List.getElem?_eq_some_iff.1 q1).1
     have q2':c.w.cell? ⟨b,o+(i * sz+j),none⟩=some v:=q2
     refine this.2 j x v q1 ?_
     rw[Array.getElem?_ofFn,dif_pos hj]
     simp only [q2',Option.getD_some]
   ·rename_i nn' cap' sz' rows' hd
    have q:=andT_iff e
    clear e
    obtain⟨e1,er,ew,e9⟩:=q
    simp only [Bool.and_eq_true] at e1
    obtain rfl:=Nat.eq_of_beq_eq_true e1.2
    obtain⟨hz,ho⟩:=hi.obj _ _ hd
    have hil:=(List.getElem?_eq_some_iff.1 er).1
    rcases ho with ⟨_,h2,_⟩ | ⟨b,o,k',h1,h2,h3,h4,A,h6⟩
    ·rw[h2] at hil;simp at hil
    ·refine⟨e9,⟨by rw[hθ];exact hz,b,o,k',by rw[hθ,ew.len];exact h1,h4,?_,h6⟩,hlv hd trivial⟩
     have A2:=A.wk ew
     rw[ew.len]
     exact⟨ew.len,A2.hc,A2.hs,hil,A.hs ro (List.mem_of_getElem? er),A2.room,fun i2 j r x v _ q1 q2 q3=>A2.rep i2 j r x v q1 q2 q3,fun j x v q1 q2=>.plain (A.rep i j ro x v er q1 q2),A2.endok⟩
   ·cases e
theorem mtH_ok (hi:Inv fc c st a) {k:Unit→Prop}:∀ {g:Heap},mtH ⟨ρ,keysOf h⟩ (hget st.heap) g k→k ()∧∀ l o,(l,o)∈g→ORel (c.read ρ h) l o∧∀ l',rnL ρ l=.loc l'→o.live→∃ o',hget st.heap l'=some o'∧o'.live
 | [],e=>⟨e,by simp⟩
 | (l,o)::r,e=>by
  obtain⟨e,h1⟩:=mtO_ok hi e
  obtain⟨e,h2⟩:=mtH_ok hi e
  refine⟨e,fun l' o' hm=>?_⟩
  rcases List.mem_cons.1 hm with h|h
  ·obtain⟨rfl,rfl⟩:=Prod.mk.inj h
   exact h1
  ·exact h2 l' o' h
theorem nodupN_iff {l:List Nat} (e:nodupN l=true):l.Nodup:=by
 induction l with
 | nil=>exact .nil
 | cons x r ih =>
  simp only [nodupN] at e
  split at e
  ·cases e
  ·rename_i hm
   exact List.nodup_cons.2 ⟨fun hx=>(by rw[memN_iff.2 hx] at hm;cases hm),ih e⟩
theorem isLive_iff {o:Sym.Obj}:isLive o=true ↔ o.live:=by cases o<;>simp [isLive,Obj.live]
theorem mem_srcsOf {ρ:List (Nat×Src)} {g:Heap} {l l':Nat} {o:Sym.Obj} (hm:(l,o)∈g) (hl:o.live) (hr:rnL ρ l=.loc l'):l'∈srcsOf ρ g:=by
 induction g with
 | nil=>simp at hm
 | cons p r ih =>
  obtain⟨k,x⟩:=p
  simp only [srcsOf]
  rcases List.mem_cons.1 hm with h|h
  ·obtain⟨rfl,rfl⟩:=Prod.mk.inj h
   rw[isLive_iff.2 hl,hr]
   simp
  ·have:=ih h
   split
   ·split
    ·exact List.mem_cons_of_mem _ this
    ·exact this
   ·exact this
theorem srcs_inj {ρ:List (Nat×Src)} {g:Heap} (hk:(keysOf g).Nodup) (hn:(srcsOf ρ g).Nodup) {l1 l2 l':Nat} {o1 o2:Sym.Obj} (h1:(l1,o1)∈g) (h2:(l2,o2)∈g) (v1:o1.live) (v2:o2.live) (r1:rnL ρ l1=.loc l') (r2:rnL ρ l2=.loc l'):l1=l2:=by
 induction g with
 | nil=>simp at h1
 | cons p r ih =>
  obtain⟨k,x⟩:=p
  simp only [keysOf,List.nodup_cons] at hk
  simp only [srcsOf] at hn
  rcases List.mem_cons.1 h1 with e1|e1<;>rcases List.mem_cons.1 h2 with e2|e2
  ·rw[(Prod.mk.inj e1).1,(Prod.mk.inj e2).1]
  ·obtain⟨rfl,rfl⟩:=Prod.mk.inj e1
   rw[isLive_iff.2 v1,r1] at hn
   exact absurd (mem_srcsOf e2 v2 r2) (List.nodup_cons.1 hn).1
  ·obtain⟨rfl,rfl⟩:=Prod.mk.inj e2
   rw[isLive_iff.2 v2,r2] at hn
   exact absurd (mem_srcsOf e1 v1 r1) (List.nodup_cons.1 hn).1
  ·refine ih hk.2 ?_ e1 e2
   split at hn
   ·split at hn
    ·exact(List.nodup_cons.1 hn).2
    ·exact hn
   ·exact hn
theorem parOk_iff {W:Wit} {l:List Nat} (e:parOk W l=true):∀ x∈l,sameLoc W x x=true:=by
 induction l with
 | nil=>simp
 | cons y r ih =>
  simp only [parOk] at e
  split at e
  ·rename_i hs
   intro x hx
   rcases List.mem_cons.1 hx with rfl|hx
   ·exact hs
   ·exact ih e x hx
  ·cases e
theorem subH_ok (hi:Inv fc c st a) {n0:Nat} (hn:fc.n0=n0) {k:Wit→Prop} (e:subH ρ n0 h (hget st.heap) k):k ⟨ρ,keysOf h⟩∧Inv fc (c.read ρ h) ⟨[],h⟩ act0:=by
 obtain⟨e1,e⟩:=andT_iff e
 simp only [Bool.and_eq_true] at e1
 obtain⟨⟨e1,e2⟩,e3⟩:=e1
 have e1:=nodupN_iff e1
 have e2:=nodupN_iff e2
 have e3:=parOk_iff e3
 obtain⟨e,ho⟩:=mtH_ok hi e
 refine⟨e,?_⟩
 have hpar:∀ l,l<fc.n0→(c.read ρ h).D l∧(c.read ρ h).θ l=c.θ l:=fun l hl=>sameLoc_ok (e3 l (by have:=mem_upTo (n:=n0) (b:=0) (j:=l) (by omega);rwa [Nat.zero_add] at this))
 have src:∀ l o,(l,o)∈h→o.live→∀ b,blk ((c.read ρ h).θ l).val=some b→∃ l' o',rnL ρ l=.loc l'∧hget st.heap l'=some o'∧o'.live∧blk (c.θ l').val=some b:=by
  intro l o hm hlv b hb
  simp only [RC.read] at hb
  split at hb
  ·rename_i l' hl'
   obtain⟨o',h1,h2⟩:=(ho l o hm).2 l' hl' hlv
   exact⟨l',o',hl',h1,h2,hb⟩
  ·simp [blk] at hb
 refine { lb:=hi.lb,lok:=hi.lok,kr:=hi.kr,xlt:=hi.xlt,dom:=fun _=>Iff.rfl,obj:=fun l o hl=>(ho l o (hget_mem hl)).1,dis:=?_,tsz:=rfl,tmp:=by simp,nod:=rfl,size:=hi.size,same:=hi.same,os:=hi.os,tape:=hi.tape,out:=hi.out,xk0:=hi.xk0,xr0:=hi.xr0,xkn:=hi.xkn,xrn:=hi.xrn,par:=fun l hl=>by rw[(hpar l hl).2];exact hi.par l hl,pdom:=fun l hl=>(hpar l hl).1,own:=?_ }
 ·intro l l' o o' b hl hl' hv hv' hne hb hb'
  obtain⟨s,x,q1,q2,q3,q4⟩:=src l o (hget_mem hl) hv b hb
  obtain⟨s',x',p1,p2,p3,p4⟩:=src l' o' (hget_mem hl') hv' b hb'
  refine hi.dis s s' x x' b q2 p2 q3 p3 (fun es=>?_) q4 p4
  subst es
  exact hne (srcs_inj e1 e2 (hget_mem hl) (hget_mem hl') hv hv' q1 p1)
 ·intro l o b hl hv hb
  obtain⟨s,x,q1,q2,q3,q4⟩:=src l o (hget_mem hl) hv b hb
  exact hi.own s x b q2 q3 q4
theorem Inv.with {c':RC} {h:Heap} {xs:List PV} (hi:Inv fc c' ⟨[],h⟩ act0) (hd:a.defers=[]) (r:RepL c' xs a.tmps):Inv fc c' ⟨xs,h⟩ a :=
 { hi with tsz:=r.1.symm,tmp:=r.2,nod:=hd }
theorem Inv.tmps (hi:Inv fc c st a):RepL c st.tmps a.tmps:=⟨hi.tsz.symm,hi.tmp⟩
theorem sub_ok (hi:Inv fc c st a) {n0:Nat} (hn:fc.n0=n0) {S:ASt} (e:sub ρ n0 S st):∃ c',c'.w=c.w∧Inv fc c' S a:=by
 obtain⟨e,i⟩:=subH_ok hi hn e
 obtain⟨_,r⟩:=mtL_ok hi _ _ _ e
 exact⟨c.read ρ S.heap,rfl,i.with hi.nod (r _ hi.tmps)⟩
theorem plain_noX {look:Nat→Option Sym.Obj} {t nn sz i:Nat} {rows:List (List PV)} {ro:List PV} (ht:look t=some (.arrx nn sz rows i ro)):∀ {xs ys:List PV} {u:List (Nat×Sym.Obj)},plainCellsOf look xs=some (ys,u)→t ∉ locsL xs
 | [],_,_,_=>by simp [locsL]
 | x::r,ys,u,h=>by
  simp only [plainCellsOf] at h
  split at h
  ·rename_i y u1 h1
   split at h
   ·rename_i ys1 v h2
    have:=plain_noX ht h2
    simp only [locsL,List.mem_append,not_or]
    refine⟨?_,this⟩
    unfold plainCell at h1
    split at h1
    all_goals first
     | (simp [PV.locs];done)
     | (cases h1;done)
     | (simp only [PV.locs,List.mem_singleton];rintro rfl;rw[ht] at h1;cases h1)
   ·cases h
  ·cases h
theorem Inv.closeX (hi:Inv fc c st a) {t nn sz i:Nat} {rows:List (List PV)} {ro:List PV} (ht:hget st.heap t=some (.arrx nn sz rows i ro)) :
  ∃ c',c'.w=c.w∧Inv fc c' { st with heap:=match plainCellsOf (hget st.heap) ro with
   | some (ys,u)=>hset (hsets st.heap u) t (.frz (nn1 nn) sz (rows.set i ys))
   | none=>st.heap } a:=by
 split
 ·rename_i ys u hpl
  obtain⟨_,b,o,cap',h1,_,A,_⟩:=hi.obj _ _ ht
  have hcells:∀ j,j<sz→∃ v,c.w.cell? ⟨b,o+(i * sz+j),none⟩=some v:=fun j hj=>by
   obtain⟨⟨v,hv,_⟩,_⟩:=A.room (i * sz+j) (A.in_room A.hk hj)
   exact⟨v,hv⟩
  obtain⟨c1,w1,t1,le1,i1,n1,p1,_,k1⟩:=plainCells_ok hi (fun l x hx=>.inl hx) hpl (vs:=List.ofFn (n:=sz) fun j=>(c.w.cell? ⟨b,o+(i * sz+j),none⟩).getD default) (by simp [A.hro]) (fun j x v q1 q2=>by
   have hj:j<sz:=by rw[← A.hro];exact(List.getElem?_eq_some_iff.1 q1).1
   obtain⟨v',hv'⟩:=hcells j hj
   simp [hj,hv'] at q2
   subst q2
   exact A.orep j x _ q1 hv')
  have htl:t ∉ locsL ro:=by
   intro hm
   exact plain_noX ht hpl hm
  have ht1:hget (hsets st.heap u) t=some (.arrx nn sz rows i ro):=by rw[k1 t (.inl htl)];exact ht
  obtain⟨hz,b',o',cap2,e1,h2,A1,h4⟩:=i1.obj _ _ ht1
  rw[t1] at e1 hz
  rw[h1] at e1
  injection e1 with e1 e2 e3
  injection e1 with e1
  injection e1 with e4 e5
  subst e4;subst e5;subst e3
  have hys:ys.length=sz:=by rw[n1,A.hro]
  have hsl:∀ r∈rows.set i ys,r.length=sz:=by
   intro r hr
   rcases List.mem_or_eq_of_mem_set hr with hr|rfl
   ·exact A1.hs r hr
   ·exact hys
  have i2:Inv fc { c1 with w:=c1.w } { st with heap:=hset (hsets st.heap u) t (.arr (nn1 nn) none sz (rows.set i ys)) } a:=by
   refine i1.upd ht1 trivial (fun _ _=>rfl) rfl rfl rfl rfl ⟨by rw[← hz];exact congrArg (fun θ=>Hd.sz (θ t)) t1,.inr ⟨b,o,cap',by show(c1.θ t).val=_;rw[t1,h1];simp,?_,?_,h2,?_,h4⟩⟩
   ·intro k hk;cases hk
   ·intro e;cases nn<;>simp [nn1] at e
   refine⟨rfl,by simpa using A1.hc,hsl,A1.room,fun i2 j r x v q1 q2 q3=>?_,A1.endok⟩
   rw[getElem?_set_rows] at q1
   split at q1
   ·rename_i e
    subst e
    rw[if_pos A.hk] at q1
    obtain rfl:=Option.some.inj q1
    have hj:j<sz:=by rw[← hys];exact(List.getElem?_eq_some_iff.1 q2).1
    refine p1 j x v q2 ?_
    have q3:c1.w.cell? ⟨b,o+(i2 * sz+j),none⟩=some v:=q3
    rw[w1] at q3
    simp [hj,q3]
   ·rename_i e
    exact A1.rep i2 j r x v e q1 q2 q3
  obtain⟨c3,w3,_,_,i3⟩:=i2.freeze (hget_hset_same _ _ _)
  refine⟨c3,by rw[w3];exact w1,?_⟩
  rw[hset_hset] at i3
  exact i3
 ·exact⟨c,rfl,hi⟩
theorem frzs_ok:∀ (fz:List Nat) {c:RC} {st:ASt},Inv fc c st a→∃ c',c'.w=c.w∧Inv fc c' (frzSt fz st) a
 | [],c,st,hi=>⟨c,rfl,hi⟩
 | t::r,c,st,hi=>by
  have key:∃ c',c'.w=c.w∧Inv fc c' { st with heap:=match hget st.heap t with
    | some (.arr nn _ sz rows)=>hset st.heap t (.frz nn sz rows)
    | some (.arrx nn sz rows i row)=>(match plainCellsOf (hget st.heap) row with
     | some (ys,u)=>hset (hsets st.heap u) t (.frz (nn1 nn) sz (rows.set i ys))
     | none=>st.heap)
    | _=>st.heap } a:=by
   split
   ·rename_i nn cap sz rows ht
    obtain⟨c',h1,_,_,h4⟩:=hi.freeze ht
    exact⟨c',h1,h4⟩
   ·rename_i nn sz rows i ro ht
    exact hi.closeX ht
   ·exact⟨c,rfl,hi⟩
  obtain⟨c1,h1,i1⟩:=key
  obtain⟨c2,h2,i2⟩:=frzs_ok r i1
  exact⟨c2,by rw[h2,h1],i2⟩
end
end Go.Sym
namespace Go.Sym
open Go
inductive Start {ι:Type} (S:ι→ASt) (I:ι→Prop) (n0:Nat) (st:ASt):Prop
 | mk (i:ι) (ρ:List (Nat×Src)) (fz:List Nat):I i→sub ρ n0 (S i) (frzSt fz st)→Start S I n0 st
inductive Back {ι:Type} (S:ι→ASt) (I:ι→Prop) (μ:ι→Nat) (n0:Nat) (j:ι) (st:ASt):Prop
 | mk (i:ι) (ρ:List (Nat×Src)) (fz:List Nat):I i→μ i<μ j→sub ρ n0 (S i) (frzSt fz st)→Back S I μ n0 j st
theorem Back.of {ι:Type} {S:ι→ASt} {I:ι→Prop} {μ:ι→Nat} {n0:Nat} {j:ι} {st:ASt} {i:ι} (ρ:List (Nat×Src)) (fz:List Nat) (h:sub ρ n0 (S i) (frzSt fz st)) (hI:I i∧μ i<μ j):Back S I μ n0 j st:=.mk i ρ fz hI.1 hI.2 h
def noScope:Code→Bool
 | .scope _=>false
 | _=>true
def bodyK {ι:Type} (S:ι→ASt) (I:ι→Prop) (μ:ι→Nat) (n0:Nat) (j:ι) (K:AEx→ASt→Prop) (e:AEx) (st:ASt):Prop:=match e with
 | .normal=>Back S I μ n0 j st
 | .exit k=>K (.exit k) st
 | .ret=>K .ret st
 | .goto l=>K (.goto l) st
def jumpK0 {ι : Type} (S : ι → ASt) (I : ι → Prop) (n0 l : Nat) (K : AEx → ASt → Prop) (e : AEx) (st : ASt) : Prop := match e with
  | .normal => K .normal st
  | .exit k => K (.exit k) st
  | .ret => K .ret st
  | .goto k => (match Nat.beq k l with
    | true => Start S I n0 st
    | false => Stop "a jump")
def jumpK {ι : Type} (S : ι → ASt) (I : ι → Prop) (μ : ι → Nat) (n0 l : Nat) (j : ι) (K : AEx → ASt → Prop) (e : AEx) (st : ASt) : Prop := match e with
  | .normal => K .normal st
  | .exit k => K (.exit k) st
  | .ret => K .ret st
  | .goto k => (match Nat.beq k l with
    | true => Back S I μ n0 j st
    | false => Stop "a jump")
def resP (E:Env) (st:ASt):List ResultVar→Option (List PV)
 | []=>some []
 | r::rs=>match (match r with
   | .tmp t=>some (lget st.tmps t)
   | .cell t ty=>(match lget st.tmps t with
    | .ptr l off=>(match hget st.heap l with
     | some (.box cs)=>(match E.ty ty with
      | some i=>(match Nat.ble (off+i.size) cs.length with
       | true=>some (packV i.agg (slice1 cs off i.size))
       | false=>none)
      | none=>none)
     | _=>none)
    | _=>none)) with
  | some v=>(match resP E st rs with
   | some vs=>some (v::vs)
   | none=>none)
  | none=>none
def retT (E : Env) (rv : List ResultVar) (n0 : Nat) (res : List PV) (H' : List Obj) (ρ : List (Nat × Src)) (st : ASt) : Prop :=
  match resP E st rv with
  | some vs => subH ρ n0 (heapOf 0 H') (hget st.heap) fun W => mt W (hget st.heap) (packRes res) (packRes vs) fun _ => True
  | none => Stop "results"
inductive RetThen (E:Env) (rv:List ResultVar) (n0:Nat) (res:List PV) (H':List Obj) (st:ASt):Prop
 | mk (ρ:List (Nat×Src)) (fz:List Nat):retT E rv n0 res H' ρ (frzSt fz st)→RetThen E rv n0 res H' st
def retK (E : Env) (rv : List ResultVar) (n0 : Nat) (res : List PV) (H' : List Obj) (e : AEx) (st : ASt) : Prop := match e with
  | .exit _ => Stop "exit"
  | .goto _ => Stop "goto"
  | .normal => RetThen E rv n0 res H' st
  | .ret => RetThen E rv n0 res H' st
theorem least (p:Nat→Prop) (h:∃ n,p n):∃ n,p n∧∀ m,p m→n≤m:=by
 obtain⟨n,hn⟩:=h
 induction n using Nat.strongRecOn with
 | _ n ih =>
  by_cases hl:∃ m,m<n∧p m
  ·obtain⟨m,hm,hp⟩:=hl;exact ih m hm hp
  ·exact⟨n,hn,fun m hm=>Nat.le_of_not_lt fun hlt=>hl ⟨m,hlt,hm⟩⟩
section
variable {P:Program} {fc:FC} {E:Env}
theorem loop_rule {ι:Type} (S:ι→ASt) (I:ι→Prop) (μ:ι→Nat) {n0:Nat} (hE:EnvOk P E) (h64:fc.n0≤64) (hm:P.follows .mixedOrders=true) (hn:fc.n0=n0) {b:Code} (hr:regOk b=true) {st:ASt} {K:AEx→ASt→Prop} (start:Start S I n0 st)
  (body:∀ i,I i→cw E (Fn P) (Lp P fc) b (S i) (bodyK S I μ n0 i K)) (hb:noScope b=true):Lp P fc b st K:=by
 classical
 intro c a Q hi hQ
 have e0:lpCode b=Code.loop b:=by
  cases b<;>first|rfl|cases hb
 rw[e0]
 obtain⟨i0,ρ,fz,hI0,hsub⟩:=start
 obtain⟨c1,w1,i1⟩:=frzs_ok fz hi
 obtain⟨c2,w2,i2⟩:=sub_ok i1 hn hsub
 let At:Nat→Act→World→Prop:=fun n a w=>∃ i c,μ i=n∧I i∧Inv fc c (S i) a∧c.w=w
 let Iv:Act→World→Prop:=fun a w=>∃ n,At n a w
 let ms:Act→World→Nat:=fun a w=>if h:Iv a w then Classical.choose (least _ h) else 0
 refine wp_loop Iv ms ⟨μ i0,i0,c2,rfl,hI0,i2,by rw[w2,w1]⟩ fun a w hI=>?_
 obtain⟨⟨i,c,hμ,hIi,hinv,rfl⟩,_⟩:=Classical.choose_spec (least _ hI)
 have hms:ms a c.w=μ i:=by show(if h:Iv a c.w then Classical.choose (least _ h) else 0)=_;rw[dif_pos hI,hμ]
 refine cw_ok hE h64 hm b (S i) _ hr (body i hIi) c a _ hinv fun e st' a' c' i' k'=>?_
 cases e with
 | normal =>
  obtain⟨j,ρ,fz,hIj,hlt,hsub⟩:=k'
  obtain⟨c1,w1,i1⟩:=frzs_ok fz i'
  obtain⟨c2,w2,i2⟩:=sub_ok i1 hn hsub
  have hIv:Iv a' c'.w:=⟨μ j,j,c2,rfl,hIj,i2,by rw[w2,w1]⟩
  refine⟨hIv,?_⟩
  rw[hms]
  refine Nat.lt_of_le_of_lt ?_ hlt
  show(if h:Iv a' c'.w then Classical.choose (least _ h) else 0)≤_
  rw[dif_pos hIv]
  exact(Classical.choose_spec (least _ hIv)).2 _ ⟨j,c2,rfl,hIj,i2,by rw[w2,w1]⟩
 | exit k=>exact hQ (.exit k) st' a' c' i' k'
 | ret=>exact hQ .ret st' a' c' i' k'
 | goto k=>exact hQ (.goto k) st' a' c' i' k'
theorem scope_rule {ι:Type} (S:ι→ASt) (I:ι→Prop) (μ:ι→Nat) {n0:Nat} (hE:EnvOk P E) (h64:fc.n0≤64) (hm:P.follows .mixedOrders=true) (hn:fc.n0=n0) {b rest:Code} {l:Nat} (hf:findLabel b l=some rest) (hr:regOk b=true) (hr2:regOk rest=true) {st:ASt} {K:AEx→ASt→Prop}
  (first:cw E (Fn P) (Lp P fc) b st (jumpK0 S I n0 l K)) (body:∀ i,I i→cw E (Fn P) (Lp P fc) rest (S i) (jumpK S I μ n0 l i K)):Lp P fc (.scope b) st K:=by
 classical
 intro c a Q hi hQ
 show(Code.scope b).wp P Q a c.w
 let At:Nat→Act→World→Prop:=fun n a w=>∃ i c,μ i=n∧I i∧Inv fc c (S i) a∧c.w=w
 let Iv:Act→World→Prop:=fun a w=>∃ n,At n a w
 let ms:Act→World→Nat:=fun a w=>if h:Iv a w then Classical.choose (least _ h) else 0
 refine wp_scope_jumps l Iv ms hf ?_ fun a w hI=>?_
 ·refine cw_ok hE h64 hm b st _ hr first c a _ hi fun e st' a' c' i' k'=>?_
  cases e with
  | normal=>exact hQ .normal st' a' c' i' k'
  | exit k=>exact hQ (.exit k) st' a' c' i' k'
  | ret=>exact hQ .ret st' a' c' i' k'
  | goto k =>
   simp only [jumpK0] at k'
   split at k'
   ·rename_i hk
    obtain rfl:=Nat.eq_of_beq_eq_true hk
    obtain⟨i0,ρ,fz,hI0,hsub⟩:=k'
    obtain⟨c1,w1,i1⟩:=frzs_ok fz i'
    obtain⟨c2,w2,i2⟩:=sub_ok i1 hn hsub
    exact⟨rfl,μ i0,i0,c2,rfl,hI0,i2,by rw[w2,w1]⟩
   ·cases k'
 ·obtain⟨⟨i,c,hμ,hIi,hinv,rfl⟩,_⟩:=Classical.choose_spec (least _ hI)
  have hms:ms a c.w=μ i:=by show(if h:Iv a c.w then Classical.choose (least _ h) else 0)=_;rw[dif_pos hI,hμ]
  refine cw_ok hE h64 hm rest (S i) _ hr2 (body i hIi) c a _ hinv fun e st' a' c' i' k'=>?_
  cases e with
  | normal=>exact hQ .normal st' a' c' i' k'
  | exit k=>exact hQ (.exit k) st' a' c' i' k'
  | ret=>exact hQ .ret st' a' c' i' k'
  | goto k =>
   simp only [jumpK] at k'
   split at k'
   ·rename_i hk
    obtain rfl:=Nat.eq_of_beq_eq_true hk
    obtain⟨j,ρ,fz,hIj,hlt,hsub⟩:=k'
    obtain⟨c1,w1,i1⟩:=frzs_ok fz i'
    obtain⟨c2,w2,i2⟩:=sub_ok i1 hn hsub
    have hIv:Iv a' c'.w:=⟨μ j,j,c2,rfl,hIj,i2,by rw[w2,w1]⟩
    refine⟨rfl,hIv,?_⟩
    rw[hms]
    refine Nat.lt_of_le_of_lt ?_ hlt
    show(if h:Iv a' c'.w then Classical.choose (least _ h) else 0)≤_
    rw[dif_pos hIv]
    exact(Classical.choose_spec (least _ hIv)).2 _ ⟨j,c2,rfl,hIj,i2,by rw[w2,w1]⟩
   ·cases k'
theorem resP_ok (hE : EnvOk P E) {c : RC} {st : ASt} {a : Act} (hi : Inv fc c st a) : ∀ {rv : List ResultVar} {vs : List PV}, resP E st rv = some vs → ∃ rs : List Value, (rv.mapM fun
      | .tmp t=>pure (a.tmps.getD t undef)
      | .cell q t=>do loadVar t (← asAddr (a.tmps.getD q undef)):Sem (List Value)).run P c.w=.ok rs c.w∧RepL c vs rs.toArray
  | [],vs,e=>by
    simp only [resP,Option.some.injEq] at e
    subst e
    exact⟨[],by simp,rfl,by simp⟩
  | r::rv,vs,e=>by
    simp only [resP] at e
    split at e
    · rename_i x hx
      split at e
      · rename_i xs hxs
        obtain rfl:=Option.some.inj e
        obtain⟨rs,h1,h2⟩:=resP_ok hE hi hxs
        have key : ∃ v, (match r with
            | .tmp t=>pure (a.tmps.getD t undef)
            | .cell q t=>do loadVar t (← asAddr (a.tmps.getD q undef)):Sem Value).run P c.w=.ok v c.w∧Rep c x v:=by
          cases r with
          | tmp t =>
            simp only [Option.some.injEq] at hx
            subst hx
            exact⟨a.tmps.getD t undef,by simp only [Sem.run_pure],hi.eval (.tmp t)⟩
          | cell q t =>
            simp only at hx
            have hq:Rep c (lget st.tmps q) (a.tmps.getD q undef):=hi.eval (.tmp q)
            split at hx
            · rename_i l off hl
              rw[hl] at hq
              obtain⟨b,hv,hD,hθ⟩:=hq.ptr_inv
              split at hx
              · rename_i cs hcs
                split at hx
                · rename_i ty hty
                  split at hx
                  · rename_i hb
                    obtain rfl:=Option.some.inj hx
                    obtain⟨b',arr,e,fr,h1,h2,h3,h4,h7,h5,h6⟩:=hi.obj l _ hcs
                    rw[hθ] at h1
                    injection h1 with h1
                    injection h1 with h1
                    injection h1 with h1
                    subst h1
                    obtain⟨rv,q1,q2⟩:=load_rep (P:=P) hE hty c b 0 cs off (ble_le hb) (fun j x hx=>by
                      have hj:j<arr.size:=by rw[← h4];exact(List.getElem?_eq_some_iff.1 hx).1
                      refine⟨arr[j],by simp [World.cell?,h2,hj],h5 j x _ hx (by simp [hj])⟩)
                    rw[Nat.zero_add] at q1
                    refine⟨rv,?_,q2⟩
                    simp only [hv,asAddr,Sem.run_bind,Sem.run_pure,Result.andThen_ok]
                    exact q1
                  · cases hx
                · cases hx
              · cases hx
            · cases hx
        obtain⟨v,k1,k2⟩:=key
        refine⟨v::rs,?_,by simp [h2.1],fun i x' v' p q=>?_⟩
        · rw[List.mapM_cons]
          simp only [Sem.run_bind]
          cases r<;>simp only [Sem.run_bind] at k1 ⊢<;>rw[k1]<;>simp only [Result.andThen_ok,Sem.run_bind,h1,Sem.run_pure]
        · cases i with
          | zero=>simp at p q;subst p;subst q;exact k2
          | succ i=>exact h2.2 i x' v' (by simpa using p) (by simpa using q)
      · cases e
    · cases e
theorem run_results {fn : Func} {tmps : Array Value} {w w' : World} {rs : List Value} (h : (fn.results.toList.mapM fun
      | .tmp t=>pure (tmps.getD t undef)
      | .cell q t=>do loadVar t (← asAddr (tmps.getD q undef)):Sem (List Value)).run P w=.ok rs w'):(results fn tmps).run P w=.ok (if h:rs.toArray.size=1 then rs.toArray[0] else .tuple rs.toArray) w':=by
  unfold results
  simp only [Sem.run_bind]
  rw[Array.mapM_eq_mapM_toList]
  rw[Sem.run_map]
  refine(congrArg (fun r=>(Result.andThen (Result.andThen r fun a w'=>Result.ok (List.toArray a) w') fun a w'=>Sem.run P (pure (if h:a.size=1 then a[0] else Value.tuple a)) w')) h).trans ?_
  simp only [Result.andThen_ok,Sem.run_pure]
theorem fnB_of_cw (hE : EnvOk P E) (hm : P.follows .mixedOrders = true) {f : Nat} {fn : Func} {code : Code} (hf : P.funcs[f]? = some fn) (hname : fn.name ≠ "runtime.NumGoroutine") (hb : fn.body = some code) (hr : regOk code = true) {args res : List PV} {H H' : List Sym.Obj} {n : Nat} {rv : List ResultVar}
    (hn : fn.ntmps - args.length = n) (hrv : fn.results.toList = rv) (h : ∀ fc : FC, fc.n0 = H.length → cw E (Fn P) (Lp P fc) code ⟨args ++ tops n, heapOf 0 H⟩ (retK E rv H.length res H')) : FnB P f args H res H' := by
  refine ⟨⟨fn, hf, hname, by rw [hb]; rfl⟩, fun c vs h64 hi hargs => ?_⟩
  refine calls_of_wp hf hb ?_
  have hi2 : Inv (FC.enter c H) c ⟨args ++ tops n, heapOf 0 H⟩ { tmps := vs ++ Array.replicate (fn.ntmps - vs.size) undef, defers := [] } := by
    refine hi.with rfl ⟨?_, fun i x v p q => ?_⟩
    · simp [hargs.1, length_tops, ← hn]
    · rw [List.getElem?_append] at p
      rw [Array.getElem?_append, ← hargs.1] at q
      split at p
      · rename_i hlt; rw [if_pos hlt] at q; exact hargs.2 i x v p q
      · rw [mem_tops (List.mem_of_getElem? p)]; exact .top _
  refine cw_ok hE h64 hm code _ _ hr (h (FC.enter c H) rfl) c _ _ hi2 fun e st' a' c' i' k' => ?_
  have key : RetThen E rv H.length res H' st' → a'.defers = [] ∧ ∃ v, (results fn a'.tmps).run P c'.w = .ok v c'.w ∧ ∃ c2, c2.w = c'.w ∧ Inv (FC.enter c H) c2 ⟨[], heapOf 0 H'⟩ act0 ∧ Rep c2 (packRes res) v := by
    rintro ⟨ρ, fz, hret⟩
    obtain ⟨c1, w1, i1⟩ := frzs_ok fz i'
    unfold retT at hret
    split at hret
    · rename_i xs hxs
      obtain ⟨rs, q1, q2⟩ := resP_ok hE i1 hxs
      obtain ⟨hk, i2⟩ := subH_ok i1 rfl hret
      obtain ⟨_, hmt⟩ := mt_ok i1 _ _ _ hk
      refine ⟨i'.nod, _, by rw [← w1]; exact run_results (by rw [hrv]; exact q1), c1.read ρ (heapOf 0 H'), w1, i2, hmt _ ?_⟩
      obtain ⟨n1, r1⟩ := q2
      match xs, rs, n1 with
      | [], [], _ => exact .lit _
      | [x], [v], _ => exact r1 0 x v rfl rfl
      | x :: y :: xs, v1 :: v2 :: rs, n1 => exact .tup _ _ n1 r1
    · cases hret
  cases e with
  | normal => exact key k'
  | exit k => cases k'
  | ret => exact key k'
  | goto k => cases k'
end
end Go.Sym
namespace Go.Sym
open Go
def lookTy (all:List (List (Option TyI))) (t:Nat):Option TyI:=match nth all (t / 16) with
 | some l=>(match nth l (t % 16) with
  | some x=>x
  | none=>none)
 | none=>none
def zeroB:List PV→List Value→Bool
 | [],[]=>true
 | x::xs,v::vs=>(match x with
  | .int k n=>(match v with
   | .int j m=>Nat.beq (ikNum k) (ikNum j) && decide (n=m)
   | _=>false)
  | .bool b=>(match v with
   | .bool c=>eqB b c
   | _=>false)
  | .str s=>(match v with
   | .string t=>Nat.beq s.data.size 0 && Nat.beq t.data.size 0
   | _=>false)
  | .nils=>(match v with
   | .slice none n m=>Nat.beq n 0 && Nat.beq m 0
   | _=>false)
  | .lit u=>(match u with
   | .pointer none=>(match v with
    | .pointer none=>true
    | _=>false)
   | .nilIface=>(match v with
    | .nilIface=>true
    | _=>false)
   | .nilFunc=>(match v with
    | .nilFunc=>true
    | _=>false)
   | .map none=>(match v with
    | .map none=>true
    | _=>false)
   | .chan none=>(match v with
    | .chan none=>true
    | _=>false)
   | .float k n=>(match v with
    | .float j m=>decide (k=j) && Nat.beq n m
    | _=>false)
   | .complex k n p=>(match v with
    | .complex j m q=>decide (k=j) && (Nat.beq n m && Nat.beq p q)
    | _=>false)
   | _=>false)
  | _=>false) && zeroB xs vs
 | _,_=>false
def aggB (P:Program) (t:Nat):Option Bool:=match P.underlying t with
 | some (.struct _)=>some true
 | some (.array _ _)=>some true
 | some _=>some false
 | none=>none
def isOpt (o:Option Bool) (b:Bool):Bool:=match o with
 | some c=>eqB c b
 | none=>false
def fieldsB (P:Program):List (Nat×Nat×Bool)→List Field→Bool
 | [],[]=>true
 | (off,size,ag)::r,f::fs=>Nat.beq f.offset off && (match P.info? f.type with
  | some fi=>Nat.beq fi.size size
  | none=>false) && (ag || Nat.beq size 1) && isOpt (aggB P f.type) ag && fieldsB P r fs
 | _,_=>false
def tkB (P:Program) (i:TyI) (d:TypeDesc):Bool:=match i.tk with
 | .bool=>!i.agg && (match d with
  | .bool=>true
  | _=>false)
 | .int k=>!i.agg && (match d with
  | .int j=>Nat.beq (ikNum k) (ikNum j)
  | _=>false)
 | .str=>!i.agg && (match d with
  | .string=>true
  | _=>false)
 | .slice e=>!i.agg && (match d with
  | .slice e'=>Nat.beq e' e
  | _=>false)
 | .struct fs=>i.agg && (match d with
  | .struct fields=>fieldsB P fs fields.toList
  | _=>false)
 | .array n e=>i.agg && (match d with
  | .array n' e'=>Nat.beq n' n && Nat.beq e' e
  | _=>false)
 | .iface=>!i.agg && (match d with
  | .interface _=>true
  | _=>false)
 | .map k e=>!i.agg && (match d with
  | .map k' e'=>Nat.beq k' k && Nat.beq e' e
  | _=>false)
 | .float k=>!i.agg && (match d with
  | .float j=>decide (j=k)
  | _=>false)
 | .complex k=>!i.agg && (match d with
  | .complex j=>decide (j=k)
  | _=>false)
 | .other=>!i.agg && (match d with
  | .struct _=>false
  | .array _ _=>false
  | _=>true)
def cmpFs (P : Program) (rec : Nat → List PV → Bool) : List Field → Nat → List PV → Bool
  | [], _, z => (match z with
    | [] => true
    | _ => false)
  | f :: fs, o, z => decide (f.name ≠ "_") && Nat.beq f.offset o && (match P.info? f.type with
    | some fi => Nat.ble fi.size z.length && (match aggB P f.type with
      | some ag => ag || Nat.beq fi.size 1
      | none => false) && rec f.type (z.take fi.size) && cmpFs P rec fs (o + fi.size) (z.drop fi.size)
    | none => false)
def cmpB (P:Program):Nat→Nat→List PV→Bool
 | 0,_,_=>false
 | d+1,t,z=>match P.underlying t with
  | some .bool=>(match z with
   | [.bool _]=>true
   | _=>false)
  | some (.int k)=>(match z with
   | [.int j _]=>Nat.beq (ikNum k) (ikNum j)
   | _=>false)
  | some .string=>(match z with
   | [.str _]=>true
   | _=>false)
  | some (.struct fields)=>!P.stoodInHeld t && cmpFs P (cmpB P d) fields.toList 0 z
  | _=>false
def tyB (P:Program) (t:Nat) (i:TyI):Bool:=match P.info? t with
 | some inf=>Nat.beq inf.size i.size && Nat.beq inf.bytes i.bytes && (match inf.zero with
  | some z=>Nat.beq z.cells.size i.size && Nat.beq i.zero.length i.size && zeroB i.zero z.cells.toList && (match z with
   | .agg _=>i.agg
   | _=>!i.agg)
  | none=>false) && (match P.underlying t with
  | some d=>tkB P i d
  | none=>false) && (i.agg || Nat.beq i.size 1) && (match i.cmp with
  | true=>!P.eqGuardType P.depth t && (match P.underlying t with
   | some (.struct _)=>cmpB P 20 t i.zero
   | _=>false)
  | false=>true)
 | none=>false
def rowB (P:Program):Nat→List (Option TyI)→Bool
 | _,[]=>true
 | t,x::r=>(match x with
  | some i=>tyB P t i
  | none=>true) && rowB P (t+1) r
def allB (P:Program):Nat→List (List (Option TyI))→Bool
 | _,[]=>true
 | t,l::r=>rowB P t l && Nat.ble l.length 16 && allB P (t+16) r
theorem eqB_ok {a b:Bool} (h:eqB a b=true):a=b:=by cases a<;>cases b<;>first|rfl|simp [eqB] at h
theorem emptyB {s t:ByteArray} (h:(Nat.beq s.data.size 0 && Nat.beq t.data.size 0)=true):s=ByteArray.empty∧t=ByteArray.empty:=by
 simp only [Bool.and_eq_true] at h
 have e:∀ s:ByteArray,Nat.beq s.data.size 0=true→s=ByteArray.empty:=by
  intro s hs
  cases s with
  | mk d =>
   obtain rfl:d=#[]:=Array.eq_empty_of_size_eq_zero (Nat.eq_of_beq_eq_true hs)
   rfl
 exact⟨e s h.1,e t h.2⟩
theorem lit_float {k j:FloatKind} {n m:Nat} (h:(decide (k=j) && Nat.beq n m)=true):ConstRep (.lit (.float k n)) (.float j m):=by
 rw[Bool.and_eq_true] at h
 obtain⟨h1,h2⟩:=h
 obtain rfl:=of_decide_eq_true h1
 obtain rfl:=Nat.eq_of_beq_eq_true h2
 exact .lit _ rfl
theorem lit_complex {k j:FloatKind} {n m p q:Nat} (h:(decide (k=j) && (Nat.beq n m && Nat.beq p q))=true):ConstRep (.lit (.complex k n p)) (.complex j m q):=by
 rw[Bool.and_eq_true,Bool.and_eq_true] at h
 obtain⟨h1,h2,h3⟩:=h
 obtain rfl:=of_decide_eq_true h1
 obtain rfl:=Nat.eq_of_beq_eq_true h2
 obtain rfl:=Nat.eq_of_beq_eq_true h3
 exact .lit _ rfl
theorem zeroB_ok:∀ {xs:List PV} {vs:List Value},zeroB xs vs=true→∀ (j:Nat) x v,xs[j]?=some x→vs[j]?=some v→ConstRep x v
  | [],[],_,j,x,v,h,_=>by simp at h
  | x::xs,v::vs,h,j,x',v',hx,hv=>by
    simp only [zeroB,Bool.and_eq_true] at h
    cases j with
    | succ j=>exact zeroB_ok h.2 j x' v' (by simpa using hx) (by simpa using hv)
    | zero =>
      simp at hx hv
      subst hx;subst hv
      have h:=h.1
      split at h
      · split at h
        · simp only [Bool.and_eq_true,decide_eq_true_eq] at h
          obtain⟨h1,rfl⟩:=h
          obtain rfl:=ikNum_inj h1
          exact .int _ _
        · cases h
      · split at h
        · have:=eqB_ok h
          subst this
          exact .bool _
        · cases h
      · split at h
        · obtain⟨rfl,rfl⟩:=emptyB h
          exact .str _
        · cases h
      · split at h
        · simp only [Bool.and_eq_true] at h
          obtain rfl:=Nat.eq_of_beq_eq_true h.1
          obtain rfl:=Nat.eq_of_beq_eq_true h.2
          exact .nils
        · cases h
      · split at h
        all_goals first
          | (cases h;done)
          | (split at h
             all_goals first
               | exact .lit _ rfl
               | (cases h;done)
               | exact lit_float h
               | exact lit_complex h)
      · cases h
  | [],_::_,h,_,_,_,_,_=>by simp [zeroB] at h
  | _::_,[],h,_,_,_,_,_=>by simp [zeroB] at h
theorem aggB_ok {P:Program} {t:Nat} {b:Bool} (h:aggB P t=some b) (w:World):(isAgg t).run P w=.ok b w:=by
 unfold aggB at h
 unfold Go.isAgg
 split at h<;>(try cases h)<;>rename_i hd<;>simp only [Sem.run_bind,run_underlying hd,Result.andThen_ok]
 ·simp
 ·simp
 ·simp
theorem isOpt_ok {o:Option Bool} {b:Bool} (h:isOpt o b=true):o=some b:=by
 unfold isOpt at h
 split at h
 ·rename_i c;cases b<;>cases c<;>first|rfl|simp [eqB] at h
 ·cases h
theorem fieldsB_ok {P:Program}:∀ {fs:List (Nat×Nat×Bool)} {fields:List Field},fieldsB P fs fields=true→fields.length=fs.length∧∀ (j:Nat) off size ag,fs[j]?=some (off,size,ag)→∃ f fi,fields[j]?=some f∧f.offset=off∧P.info? f.type=some fi∧fi.size=size∧(ag=false→size=1)∧∀ w:World,(isAgg f.type).run P w=.ok ag w
 | [],[],_=>by simp
 | (off,size,ag)::r,f::fs,h=>by
  simp only [fieldsB,Bool.and_eq_true] at h
  obtain⟨⟨⟨⟨h1,h2⟩,h3⟩,h4⟩,h5⟩:=h
  obtain⟨g1,g2⟩:=fieldsB_ok h5
  refine⟨by simp [g1],fun j off' size' ag' hj=>?_⟩
  cases j with
  | succ j=>exact g2 j off' size' ag' (by simpa using hj)
  | zero =>
   simp at hj
   obtain⟨rfl,rfl,rfl⟩:=hj
   split at h2
   ·rename_i fi hfi
    exact⟨f,fi,by simp,Nat.eq_of_beq_eq_true h1,hfi,Nat.eq_of_beq_eq_true h2,fun e=>by subst e;simpa using h3,aggB_ok (isOpt_ok h4)⟩
   ·cases h2
 | [],_::_,h=>by simp [fieldsB] at h
 | _::_,[],h=>by simp [fieldsB] at h
theorem tkB_ok {P:Program} {i:TyI} {d:TypeDesc} (h:tkB P i d=true):tkOk P i d:=by
 unfold tkB at h
 unfold tkOk
 cases htk:i.tk<;>simp only [htk,Bool.and_eq_true,Bool.not_eq_true'] at h ⊢<;>obtain⟨ha,h⟩:=h
 ·split at h
  ·exact⟨rfl,ha⟩
  ·cases h
 ·split at h
  ·obtain rfl:=ikNum_inj h;exact⟨rfl,ha⟩
  ·cases h
 ·split at h
  ·exact⟨rfl,ha⟩
  ·cases h
 ·split at h
  ·obtain rfl:=Nat.eq_of_beq_eq_true h;exact⟨rfl,ha⟩
  ·cases h
 ·split at h
  ·rename_i fields
   obtain⟨g1,g2⟩:=fieldsB_ok h
   exact⟨ha,fields,rfl,by simpa using g1,fun j off size ag hj=>by
    obtain⟨f,fi,k1,k2⟩:=g2 j off size ag hj
    exact⟨f,fi,by simpa using k1,k2⟩⟩
  ·cases h
 ·split at h
  ·simp only [Bool.and_eq_true] at h
   obtain rfl:=Nat.eq_of_beq_eq_true h.1
   obtain rfl:=Nat.eq_of_beq_eq_true h.2
   exact⟨ha,rfl⟩
  ·cases h
 ·split at h
  ·rename_i ms;exact⟨⟨ms,rfl⟩,ha⟩
  ·cases h
 ·split at h
  ·simp only [Bool.and_eq_true] at h
   obtain rfl:=Nat.eq_of_beq_eq_true h.1
   obtain rfl:=Nat.eq_of_beq_eq_true h.2
   exact⟨rfl,ha⟩
  ·cases h
 ·split at h
  ·obtain rfl:=of_decide_eq_true h;exact⟨rfl,ha⟩
  ·cases h
 ·split at h
  ·obtain rfl:=of_decide_eq_true h;exact⟨rfl,ha⟩
  ·cases h
 ·refine⟨ha,?_,?_⟩
  ·rintro fs rfl;cases h
  ·rintro n e rfl;cases h
theorem Fits.split {zs:List PV} {vs:List Value} {n:Nat} (h:Fits zs vs) (hn:n≤zs.length):Fits (zs.take n) (vs.take n)∧Fits (zs.drop n) (vs.drop n):=by
 obtain⟨h1,h2⟩:=h
 refine⟨⟨by simp;omega,fun j z v p q=>?_⟩,⟨by simp;omega,fun j z v p q=>?_⟩⟩
 ·rw[List.getElem?_take] at p q
  split at p
  ·rename_i hj;rw[if_pos hj] at q;exact h2 j z v p q
  ·cases p
 ·rw[List.getElem?_drop] at p q
  exact h2 _ z v p q
theorem ikB_eq {k j:IntKind} (h:(k == j)=true):k=j:=by cases k<;>cases j<;>first|rfl|(exact absurd h (by decide))
theorem fits_one {z:PV} {x:Value} (h:Fits [z] [x]):fitOne z x=true:=h.2 0 z x rfl rfl
theorem cmpB_ok {P:Program}:∀ (d e t:Nat) (z:List PV),cmpB P d t z=true →
  (∀ fields,P.underlying t=some (.struct fields)→∀ (xs ys:Array Value) (w:World),Fits z xs.toList→Fits z ys.toList→∃ b:Bool,(Op.equalIn (e+d) t (.agg xs) (.agg ys)).run P w=.ok b w∧(b=true ↔ xs.toList=ys.toList)) ∧
  ((∀ fields,P.underlying t≠some (.struct fields))→∀ (x y:Value) (w:World),Fits z [x]→Fits z [y]→∃ b:Bool,(Op.equalIn (e+d) t x y).run P w=.ok b w∧(b=true ↔ x=y))
 | 0,_,_,_,h=>by simp [cmpB] at h
 | d+1,e,t,z,h=>by
  simp only [cmpB] at h
  split at h
  ·rename_i hu
   refine⟨fun fs hf=>(by rw[hu] at hf;cases hf),fun _ x y w hx hy=>?_⟩
   split at h
   ·have h1:=fits_one hx
    have h2:=fits_one hy
    cases x<;>simp only [fitOne] at h1<;>try(cases h1;done)
    cases y<;>simp only [fitOne] at h2<;>try(cases h2;done)
    exact⟨_,run_equalIn_bool' w (e+d) t _ _ hu,by simp⟩
   ·cases h
  ·rename_i k hu
   refine⟨fun fs hf=>(by rw[hu] at hf;cases hf),fun _ x y w hx hy=>?_⟩
   split at h
   ·have h1:=fits_one hx
    have h2:=fits_one hy
    cases x<;>simp only [fitOne] at h1<;>try(cases h1;done)
    cases y<;>simp only [fitOne] at h2<;>try(cases h2;done)
    obtain rfl:=ikB_eq h1
    obtain rfl:=ikB_eq h2
    exact⟨_,run_equalIn_int w (e+d) t _ _ _ _ hu,by simp⟩
   ·cases h
  ·rename_i hu
   refine⟨fun fs hf=>(by rw[hu] at hf;cases hf),fun _ x y w hx hy=>?_⟩
   split at h
   ·have h1:=fits_one hx
    have h2:=fits_one hy
    cases x<;>simp only [fitOne] at h1<;>try(cases h1;done)
    cases y<;>simp only [fitOne] at h2<;>try(cases h2;done)
    refine⟨_,run_equalIn_string w (e+d) t _ _ hu,?_⟩
    rw[bytes_eq_iff]
    simp
   ·cases h
  ·rename_i fields hu
   refine⟨fun fs hf xs ys w hx hy=>?_,fun hn=>absurd hu (hn _)⟩
   simp only [Bool.and_eq_true,Bool.not_eq_true'] at h
   obtain⟨hs,hc⟩:=h
   have hfo:P.fieldsOf t=fields:=by simp [Program.fieldsOf,hu]
   have hrun:=run_equalIn_agg w (e+d) t xs ys (by rw[hfo];exact hu) hs
   rw[hfo] at hrun
   rw[show e+(d+1)=e+d+1 by omega,hrun]
   have key:∀ (l:List Field) (o:Nat) (z:List PV),cmpFs P (cmpB P d) l o z=true→Fits z (xs.toList.drop o)→Fits z (ys.toList.drop o) →
     ∃ b:Bool,(Op.eqFields (e+d) xs ys l).run P w=.ok b w∧(b=true ↔ xs.toList.drop o=ys.toList.drop o):=by
    intro l
    induction l with
    | nil =>
     intro o z hz hx hy
     simp only [cmpFs] at hz
     split at hz
     ·have e1:xs.toList.drop o=[]:=List.length_eq_zero_iff.1 hx.1.symm
      have e2:ys.toList.drop o=[]:=List.length_eq_zero_iff.1 hy.1.symm
      exact⟨true,by simp [Op.eqFields],by simp [e1,e2]⟩
     ·cases hz
    | cons f l ih =>
     intro o z hz hx hy
     simp only [cmpFs,Bool.and_eq_true,decide_eq_true_eq] at hz
     obtain⟨⟨hname,hoff⟩,hz⟩:=hz
     have hoff:=Nat.eq_of_beq_eq_true hoff
     split at hz
     ·rename_i fi hfi
      simp only [Bool.and_eq_true] at hz
      obtain⟨⟨⟨hle,hag⟩,hrec⟩,hrest⟩:=hz
      have hle:=ble_le hle
      split at hag
      ·rename_i ag hagg
       have hia:=aggB_ok hagg
       obtain⟨fx1,fx2⟩:=hx.split hle
       obtain⟨fy1,fy2⟩:=hy.split hle
       rw[List.drop_drop] at fx2 fy2
       obtain⟨b2,r2,i2⟩:=ih (o+fi.size) _ hrest fx2 fy2
       have hsz:(sizeOf f.type).run P w=.ok fi.size w:=by simp [Go.sizeOf,typeInfo,hfi]
       have lx:=hx.1
       have ly:=hy.1
       simp only [List.length_drop,Array.length_toList] at lx ly
       -- the parts
       have hparts:∃ px py,(part f.type xs f.offset).run P w=.ok px w∧(part f.type ys f.offset).run P w=.ok py w∧∃ b1:Bool,(Op.equalIn (e+d) f.type px py).run P w=.ok b1 w∧(b1=true ↔ (xs.toList.drop o).take fi.size=(ys.toList.drop o).take fi.size):=by
        cases ag with
        | true =>
         refine⟨.agg (xs.extract o (o+fi.size)),.agg (ys.extract o (o+fi.size)),by simp [part,hia,hsz,hoff],by simp [part,hia,hsz,hoff],?_⟩
         have ex:∀ zs:Array Value,(zs.extract o (o+fi.size)).toList=(zs.toList.drop o).take fi.size:=fun zs=>by simp [List.extract_eq_take_drop]
         cases hut:P.underlying f.type with
         | none=>simp [aggB,hut] at hagg
         | some dd =>
          cases dd with
          | struct fs2 =>
           obtain⟨b,hb1,hb2⟩:=(cmpB_ok d e f.type _ hrec).1 fs2 hut (xs.extract o (o+fi.size)) (ys.extract o (o+fi.size)) w (by rw[ex];exact fx1) (by rw[ex];exact fy1)
           exact⟨b,hb1,by rw[hb2,ex,ex]⟩
          | array n e =>
           cases d with
           | zero=>simp [cmpB] at hrec
           | succ d=>simp [cmpB,hut] at hrec
          | _=>simp [aggB,hut] at hagg
        | false =>
         have h1:fi.size=1:=by simpa using hag
         have hox:o<xs.size:=by omega
         have hoy:o<ys.size:=by omega
         have tk:∀ (zs:Array Value) (hz:o<zs.size),(zs.toList.drop o).take fi.size=[zs[o]]:=by
          intro zs hz
          rw[List.drop_eq_getElem_cons (by simpa using hz),h1]
          simp
         refine⟨xs[o],ys[o],by simp [part,hia,hoff,hox],by simp [part,hia,hoff,hoy],?_⟩
         have hns:∀ fields,P.underlying f.type≠some (.struct fields):=by
          intro fs2 hut
          simp [aggB,hut] at hagg
         obtain⟨b,hb1,hb2⟩:=(cmpB_ok d e f.type _ hrec).2 hns xs[o] ys[o] w (by rw[← tk xs hox];exact fx1) (by rw[← tk ys hoy];exact fy1)
         exact⟨b,hb1,by rw[hb2,tk xs hox,tk ys hoy];simp⟩
       obtain⟨px,py,hp1,hp2,b1,hb1,hb2⟩:=hparts
       have spl:∀ zs:List Value,zs.drop o=(zs.drop o).take fi.size++zs.drop (o+fi.size):=fun zs=>by
        rw[← List.drop_drop,List.take_append_drop]
       have hlen:((xs.toList.drop o).take fi.size).length=((ys.toList.drop o).take fi.size).length:=by simp;omega
       have hiff:xs.toList.drop o=ys.toList.drop o ↔ ((xs.toList.drop o).take fi.size=(ys.toList.drop o).take fi.size∧xs.toList.drop (o+fi.size)=ys.toList.drop (o+fi.size)):=by
        constructor
        ·intro h
         refine⟨by rw[h],?_⟩
         rw[← List.drop_drop,← List.drop_drop,h]
        ·rintro ⟨h1,h2⟩
         rw[spl xs.toList,spl ys.toList,h1,h2]
       simp only [Op.eqFields]
       rw[if_pos hname]
       simp only [Sem.run_bind,hp1,hp2,Result.andThen_ok,hb1]
       cases b1 with
       | true =>
        simp only [Bool.not_true,Bool.false_eq_true,if_false,r2]
        exact⟨b2,rfl,by rw[i2,hiff];simp [hb2.1 rfl]⟩
       | false =>
        simp only [Bool.not_false,if_true,Sem.run_pure]
        refine⟨false,rfl,?_⟩
        rw[hiff]
        simp only [Bool.false_eq_true,false_iff,not_and]
        intro h1
        exact absurd (hb2.2 h1) (by simp)
      ·cases hag
     ·cases hz
   obtain⟨b,k1,k2⟩:=key fields.toList 0 z hc (by simpa using hx) (by simpa using hy)
   exact⟨b,k1,by simpa using k2⟩
  ·cases h
theorem tyB_ok {P:Program} {t:Nat} {i:TyI} (h:tyB P t i=true):TyOk P t i:=by
 unfold tyB at h
 split at h
 ·rename_i inf hinf
  simp only [Bool.and_eq_true] at h
  obtain⟨⟨⟨⟨⟨h1,h2⟩,h3⟩,h4⟩,h5⟩,h6⟩:=h
  refine⟨?_,?_,fun ha=>?_,fun inf' z' hi hz=>?_,fun hc=>?_⟩
  ·split at h3
   ·rename_i z hz
    simp only [Bool.and_eq_true] at h3
    obtain⟨⟨⟨k1,k2⟩,k3⟩,_⟩:=h3
    exact⟨inf,z,hinf,Nat.eq_of_beq_eq_true h1,Nat.eq_of_beq_eq_true h2,hz,Nat.eq_of_beq_eq_true k1,Nat.eq_of_beq_eq_true k2,fun j x v p q=>zeroB_ok k3 j x v p (by simpa using q)⟩
   ·cases h3
  ·split at h4
   ·rename_i d hd;exact⟨d,hd,tkB_ok h4⟩
   ·cases h4
  ·simpa [ha] using h5
  ·rw[hinf] at hi
   obtain rfl:=Option.some.inj hi
   rw[hz] at h3
   simp only [Bool.and_eq_true] at h3
   have h3:=h3.2
   cases z' with
   | agg vs=>exact .inl ⟨h3,vs,rfl⟩
   | _=>exact .inr ⟨by simpa using h3,fun vs e=>by cases e⟩
  ·rw[hc] at h6
   simp only [Bool.and_eq_true,Bool.not_eq_true'] at h6
   refine⟨h6.1,fun xs ys w hx hy=>?_⟩
   have h6:=h6.2
   split at h6
   ·rename_i fs hfs
    exact(cmpB_ok 20 9980 t _ h6).1 fs hfs xs ys w hx hy
   ·cases h6
 ·cases h
theorem rowB_ok {P:Program}:∀ {l:List (Option TyI)} {t:Nat},rowB P t l=true→∀ (j:Nat) i,nth l j=some (some i)→TyOk P (t+j) i
 | [],t,_,j,i,h=>by simp [nth] at h
 | x::r,t,h,j,i,hj=>by
  simp only [rowB,Bool.and_eq_true] at h
  cases j with
  | zero =>
   simp [nth] at hj
   subst hj
   exact tyB_ok h.1
  | succ j =>
   have:=rowB_ok h.2 j i (by simpa [nth] using hj)
   rwa [show t+1+j=t+(j+1) by omega] at this
theorem allB_ok {P:Program}:∀ {l:List (List (Option TyI))} {t:Nat},allB P t l=true→∀ (k j:Nat) row i,nth l k=some row→nth row j=some (some i)→TyOk P (t+16 * k+j) i
 | [],t,_,k,j,row,i,h,_=>by simp [nth] at h
 | x::r,t,h,k,j,row,i,hk,hj=>by
  simp only [allB,Bool.and_eq_true] at h
  cases k with
  | zero =>
   simp [nth] at hk
   subst hk
   have:=rowB_ok h.1.1 j i hj
   simpa using this
  | succ k =>
   have:=allB_ok h.2 k j row i (by simpa [nth] using hk) hj
   rwa [show t+16+16 * k+j=t+16 * (k+1)+j by omega] at this
theorem env_ok {P:Program} {E:Env} {all:List (List (Option TyI))} (hE:E.ty=lookTy all) (h:allB P 0 all=true):EnvOk P E:=by
 intro t i ht
 rw[hE] at ht
 unfold lookTy at ht
 split at ht
 ·rename_i row hrow
  split at ht
  ·rename_i x hx
   subst ht
   have:=allB_ok h (t / 16) (t % 16) row i hrow hx
   rwa [Nat.zero_add,Nat.div_add_mod] at this
  ·cases ht
 ·cases ht
end Go.Sym
