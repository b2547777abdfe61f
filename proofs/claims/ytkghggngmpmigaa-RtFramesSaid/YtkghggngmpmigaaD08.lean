import Derived.Test.YtkghggngmpmigaaD07
set_option linter.all false
namespace Go.X
open Go
def NotInt (P:Program) (us:List TypeId):Prop:=us=[]\/∃ u us' d,us=u :: us'/\P.underlying u=some d/\∀ k,d≠.int k
theorem run_app_room {P:Program} {w w':World}{t ty e n sLen sCap:Nat}{a:Option Addr}{us:List TypeId}{X:Value}{i:TypeInfo}{N:Array Value} (hu:P.underlying t=some (.slice e)) (hus:NotInt P us)
  (hi:P.info? e=some i) (hlen:(Builtin.lenOf X).run P w=.ok n w) (hN:(Builtin.firstCells i.size n X).run P w=.ok N w) (hroom:sLen+n<=sCap)
  (hst:∀ b,a=some b->(storeCells (b.add (sLen*i.size)) N.toList).run P w=.ok () w') (hno:a=none->w'=w) :
  (Builtin.append_ ⟨t :: us⟩ ty #[.slice a sLen sCap,X]).run P w=.ok (.slice a (sLen+n) sCap) w':=by
 rcases hus with rfl|⟨u,us',d,rfl,hd,hk⟩
 ·cases a with
  |none=>simp[Builtin.append_,run_underlying hu,sizeOf,typeInfo,hi,hlen,hroom,hN,hno]
  |some b=>simp[Builtin.append_,run_underlying hu,sizeOf,typeInfo,hi,hlen,hroom,hN,hst]
 ·cases a with
  |none=>simp[Builtin.append_,run_underlying hu,run_underlying hd,sizeOf,typeInfo,hi,hlen,hroom,hN,hno]
  |some b=>simp[Builtin.append_,run_underlying hu,run_underlying hd,sizeOf,typeInfo,hi,hlen,hroom,hN,hst]
theorem run_app_grow {P:Program}{w:World}{t ty e n sLen sCap:Nat}{a:Option Addr}{us:List TypeId}{X Z:Value}{i:TypeInfo}{O N:Array Value} (hu:P.underlying t=some (.slice e)) (hus:NotInt P us)
  (hi:P.info? e=some i) (hz:i.zero=some Z) (hlen:(Builtin.lenOf X).run P w=.ok n w) (hO:(Builtin.firstCells i.size sLen (.slice a sLen sCap)).run P w.drew=.ok O w.drew)
  (hN:(Builtin.firstCells i.size n X).run P w.drew=.ok N w.drew) (hg:sCap<sLen+n) (hb:(sLen+n)*(i.bytes+i.size+1)<=maxGrow) :
  (Builtin.append_ ⟨t :: us⟩ ty #[.slice a sLen sCap,X]).run P w=.ok (.slice (some ⟨w.heap.size,0,none⟩) (sLen+n) (grownCap w (sLen+n) sCap e))
   (w.drew.alloc (.cells (O++N++Builtin.zeroCells Z.cells (grownCap w (sLen+n) sCap e-(sLen+n))) e)):=by
 unfold maxGrow at hb
 have hm1:(sLen+n)*i.bytes<=(sLen+n)*(i.bytes+i.size+1):=Nat.mul_le_mul_left _ (by omega)
 have hm2:(sLen+n)*1<=(sLen+n)*(i.bytes+i.size+1):=Nat.mul_le_mul_left _ (by omega)
 have hn:¬ (sLen+n<=sCap):=by omega
 have h63:¬ (9223372036854775807<((sLen:Int)+(n:Int))):=by omega
 have h48:¬ (281474976710656<Builtin.nextslicecap (sLen+n) sCap*i.bytes):=by
  have:=growslice_fits (need:=sLen+n) (old:=sCap) (bytes:=i.bytes) (by omega) (by omega)
  omega
 rcases hus with rfl|⟨u,us',d,rfl,hd,hk⟩
 ·simp[Builtin.append_,run_underlying hu,sizeOf,typeInfo,zeroValue,hi,hz,hlen,hn,h63,h48,Question.forced,hO,hN,newRow,grownCap]
 ·simp[Builtin.append_,run_underlying hu,run_underlying hd,sizeOf,typeInfo,zeroValue,hi,hz,hlen,hn,h63,h48,Question.forced,hO,hN,newRow,grownCap]
theorem SrcAt.cat {ρ:Rn}{size m k idx:Nat}{f g:Nat->List Value}{O N:Array Value} (h:SrcAt ρ size m (fun j=>f (idx+j)) O) (h':SrcAt ρ size k g N):SrcAt ρ size (m+k) (rowCat f idx m g) (O++N):=by
 refine⟨by simp[h.1,h'.1,Nat.add_mul],fun j hj=>?_⟩
 unfold rowCat
 by_cases hjm:j<m
 ·have e:Nat.blt j m=true:=Nat.ble_eq_true_of_le hjm
  rw[e,cond_true]
  obtain⟨h1,h2⟩:=h.2 j hjm
  refine⟨h1,fun o v ho=>?_⟩
  obtain⟨u,hu,hv⟩:=h2 o v ho
  refine⟨u,?_,hv⟩
  have hlt:j*size+o<O.size:=by
   rcases Nat.lt_or_ge (j*size+o) O.size with h|h
   ·exact h
   ·simp[Array.getElem?_eq_none h]at hu
  rw[Array.getElem?_append_left hlt];exact hu
 ·have e:Nat.blt j m=false:=by
   cases hb:Nat.blt j m with
   |false=>rfl
   |true=>exact absurd (blt_lt hb) hjm
  rw[e,cond_false]
  obtain⟨h1,h2⟩:=h'.2 (j-m) (by omega)
  refine⟨h1,fun o v ho=>?_⟩
  obtain⟨u,hu,hv⟩:=h2 o v ho
  refine⟨u,?_,hv⟩
  have hmul:m*size<=j*size:=Nat.mul_le_mul_right size (by omega)
  have hsub:(j-m)*size=j*size-m*size:=Nat.sub_mul ..
  rw[Array.getElem?_append_right (by rw[h.1];omega),h.1,<- hu]
  congr 1;omega
theorem Good.grown {P:Program}{ρ:Rn} {g g':G}{w:World}{n total st:Nat}{f:Nat->List Value}{M:Array Value}{zc:Array Value} {e cap':Nat}{dels:List (Nat × Option Blk)}
  (hr:RelH P ρ g w) (hn:ρ n=none) (hdels:gapply g dels=g') (hsub:∀ id b,g' id=some b->g id=some b) (hsrc:SrcAt ρ st total f M) (_hcap:total<=cap') (hz:zc.size=(cap'-total)*st) :
  Good P ρ g w n ((n,some (.rows total st f true false)) :: dels) 1 (rset ρ n ⟨⟨w.heap.size,0,none⟩,st,cap'-total⟩) (w.drew.alloc (.cells (M++zc) e)):=by
 have h0:=Good.rows (P:=P) (w':=w.drew.alloc (.cells (M++zc) e)) (t:=e) (lo:=0) (hi:=0) (ex:=cap'-total) (m:=total) (f:=f) (opn:=true) (hr.sub hsub) hn rfl rfl rfl (by simp) (fun k hk=>heap_push_old w.drew _ k hk)
  (heap_alloc_new w.drew _) (fun i _=>by omega) (fun h=>by cases h) (by simp[hsrc.1,hz,Nat.add_mul]) (fun j hj=>⟨(hsrc.2 j hj).1,fun o v ho=>by
   obtain⟨u,hu,hv⟩:=(hsrc.2 j hj).2 o v ho
   refine⟨u,?_,hv⟩
   have hlt:j*st+o<M.size:=by
    rcases Nat.lt_or_ge (j*st+o) M.size with h|h
    ·exact h
    ·simp[Array.getElem?_eq_none h]at hu
   rw[Array.getElem?_append_left hlt];exact hu⟩)
 have hown:∀ k,Own ρ g' k->Own ρ g k:=by
  rintro k ⟨id,b,l,h1,h2,h3,h4⟩
  exact⟨id,b,l,hsub id b h1,h2,h3,h4⟩
 refine⟨h0.le,h0.new,?_,h0.fr.mono hown,fun k hk=>?_⟩
 ·have:=h0.rel
  simp only[gapply]at this ⊢
  rw[hdels];exact this
 ·simp only[gapply]at hk
  rw[hdels]at hk
  rcases h0.own k hk with h|h
  ·exact .inl (hown k h)
  ·exact .inr h
theorem putAt_rows {ρ:Rn}{size k:Nat}{f:Nat->List Value}{N:Array Value}{c:List Value}{off:Nat} (hsrc:SrcAt ρ size k f N) (hc:off+k*size<=c.length) :
  (∀ j,j<k->∀ o v,(f j)[o]?=some v->∃ u,(putAt c off N.toList)[off+(j*size+o)]?=some u/\CV ρ v u) /\
  ∀ i,(i<off\/off+k*size<=i)->(putAt c off N.toList)[i]?=c[i]?:=by
 have hl:N.toList.length=k*size:=by simpa using hsrc.1
 refine⟨fun j hj o v ho=>?_,fun i hi=>?_⟩
 ·obtain⟨u,hu,hv⟩:=(hsrc.2 j hj).2 o v ho
  have hlt:j*size+o<N.size:=by
   rcases Nat.lt_or_ge (j*size+o) N.size with h|h
   ·exact h
   ·simp[Array.getElem?_eq_none h]at hu
  refine⟨u,?_,hv⟩
  rw[putAt_get _ _ _ _ (by omega),if_pos (by simp at hl;simp;omega)]
  rw[show off+(j*size+o)-off=j*size+o by omega]
  simpa using hu
 ·rw[putAt_get _ _ _ _ (by omega),if_neg (by omega)]
theorem src_ones {ρ:Rn}{size k:Nat}{f:Nat->List Value}{N:Array Value} (hs:0<size) (hsrc:SrcAt ρ size k f N):∀ c∈N.toList,c.oneCell'=true:=by
 intro c hc
 rw[List.mem_iff_getElem?]at hc
 obtain⟨i,hi⟩:=hc
 have hlt:=lt_of_get hi
 have hsz:N.toList.length=k*size:=by simpa using hsrc.1
 have hj:i / size<k:=by rw[Nat.div_lt_iff_lt_mul hs];omega
 have hm:i % size<size:=Nat.mod_lt _ hs
 obtain⟨h1,h2⟩:=hsrc.2 (i / size) hj
 obtain⟨u,hu,hv⟩:=h2 (i % size) ((f (i / size))[i % size]'(by omega)) (by simp)
 have:i / size*size+i % size=i:=by rw[Nat.mul_comm];exact Nat.div_add_mod i size
 rw[this]at hu
 have:c=u:=by
  rw[<- Array.getElem?_toList,hi]at hu;exact Option.some.inj hu
 rw[this]
 exact isOne_conc hv.2 hv.1
theorem store_rows {P:Program}{w:World}{ρ:Rn}{l:L}{m st k at_:Nat}{f:Nat->List Value}{opn:Bool}{src:Nat->List Value}{N:Array Value} (hh:Holds P ρ w l (.rows m st f opn false)) (hs:0<st)
  (hsrc:SrcAt ρ st k src N) (hat:at_+k<=m+l.extra) :
  ∃ w' c' e lo hi,(storeCells ((l.addr.add (at_*st))) N.toList).run P w=.ok () w'/\w'.os=w.os/\w'.tape=w.tape/\w'.output=w.output/\w'.heap.size=w.heap.size /\
   (∀ b,b≠l.addr.block->w'.heap[b]?=w.heap[b]?)/\w'.heap[l.addr.block]?=some (.cells c' e (lo,hi))/\l.addr.off+(m+l.extra)*st<=c'.size /\
   (∀ i,l.addr.off<=i->i<l.addr.off+(m+l.extra)*st->¬ (lo<=i/\i<hi))/\l.addr.spot=none /\
   (∀ j,j<k->∀ o v,(src j)[o]?=some v->∃ u,c'[l.addr.off+((at_+j)*st+o)]?=some u/\CV ρ v u) /\
   (∀ j,j<m->(j<at_\/at_+k<=j)->∀ o v,(f j)[o]?=some v->∃ u,c'[l.addr.off+(j*st+o)]?=some u/\CV ρ v u):=by
 obtain⟨p1,p2,p3,p4⟩:=hh
 obtain⟨cc,e,lo,hi,q2,q1,q3,q4⟩:=p4 rfl
 have hmul:(at_+k)*st<=(m+l.extra)*st:=Nat.mul_le_mul_right st hat
 have hNl:N.toList.length=k*st:=by simpa using hsrc.1
 have hadd:(at_+k)*st=at_*st+k*st:=Nat.add_mul ..
 have hst:=run_storeCells (P:=P) (a:=l.addr.add (at_*st)) N.toList 0 w (src_ones hs hsrc) (fun j _ hj=>by
  rw[addr_add_add]
  refine⟨?_,frozen_in q2 _ (q4 _ (by omega) (by omega))⟩
  rw[cell_in q2 q1]
  have:l.addr.off+(at_*st+j)<cc.size:=by omega
  simp[this])
 obtain⟨g1,g2,g3,g4,g5,g6⟩:=storeList_heap (addr_add_spot (at_*st) q1) N.toList 0 w cc (by rw[addr_add_block];exact q2) (by rw[addr_add_off];omega)
 rw[addr_add_block]at g1 g2
 rw[addr_add_off,Nat.add_zero]at g1
 obtain⟨r1,r2⟩:=putAt_rows (c:=cc.toList) (off:=l.addr.off+at_*st) hsrc (by simp;omega)
 have hlen:(putAt cc.toList (l.addr.off+at_*st) N.toList).length=cc.size:=by
  rw[putAt_length _ _ _ (by simp at hNl ⊢;omega)];simp
 refine⟨_,_,e,lo,hi,hst,g4,g5,g6,g3,g2,g1,by show _<=(putAt _ _ _).length;omega,q4,q1,fun j hj o v ho=>?_,fun j hj hout o v ho=>?_⟩
 ·obtain⟨u,hu,hv⟩:=r1 j hj o v ho
  refine⟨u,?_,hv⟩
  rw[<- Array.getElem?_toList,<- hu]
  congr 1
  rw[Nat.add_mul];omega
 ·obtain⟨e1,e2⟩:=p3 j hj
  obtain⟨u,hu,hv⟩:=e2 o v ho
  rw[cell_in q2 q1]at hu
  have hlt:=lt_of_get ho
  refine⟨u,?_,hv⟩
  rw[<- Array.getElem?_toList]
  show(putAt _ _ _)[_]?=_
  rw[r2 _ ?_]
  ·simpa using hu
  ·rcases hout with h|h
   ·have:=Nat.mul_le_mul_right st (show j+1<=at_ by omega)
    rw[Nat.succ_mul]at this
    omega
   ·have:=Nat.mul_le_mul_right st h
    omega
theorem Good.moved {P:Program}{ρ:Rn}{g:G} {w w':World}{n id:Nat} {l l':L} {b b':Blk} (hr:RelH P ρ g w) (hn:ρ n=none) (hg:g id=some b) (hro:b.ro=false)
  (hl:ρ id=some l) (hll:l'.addr.block=l.addr.block) (hos:w'.os=w.os) (htape:w'.tape=w.tape) (hout:w'.output=w.output) (hsz:w'.heap.size=w.heap.size)
  (hold:∀ k,k≠l.addr.block->w'.heap[k]?=w.heap[k]?) (hb:Holds P (rset ρ n l') w' l' b') :
  Good P ρ g w n [(n,some b'),(id,none)] 1 (rset ρ n l') w':=by
 have hne:id≠n:=by rintro rfl;rw[hn]at hl;cases hl
 have hgn:∀ k,k≠n->gapply g [(n,some b'),(id,none)] k=if k=id then none else g k:=by
  intro k hk
  simp only[gapply]
  rw[gset_ne _ _ hk]
  by_cases e:k=id
  ·subst e;rw[gset_same,if_pos rfl]
  ·rw[gset_ne _ _ e,if_neg e]
 have hgnn:gapply g [(n,some b'),(id,none)] n=some b':=by simp only[gapply];rw[gset_same]
 refine⟨le_rset l' hn,fun k h0 h1=>?_,⟨fun k c hk=>?_,fun k c k' c' m m' hk hk' hne2 hr2 ht hm hm'=>?_⟩,⟨hos,htape,hout,by omega,fun k _ hk=>hold k ?_⟩,?_⟩
 ·by_cases e:k=n
  ·exact⟨e,rfl⟩
  ·rw[rset_ne _ _ e]at h1;exact absurd h0 h1
 ·by_cases e:k=n
  ·subst e
   rw[hgnn]at hk;cases hk
   exact⟨l',rset_same _ _ _,hb⟩
  ·rw[hgn k e]at hk
   split at hk
   ·cases hk
   ·rename_i hid
    obtain⟨m,hm,hh⟩:=hr.holds k c hk
    refine⟨m,by rw[rset_ne _ _ e];exact hm,hh.stay (le_rset l' hn) fun ht=>hold _ ?_⟩
    exact fun hx=>hr.sep id b k c l m hg hk (Ne.symm hid) hro ht hl hm hx.symm
 ·by_cases e:k=n
  ·subst e
   rw[rset_same]at hm;cases hm
   rw[hgn k' (Ne.symm hne2)]at hk'
   split at hk'
   ·cases hk'
   ·rename_i hid
    rw[rset_ne _ _ (Ne.symm hne2)]at hm'
    rw[hll]
    exact hr.sep id b k' c' l m' hg hk' (Ne.symm hid) hro ht hl hm'
  ·rw[hgn k e]at hk
   split at hk
   ·cases hk
   ·rename_i hid
    rw[rset_ne _ _ e]at hm
    by_cases e':k'=n
    ·subst e'
     rw[rset_same]at hm';cases hm'
     rw[hll]
     exact hr.sep k c id b m l hk hg hid hr2 (touch_of_rw hro) hm hl
    ·rw[hgn k' e']at hk'
     split at hk'
     ·cases hk'
     ·rw[rset_ne _ _ e']at hm'
      exact hr.sep k c k' c' m m' hk hk' hne2 hr2 ht hm hm'
 ·rintro rfl
  exact hk ⟨id,b,l,hg,hro,hl,rfl⟩
 ·rintro k ⟨k',c,m,hg',hr',hm,rfl⟩
  refine .inl ?_
  by_cases e:k'=n
  ·subst e
   rw[rset_same]at hm;cases hm
   rw[hll]
   exact⟨id,b,l,hg,hro,hl,rfl⟩
  ·rw[hgn k' e]at hg'
   split at hg'
   ·cases hg'
   ·rw[rset_ne _ _ e]at hm
    exact⟨k',c,m,hg',hr',hm,rfl⟩
end Go.X
namespace Go.X
open Go
theorem GL.split {g:G}:∀ {is js:List Nat}{bs:List Blk},GL g (is++js) bs->∃ b1 b2,bs=b1++b2/\GL g is b1/\GL g js b2
 |[],_,bs,h=>⟨[],bs,rfl,trivial,h⟩
 |i :: is,js,b :: bs,h=>by
  obtain⟨b1,b2,e,h1,h2⟩:=GL.split (is:=is) h.2
  exact⟨b :: b1,b2,by rw[e];rfl,⟨h.1,h1⟩,h2⟩
 |_ :: _,_,[],h=>h.elim
theorem zeroCells_size (z:Array Value) (n:Nat):(Builtin.zeroCells z n).size=n*z.size:=size_zeroCells z n
theorem src_nil {ρ:Rn}{size:Nat}{f:Nat->List Value}:SrcAt ρ size 0 f #[]:=⟨by simp,fun j hj=>by omega⟩
theorem app_grow_nil {P:Program}{ρ:Rn}{g:G}{w:World}{n t ty e k:Nat}{us:List TypeId}{zero:List Value}{i:TypeInfo}{X:Value}{f:Nat->List Value}{N:Array Value}
  (hu:P.underlying t=some (.slice e)) (hus:NotInt P us) (hz:zeroCells P e=some zero) (hi:P.info? e=some i) (hpos:0<k) (hb:k*(i.bytes+zero.length+1)<=maxGrow)
  (hlen:(Builtin.lenOf X).run P w=.ok k w) (hN:(Builtin.firstCells i.size k X).run P w.drew=.ok N w.drew) (hsrc:SrcAt ρ zero.length k f N) (hr:RelH P ρ g w) (hn:ρ n=none) :
  ∃ ρ' w',Good P ρ g w n [(n,some (.rows (0+k) zero.length (rowCat (fun _=>[]) 0 0 f) true false))] 1 ρ' w' /\
   (∃ c,(vS (Builtin.append_ ⟨t :: us⟩ ty #[.slice none 0 0,X])).run P w=.ok (.value c) w'/\V ρ' (.slice (some ⟨n,0,none⟩) (0+k) (0+k)) c):=by
 obtain⟨i',Z,h1,h2,h3,h4,h5⟩:=zeroCells_some hz
 rw[hi]at h1;cases h1
 have hrun:=run_app_grow (P:=P) (w:=w) (ty:=ty) (sLen:=0) (sCap:=0) (a:=none) (O:=#[]) hu hus hi h2 hlen (by simp[Builtin.firstCells]) hN (by omega) (by rw[<- h5];simpa using hb)
 have hge:=grownCap_ge w (0+k) 0 e
 have hZs:Z.cells.size=zero.length:=by rw[<- h3];simp
 refine⟨_,_,Good.grown (total:=0+k) (M:=#[]++N) (cap':=grownCap w (0+k) 0 e) hr hn (dels:=[]) rfl (fun _ _ h=>h) (SrcAt.cat src_nil hsrc) hge (by rw[zeroCells_size,hZs]),_,run_vS hrun,?_⟩
 have:=v_newrows (ρ:=ρ) (n:=n) (a:=w.heap.size) (st:=zero.length) (ex:=grownCap w (0+k) 0 e-(0+k)) (len:=0+k) (cap:=0+k)
 rwa [show 0+k+(grownCap w (0+k) 0 e-(0+k))=grownCap w (0+k) 0 e by omega]at this
theorem growIt_some {size bytes:Nat}{old:List (Nat × Option Blk)}{f:Nat->List Value}{idx len:Nat}{src:Nat × (Nat->List Value) × Bool}{n:Nat}{ok:Bool}{r:Res} (h:growIt size bytes old f idx len src n ok=some r) (hok:r.ok=true) :
  ok=true/\src.2.2=true/\(len+src.1)*(bytes+size+1)<=maxGrow /\
   r=⟨.slice (some ⟨n,0,none⟩) (len+src.1) (len+src.1),(n,some (.rows (len+src.1) size (rowCat f idx len src.2.1) true false)) :: old,1,r.ok⟩:=by
 unfold growIt at h
 simp only[Option.some.injEq]at h
 subst h
 simp only[Bool.and_eq_true,decide_eq_true_eq]at hok
 exact⟨hok.1.1,hok.1.2,hok.2,rfl⟩
theorem app_room_nil {P:Program}{ρ:Rn}{g:G}{w:World}{n t ty e:Nat}{us:List TypeId}{i:TypeInfo}{X:Value}{N:Array Value}{ok:Bool}
  (hu:P.underlying t=some (.slice e)) (hus:NotInt P us) (hi:P.info? e=some i) (hlen:(Builtin.lenOf X).run P w=.ok 0 w) (hN:(Builtin.firstCells i.size 0 X).run P w=.ok N w) (hr:RelH P ρ g w) :
  Runs P (vS (Builtin.append_ ⟨t :: us⟩ ty #[.slice none 0 0,X])) ρ g w n ⟨.slice none 0 0,[],0,ok⟩:=by
 have hrun:=run_app_room (P:=P) (w:=w) (w':=w) (ty:=ty) (sLen:=0) (sCap:=0) (a:=none) hu hus hi hlen hN (by omega) (fun _ h=>by cases h) (fun _=>rfl)
 exact Runs.pureS hr hrun ⟨_,rfl⟩ .snil
theorem app_runs {P:Program}{ρ:Rn}{g:G}{w:World}{n t ty e bytes hint:Nat}{us:List TypeId}{zero:List Value}{i:TypeInfo}{vs:List Value}{bs:List Blk}{c d:Value}{r:Res}
  (hu:P.underlying t=some (.slice e)) (hus:NotInt P us) (hz:zeroCells P e=some zero) (hi:P.info? e=some i) (hby:i.bytes=bytes) (hpos:0<zero.length)
  (ha:actApp zero.length bytes vs bs n hint=some r) (hok:r.ok=true) (hv:VL ρ vs [c,d]) (hr:RelH P ρ g w) (hn:ρ n=none) (hb:GL g (twoIds vs) bs) :
  Runs P (vS (Builtin.append_ ⟨t :: us⟩ ty #[c,d])) ρ g w n r:=by
 obtain⟨i',Z,h1,h2,h3,h4,h5⟩:=zeroCells_some hz
 rw[hi]at h1;cases h1
 subst hby
 have hZs:Z.cells.size=zero.length:=by rw[<- h3];simp
 unfold actApp at ha
 split at ha
 ·rename_i x bs'
  obtain⟨hv1,hv2,_⟩:=hv
  obtain⟨rfl,_,_⟩:=v_snil hv1
  simp only[twoIds,sliceId,List.nil_append]at hb
  split at ha
  ·rename_i src hsrc
   obtain⟨k,f,ok⟩:=src
   have growCase:growIt zero.length i.bytes [] (fun _=>[]) 0 0 (k,f,ok) n (!(Nat.beq k 0))=some r->Runs P (vS (Builtin.append_ ⟨t :: us⟩ ty #[.slice none 0 0,d])) ρ g w n r:=by
    intro hg
    obtain⟨q1,q2,q3,q4⟩:=growIt_some hg hok
    simp only at q2 q3 q4
    subst q2
    have hk0:k≠0:=by rintro rfl;simp at q1
    obtain⟨hlen,N,hN,hS⟩:=src_run hsrc hpos hv2 hr hb
    obtain⟨_,N',hN',hS'⟩:=src_run hsrc hpos hv2 (hr.world (w':=w.drew) rfl) hb
    rw[h5]at hN'
    obtain⟨ρ',w',hgood,cc,hc,hvc⟩:=app_grow_nil (ty:=ty) hu hus hz hi (by omega) (by simpa using q3) hlen hN' hS' hr hn
    rw[q4]
    exact⟨ρ',w',hgood,.inl ⟨cc,hc,hvc⟩⟩
   have roomCase:k=0->ok=true->Runs P (vS (Builtin.append_ ⟨t :: us⟩ ty #[.slice none 0 0,d])) ρ g w n ⟨.slice none 0 0,[],0,r.ok⟩:=by
    rintro rfl rfl
    obtain⟨hlen,N,hN,hS⟩:=src_run hsrc hpos hv2 hr hb
    rw[h5]at hN
    exact app_room_nil hu hus hi hlen hN hr
   split at ha
   ·rename_i heq
    cases heq
    exact growCase ha
   ·rename_i heq
    cases heq
    simp only[Option.some.injEq]at ha
    subst ha
    exact roomCase rfl hok
   ·rename_i k' g' heq
    cases heq
    refine growCase ?_
    have:(!(Nat.beq (k'+1) 0))=true:=rfl
    rw[this];exact ha
   ·simp only[Option.some.injEq]at ha
    subst ha
    simp only[Bool.and_eq_true]at hok
    have:=roomCase (Nat.eq_of_beq_eq_true hok.1) hok.2
    simpa using this
  ·cases ha
 ·rename_i id idx len cap x m st f opn bs'
  obtain⟨hv1,hv2,_⟩:=hv
  simp only[twoIds,sliceId,List.singleton_append,GL]at hb
  obtain⟨hbg,hb⟩:=hb
  split at ha
  ·rename_i src hsrc
   obtain⟨k,src,ok⟩:=src
   simp only at ha
   obtain⟨l0,hl0,hh⟩:=hr.holds _ _ hbg
   have growCase:growIt zero.length i.bytes (cond opn [(id,none)] []) f idx len (k,src,ok) n (!(Nat.ble (len+k) cap)&&Nat.beq st zero.length&&(Nat.ble len cap&&Nat.ble (idx+cap) m))=some r ->
     Runs P (vS (Builtin.append_ ⟨t :: us⟩ ty #[c,d])) ρ g w n r:=by
    intro hg
    obtain⟨q1,q2,q3,q4⟩:=growIt_some hg hok
    simp only[Bool.and_eq_true]at q1
    obtain⟨⟨q5,q6⟩,q7,q8⟩:=q1
    have q6:=Nat.eq_of_beq_eq_true q6
    have q7:=ble_le q7
    have q8:=ble_le q8
    have q5:cap<len+k:=by
     rcases Nat.lt_or_ge cap (len+k)with h|h
     ·exact h
     ·have:Nat.ble (len+k) cap=true:=Nat.ble_eq_true_of_le h
      rw[this]at q5;cases q5
    simp only at q2 q3 q4
    subst q2
    obtain⟨hlen,N,hN,hS⟩:=src_run hsrc hpos hv2 hr hb
    obtain⟨_,N',hN',hS'⟩:=src_run hsrc hpos hv2 (hr.world (w':=w.drew) rfl) hb
    rw[h5]at hN'
    have hsub:∀ id' b',gapply g (cond opn [(id,none)] []) id'=some b'->g id'=some b':=by
     intro id' b' h
     cases opn
     ·exact h
     ·simp only[cond_true,gapply]at h
      by_cases e:id'=id
      ·subst e;rw[gset_same]at h;cases h
      ·rwa [gset_ne _ _ e]at h
    have fresh:∀ (a:Addr) (cap':Nat),c=.slice (some a) len cap'->cap'<len+k->(∃ O,(Builtin.firstCells i.size len (.slice (some a) len cap')).run P w.drew=.ok O w.drew/\SrcAt ρ zero.length len (fun j=>f (idx+j)) O) ->
      Runs P (vS (Builtin.append_ ⟨t :: us⟩ ty #[c,d])) ρ g w n r:=by
     rintro a cap' rfl hcap ⟨O,hO,hOS⟩
     have hrun:=run_app_grow (P:=P) (w:=w) (ty:=ty) hu hus hi h2 hlen hO hN' hcap (by rw[<- h5];exact q3)
     have hge:=grownCap_ge w (len+k) cap' e
     rw[q4]
     refine⟨_,_,Good.grown (total:=len+k) (M:=O++N') (cap':=grownCap w (len+k) cap' e) hr hn (dels:=cond opn [(id,none)] []) rfl hsub (SrcAt.cat hOS hS') hge (by rw[zeroCells_size,hZs]),.inl ⟨_,run_vS hrun,?_⟩⟩
     have:=v_newrows (ρ:=ρ) (n:=n) (a:=w.heap.size) (st:=zero.length) (ex:=grownCap w (len+k) cap' e-(len+k)) (len:=len+k) (cap:=len+k)
     rwa [show len+k+(grownCap w (len+k) cap' e-(len+k))=grownCap w (len+k) cap' e by omega]at this
    rcases v_slice hv1 with⟨l,hl,e1⟩|⟨rfl,rfl,a,e1⟩
    ·have hll:l=l0:=by rw[hl]at hl0;exact Option.some.inj hl0
     subst hll
     have hst:l.stride=st:=hh.1
     have hOrun:∃ O,(Builtin.firstCells i.size len (.slice (some (l.addr.add (idx*l.stride))) len (cap+l.extra))).run P w.drew=.ok O w.drew/\SrcAt ρ zero.length len (fun j=>f (idx+j)) O:=by
      have hh':Holds P ρ w.drew l (.rows m st f opn false):=hh.stay (Le.refl _) fun _=>rfl
      have hr':=rows_cell hh' (idx:=idx) (k:=len) (by omega)
      rw[q6]at hr'
      obtain⟨O,hO,hOS⟩:=run_loadCells_rows (P:=P) (w:=w.drew) (k:=len) hpos hr'
      rw[h5]at hO
      exact⟨O,by simpa [Builtin.firstCells]using hO,hOS⟩
     by_cases hroom:len+k<=cap+l.extra
     ·-- it grows in its place
      have hopn:opn=true:=by
       cases opn with
       |true=>rfl
       |false=>have:=hh.2.1 rfl rfl;omega
      subst hopn
      have hSst:SrcAt ρ st k src N:=by rw[q6];exact hS
      have hpos':0<st:=by rw[q6];exact hpos
      obtain⟨w',c',e',lo,hi',s1,s2,s3,s4,s5,s6,s7,s8,s9,s10,s11,s12⟩:=store_rows (at_:=idx+len) hh hpos' hSst (by omega)
      have hadd:(l.addr.add (idx*l.stride)).add (len*i.size)=l.addr.add ((idx+len)*st):=by
       rw[addr_add_add,hst,<- h5,<- q6,Nat.add_mul]
      rw[h5]at hN
      have hrun:=run_app_room (P:=P) (w:=w) (w':=w') (ty:=ty) (sLen:=len) (sCap:=cap+l.extra) (a:=some (l.addr.add (idx*l.stride))) hu hus hi hlen hN hroom
       (fun b hb=>by cases hb;rw[hadd];exact s1) (fun h=>by cases h)
      rw[q4]
      simp only[cond_true]
      subst e1
      refine⟨_,w',Good.moved (l':=⟨l.addr.add (idx*st),st,cap+l.extra-(len+k)⟩) hr hn hbg rfl hl (addr_add_block _ _) s2 s3 s4 s5 s6 ?_,.inl ⟨_,run_vS hrun,?_⟩⟩
      ·have hoff:(l.addr.add (idx*st)).off=l.addr.off+idx*st:=addr_add_off _ _
       have hx:(idx+(cap+l.extra))*st<=(m+l.extra)*st:=Nat.mul_le_mul_right st (by omega)
       have hx2:(idx+(cap+l.extra))*st=idx*st+(cap+l.extra)*st:=Nat.add_mul ..
       have hx3:len+k+(cap+l.extra-(len+k))=cap+l.extra:=by omega
       refine⟨q6,fun h=>by(cases h),fun j hj=>?_,fun _=>⟨c',e',lo,hi',by rw[addr_add_block];exact s7,addr_add_spot _ s10,?_,fun i h1 h2'=>?_⟩⟩
       ·have hcell:∀ o,w'.cell? ((l.addr.add (idx*st)).add (j*zero.length+o))=c'[l.addr.off+(idx*st+(j*st+o))]?:=by
         intro o
         rw[addr_add_add,cell_in s7 s10,<- q6]
        unfold rowCat
        by_cases hjl:j<len
        ·have eb:Nat.blt j len=true:=Nat.ble_eq_true_of_le hjl
         rw[eb,cond_true]
         refine⟨by rw[<- q6];exact(hh.2.2.1 (idx+j) (by omega)).1,fun o v ho=>?_⟩
         obtain⟨u,hu',hv'⟩:=s12 (idx+j) (by omega) (.inl (by omega)) o v ho
         refine⟨u,?_,hv'.mono (le_rset _ hn)⟩
         rw[hcell,<- hu']
         congr 1;rw[Nat.add_mul];omega
        ·have eb:Nat.blt j len=false:=by
          cases hb:Nat.blt j len with
          |false=>rfl
          |true=>exact absurd (blt_lt hb) hjl
         rw[eb,cond_false]
         refine⟨(hS.2 (j-len) (by omega)).1,fun o v ho=>?_⟩
         obtain⟨u,hu',hv'⟩:=s11 (j-len) (by omega) o v ho
         refine⟨u,?_,hv'.mono (le_rset _ hn)⟩
         rw[hcell,<- hu']
         congr 1
         rw[show idx+len+(j-len)=idx+j by omega,Nat.add_mul];omega
       ·show(l.addr.add (idx*st)).off+(len+k+(cap+l.extra-(len+k)))*zero.length<=c'.size
        rw[hx3,<- q6,hoff];omega
       ·have h1':l.addr.off+idx*st<=i:=by rw[<- hoff];exact h1
        have h2'':i<l.addr.off+idx*st+(cap+l.extra)*st:=by
         have:i<(l.addr.add (idx*st)).off+(len+k+(cap+l.extra-(len+k)))*zero.length:=h2'
         rwa [hx3,<- q6,hoff]at this
        exact s9 i (by omega) (by omega)
      ·have:=V.slc (ρ:=rset ρ n ⟨l.addr.add (idx*st),st,cap+l.extra-(len+k)⟩) (id:=n) (idx:=0) (len:=len+k) (cap:=len+k) (rset_same _ _ _)
       simp only[Nat.zero_mul]at this
       rw[show len+k+(cap+l.extra-(len+k))=cap+l.extra by omega]at this
       rw[hst]
       have e0:(l.addr.add (idx*st)).add 0=l.addr.add (idx*st):=by rw[addr_add_add,Nat.add_zero]
       rwa [e0]at this
     ·exact fresh _ _ e1 (by omega) hOrun
    ·exact fresh _ _ e1 (by omega) ⟨#[],by simp[Builtin.firstCells,loadCells,loadCellsFrom],src_nil⟩
   have roomCase:r=⟨.slice (some ⟨id,idx,none⟩) (len+k) cap,[(id,some (.rows m st (rowPut f (idx+len) k src) opn false))],0,r.ok⟩ ->
     (Nat.ble (len+k) cap&&ok&&(Nat.beq st zero.length&&Nat.ble (idx+cap) m))=true->Runs P (vS (Builtin.append_ ⟨t :: us⟩ ty #[c,d])) ρ g w n r:=by
    intro hr4 hq
    simp only[Bool.and_eq_true]at hq
    obtain⟨⟨q5,q2⟩,q6,q8⟩:=hq
    have q5:=ble_le q5
    have q6:=Nat.eq_of_beq_eq_true q6
    have q8:=ble_le q8
    subst q2
    obtain⟨hlen,N,hN,hS⟩:=src_run hsrc hpos hv2 hr hb
    have hSst:SrcAt ρ st k src N:=by rw[q6];exact hS
    have hpos':0<st:=by rw[q6];exact hpos
    obtain⟨w',c',e',lo,hi',s1,s2,s3,s4,s5,s6,s7,s8,s9,s10,s11,s12⟩:=store_rows (at_:=idx+len) hh hpos' hSst (by omega)
    have hst:l0.stride=st:=hh.1
    have hGood:Good P ρ g w n [(id,some (.rows m st (rowPut f (idx+len) k src) opn false))] 0 ρ w':=by
     refine Good.turn hr hbg rfl hl0 s2 s3 s4 (by omega) s6 ⟨hst,hh.2.1,fun j hj=>?_,fun _=>⟨c',e',lo,hi',s7,s10,s8,s9⟩⟩
     have hcell:∀ o,w'.cell? (l0.addr.add (j*st+o))=c'[l0.addr.off+(j*st+o)]?:=fun o=>cell_in s7 s10 _
     unfold rowPut
     by_cases hjl:idx+len<=j/\j<idx+len+k
     ·have eb:(Nat.ble (idx+len) j&&Nat.blt j (idx+len+k))=true:=by
       rw[Bool.and_eq_true]
       exact⟨Nat.ble_eq_true_of_le hjl.1,Nat.ble_eq_true_of_le hjl.2⟩
      rw[eb,cond_true]
      refine⟨(hSst.2 (j-(idx+len)) (by omega)).1,fun o v ho=>?_⟩
      obtain⟨u,hu',hv'⟩:=s11 (j-(idx+len)) (by omega) o v ho
      refine⟨u,?_,hv'⟩
      rw[hcell,<- hu',show idx+len+(j-(idx+len))=j by omega]
     ·have eb:(Nat.ble (idx+len) j&&Nat.blt j (idx+len+k))=false:=by
       cases hb:(Nat.ble (idx+len) j&&Nat.blt j (idx+len+k))with
       |false=>rfl
       |true =>
        rw[Bool.and_eq_true]at hb
        exact absurd ⟨ble_le hb.1,blt_lt hb.2⟩ hjl
      rw[eb,cond_false]
      refine⟨(hh.2.2.1 j hj).1,fun o v ho=>?_⟩
      obtain⟨u,hu',hv'⟩:=s12 j hj (by omega) o v ho
      exact⟨u,by rw[hcell];exact hu',hv'⟩
    rw[h5]at hN
    rw[hr4]
    rcases v_slice hv1 with⟨l,hl,e1⟩|⟨rfl,rfl,a,e1⟩
    ·have hll:l=l0:=by rw[hl]at hl0;exact Option.some.inj hl0
     subst hll
     have hadd:(l.addr.add (idx*l.stride)).add (len*i.size)=l.addr.add ((idx+len)*st):=by
      rw[addr_add_add,hst,<- h5,<- q6,Nat.add_mul]
     subst e1
     have hrun:=run_app_room (P:=P) (w:=w) (w':=w') (ty:=ty) (sLen:=len) (sCap:=cap+l.extra) (a:=some (l.addr.add (idx*l.stride))) hu hus hi hlen hN (by omega)
      (fun b hb=>by cases hb;rw[hadd];exact s1) (fun h=>by cases h)
     exact⟨ρ,w',hGood,.inl ⟨_,run_vS hrun,.slc hl⟩⟩
    ·have hk0:k=0:=by omega
     subst hk0
     subst e1
     have hN0:N.toList=[]:=by
      have:=hS.1
      simp at this;simp[this]
     rw[hN0]at s1
     have hw:w'=w:=by
      simp[storeCells]at s1;exact s1.symm
     subst hw
     have hrun:=run_app_room (P:=P) (w:=w') (w':=w') (ty:=ty) (sLen:=0) (sCap:=0) (a:=some a) hu hus hi hlen hN (by omega)
      (fun b hb=>by rw[hN0];simp[storeCells]) (fun h=>by cases h)
     exact⟨ρ,w',hGood,.inl ⟨_,run_vS hrun,.slz⟩⟩
   split at ha
   ·exact growCase ha
   ·have ha':=ha
    simp only[Option.some.injEq]at ha'
    exact roomCase (by rw[<- ha']) (by rw[<- ha']at hok;exact hok)
   ·rcases appPickN_or _ opn (Nat.ble (len+k) cap) _ _ with e|e
    ·rw[e]at ha
     have ha':=ha
     simp only[Option.some.injEq]at ha'
     exact roomCase (by rw[<- ha']) (by rw[<- ha']at hok;exact hok)
    ·rw[e]at ha
     exact growCase ha
  ·cases ha
 ·cases ha
end Go.X
