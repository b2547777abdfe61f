import Derived.Test.YtghpjlmaamnnpaaDoorH08
set_option linter.all false
namespace Go.X
open Go
theorem GL.split {g:G}:∀ {is js:List Nat}{bs:List Blk},GL g (is++js) bs → ∃ b1 b2,bs=b1++b2 ∧ GL g is b1 ∧ GL g js b2
 |[],_,bs,h=>⟨[],bs,rfl,trivial,h⟩
 |i :: is,js,b :: bs,h=>by
  obtain⟨b1,b2,e,h1,h2⟩:=GL.split (is:=is) h.2
  exact⟨b :: b1,b2,by rw[e];rfl,⟨h.1,h1⟩,h2⟩
 |_ :: _,_,[],h=>h.elim
theorem zeroCells_size (z:Array Value) (n:Nat):(Builtin.zeroCells z n).size=n*z.size:=size_zeroCells z n
theorem src_nil {ρ:Rn}{size:Nat}{f:Nat → List Value}:SrcAt ρ size 0 f #[]:=⟨by simp,fun j hj=>by omega⟩
theorem app_grow_nil {P:Program}{ρ:Rn}{g:G}{w:World}{n t ty e k:Nat}{us:List TypeId}{zero:List Value}{i:TypeInfo}{X:Value}{f:Nat → List Value}{N:Array Value}
  (hu:P.underlying t=some (.slice e)) (hus:NotInt P us) (hz:zeroCells P e=some zero) (hi:P.info? e=some i) (hpos:0<k) (hb:k*(i.bytes+zero.length+1) ≤ maxGrow)
  (hlen:(Builtin.lenOf X).run P w=.ok k w) (hN:(Builtin.firstCells i.size k X).run P w.drew=.ok N w.drew) (hsrc:SrcAt ρ zero.length k f N) (hr:RelH P ρ g w) (hn:ρ n=none) :
  ∃ ρ' w',Good P ρ g w n [(n,some (.rows (0+k) zero.length (rowCat (fun _=>[]) 0 0 f) true false))] 1 ρ' w' ∧
   (∃ c,(vS (Builtin.append_ ⟨t :: us⟩ ty #[.slice none 0 0,X])).run P w=.ok (.value c) w' ∧ V ρ' (.slice (some ⟨n,0,none⟩) (0+k) (0+k)) c):=by
 obtain⟨i',Z,h1,h2,h3,h4,h5⟩:=zeroCells_some hz
 rw[hi]at h1;cases h1
 have hrun:=run_app_grow (P:=P) (w:=w) (ty:=ty) (sLen:=0) (sCap:=0) (a:=none) (O:=#[]) hu hus hi h2 hlen (by simp[Builtin.firstCells]) hN (by omega) (by rw[← h5];simpa using hb)
 have hge:=grownCap_ge w (0+k) 0 e
 have hZs:Z.cells.size=zero.length:=by rw[← h3];simp
 refine⟨_,_,Good.grown (total:=0+k) (M:=#[]++N) (cap':=grownCap w (0+k) 0 e) hr hn (dels:=[]) rfl (fun _ _ h=>h) (SrcAt.cat src_nil hsrc) hge (by rw[zeroCells_size,hZs]),_,run_vS hrun,?_⟩
 have:=v_newrows (ρ:=ρ) (n:=n) (a:=w.heap.size) (st:=zero.length) (ex:=grownCap w (0+k) 0 e-(0+k)) (len:=0+k) (cap:=0+k)
 rwa [show 0+k+(grownCap w (0+k) 0 e-(0+k))=grownCap w (0+k) 0 e by omega]at this
theorem growIt_some {size bytes:Nat}{old:List (Nat × Option Blk)}{f:Nat → List Value}{idx len:Nat}{src:Nat × (Nat → List Value) × Bool}{n:Nat}{ok:Bool}{r:Res} (h:growIt size bytes old f idx len src n ok=some r) (hok:r.ok=true) :
  ok=true ∧ src.2.2=true ∧ (len+src.1)*(bytes+size+1) ≤ maxGrow ∧
   r=⟨.slice (some ⟨n,0,none⟩) (len+src.1) (len+src.1),(n,some (.rows (len+src.1) size (rowCat f idx len src.2.1) true false)) :: old,1,r.ok⟩:=by
 unfold growIt at h
 simp only[Option.some.injEq]at h
 subst h
 simp only[Bool.and_eq_true,decide_eq_true_eq]at hok
 exact⟨hok.1.1,hok.1.2,hok.2,rfl⟩
theorem app_room_nil {P:Program}{ρ:Rn}{g:G}{w:World}{n t ty e:Nat}{us:List TypeId}{i:TypeInfo}{X:Value}{N:Array Value}{ok:Bool}
  (hu:P.underlying t=some (.slice e)) (hus:NotInt P us) (hi:P.info? e=some i) (hlen:(Builtin.lenOf X).run P w=.ok 0 w) (hN:(Builtin.firstCells i.size 0 X).run P w=.ok N w) (hr:RelH P ρ g w) :
  Runs P (vS (Builtin.append_ ⟨t :: us⟩ ty #[.slice none 0 0,X])) ρ g w n ⟨.slice none 0 0,[],0,ok⟩:=by
 have hrun:=run_app_room (P:=P) (w:=w) (w':=w) (ty:=ty) (sLen:=0) (sCap:=0) (a:=none) hu hus hi hlen hN (by omega) (fun _ h=>by cases h) (fun _=>rfl)
 exact Runs.pureS hr hrun ⟨_,rfl⟩ .snil
theorem app_runs {P:Program}{ρ:Rn}{g:G}{w:World}{n t ty e bytes hint:Nat}{us:List TypeId}{zero:List Value}{i:TypeInfo}{vs:List Value}{bs:List Blk}{c d:Value}{r:Res}
  (hu:P.underlying t=some (.slice e)) (hus:NotInt P us) (hz:zeroCells P e=some zero) (hi:P.info? e=some i) (hby:i.bytes=bytes) (hpos:0<zero.length)
  (ha:actApp zero.length bytes vs bs n hint=some r) (hok:r.ok=true) (hv:VL ρ vs [c,d]) (hr:RelH P ρ g w) (hn:ρ n=none) (hb:GL g (twoIds vs) bs) :
  Runs P (vS (Builtin.append_ ⟨t :: us⟩ ty #[c,d])) ρ g w n r:=by
 obtain⟨i',Z,h1,h2,h3,h4,h5⟩:=zeroCells_some hz
 rw[hi]at h1;cases h1
 subst hby
 have hZs:Z.cells.size=zero.length:=by rw[← h3];simp
 unfold actApp at ha
 split at ha
 ·rename_i x bs'
  obtain⟨hv1,hv2,_⟩:=hv
  obtain⟨rfl,_,_⟩:=v_snil hv1
  simp only[twoIds,sliceId,List.nil_append]at hb
  split at ha
  ·rename_i src hsrc
   obtain⟨k,f,ok⟩:=src
   have growCase:growIt zero.length i.bytes [] (fun _=>[]) 0 0 (k,f,ok) n (!(Nat.beq k 0))=some r → Runs P (vS (Builtin.append_ ⟨t :: us⟩ ty #[.slice none 0 0,d])) ρ g w n r:=by
    intro hg
    obtain⟨q1,q2,q3,q4⟩:=growIt_some hg hok
    simp only at q2 q3 q4
    subst q2
    have hk0:k≠0:=by rintro rfl;simp at q1
    obtain⟨hlen,N,hN,hS⟩:=src_run hsrc hpos hv2 hr hb
    obtain⟨_,N',hN',hS'⟩:=src_run hsrc hpos hv2 (hr.world (w':=w.drew) rfl) hb
    rw[h5]at hN'
    obtain⟨ρ',w',hgood,cc,hc,hvc⟩:=app_grow_nil (ty:=ty) hu hus hz hi (by omega) (by simpa using q3) hlen hN' hS' hr hn
    rw[q4]
    exact⟨ρ',w',hgood,.inl ⟨cc,hc,hvc⟩⟩
   have roomCase:k=0 → ok=true → Runs P (vS (Builtin.append_ ⟨t :: us⟩ ty #[.slice none 0 0,d])) ρ g w n ⟨.slice none 0 0,[],0,r.ok⟩:=by
    rintro rfl rfl
    obtain⟨hlen,N,hN,hS⟩:=src_run hsrc hpos hv2 hr hb
    rw[h5]at hN
    exact app_room_nil hu hus hi hlen hN hr
   split at ha
   ·rename_i heq
    cases heq
    exact growCase ha
   ·rename_i heq
    cases heq
    simp only[Option.some.injEq]at ha
    subst ha
    exact roomCase rfl hok
   ·rename_i k' g' heq
    cases heq
    refine growCase ?_
    have:(!(Nat.beq (k'+1) 0))=true:=rfl
    rw[this];exact ha
   ·simp only[Option.some.injEq]at ha
    subst ha
    simp only[Bool.and_eq_true]at hok
    have:=roomCase (Nat.eq_of_beq_eq_true hok.1) hok.2
    simpa using this
  ·cases ha
 ·rename_i id idx len cap x m st f opn bs'
  obtain⟨hv1,hv2,_⟩:=hv
  simp only[twoIds,sliceId,List.singleton_append,GL]at hb
  obtain⟨hbg,hb⟩:=hb
  split at ha
  ·rename_i src hsrc
   obtain⟨k,src,ok⟩:=src
   simp only at ha
   obtain⟨l0,hl0,hh⟩:=hr.holds _ _ hbg
   have growCase:growIt zero.length i.bytes (cond opn [(id,none)] []) f idx len (k,src,ok) n (!(Nat.ble (len+k) cap)&&Nat.beq st zero.length&&(Nat.ble len cap&&Nat.ble (idx+cap) m))=some r →
     Runs P (vS (Builtin.append_ ⟨t :: us⟩ ty #[c,d])) ρ g w n r:=by
    intro hg
    obtain⟨q1,q2,q3,q4⟩:=growIt_some hg hok
    simp only[Bool.and_eq_true]at q1
    obtain⟨⟨q5,q6⟩,q7,q8⟩:=q1
    have q6:=Nat.eq_of_beq_eq_true q6
    have q7:=ble_le q7
    have q8:=ble_le q8
    have q5:cap<len+k:=by
     rcases Nat.lt_or_ge cap (len+k)with h|h
     ·exact h
     ·have:Nat.ble (len+k) cap=true:=Nat.ble_eq_true_of_le h
      rw[this]at q5;cases q5
    simp only at q2 q3 q4
    subst q2
    obtain⟨hlen,N,hN,hS⟩:=src_run hsrc hpos hv2 hr hb
    obtain⟨_,N',hN',hS'⟩:=src_run hsrc hpos hv2 (hr.world (w':=w.drew) rfl) hb
    rw[h5]at hN'
    have hsub:∀ id' b',gapply g (cond opn [(id,none)] []) id'=some b' → g id'=some b':=by
     intro id' b' h
     cases opn
     ·exact h
     ·simp only[cond_true,gapply]at h
      by_cases e:id'=id
      ·subst e;rw[gset_same]at h;cases h
      ·rwa [gset_ne _ _ e]at h
    have fresh:∀ (a:Addr) (cap':Nat),c=.slice (some a) len cap' → cap'<len+k → (∃ O,(Builtin.firstCells i.size len (.slice (some a) len cap')).run P w.drew=.ok O w.drew ∧ SrcAt ρ zero.length len (fun j=>f (idx+j)) O) →
      Runs P (vS (Builtin.append_ ⟨t :: us⟩ ty #[c,d])) ρ g w n r:=by
     rintro a cap' rfl hcap ⟨O,hO,hOS⟩
     have hrun:=run_app_grow (P:=P) (w:=w) (ty:=ty) hu hus hi h2 hlen hO hN' hcap (by rw[← h5];exact q3)
     have hge:=grownCap_ge w (len+k) cap' e
     rw[q4]
     refine⟨_,_,Good.grown (total:=len+k) (M:=O++N') (cap':=grownCap w (len+k) cap' e) hr hn (dels:=cond opn [(id,none)] []) rfl hsub (SrcAt.cat hOS hS') hge (by rw[zeroCells_size,hZs]),.inl ⟨_,run_vS hrun,?_⟩⟩
     have:=v_newrows (ρ:=ρ) (n:=n) (a:=w.heap.size) (st:=zero.length) (ex:=grownCap w (len+k) cap' e-(len+k)) (len:=len+k) (cap:=len+k)
     rwa [show len+k+(grownCap w (len+k) cap' e-(len+k))=grownCap w (len+k) cap' e by omega]at this
    rcases v_slice hv1 with⟨l,hl,e1⟩|⟨rfl,rfl,a,e1⟩
    ·have hll:l=l0:=by rw[hl]at hl0;exact Option.some.inj hl0
     subst hll
     have hst:l.stride=st:=hh.1
     have hOrun:∃ O,(Builtin.firstCells i.size len (.slice (some (l.addr.add (idx*l.stride))) len (cap+l.extra))).run P w.drew=.ok O w.drew ∧ SrcAt ρ zero.length len (fun j=>f (idx+j)) O:=by
      have hh':Holds P ρ w.drew l (.rows m st f opn false):=hh.stay (Le.refl _) fun _=>rfl
      have hr':=rows_cell hh' (idx:=idx) (k:=len) (by omega)
      rw[q6]at hr'
      obtain⟨O,hO,hOS⟩:=run_loadCells_rows (P:=P) (w:=w.drew) (k:=len) hpos hr'
      rw[h5]at hO
      exact⟨O,by simpa [Builtin.firstCells]using hO,hOS⟩
     by_cases hroom:len+k ≤ cap+l.extra
     ·-- it grows in its place
      have hopn:opn=true:=by
       cases opn with
       |true=>rfl
       |false=>have:=hh.2.1 rfl rfl;omega
      subst hopn
      have hSst:SrcAt ρ st k src N:=by rw[q6];exact hS
      have hpos':0<st:=by rw[q6];exact hpos
      obtain⟨w',c',e',lo,hi',s1,s2,s3,s4,s5,s6,s7,s8,s9,s10,s11,s12⟩:=store_rows (at_:=idx+len) hh hpos' hSst (by omega)
      have hadd:(l.addr.add (idx*l.stride)).add (len*i.size)=l.addr.add ((idx+len)*st):=by
       rw[addr_add_add,hst,← h5,← q6,Nat.add_mul]
      rw[h5]at hN
      have hrun:=run_app_room (P:=P) (w:=w) (w':=w') (ty:=ty) (sLen:=len) (sCap:=cap+l.extra) (a:=some (l.addr.add (idx*l.stride))) hu hus hi hlen hN hroom
       (fun b hb=>by cases hb;rw[hadd];exact s1) (fun h=>by cases h)
      rw[q4]
      simp only[cond_true]
      subst e1
      refine⟨_,w',Good.moved (l':=⟨l.addr.add (idx*st),st,cap+l.extra-(len+k)⟩) hr hn hbg rfl hl (addr_add_block _ _) s2 s3 s4 s5 s6 ?_,.inl ⟨_,run_vS hrun,?_⟩⟩
      ·have hoff:(l.addr.add (idx*st)).off=l.addr.off+idx*st:=addr_add_off _ _
       have hx:(idx+(cap+l.extra))*st ≤ (m+l.extra)*st:=Nat.mul_le_mul_right st (by omega)
       have hx2:(idx+(cap+l.extra))*st=idx*st+(cap+l.extra)*st:=Nat.add_mul ..
       have hx3:len+k+(cap+l.extra-(len+k))=cap+l.extra:=by omega
       refine⟨q6,fun h=>by(cases h),fun j hj=>?_,fun _=>⟨c',e',lo,hi',by rw[addr_add_block];exact s7,addr_add_spot _ s10,?_,fun i h1 h2'=>?_⟩⟩
       ·have hcell:∀ o,w'.cell? ((l.addr.add (idx*st)).add (j*zero.length+o))=c'[l.addr.off+(idx*st+(j*st+o))]?:=by
         intro o
         rw[addr_add_add,cell_in s7 s10,← q6]
        unfold rowCat
        by_cases hjl:j<len
        ·have eb:Nat.blt j len=true:=Nat.ble_eq_true_of_le hjl
         rw[eb,cond_true]
         refine⟨by rw[← q6];exact(hh.2.2.1 (idx+j) (by omega)).1,fun o v ho=>?_⟩
         obtain⟨u,hu',hv'⟩:=s12 (idx+j) (by omega) (.inl (by omega)) o v ho
         refine⟨u,?_,hv'.mono (le_rset _ hn)⟩
         rw[hcell,← hu']
         congr 1;rw[Nat.add_mul];omega
        ·have eb:Nat.blt j len=false:=by
          cases hb:Nat.blt j len with
          |false=>rfl
          |true=>exact absurd (blt_lt hb) hjl
         rw[eb,cond_false]
         refine⟨(hS.2 (j-len) (by omega)).1,fun o v ho=>?_⟩
         obtain⟨u,hu',hv'⟩:=s11 (j-len) (by omega) o v ho
         refine⟨u,?_,hv'.mono (le_rset _ hn)⟩
         rw[hcell,← hu']
         congr 1
         rw[show idx+len+(j-len)=idx+j by omega,Nat.add_mul];omega
       ·show(l.addr.add (idx*st)).off+(len+k+(cap+l.extra-(len+k)))*zero.length ≤ c'.size
        rw[hx3,← q6,hoff];omega
       ·have h1':l.addr.off+idx*st ≤ i:=by rw[← hoff];exact h1
        have h2'':i<l.addr.off+idx*st+(cap+l.extra)*st:=by
         have:i<(l.addr.add (idx*st)).off+(len+k+(cap+l.extra-(len+k)))*zero.length:=h2'
         rwa [hx3,← q6,hoff]at this
        exact s9 i (by omega) (by omega)
      ·have:=V.slc (ρ:=rset ρ n ⟨l.addr.add (idx*st),st,cap+l.extra-(len+k)⟩) (id:=n) (idx:=0) (len:=len+k) (cap:=len+k) (rset_same _ _ _)
       simp only[Nat.zero_mul]at this
       rw[show len+k+(cap+l.extra-(len+k))=cap+l.extra by omega]at this
       rw[hst]
       have e0:(l.addr.add (idx*st)).add 0=l.addr.add (idx*st):=by rw[addr_add_add,Nat.add_zero]
       rwa [e0]at this
     ·exact fresh _ _ e1 (by omega) hOrun
    ·exact fresh _ _ e1 (by omega) ⟨#[],by simp[Builtin.firstCells,loadCells,loadCellsFrom],src_nil⟩
   have roomCase:r=⟨.slice (some ⟨id,idx,none⟩) (len+k) cap,[(id,some (.rows m st (rowPut f (idx+len) k src) opn false))],0,r.ok⟩ →
     (Nat.ble (len+k) cap&&ok&&(Nat.beq st zero.length&&Nat.ble (idx+cap) m))=true → Runs P (vS (Builtin.append_ ⟨t :: us⟩ ty #[c,d])) ρ g w n r:=by
    intro hr4 hq
    simp only[Bool.and_eq_true]at hq
    obtain⟨⟨q5,q2⟩,q6,q8⟩:=hq
    have q5:=ble_le q5
    have q6:=Nat.eq_of_beq_eq_true q6
    have q8:=ble_le q8
    subst q2
    obtain⟨hlen,N,hN,hS⟩:=src_run hsrc hpos hv2 hr hb
    have hSst:SrcAt ρ st k src N:=by rw[q6];exact hS
    have hpos':0<st:=by rw[q6];exact hpos
    obtain⟨w',c',e',lo,hi',s1,s2,s3,s4,s5,s6,s7,s8,s9,s10,s11,s12⟩:=store_rows (at_:=idx+len) hh hpos' hSst (by omega)
    have hst:l0.stride=st:=hh.1
    have hGood:Good P ρ g w n [(id,some (.rows m st (rowPut f (idx+len) k src) opn false))] 0 ρ w':=by
     refine Good.turn hr hbg rfl hl0 s2 s3 s4 (by omega) s6 ⟨hst,hh.2.1,fun j hj=>?_,fun _=>⟨c',e',lo,hi',s7,s10,s8,s9⟩⟩
     have hcell:∀ o,w'.cell? (l0.addr.add (j*st+o))=c'[l0.addr.off+(j*st+o)]?:=fun o=>cell_in s7 s10 _
     unfold rowPut
     by_cases hjl:idx+len ≤ j ∧ j<idx+len+k
     ·have eb:(Nat.ble (idx+len) j&&Nat.blt j (idx+len+k))=true:=by
       rw[Bool.and_eq_true]
       exact⟨Nat.ble_eq_true_of_le hjl.1,Nat.ble_eq_true_of_le hjl.2⟩
      rw[eb,cond_true]
      refine⟨(hSst.2 (j-(idx+len)) (by omega)).1,fun o v ho=>?_⟩
      obtain⟨u,hu',hv'⟩:=s11 (j-(idx+len)) (by omega) o v ho
      refine⟨u,?_,hv'⟩
      rw[hcell,← hu',show idx+len+(j-(idx+len))=j by omega]
     ·have eb:(Nat.ble (idx+len) j&&Nat.blt j (idx+len+k))=false:=by
       cases hb:(Nat.ble (idx+len) j&&Nat.blt j (idx+len+k))with
       |false=>rfl
       |true =>
        rw[Bool.and_eq_true]at hb
        exact absurd ⟨ble_le hb.1,blt_lt hb.2⟩ hjl
      rw[eb,cond_false]
      refine⟨(hh.2.2.1 j hj).1,fun o v ho=>?_⟩
      obtain⟨u,hu',hv'⟩:=s12 j hj (by omega) o v ho
      exact⟨u,by rw[hcell];exact hu',hv'⟩
    rw[h5]at hN
    rw[hr4]
    rcases v_slice hv1 with⟨l,hl,e1⟩|⟨rfl,rfl,a,e1⟩
    ·have hll:l=l0:=by rw[hl]at hl0;exact Option.some.inj hl0
     subst hll
     have hadd:(l.addr.add (idx*l.stride)).add (len*i.size)=l.addr.add ((idx+len)*st):=by
      rw[addr_add_add,hst,← h5,← q6,Nat.add_mul]
     subst e1
     have hrun:=run_app_room (P:=P) (w:=w) (w':=w') (ty:=ty) (sLen:=len) (sCap:=cap+l.extra) (a:=some (l.addr.add (idx*l.stride))) hu hus hi hlen hN (by omega)
      (fun b hb=>by cases hb;rw[hadd];exact s1) (fun h=>by cases h)
     exact⟨ρ,w',hGood,.inl ⟨_,run_vS hrun,.slc hl⟩⟩
    ·have hk0:k=0:=by omega
     subst hk0
     subst e1
     have hN0:N.toList=[]:=by
      have:=hS.1
      simp at this;simp[this]
     rw[hN0]at s1
     have hw:w'=w:=by
      simp[storeCells]at s1;exact s1.symm
     subst hw
     have hrun:=run_app_room (P:=P) (w:=w') (w':=w') (ty:=ty) (sLen:=0) (sCap:=0) (a:=some a) hu hus hi hlen hN (by omega)
      (fun b hb=>by rw[hN0];simp[storeCells]) (fun h=>by cases h)
     exact⟨ρ,w',hGood,.inl ⟨_,run_vS hrun,.slz⟩⟩
   split at ha
   ·exact growCase ha
   ·have ha':=ha
    simp only[Option.some.injEq]at ha'
    exact roomCase (by rw[← ha']) (by rw[← ha']at hok;exact hok)
   ·rcases appPickN_or _ opn (Nat.ble (len+k) cap) _ _ with e|e
    ·rw[e]at ha
     have ha':=ha
     simp only[Option.some.injEq]at ha'
     exact roomCase (by rw[← ha']) (by rw[← ha']at hok;exact hok)
    ·rw[e]at ha
     exact growCase ha
  ·cases ha
 ·cases ha
end Go.X
namespace Go.X
open Go
theorem SrcAt.take {ρ:Rn}{size k n:Nat}{f:Nat → List Value}{N:Array Value} (h:SrcAt ρ size k f N) (hn:n ≤ k):SrcAt ρ size n f (N.extract 0 (n*size)):=by
 have hmul:n*size ≤ k*size:=Nat.mul_le_mul_right size hn
 have hmn:min (n*size) (k*size)=n*size:=Nat.min_eq_left hmul
 refine⟨by simp only[Array.size_extract,h.1,hmn,Nat.sub_zero],fun j hj=>⟨(h.2 j (by omega)).1,fun o v ho=>?_⟩⟩
 obtain⟨u,hu,hv⟩:=(h.2 j (by omega)).2 o v ho
 have hlt:=lt_of_get ho
 rw[(h.2 j (by omega)).1]at hlt
 have hm2:j*size+size ≤ n*size:=by
  have:=Nat.mul_le_mul_right size (show j+1 ≤ n by omega)
  rwa [Nat.succ_mul]at this
 refine⟨u,?_,hv⟩
 rw[Array.getElem?_extract,if_pos (by simp only[h.1,hmn,Nat.sub_zero];omega),Nat.zero_add]
 exact hu
theorem src_part {P:Program}{ρ:Rn}{g:G}{w:World}{size k n:Nat}{x X:Value}{bs:List Blk}{f:Nat → List Value} (h:srcRows size x bs=some (k,f,true)) (hs:0<size) (hv:V ρ x X) (hr:RelH P ρ g w)
  (hb:GL g (sliceId x) bs) (hn:n ≤ k):∃ N,(Builtin.firstCells size n X).run P w=.ok N w ∧ SrcAt ρ size n f N:=by
 rw[srcRows_eq]at h
 unfold srcRows0 at h
 split at h
 ·simp only[Option.some.injEq,Prod.mk.injEq,and_true]at h
  obtain⟨rfl,rfl⟩:=h
  obtain⟨rfl,rfl,rfl⟩:=v_snil hv
  have:n=0:=by omega
  subst this
  exact⟨#[],by simp[Builtin.firstCells],src_nil⟩
 ·rename_i s
  simp only[Option.some.injEq,Prod.mk.injEq]at h
  obtain⟨rfl,rfl,h1⟩:=h
  have:=Nat.eq_of_beq_eq_true h1;subst this
  have:=v_string hv;subst this
  refine⟨((s.extract 0 n).data.map fun b=>.int .u8 b.toNat),rfl,?_,fun j hj=>⟨rfl,fun o v ho=>?_⟩⟩
  ·simp;omega
  ·have hlt:=lt_of_get ho
   simp at hlt
   subst hlt
   simp at ho
   subst ho
   have hjs:j<s.size:=by omega
   refine⟨.int .u8 (s[j].toNat:Int),?_,rfl,by rw[byteAt_eq hjs];exact .int _ _⟩
   rw[Nat.mul_one,Nat.add_zero,Array.getElem?_map,ByteArray.data_extract,Array.getElem?_extract,if_pos (by show j<min n s.size-0;omega),Nat.zero_add,Array.getElem?_eq_getElem (by exact hjs)]
   rfl
 ·rename_i id idx len cap m st f' o ro
  simp only[Option.some.injEq,Prod.mk.injEq,Bool.and_eq_true]at h
  obtain⟨rfl,rfl,h1,h2⟩:=h
  have h1:=ble_le h1
  have h2:=Nat.eq_of_beq_eq_true h2
  simp only[sliceId,GL,and_true]at hb
  rcases v_slice hv with⟨l,hl,rfl⟩|⟨rfl,rfl,a,rfl⟩
  ·obtain⟨l',hl',hh⟩:=hr.holds _ _ hb
   rw[hl]at hl';cases hl'
   subst h2
   obtain⟨N,hN,hS⟩:=run_loadCells_rows (P:=P) (w:=w) (k:=n) hs (rows_cell hh (k:=n) (idx:=idx) (by omega))
   exact⟨N,by simpa [Builtin.firstCells]using hN,hS⟩
  ·have:n=0:=by omega
   subst this
   exact⟨#[],by simp[Builtin.firstCells,loadCells,loadCellsFrom],src_nil⟩
 ·rename_i id fo len cap cs
  simp only[Option.some.injEq,Prod.mk.injEq]at h
  obtain⟨rfl,rfl,h1⟩:=h
  have h1:=ble_le h1
  simp only[sliceId,GL,and_true]at hb
  rcases v_slicea hv with⟨l,hl,rfl⟩|⟨rfl,rfl,a,rfl⟩
  ·obtain⟨l',hl',hh⟩:=hr.holds _ _ hb
   rw[hl]at hl';cases hl'
   obtain⟨⟨q1,_⟩,c,e,lo,hi,q2,q3,q4,q5⟩:=hh
   obtain⟨N,hN,hS⟩:=run_loadCells_rows (P:=P) (w:=w) (ρ:=ρ) (a:=l.addr.add (0*l.stride+fo)) (k:=n) (f:=fun j=>slab cs (fo+j*size) size) hs (fun j hj=>by
    have hmul:j*size+size ≤ len*size:=by
     have:=Nat.mul_le_mul_right size (show j+1 ≤ len by omega)
     rwa [Nat.succ_mul]at this
    refine⟨slab_length (by omega),fun i v hi=>?_⟩
    obtain⟨u,hu,hvu⟩:=q5 _ v (slab_get hi)
    refine⟨u,?_,hvu⟩
    rw[addr_add_add,cell_in q2 q1,← hu]
    congr 1;omega)
   exact⟨N,by simpa [Builtin.firstCells]using hN,hS⟩
  ·have:n=0:=by omega
   subst this
   exact⟨#[],by simp[Builtin.firstCells,loadCells,loadCellsFrom],src_nil⟩
 ·rename_i id idx fo len cap m st f' o ro
  simp only[Option.some.injEq,Prod.mk.injEq,Bool.and_eq_true]at h
  obtain⟨rfl,rfl,h1,h2⟩:=h
  have h1:=blt_lt h1
  have h2:=ble_le h2
  simp only[sliceId,GL,and_true]at hb
  rcases v_slicea hv with⟨l,hl,rfl⟩|⟨rfl,rfl,a,rfl⟩
  ·obtain⟨l',hl',hh⟩:=hr.holds _ _ hb
   rw[hl]at hl';cases hl'
   obtain⟨q1,q2,q3,q4⟩:=hh
   obtain⟨e1,e2⟩:=q3 idx h1
   obtain⟨N,hN,hS⟩:=run_loadCells_rows (P:=P) (w:=w) (ρ:=ρ) (a:=l.addr.add (idx*l.stride+fo)) (k:=n) (f:=fun j=>slab (f' idx) (fo+j*size) size) hs (fun j hj=>by
    have hmul:j*size+size ≤ len*size:=by
     have:=Nat.mul_le_mul_right size (show j+1 ≤ len by omega)
     rwa [Nat.succ_mul]at this
    refine⟨slab_length (by omega),fun i v hi=>?_⟩
    obtain⟨u,hu,hvu⟩:=e2 _ v (slab_get hi)
    refine⟨u,?_,hvu⟩
    rw[addr_add_add,q1,← hu]
    congr 2;omega)
   exact⟨N,by simpa [Builtin.firstCells]using hN,hS⟩
  ·have:n=0:=by omega
   subst this
   exact⟨#[],by simp[Builtin.firstCells,loadCells,loadCellsFrom],src_nil⟩
 ·cases h
theorem cpy_runs {P:Program}{ρ:Rn}{g:G}{w:World}{n t ty e size:Nat}{ts:List TypeId}{vs:List Value}{bs:List Blk}{c d:Value}{r:Res}
  (hu:P.underlying t=some (.slice e)) (h2:sizeT P e=some size) (hpos:0<size)
  (ha:actCpy size vs bs=some r) (hok:r.ok=true) (hv:VL ρ vs [c,d]) (hr:RelH P ρ g w) (hb:GL g (twoIds vs) bs) :
  Runs P (vS (Builtin.copy_ ⟨t :: ts⟩ ty #[c,d])) ρ g w n r:=by
 unfold actCpy at ha
 split at ha
 ·rename_i x bs'
  obtain⟨hv1,hv2,_⟩:=hv
  obtain⟨rfl,_,_⟩:=v_snil hv1
  simp only[twoIds,sliceId,List.nil_append]at hb
  split at ha
  ·rename_i src hsrc
   obtain⟨k,f,ok⟩:=src
   simp only[Option.some.injEq]at ha
   subst ha
   simp only at hok
   subst hok
   obtain⟨hlen,_⟩:=src_run hsrc hpos hv2 hr hb
   obtain⟨N,hN,hS⟩:=src_part (n:=0) hsrc hpos hv2 hr hb (by omega)
   refine Runs.pureS (c:=.int .i64 0) (v:=.int .i64 0) hr ?_ ⟨true,rfl⟩ (.int _ _)
   simp[Builtin.copy_,run_underlying hu,hlen,sizeOf_run h2,hN,goInt]
  ·cases ha
 ·rename_i id idx len cap x m st f opn bs'
  obtain⟨hv1,hv2,_⟩:=hv
  simp only[twoIds,sliceId,List.singleton_append,GL]at hb
  obtain⟨hbg,hb⟩:=hb
  split at ha
  ·rename_i src hsrc
   obtain⟨k,src,ok⟩:=src
   simp only[Option.some.injEq]at ha
   subst ha
   simp only[Bool.and_eq_true]at hok
   obtain⟨q2,q6,q8⟩:=hok
   have q6:=Nat.eq_of_beq_eq_true q6
   have q8:=ble_le q8
   subst q2
   obtain⟨l0,hl0,hh⟩:=hr.holds _ _ hbg
   obtain⟨hlen,_⟩:=src_run hsrc hpos hv2 hr hb
   have hmk:min k len ≤ k:=Nat.min_le_left _ _
   have hml:min k len ≤ len:=Nat.min_le_right _ _
   obtain⟨N,hN,hS⟩:=src_part (n:=min k len) hsrc hpos hv2 hr hb hmk
   have hSst:SrcAt ρ st (min k len) src N:=by rw[q6];exact hS
   have hpos':0<st:=by rw[q6];exact hpos
   obtain⟨w',c',e',lo,hi',s1,s2,s3,s4,s5,s6,s7,s8,s9,s10,s11,s12⟩:=store_rows (at_:=idx) hh hpos' hSst (by omega)
   have hst:l0.stride=st:=hh.1
   have hGood:Good P ρ g w n [(id,some (.rows m st (rowPut f idx (min k len) src) opn false))] 0 ρ w':=by
    refine Good.turn hr hbg rfl hl0 s2 s3 s4 (by omega) s6 ⟨hst,hh.2.1,fun j hj=>?_,fun _=>⟨c',e',lo,hi',s7,s10,s8,s9⟩⟩
    have hcell:∀ o,w'.cell? (l0.addr.add (j*st+o))=c'[l0.addr.off+(j*st+o)]?:=fun o=>cell_in s7 s10 _
    unfold rowPut
    by_cases hjl:idx ≤ j ∧ j<idx+min k len
    ·have eb:(Nat.ble idx j&&Nat.blt j (idx+min k len))=true:=by
      rw[Bool.and_eq_true]
      exact⟨Nat.ble_eq_true_of_le hjl.1,Nat.ble_eq_true_of_le hjl.2⟩
     rw[eb,cond_true]
     refine⟨(hSst.2 (j-idx) (by omega)).1,fun o v ho=>?_⟩
     obtain⟨u,hu',hv'⟩:=s11 (j-idx) (by omega) o v ho
     refine⟨u,?_,hv'⟩
     rw[hcell,← hu',show idx+(j-idx)=j by omega]
    ·have eb:(Nat.ble idx j&&Nat.blt j (idx+min k len))=false:=by
      cases hb:(Nat.ble idx j&&Nat.blt j (idx+min k len))with
      |false=>rfl
      |true =>
       rw[Bool.and_eq_true]at hb
       exact absurd ⟨ble_le hb.1,blt_lt hb.2⟩ hjl
     rw[eb,cond_false]
     refine⟨(hh.2.2.1 j hj).1,fun o v ho=>?_⟩
     obtain⟨u,hu',hv'⟩:=s12 j hj (by omega) o v ho
     exact⟨u,by rw[hcell];exact hu',hv'⟩
   rcases v_slice hv1 with⟨l,hl,e1⟩|⟨rfl,rfl,a,e1⟩
   ·have hll:l=l0:=by rw[hl]at hl0;exact Option.some.inj hl0
    subst hll
    subst e1
    refine⟨ρ,w',hGood,.inl ⟨.int .i64 (min k len:Nat),run_vS ?_,.int _ _⟩⟩
    rw[hst]
    have hm:Nat.min k len=min k len:=rfl
    simp[Builtin.copy_,run_underlying hu,hlen,hm,sizeOf_run h2,hN,s1,goInt]
   ·subst e1
    have hm0:min k 0=0:=Nat.min_zero k
    have hN0:N.toList=[]:=by
     have:=hS.1
     rw[hm0]at this
     simp at this;simp[this]
    rw[hN0]at s1
    have hw:w'=w:=by
     simp[storeCells]at s1;exact s1.symm
    subst hw
    refine⟨ρ,w',hGood,.inl ⟨.int .i64 (min k 0:Nat),run_vS ?_,.int _ _⟩⟩
    have hm:Nat.min k 0=0:=hm0
    rw[hm0]at hN
    have hNe:N=#[]:=by
     cases N;simpa using hN0
    subst hNe
    simp[Builtin.copy_,run_underlying hu,hlen,hm,sizeOf_run h2,hN,storeCells,goInt]
  ·cases ha
 ·cases ha
end Go.X
