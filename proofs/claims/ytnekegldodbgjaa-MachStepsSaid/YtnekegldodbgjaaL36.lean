import Derived.Test.YtnekegldodbgjaaL35
import Derived.Test.YtnekegldodbgjaaL32
import Derived.Test.YtnekegldodbgjaaL33
set_option linter.all false
namespace Go.X
open Go Go.Proofs
theorem nneg:(shTab.all fun p=>decide (0<=(rowQ p.1).2.2.1)&&decide (0<=(rowQ p.1).2.2.2))=true:=by kernel_rfl
theorem rest_facts {q F o w:Int}{c:Cand} (h:restF q F o w=some c):o=bits2 .and .u32 w 127/\encF q c.rd c.rs1 c.rs2 c.imm=(w,0):=by
 unfold restF at h
 cases h1:(o != bits2 .and .u32 w 127)with
 |true=>rw[h1]at h;cases h
 |false =>
  rw[h1,cond_false]at h
  cases h2:((encF q (candF F w).rd (candF F w).rs1 (candF F w).rs2 (candF F w).imm).2==0&&(encF q (candF F w).rd (candF F w).rs1 (candF F w).rs2 (candF F w).imm).1==w)with
  |false=>rw[h2]at h;cases h
  |true =>
   rw[h2,cond_true]at h
   cases h
   simp only[Bool.and_eq_true,beq_iff_eq]at h2
   exact⟨by simpa using h1,Prod.ext h2.2 h2.1⟩
theorem tells_f3 {F f3 f7:Int}{w:Nat} (h:tells F f3 f7 w) (hf:hasF F=true):e12 w=f3.toNat:=by
 simp only[hasF,Bool.or_eq_true,beq_iff_eq]at hf
 rcases hf with rfl|rfl|rfl|rfl|rfl
 ·exact(h.1 rfl).1
 ·exact h.2.1 (.inl rfl)
 ·exact h.2.1 (.inr (.inl rfl))
 ·exact h.2.1 (.inr (.inr rfl))
 ·exact(h.2.2 rfl).1
theorem same_q {q r w:Int}{c d:Cand} (hq:tabHas shTab (.int .i64 q)=true) (hr:tabHas shTab (.int .i64 r)=true) (h1:dec1 q w=some c) (h2:dec1 r w=some d):q=r:=by
 obtain⟨o1,e1⟩:=rest_facts h1
 obtain⟨o2,e2⟩:=rest_facts h2
 have t1:=tells_of hq e1
 have t2:=tells_of hr e2
 obtain⟨p,hp,rfl,_⟩:=has_mem hq
 obtain⟨p',hp',rfl,_⟩:=has_mem hr
 have n1:=List.all_eq_true.1 nneg p hp
 have n2:=List.all_eq_true.1 nneg p' hp'
 have ha:=List.all_eq_true.1 (List.all_eq_true.1 all_apart p hp) p' hp'
 have ho:(rowQ p.1).2.1=(rowQ p'.1).2.1:=o1.trans o2.symm
 simp only[Bool.and_eq_true,decide_eq_true_eq]at n1 n2
 rw[ho]at ha
 simp only[beq_self_eq_true,Bool.not_true,Bool.or_false,Bool.or_eq_true,beq_iff_eq,Bool.and_eq_true]at ha
 rcases ha with ha|⟨⟨f1,f2⟩,ha⟩
 ·exact ha
 ·exfalso
  have g1:=tells_f3 t1 f1
  have g2:=tells_f3 t2 f2
  have h3:(rowQ p.1).2.2.1=(rowQ p'.1).2.2.1:=by omega
  unfold apart at ha
  rw[ho,h3]at ha
  simp only[beq_self_eq_true,Bool.not_true,Bool.false_or]at ha
  split at ha
  ·rename_i x1 x2
   have a1:=(t1.1 x1).2
   have a2:=(t2.1 x2).2
   have:(rowQ p.1).2.2.2=(rowQ p'.1).2.2.2:=by omega
   rw[this]at ha
   simp at ha
  ·rename_i x1 x2
   have a1:=(t1.2.2 x1).2
   have a2:=(t2.2.2 x2).2
   have:(rowQ p.1).2.2.2.toNat / 2=(rowQ p'.1).2.2.2.toNat / 2:=by omega
   rw[this]at ha
   simp at ha
  ·cases ha
theorem firstD_is {w q:Int}{c:Cand} (h:dec1 q w=some c):∀ {l:List (Int × Value)},(∃ p∈l,p.1=q)->∃ q' c',firstD w l=some (q',c')/\(∃ p∈l,p.1=q')/\dec1 q' w=some c'
 |[],⟨p,hp,_⟩=>by cases hp
 |(k,v) :: l,hp=>by
  unfold firstD
  cases hd:dec1 k w with
  |some x=>exact⟨k,x,rfl,⟨(k,v),.head _,rfl⟩,hd⟩
  |none =>
   obtain⟨p,hp,hk⟩:=hp
   rcases List.mem_cons.1 hp with rfl|hp
   ·simp only at hk;subst hk;rw[hd]at h;cases h
   ·obtain⟨q',c',e,⟨p',hp',hk'⟩,hx⟩:=firstD_is h ⟨p,hp,hk⟩
    exact⟨q',c',e,⟨p',.tail _ hp',hk'⟩,hx⟩
theorem decU_all (w:Int):DecU w:=by
 intro q c hq hc
 obtain⟨p,hp,h1,_⟩:=has_mem hq
 obtain⟨q',c',e,⟨p',hp',hk'⟩,hx⟩:=firstD_is hc ⟨p,hp,h1⟩
 have:=same_q hq (mem_has hp' hk') hc hx
 subst this
 rw[hc]at hx
 cases hx
 exact e
abbrev stepF (e:REnv):RSt->Bool × RSt:=stepG memF e
theorem stepF_sN (e:REnv) (s:RSt):(stepF e s).2.sN<=s.sN+1:=by
 unfold stepF stepG
 cases plB s.m.sz s.m.pl 4 with
 |false=>exact Nat.le_succ _
 |true =>
  simp only[cond_true]
  cases (decA (w32 s.m)).err==0 with
  |false=>exact Nat.le_succ _
  |true =>
   simp only[cond_true]
   cases plainB (decA (w32 s.m)).q with
   |true=>exact Nat.le_succ _
   |false =>
    simp only[cond_false]
    cases (decA (w32 s.m)).q==55 with
    |true =>
     simp only[cond_true]
     unfold callR
     cases s.m.x 17==1<;>cases s.m.x 17==2<;>cases (s.m.x 17==3||(s.m.x 17==4||s.m.x 17==5))<;>cases (e.bi&&Nat.blt s.ik e.L0)<;>exact Nat.le_succ _
    |false =>
     simp only[cond_false]
     unfold memF
     cases plB s.m.sz (atM s.m (decA (w32 s.m)).c) (sizeF (decA (w32 s.m)).q)with
     |false=>exact Nat.le_succ _
     |true=>cases e.wt<;>first|exact Nat.le_succ _|exact Nat.le_refl _
theorem stepF_no (e:REnv) (s:RSt) (h:(stepF e s).1=false):(stepF e s).2.sN=s.sN:=by
 revert h
 unfold stepF stepG
 cases plB s.m.sz s.m.pl 4 with
 |false=>exact fun _=>rfl
 |true =>
  simp only[cond_true]
  cases (decA (w32 s.m)).err==0 with
  |false=>exact fun _=>rfl
  |true =>
   simp only[cond_true]
   cases plainB (decA (w32 s.m)).q with
   |true=>exact fun h=>by cases h
   |false =>
    simp only[cond_false]
    cases (decA (w32 s.m)).q==55 with
    |true =>
     simp only[cond_true]
     unfold callR
     cases s.m.x 17==1<;>cases s.m.x 17==2<;>cases (s.m.x 17==3||(s.m.x 17==4||s.m.x 17==5))<;>cases (e.bi&&Nat.blt s.ik e.L0)<;>first|exact fun _=>rfl|exact fun h=>by cases h
    |false =>
     simp only[cond_false]
     unfold memF
     cases plB s.m.sz (atM s.m (decA (w32 s.m)).c) (sizeF (decA (w32 s.m)).q)with
     |false=>exact fun _=>rfl
     |true=>exact fun h=>by cases h
theorem steps_all (e:REnv){fuel:Int} (hf:fuel<=1000000000):Steps48 e fuel (stepF e) (fun n s=>BaseOK e n s/\s.sN<=n) where
 se n s h:=h.1.se
 go n s s' h hlt h0 hs:=by
  obtain⟨hb,hn⟩:=h
  obtain⟨a,b⟩:=(next_of hb (by omega) (decU_all _) (memF_ok hb (by omega) hn)).1 hs
  refine⟨a,b,?_⟩
  have:=stepF_sN e s
  rw[hs]at this
  simp only at this
  omega
 no n s s' h hlt h0 hs:=by
  obtain⟨hb,hn⟩:=h
  obtain⟨a,b⟩:=(next_of hb (by omega) (decU_all _) (memF_ok hb (by omega) hn)).2 hs
  refine⟨a,b,?_⟩
  have:=stepF_no e s (by rw[hs])
  rw[hs]at this
  simp only at this
  omega
noncomputable abbrev sc27 (vin:Value) (fuel:Int) (pre:List (Nat × Blk)) (m:MS) (bo bs:Bool) (oN:Nat) (of:Nat->Int) (sN:Nat) (sf:Nat->List Value) (n mk:Int):Short :=
 scOf [conAt 48 [pM,vin,.int .i64 fuel,.bool true] pre (val48a m bo bs oN sN n mk) (upd48a m bo bs oN of sN sf n mk) 101 4]
def rs27 (bo bs:Bool):List Ref:=[.tmp 6,.id 90,.id 91,.id 92]++((bif bo then[.id 102]else[])++(bif bs then[.id 103]else[]))
theorem p27 (m0 m:MS) (bi bo bs:Bool) (k L C:Nat) (fuel:Int) (b40:Blk) (oN sN:Nat) (of:Nat->Int) (sf:Nat->List Value) (n mk:Int) :
  walk (lookF FL) (sc27 (vI bi k L C) fuel (pre48 m0 bi b40) m bo bs oN of sN sf n mk) 1000 x27 (argTm 0 [pM,vI bi k L C,.int .i64 fuel]) (mkH (pre48 m0 bi b40)) 100 j0_ ⟨[6,7],rs27 bo bs,[],extI bi false false⟩ j0_ =
   bif decP ([pM,vI bi k L C,.int .i64 fuel,.bool true]=[pM,vI bi k L C,.int .i64 fuel,.bool true]/\Has ((100,some res0) :: mkH (pre48 m0 bi b40)) (pre48 m0 bi b40)/\AtN 48 [pM,vI bi k L C,.int .i64 fuel,.bool true] (pre48 m0 bi b40) (val48a m bo bs oN sN n mk) (upd48a m bo bs oN of sN sf n mk) 101 4)&&true&&true then
    some ⟨⟨[some (true,.pointer (some ⟨100,0,some 0⟩)),some (true,vOa 103 bs sN)],[(100,some (resB m (vOa 102 bo oN) n mk)),(90,some m.memB),(91,some m.kn.blk),(92,some m.mB)]++((bif bo then[(102,some (outB oN of))]else[])++(bif bs then[(103,some (seB sN sf))]else[])),.ret,105⟩,none⟩else none:=by
 cases bi<;>cases bo<;>cases bs<;>kernel_rfl
def upd27 (m:MS) (bo bs:Bool) (oN:Nat) (of:Nat->Int) (sN:Nat) (sf:Nat->List Value) (n mk:Int):Hp:=mkH ([(100,resB m (vO bo oN) n mk),(90,m.memB),(91,m.kn.blk),(92,m.mB)]++extN 101 102 bo bs (outB oN of) (seB sN sf))
theorem b27 {m0 m:MS}{bi bo bs:Bool}{k L C:Nat}{fuel:Int}{T:Nat}{inp:Nat->Int}{oN sN:Nat}{of:Nat->Int}{sf:Nat->List Value}{n mk:Int} (hse:SeOK sN sf)
  (h:Body Try.prog 48 [pM,vI bi k L C,.int .i64 fuel,.bool true] (mkH (pre48 m0 bi (inB T inp))) (val48 m bo bs oN sN n mk) (upd48 m bo bs oN of sN sf n mk) 100 4) :
  Body Try.prog 27 [pM,vI bi k L C,.int .i64 fuel] (mkH (pre48 m0 bi (inB T inp))) (.tuple ⟨[resV24 m (vO bo oN) n mk,vW bs sN]⟩) (upd27 m bo bs oN of sN sf n mk) 100 3:=by
 have e:=p27 m0 m bi bo bs k L C fuel (inB T inp) oN sN of sf n mk
 rw[decP_true ⟨rfl,by cases bi<;>first|exact⟨rfl,rfl,rfl,trivial⟩|exact⟨rfl,rfl,rfl,rfl,trivial⟩,c48a (fun σ=>vI_stay) (fun σ=>bis_inB) hse h⟩]at e
 simp only[Bool.and_self,cond_true]at e
 have hres:∀ {σ:Nm},(bo=true->σ 101=some 102)->BIs Try.prog σ (resB m (vO bo oN) n mk) (resB m (vOa 102 bo oN) n mk):=by
  intro σ h
  show[_,_,_,ren σ 4 (vO bo oN),_,_]=_
  have:ren σ 4 (vO bo oN)=vOa 102 bo oN:=by
   cases bo with
   |false=>rfl
   |true=>simp only[vO,vOa,cond_true,ren,renP,h rfl]
  rw[this];rfl
 refine body_walk (fok FOK _) fx27 (by simp) e rfl ⟨mkT [6,7] [.pointer (some ⟨100,0,some 0⟩),vW bs sN],mkH ([(100,resB m (vO bo oN) n mk),(90,m.memB),(91,m.kn.blk),(92,m.mB)]++(extN 101 102 bo bs (outB oN of) (seB sN sf)++extL bi false false (inB T inp) (inB T inp) (inB T inp))),103⟩ (fun ρ w hd=>⟨_,_,_,rfl,?_,?_,?_⟩) ?_ rfl ?_
 ·cases bi<;>cases bo<;>cases bs<;>rfl
 ·cases bi<;>cases bo<;>cases bs<;>exact⟨rfl,rfl,trivial⟩
 ·refine⟨hres ?_,bis_mem,bis_kn,bis_mBg rfl rfl,?_⟩
  ·intro h;subst h;cases bi<;>cases bs<;>rfl
  ·have hs:∀ {σ:Nm},BIs Try.prog σ (seB sN sf) (seB sN sf):=bis_seB fun j hj=>hse j hj _
   cases bi<;>cases bo<;>cases bs
   ·exact trivial
   ·exact⟨hs,trivial⟩
   ·exact⟨bis_outB,trivial⟩
   ·exact⟨bis_outB,hs,trivial⟩
   ·exact⟨bis_inB,trivial⟩
   ·exact⟨hs,bis_inB,trivial⟩
   ·exact⟨bis_outB,bis_inB,trivial⟩
   ·exact⟨bis_outB,hs,bis_inB,trivial⟩
 ·cases bi<;>cases bo<;>cases bs
  ·exact⟨rfl,rfl,rfl,rfl,trivial,trivial,trivial,trivial⟩
  ·exact⟨rfl,rfl,rfl,rfl,rfl,trivial,trivial,trivial,trivial⟩
  ·exact⟨rfl,rfl,rfl,rfl,rfl,trivial,trivial,trivial,trivial⟩
  ·exact⟨rfl,rfl,rfl,rfl,rfl,rfl,trivial,trivial,trivial,trivial⟩
  ·exact⟨rfl,rfl,rfl,rfl,trivial,trivial,trivial,rfl,trivial⟩
  ·exact⟨rfl,rfl,rfl,rfl,rfl,trivial,trivial,trivial,rfl,trivial⟩
  ·exact⟨rfl,rfl,rfl,rfl,rfl,trivial,trivial,trivial,rfl,trivial⟩
  ·exact⟨rfl,rfl,rfl,rfl,rfl,rfl,trivial,trivial,trivial,rfl,trivial⟩
 ·cases bi<;>cases bo<;>cases bs<;>rfl
def prog6:List Int:=[147,8,32,0,115,0,0,0,99,74,5,0,147,8,16,0,115,0,0,0,147,130,18,0,111,240,159,254,19,133,2,0,147,8,48,0,115,0,0,0]
def mem6 (j:Nat):Int:=prog6.getD j 0
structure EI (e:REnv) (p a5 a10 a17:Int) (ik oN:Nat) (s:RSt):Prop where
 sz:s.m.sz=64
 mem:s.m.mem=mem6
 pl:s.m.pl=p
 st:s.m.st=0
 x0:s.m.x 0=0
 x5:s.m.x 5=a5
 x10:s.m.x 10=a10
 x17:s.m.x 17=a17
 fik:s.ik=ik
 foN:s.oN=oN
 out:∀ j,j<oN->s.of j=IntKind.u8.wrap (IntKind.u64.wrap (e.inp (e.k0+j)))
section
variable {e:REnv}{p a5 a10 a17:Int}{ik oN:Nat}{s:RSt} (h:EI e p a5 a10 a17 ik oN s)
include h
end
section
variable {e:REnv}{a5 a10 a17:Int}{ik oN:Nat}{s:RSt}
end
structure In6 (e:REnv):Prop where
 byte:∀ j,j<e.L0->0<=e.inp (e.k0+j)/\e.inp (e.k0+j)<256
 nil:e.bi=false->e.L0=0
section
variable {e:REnv} (hin:In6 e) (hL:e.L0<=200)
end
def con20b:Con Try.prog where
 f:=20
 run:=fun vs _ n=>match vs with
  |[.int .u32 w]=>some ([],(decA w).v,[(n,some (decA w).b)],1,decB w)
  |_=>none
 ok:=fun vs h n pre v upd news hx=>by
  split at hx
  ·rename_i w
   simp only[Option.some.injEq,Prod.mk.injEq]at hx
   obtain⟨rfl,rfl,rfl,rfl,hu⟩:=hx
   exact⟨fun id hid=>by simp[fstL]at hid,c20 w (decU_of hu) n⟩
  ·cases hx
abbrev sc21:Short:=scOf [con20b]
theorem FOK21:FnsOK Try.prog (lookF FL) sc21:=fok FOK _
theorem p21:execC (lookF FL) sc21 100000 x21 (argTm 0 []) [] 100 (valK [0])=some [.bool true]:=by kernel_rfl
def c21g:List Value->Option Value
 |[]=>some (.bool true)
 |_=>none
def con21:Con Try.prog:=pureC 21 c21g fun vs v n h=>by
 unfold c21g at h
 split at h
 ·cases h;exact adet_tree FOK21 100000 fx21 (by simp) [0] p21 rfl rfl rfl rfl n
 ·cases h
abbrev sc6:Short:=scOf [con21]
theorem FOK6:FnsOK Try.prog (lookF FL) sc6:=fok FOK _
def exI (bi:Bool) (b:Blk):List (Nat × Blk):=bif bi then[(40,b)]else[]
attribute [local congr] cond_ctx
section
variable (bi:Bool) (k L C T:Nat) (inp:Nat->Int)
end
section
variable (bi:Bool) (k L C T:Nat) (inp:Nat->Int)
end
def Ins.v (i:Ins):Value:=i18 i.op i.rd i.rs1 i.rs2 i.imm
def encV (p:Int × Int):Value:=.tuple ⟨[.int .u32 p.1,.int .i64 p.2]⟩
def EncV (i:Ins) (p:Int × Int):Prop:=∀ n,ADet Try.prog 47 [i.v] [] (encV p) [] n 0
noncomputable def con47 (E:Ins->Int × Int):Con Try.prog where
 f:=47
 run:=fun vs h n=>match vs with
  |[.agg ⟨[.int .i64 a,.int .i64 b,.int .i64 c,.int .i64 d,.int .i64 e]⟩]=>some ([],encV (E ⟨a,b,c,d,e⟩),[],0,decP (EncV ⟨a,b,c,d,e⟩ (E ⟨a,b,c,d,e⟩)))
  |_=>none
 ok:=fun vs h n pre v upd news hx=>by
  split at hx
  ·rename_i a b c d e
   simp only[Option.some.injEq,Prod.mk.injEq]at hx
   obtain⟨rfl,rfl,rfl,rfl,hA⟩:=hx
   exact⟨fun id hid=>by simp[fstL]at hid,of_decP hA n⟩
  ·cases hx
def itB (T:Nat) (J:Nat->Ins):Blk:=.rows T 5 (fun j=>(J j).row) false true
noncomputable abbrev sc23 (E:Ins->Int × Int):Short:=scOf [con47 E]
abbrev L41 (N C:Nat):Value:=.slice (some ⟨41,0,none⟩) N C
def w4 (w:Int):Nat->List Value:=fun j=>slab [.int .u8 (IntKind.u8.wrap w),.int .u8 (IntKind.u8.wrap (w.fdiv 256)),.int .u8 (IntKind.u8.wrap (w.fdiv 65536)),.int .u8 (IntKind.u8.wrap (w.fdiv 16777216))] ((0+j)*1) 1
theorem p23_a (N C T:Nat) (J:Nat->Ins):walk (lookF FL) noSc 1000 x23 (argTm 0 [L41 N C]) (mkH [(41,itB T J)]) 100 j0_ j0_ ⟨[10,3,9,8],[],[],[41]⟩ =
  some ⟨⟨[some (true,.int .i64 0),some (true,.slice none 0 0),some (true,.int .i64 (N:Int)),some (true,L41 N C)],[],.normal,100⟩,some (x23_17,[.bl 0,.sq x23_22])⟩:=by kernel_rfl
section
variable (E:Ins->Int × Int) (N C T i:Nat) (J:Nat->Ins) (oN:Nat) (of:Nat->Int)
theorem p23_n:walk (lookF FL) (sc23 E) 1000 x23_17 (mkT [10,3,9,8] [.int .i64 (i:Int),.slice none 0 0,.int .i64 (N:Int),L41 N C]) (mkH [(41,itB T J)]) 102 ⟨[10,3],[.tmp 3],[9,8],[41]⟩ j0_ j0_ =
  bif decide ((i:Int)<N)then bif (Nat.blt (0+i) T&&true||false)&&((intRange i N&&true||false)&&true)then bif (decP (EncV (J (0+i)) (E (J (0+i))))||false)&&true then bif (E (J (0+i))).2==0 then
   some ⟨⟨[some (true,.int .i64 (IntKind.i64.wrap ((i:Int)+1))),some (true,newS 104 4)],[(104,some (.rows 4 1 (rowCat (fun _=>[]) 0 0 (w4 (E (J (0+i))).1)) true false))],.normal,105⟩,none⟩else none else none else none else none:=by kernel_rfl
theorem p23_m:walk (lookF FL) (sc23 E) 1000 x23_17 (mkT [10,3,9,8] [.int .i64 (i:Int),.slice none 0 0,.int .i64 (N:Int),L41 N C]) (mkH [(41,itB T J)]) 102 ⟨[10,3],[],[9,8],[41]⟩ j0_ j0_ =
  bif decide ((i:Int)<N)then bif (Nat.blt (0+i) T&&true||false)&&((intRange i N&&true||false)&&true)then bif (decP (EncV (J (0+i)) (E (J (0+i))))||false)&&true then bif (E (J (0+i))).2==0 then
   some ⟨⟨[some (true,.int .i64 (IntKind.i64.wrap ((i:Int)+1))),some (true,newS 104 4)],[],.normal,105⟩,none⟩
   else some ⟨⟨[some (true,.int .i64 (IntKind.i64.wrap ((i:Int)+1))),some (true,.slice none 0 0)],[],.normal,103⟩,none⟩else none else none
   else some ⟨⟨[some (true,.int .i64 (i:Int)),some (true,.slice none 0 0)],[],.exit 0,102⟩,none⟩:=by kernel_rfl
theorem p23_b:walk (lookF FL) (sc23 E) 1000 x23_17 (mkT [10,3,9,8] [.int .i64 (i:Int),newS 101 oN,.int .i64 (N:Int),L41 N C]) (mkH [(101,outB oN of),(41,itB T J)]) 102 ⟨[10,3],[.tmp 3],[9,8],[41]⟩ j0_ j0_ =
  bif decide ((i:Int)<N)then bif (Nat.blt (0+i) T&&true||false)&&((intRange i N&&true||false)&&true)then bif (decP (EncV (J (0+i)) (E (J (0+i))))||false)&&true then bif (E (J (0+i))).2==0 then
   bif !(oN+4).ble oN&&true&&(oN.ble oN&&(0+oN).ble oN)&&true&&decide ((oN+4)*3<=1099511627776)&&true&&true then
   some ⟨⟨[some (true,.int .i64 (IntKind.i64.wrap ((i:Int)+1))),some (true,newS 104 (oN+4))],[(104,some (.rows (oN+4) 1 (rowCat (fun j=>[.int .u8 (of j)]) 0 oN (w4 (E (J (0+i))).1)) true false))],.normal,105⟩,none⟩else none
   else some ⟨⟨[some (true,.int .i64 (IntKind.i64.wrap ((i:Int)+1))),some (true,newS 101 oN)],[(101,some (outB oN of))],.normal,103⟩,none⟩else none else none
   else some ⟨⟨[some (true,.int .i64 (i:Int)),some (true,newS 101 oN)],[(101,some (outB oN of))],.exit 0,102⟩,none⟩:=by kernel_rfl
end
def byteOf (w:Int):Nat->Int
 |0=>IntKind.u8.wrap w
 |1=>IntKind.u8.wrap (w.fdiv 256)
 |2=>IntKind.u8.wrap (w.fdiv 65536)
 |_=>IntKind.u8.wrap (w.fdiv 16777216)
theorem w4_eq (w:Int):∀ j,j<4->w4 w j=[.int .u8 (byteOf w j)]
 |0,_=>rfl
 |1,_=>rfl
 |2,_=>rfl
 |3,_=>rfl
 |j+4,h=>by omega
def add4 (of:Nat->Int) (n:Nat) (w:Int):Nat->Int:=fun j=>bif Nat.blt j n then of j else byteOf w (j-n)
def byS (E:Ins->Int × Int) (J:Nat->Ins):Nat->Nat × (Nat->Int)
 |0=>(0,fun _=>0)
 |i+1=>bif (E (J i)).2==0 then((byS E J i).1+4,add4 (byS E J i).2 (byS E J i).1 (E (J i)).1)else byS E J i
theorem byS_le (E:Ins->Int × Int) (J:Nat->Ins):∀ i,(byS E J i).1<=4*i
 |0=>Nat.le_refl _
 |i+1=>by
  have:=byS_le E J i
  rw[byS]
  cases (E (J i)).2==0<;>simp only[cond_true,cond_false]<;>omega
def ext23 (bo:Bool) (b:Blk):List (Nat × Blk):=bif bo then[(101,b)]else[]
def S23 (N C T:Nat) (J:Nat->Ins) (p:Nat × (Nat->Int)) (i:Nat):St:=⟨mkT [10,3,9,8] [.int .i64 (i:Int),vO (bO p.1) p.1,.int .i64 (N:Int),L41 N C],mkH (ext23 (bO p.1) (outB p.1 p.2)++[(41,itB T J)]),102⟩
theorem bis_itB {P:Program}{σ:Nm}{T:Nat}{J:Nat->Ins}:BIs P σ (itB T J) (itB T J):=⟨rfl,rfl,fun _ _=>rfl,.inr (.inl rfl),.inl rfl⟩
theorem bis_add {P:Program}{σ:Nm}{n:Nat}{of:Nat->Int}{w:Int}{f:Nat->List Value} (hf:∀ j,j<n->f j=[.int .u8 (of j)]):BIs P σ (outB (n+4) (add4 of n w)) (.rows (n+4) 1 (rowCat f 0 n (w4 w)) true false):=by
 refine⟨rfl,rfl,fun j hj=>?_,.inl rfl,.inr rfl⟩
 show _=cond (Nat.blt j n) (f (0+j)) (w4 w (j-n))
 by_cases h:j<n
 ·rw[lt_blt h,cond_true,Nat.zero_add,hf j h]
  show[Value.int .u8 (add4 of n w j)]=_
  unfold add4;rw[lt_blt h];rfl
 ·have hb:Nat.blt j n=false:=by rw[blt_dec];simp;omega
  rw[hb,cond_false,w4_eq w _ (by omega)]
  show[Value.int .u8 (add4 of n w j)]=_
  unfold add4;rw[hb];rfl
theorem leaf23n {E:FEnv} (hP:E.P=Try.prog) (hn:E.B.n=100){N C T i:Nat}{J:Nat->Ins} {i':Nat} (of:Nat->Int) (w:Int) (k:Int) (hk:k=(i':Int)) :
  LeafTo E ([10,3]++[9,8]) (ext ⟨[10,3],[.tmp 3],[9,8],[41]⟩ (mkT [10,3,9,8] [.int .i64 (i:Int),.slice none 0 0,.int .i64 (N:Int),L41 N C]) (mkH [(41,itB T J)])
   ⟨[some (true,.int .i64 k),some (true,newS 104 4)],[(104,some (.rows 4 1 (rowCat (fun _=>[]) 0 0 (w4 w)) true false))],.normal,105⟩)
   (S23 N C T J (4,add4 of 0 w) i'):=by
 subst hk
 refine⟨_,_,_,rfl,?_,?_,?_⟩<;>rw[hn]
 ·rfl
 ·exact⟨rfl,rfl,rfl,rfl,trivial⟩
 ·rw[hP]
  exact⟨bis_add (n:=0) (of:=of) fun j hj=>absurd hj (Nat.not_lt_zero _),bis_itB,trivial⟩
theorem leaf23m {E:FEnv} (hP:E.P=Try.prog) (hn:E.B.n=100){N C T i:Nat}{J:Nat->Ins} {i':Nat} (k:Int) (hk:k=(i':Int)) (of:Nat->Int) (ex:Exit) (n:Nat) (h102:102<=n) (hex:ex≠.ret):
  LeafTo E ([10,3]++[9,8]) (ext ⟨[10,3],[],[9,8],[41]⟩ (mkT [10,3,9,8] [.int .i64 (i:Int),.slice none 0 0,.int .i64 (N:Int),L41 N C]) (mkH [(41,itB T J)])
   ⟨[some (true,.int .i64 k),some (true,.slice none 0 0)],[],ex,n⟩)
   (S23 N C T J (0,of) i'):=by
 subst hk
 refine⟨_,_,_,rfl,?_,?_,?_⟩<;>rw[hn]
 ·rfl
 ·exact⟨rfl,rfl,rfl,rfl,trivial⟩
 ·rw[hP]
  exact⟨bis_itB,trivial⟩
theorem leaf23b {E:FEnv} (hP:E.P=Try.prog) (hn:E.B.n=100){N C T i oN:Nat}{of:Nat->Int}{J:Nat->Ins} {i':Nat} (w:Int) (k:Int) (hk:k=(i':Int)) :
  LeafTo E ([10,3]++[9,8]) (ext ⟨[10,3],[.tmp 3],[9,8],[41]⟩ (mkT [10,3,9,8] [.int .i64 (i:Int),newS 101 oN,.int .i64 (N:Int),L41 N C]) (mkH [(101,outB oN of),(41,itB T J)])
   ⟨[some (true,.int .i64 k),some (true,newS 104 (oN+4))],[(104,some (.rows (oN+4) 1 (rowCat (fun j=>[.int .u8 (of j)]) 0 oN (w4 w)) true false))],.normal,105⟩)
   (S23 N C T J (oN+4,add4 of oN w) i'):=by
 subst hk
 refine⟨_,_,_,rfl,?_,?_,?_⟩<;>rw[hn]
 ·rfl
 ·exact⟨rfl,rfl,rfl,rfl,trivial⟩
 ·rw[hP]
  exact⟨bis_add fun j hj=>rfl,bis_itB,trivial⟩
theorem leaf23o {E:FEnv} (hP:E.P=Try.prog) (hn:E.B.n=100){N C T i oN:Nat}{of:Nat->Int}{J:Nat->Ins} {i':Nat} (hbo:bO oN=true) (k:Int) (hk:k=(i':Int)) (ex:Exit) (n:Nat) :
  LeafTo E ([10,3]++[9,8]) (ext ⟨[10,3],[.tmp 3],[9,8],[41]⟩ (mkT [10,3,9,8] [.int .i64 (i:Int),newS 101 oN,.int .i64 (N:Int),L41 N C]) (mkH [(101,outB oN of),(41,itB T J)])
   ⟨[some (true,.int .i64 k),some (true,newS 101 oN)],[(101,some (outB oN of))],ex,n⟩)
   (S23 N C T J (oN,of) i'):=by
 subst hk
 unfold S23
 rw[hbo]
 refine⟨_,_,_,rfl,?_,?_,?_⟩<;>rw[hn]
 ·rfl
 ·exact⟨rfl,rfl,rfl,rfl,trivial⟩
 ·rw[hP]
  exact⟨bis_outB,bis_itB,trivial⟩
theorem bO_false {n:Nat} (h:bO n=false):n=0:=by
 cases n with
 |zero=>rfl
 |succ n=>cases h
theorem loop23 {E:FEnv}{Q:Post} (hcl:Cl E.toEnv Q) (hP:E.P=Try.prog) (hn:E.B.n=100){N C T:Nat}{J:Nat->Ins}{F:Ins->Int × Int} (hE:∀ j,j<N->EncV (J j) (F (J j))) (hT:N<=T) (hN:N<=10000000000)
  (hQ:Q (.exit 0) (S23 N C T J (byS F J N) N)):XWP E.toEnv (.loop x23_17) Q (S23 N C T J (byS F J 0) 0):=by
 refine xwp_loopR (ι:=Nat) (fun i=>S23 N C T J (byS F J i) i) (fun i=>i<=N) (fun i=>N-i) 0 (Nat.zero_le _) fun i hi=>?_
 have hcr:=cl_round (S:=fun i=>S23 N C T J (byS F J i) i) (I:=fun i=>i<=N) (μ:=fun i=>N-i) (i:=i) hcl
 have FO:FnsOK E.P (lookF FL) (sc23 F):=hP▸fok FOK _
 have hle:=byS_le F J i
 obtain⟨oN,of,hb⟩:∃ oN of,byS F J i=(oN,of):=⟨_,_,rfl⟩
 have hnx:byS F J (i+1)=bif (F (J i)).2==0 then(oN+4,add4 of oN (F (J i)).1)else(oN,of):=by rw[byS,hb]
 rw[hb]at hle
 simp only at hle
 have g1:i<N->((Nat.blt (0+i) T&&true||false)&&((intRange i N&&true||false)&&true))=true:=fun h=>by
  rw[Nat.zero_add,lt_blt (show i<T by omega)]
  simp[intRange];omega
 have g2:i<N->((decP (EncV (J (0+i)) (F (J (0+i))))||false)&&true)=true:=fun h=>by
  rw[Nat.zero_add,decP_true (hE i h)];rfl
 have hw:i<N->IntKind.i64.wrap ((i:Int)+1)=((i+1:Nat):Int):=fun h=>by rw[wrap_i (by omega) (by omega)];omega
 have next:∀ {p:Nat × (Nat->Int)},i<N->p=byS F J (i+1)->roundP E.toEnv (fun i=>S23 N C T J (byS F J i) i) (fun i=>i<=N) (fun i=>N-i) i Q .normal (S23 N C T J p (i+1)):=fun h hp=>by
  subst hp
  exact⟨i+1,h,by simp only;omega,Wk.refl _ _⟩
 simp only[hb]
 cases hbo:bO oN with
 |false =>
  have h0:=bO_false hbo
  subst h0
  show XWP E.toEnv x23_17 _ ⟨mkT [10,3,9,8] [.int .i64 (i:Int),.slice none 0 0,.int .i64 (N:Int),L41 N C],mkH [(41,itB T J)],102⟩
  by_cases hlt:i<N
  ·cases hz:(F (J i)).2==0 with
   |true =>
    have e:=p23_n F N C T i J
    rw[decide_eq_true (show(i:Int)<N by omega),g1 hlt,g2 hlt,Nat.zero_add,hz]at e
    simp only[cond_true]at e
    rw[hw hlt]at e
    refine xwp_toEnd (s:=⟨_,_,_⟩) hcr FO 1000 e _ (leaf23n hP hn of _ _ rfl) (next hlt ?_)
    rw[hnx,hz]
    rfl
   |false =>
    have e:=p23_m F N C T i J
    rw[decide_eq_true (show(i:Int)<N by omega),g1 hlt,g2 hlt,Nat.zero_add,hz]at e
    simp only[cond_true,cond_false]at e
    rw[hw hlt]at e
    refine xwp_toEnd (s:=⟨_,_,_⟩) hcr FO 1000 e _ (leaf23m hP hn _ rfl of _ _ (by omega) (by simp)) (next hlt ?_)
    rw[hnx,hz];rfl
  ·have e:=p23_m F N C T i J
   rw[decide_eq_false (show ¬ (i:Int)<N by omega)]at e
   simp only[cond_false]at e
   have:i=N:=by omega
   subst this
   refine xwp_toEnd (s:=⟨_,_,_⟩) hcr FO 1000 e _ (leaf23m hP hn _ rfl of _ _ (by omega) (by simp)) ?_
   rw[hb]at hQ;exact hQ
 |true =>
  show XWP E.toEnv x23_17 _ (S23 N C T J (oN,of) i)
  unfold S23
  rw[hbo]
  show XWP E.toEnv x23_17 _ ⟨mkT [10,3,9,8] [.int .i64 (i:Int),newS 101 oN,.int .i64 (N:Int),L41 N C],mkH [(101,outB oN of),(41,itB T J)],102⟩
  have e:=p23_b F N C T i J oN of
  by_cases hlt:i<N
  ·have g3:(!(oN+4).ble oN&&true&&(oN.ble oN&&(0+oN).ble oN)&&true&&decide ((oN+4)*3<=1099511627776)&&true&&true)=true:=by
    rw[Nat.zero_add,show(oN+4).ble oN=false by rw[ble_dec];simp,show oN.ble oN=true by simp,decide_eq_true (by omega)];rfl
   rw[decide_eq_true (show(i:Int)<N by omega),g1 hlt,g2 hlt,Nat.zero_add,g3]at e
   simp only[cond_true]at e
   rw[hw hlt]at e
   cases hz:(F (J i)).2==0 with
   |true =>
    rw[hz]at e
    refine xwp_toEnd (s:=⟨_,_,_⟩) hcr FO 1000 e _ (leaf23b hP hn _ _ rfl) (next hlt ?_)
    rw[hnx,hz];rfl
   |false =>
    rw[hz]at e
    refine xwp_toEnd (s:=⟨_,_,_⟩) hcr FO 1000 e _ (leaf23o hP hn hbo _ rfl _ _) (next hlt ?_)
    rw[hnx,hz];rfl
  ·rw[decide_eq_false (show ¬ (i:Int)<N by omega)]at e
   simp only[cond_false]at e
   have:i=N:=by omega
   subst this
   refine xwp_toEnd (s:=⟨_,_,_⟩) hcr FO 1000 e _ (leaf23o hP hn hbo _ rfl _ _) ?_
   rw[hb]at hQ;exact hQ
def vB (a:Nat) (bo:Bool) (n:Nat):Value:=bif bo then newS a n else .slice none 0 0
def upB (a:Nat) (bo:Bool) (b:Blk):List (Nat × Blk):=bif bo then[(a,b)]else[]
def nB (bo:Bool):Nat:=bif bo then 1 else 0
theorem p23_e (N C T:Nat) (J:Nat->Ins) (i:Nat) (bo:Bool) (oN:Nat) (of:Nat->Int):walk (lookF FL) noSc 1000 x23_22 (mkT [10,3,9,8] [.int .i64 (i:Int),vO bo oN,.int .i64 (N:Int),L41 N C]) (mkH (ext23 bo (outB oN of)++[(41,itB T J)])) 102 j0_ ⟨[2],bif bo then[.id 101]else[],[],[41]⟩ j0_ =
  some ⟨⟨[some (true,vO bo oN)],bif bo then[(101,some (outB oN of))]else[],.ret,102⟩,none⟩:=by cases bo<;>kernel_rfl
theorem b23 {N C T:Nat}{J:Nat->Ins}{F:Ins->Int × Int} (hE:∀ j,j<N->EncV (J j) (F (J j))) (hT:N<=T) (hN:N<=10000000000){oN:Nat}{of:Nat->Int} (hb:byS F J N=(oN,of)) :
  Body Try.prog 23 [L41 N C] (mkH [(41,itB T J)]) (vB 100 (bO oN) oN) (mkH (upB 100 (bO oN) (outB oN of))) 100 (nB (bO oN)):=by
 refine body_of mixed fx23 (by simp) fun ρ w hd=>?_
 let E:=envOf Try.prog 37 100 (mkH [(41,itB T J)]) mixed ρ w hd
 refine xwp_toLoop (E:=E) (s:=⟨argTm 0 [L41 N C],mkH [(41,itB T J)],100⟩) FOK 1000 (p23_a N C T J) (S23 N C T J (byS F J 0) 0) ⟨_,_,_,rfl,rfl,⟨rfl,rfl,rfl,rfl,trivial⟩,bis_itB,trivial⟩ ?_
 refine loop23 (E:=E) (cl_ctx cl_fin _) rfl rfl hE hT hN ?_
 rw[hb]
 show XWP E.toEnv x23_22 _ (S23 N C T J (oN,of) N)
 have e:=p23_e N C T J N (bO oN) oN of
 refine xwp_toEnd (E:=E) (s:=⟨_,_,_⟩) cl_fin FOK 1000 e ⟨mkT [2] [vB 100 (bO oN) oN],mkH (upB 100 (bO oN) (outB oN of)++[(41,itB T J)]),100+nB (bO oN)⟩ ⟨_,_,_,rfl,?_,?_,?_⟩ (fin_of rfl ?_ rfl ?_)
 ·cases bO oN<;>rfl
 ·cases bO oN<;>exact⟨rfl,trivial⟩
 ·cases bO oN
  ·exact⟨bis_itB,trivial⟩
  ·exact⟨bis_outB,bis_itB,trivial⟩
 ·cases bO oN
  ·exact⟨rfl,trivial⟩
  ·exact⟨rfl,rfl,trivial⟩
 ·cases bO oN<;>rfl
abbrev L60 (N C:Nat):Value:=.slice (some ⟨60,0,none⟩) N C
end Go.X
