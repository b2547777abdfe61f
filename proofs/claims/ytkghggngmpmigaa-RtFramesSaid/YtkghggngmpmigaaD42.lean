import Derived.Test.YtkghggngmpmigaaD41
import Derived.Test.YtkghggngmpmigaaD38
import Derived.Test.YtkghggngmpmigaaD39
import Derived.Test.YtkghggngmpmigaaD18
set_option linter.all false
namespace Go.X
open Go Go.Proofs
theorem nneg:(shTab.all fun p=>decide (0<=(rowQ p.1).2.2.1)&&decide (0<=(rowQ p.1).2.2.2))=true:=by kernel_rfl
theorem rest_facts {q F o w:Int}{c:Cand} (h:restF q F o w=some c):o=bits2 .and .u32 w 127/\encF q c.rd c.rs1 c.rs2 c.imm=(w,0):=by
 unfold restF at h
 cases h1:(o != bits2 .and .u32 w 127)with
 |true=>rw[h1]at h;cases h
 |false =>
  rw[h1,cond_false]at h
  cases h2:((encF q (candF F w).rd (candF F w).rs1 (candF F w).rs2 (candF F w).imm).2==0&&(encF q (candF F w).rd (candF F w).rs1 (candF F w).rs2 (candF F w).imm).1==w)with
  |false=>rw[h2]at h;cases h
  |true =>
   rw[h2,cond_true]at h
   cases h
   simp only[Bool.and_eq_true,beq_iff_eq]at h2
   exact⟨by simpa using h1,Prod.ext h2.2 h2.1⟩
theorem tells_f3 {F f3 f7:Int}{w:Nat} (h:tells F f3 f7 w) (hf:hasF F=true):e12 w=f3.toNat:=by
 simp only[hasF,Bool.or_eq_true,beq_iff_eq]at hf
 rcases hf with rfl|rfl|rfl|rfl|rfl
 ·exact(h.1 rfl).1
 ·exact h.2.1 (.inl rfl)
 ·exact h.2.1 (.inr (.inl rfl))
 ·exact h.2.1 (.inr (.inr rfl))
 ·exact(h.2.2 rfl).1
theorem same_q {q r w:Int}{c d:Cand} (hq:tabHas shTab (.int .i64 q)=true) (hr:tabHas shTab (.int .i64 r)=true) (h1:dec1 q w=some c) (h2:dec1 r w=some d):q=r:=by
 obtain⟨o1,e1⟩:=rest_facts h1
 obtain⟨o2,e2⟩:=rest_facts h2
 have t1:=tells_of hq e1
 have t2:=tells_of hr e2
 obtain⟨p,hp,rfl,_⟩:=has_mem hq
 obtain⟨p',hp',rfl,_⟩:=has_mem hr
 have n1:=List.all_eq_true.1 nneg p hp
 have n2:=List.all_eq_true.1 nneg p' hp'
 have ha:=List.all_eq_true.1 (List.all_eq_true.1 all_apart p hp) p' hp'
 have ho:(rowQ p.1).2.1=(rowQ p'.1).2.1:=o1.trans o2.symm
 simp only[Bool.and_eq_true,decide_eq_true_eq]at n1 n2
 rw[ho]at ha
 simp only[beq_self_eq_true,Bool.not_true,Bool.or_false,Bool.or_eq_true,beq_iff_eq,Bool.and_eq_true]at ha
 rcases ha with ha|⟨⟨f1,f2⟩,ha⟩
 ·exact ha
 ·exfalso
  have g1:=tells_f3 t1 f1
  have g2:=tells_f3 t2 f2
  have h3:(rowQ p.1).2.2.1=(rowQ p'.1).2.2.1:=by omega
  unfold apart at ha
  rw[ho,h3]at ha
  simp only[beq_self_eq_true,Bool.not_true,Bool.false_or]at ha
  split at ha
  ·rename_i x1 x2
   have a1:=(t1.1 x1).2
   have a2:=(t2.1 x2).2
   have:(rowQ p.1).2.2.2=(rowQ p'.1).2.2.2:=by omega
   rw[this]at ha
   simp at ha
  ·rename_i x1 x2
   have a1:=(t1.2.2 x1).2
   have a2:=(t2.2.2 x2).2
   have:(rowQ p.1).2.2.2.toNat / 2=(rowQ p'.1).2.2.2.toNat / 2:=by omega
   rw[this]at ha
   simp at ha
  ·cases ha
theorem firstD_is {w q:Int}{c:Cand} (h:dec1 q w=some c):∀ {l:List (Int × Value)},(∃ p∈l,p.1=q)->∃ q' c',firstD w l=some (q',c')/\(∃ p∈l,p.1=q')/\dec1 q' w=some c'
 |[],⟨p,hp,_⟩=>by cases hp
 |(k,v) :: l,hp=>by
  unfold firstD
  cases hd:dec1 k w with
  |some x=>exact⟨k,x,rfl,⟨(k,v),.head _,rfl⟩,hd⟩
  |none =>
   obtain⟨p,hp,hk⟩:=hp
   rcases List.mem_cons.1 hp with rfl|hp
   ·simp only at hk;subst hk;rw[hd]at h;cases h
   ·obtain⟨q',c',e,⟨p',hp',hk'⟩,hx⟩:=firstD_is h ⟨p,hp,hk⟩
    exact⟨q',c',e,⟨p',.tail _ hp',hk'⟩,hx⟩
theorem decU_all (w:Int):DecU w:=by
 intro q c hq hc
 obtain⟨p,hp,h1,_⟩:=has_mem hq
 obtain⟨q',c',e,⟨p',hp',hk'⟩,hx⟩:=firstD_is hc ⟨p,hp,h1⟩
 have:=same_q hq (mem_has hp' hk') hc hx
 subst this
 rw[hc]at hx
 cases hx
 exact e
abbrev stepF (e:REnv):RSt->Bool × RSt:=stepG memF e
theorem stepF_sN (e:REnv) (s:RSt):(stepF e s).2.sN<=s.sN+1:=by
 unfold stepF stepG
 cases plB s.m.sz s.m.pl 4 with
 |false=>exact Nat.le_succ _
 |true =>
  simp only[cond_true]
  cases (decA (w32 s.m)).err==0 with
  |false=>exact Nat.le_succ _
  |true =>
   simp only[cond_true]
   cases plainB (decA (w32 s.m)).q with
   |true=>exact Nat.le_succ _
   |false =>
    simp only[cond_false]
    cases (decA (w32 s.m)).q==55 with
    |true =>
     simp only[cond_true]
     unfold callR
     cases s.m.x 17==1<;>cases s.m.x 17==2<;>cases (s.m.x 17==3||(s.m.x 17==4||s.m.x 17==5))<;>cases (e.bi&&Nat.blt s.ik e.L0)<;>exact Nat.le_succ _
    |false =>
     simp only[cond_false]
     unfold memF
     cases plB s.m.sz (atM s.m (decA (w32 s.m)).c) (sizeF (decA (w32 s.m)).q)with
     |false=>exact Nat.le_succ _
     |true=>cases e.wt<;>first|exact Nat.le_succ _|exact Nat.le_refl _
theorem stepF_no (e:REnv) (s:RSt) (h:(stepF e s).1=false):(stepF e s).2.sN=s.sN:=by
 revert h
 unfold stepF stepG
 cases plB s.m.sz s.m.pl 4 with
 |false=>exact fun _=>rfl
 |true =>
  simp only[cond_true]
  cases (decA (w32 s.m)).err==0 with
  |false=>exact fun _=>rfl
  |true =>
   simp only[cond_true]
   cases plainB (decA (w32 s.m)).q with
   |true=>exact fun h=>by cases h
   |false =>
    simp only[cond_false]
    cases (decA (w32 s.m)).q==55 with
    |true =>
     simp only[cond_true]
     unfold callR
     cases s.m.x 17==1<;>cases s.m.x 17==2<;>cases (s.m.x 17==3||(s.m.x 17==4||s.m.x 17==5))<;>cases (e.bi&&Nat.blt s.ik e.L0)<;>first|exact fun _=>rfl|exact fun h=>by cases h
    |false =>
     simp only[cond_false]
     unfold memF
     cases plB s.m.sz (atM s.m (decA (w32 s.m)).c) (sizeF (decA (w32 s.m)).q)with
     |false=>exact fun _=>rfl
     |true=>exact fun h=>by cases h
theorem steps_all (e:REnv){fuel:Int} (hf:fuel<=1000000000):Steps48 e fuel (stepF e) (fun n s=>BaseOK e n s/\s.sN<=n) where
 se n s h:=h.1.se
 go n s s' h hlt h0 hs:=by
  obtain⟨hb,hn⟩:=h
  obtain⟨a,b⟩:=(next_of hb (by omega) (decU_all _) (memF_ok hb (by omega) hn)).1 hs
  refine⟨a,b,?_⟩
  have:=stepF_sN e s
  rw[hs]at this
  simp only at this
  omega
 no n s s' h hlt h0 hs:=by
  obtain⟨hb,hn⟩:=h
  obtain⟨a,b⟩:=(next_of hb (by omega) (decU_all _) (memF_ok hb (by omega) hn)).2 hs
  refine⟨a,b,?_⟩
  have:=stepF_no e s (by rw[hs])
  rw[hs]at this
  simp only at this
  omega
def prog6:List Int:=[147,8,32,0,115,0,0,0,99,74,5,0,147,8,16,0,115,0,0,0,147,130,18,0,111,240,159,254,19,133,2,0,147,8,48,0,115,0,0,0]
def mem6 (j:Nat):Int:=prog6.getD j 0
structure EI (e:REnv) (p a5 a10 a17:Int) (ik oN:Nat) (s:RSt):Prop where
 sz:s.m.sz=64
 mem:s.m.mem=mem6
 pl:s.m.pl=p
 st:s.m.st=0
 x0:s.m.x 0=0
 x5:s.m.x 5=a5
 x10:s.m.x 10=a10
 x17:s.m.x 17=a17
 fik:s.ik=ik
 foN:s.oN=oN
 out:∀ j,j<oN->s.of j=IntKind.u8.wrap (IntKind.u64.wrap (e.inp (e.k0+j)))
section
variable {e:REnv}{p a5 a10 a17:Int}{ik oN:Nat}{s:RSt} (h:EI e p a5 a10 a17 ik oN s)
include h
end
section
variable {e:REnv}{a5 a10 a17:Int}{ik oN:Nat}{s:RSt}
end
structure In6 (e:REnv):Prop where
 byte:∀ j,j<e.L0->0<=e.inp (e.k0+j)/\e.inp (e.k0+j)<256
 nil:e.bi=false->e.L0=0
section
variable {e:REnv} (hin:In6 e) (hL:e.L0<=200)
end
def exI (bi:Bool) (b:Blk):List (Nat × Blk):=bif bi then[(40,b)]else[]
attribute [local congr] cond_ctx
section
variable (bi:Bool) (k L C T:Nat) (inp:Nat->Int)
end
section
variable (bi:Bool) (k L C T:Nat) (inp:Nat->Int)
end
def Ins.v (i:Ins):Value:=i18 i.op i.rd i.rs1 i.rs2 i.imm
abbrev L41 (N C:Nat):Value:=.slice (some ⟨41,0,none⟩) N C
def w4 (w:Int):Nat->List Value:=fun j=>slab [.int .u8 (IntKind.u8.wrap w),.int .u8 (IntKind.u8.wrap (w.fdiv 256)),.int .u8 (IntKind.u8.wrap (w.fdiv 65536)),.int .u8 (IntKind.u8.wrap (w.fdiv 16777216))] ((0+j)*1) 1
section
variable (E:Ins->Int × Int) (N C T i:Nat) (J:Nat->Ins) (oN:Nat) (of:Nat->Int)
end
def byteOf (w:Int):Nat->Int
 |0=>IntKind.u8.wrap w
 |1=>IntKind.u8.wrap (w.fdiv 256)
 |2=>IntKind.u8.wrap (w.fdiv 65536)
 |_=>IntKind.u8.wrap (w.fdiv 16777216)
theorem w4_eq (w:Int):∀ j,j<4->w4 w j=[.int .u8 (byteOf w j)]
 |0,_=>rfl
 |1,_=>rfl
 |2,_=>rfl
 |3,_=>rfl
 |j+4,h=>by omega
def add4 (of:Nat->Int) (n:Nat) (w:Int):Nat->Int:=fun j=>bif Nat.blt j n then of j else byteOf w (j-n)
theorem bis_add {P:Program}{σ:Nm}{n:Nat}{of:Nat->Int}{w:Int}{f:Nat->List Value} (hf:∀ j,j<n->f j=[.int .u8 (of j)]):BIs P σ (outB (n+4) (add4 of n w)) (.rows (n+4) 1 (rowCat f 0 n (w4 w)) true false):=by
 refine⟨rfl,rfl,fun j hj=>?_,.inl rfl,.inr rfl⟩
 show _=cond (Nat.blt j n) (f (0+j)) (w4 w (j-n))
 by_cases h:j<n
 ·rw[lt_blt h,cond_true,Nat.zero_add,hf j h]
  show[Value.int .u8 (add4 of n w j)]=_
  unfold add4;rw[lt_blt h];rfl
 ·have hb:Nat.blt j n=false:=by rw[blt_dec];simp;omega
  rw[hb,cond_false,w4_eq w _ (by omega)]
  show[Value.int .u8 (add4 of n w j)]=_
  unfold add4;rw[hb];rfl
def newM (k L:Nat) (inp:Nat->Int) (sz:Nat):MS:=⟨sz,fun j=>bif Nat.blt j L then inp (k+j)else 0,fun _=>0,0,0,0,⟨0,fun _=>false⟩⟩
def MS.mAt (m:MS) (a b:Nat):Blk:=.var ([.slice (some ⟨a,0,none⟩) m.sz m.sz]++regs m.x++[.int .u64 m.pl,.int .i64 m.st,.int .u8 m.cd,.map (some b)])
def exJ' (bi:Bool):List Nat:=bif bi then[40]else[]
def mem22 (bi:Bool) (k L:Nat) (inp:Nat->Int) (sz:Nat):Blk:=.rows sz 1 (rowPut (fun _=>[.int .u8 0]) 0 (min (bif bi then L else 0) sz) (fun j=>bif bi then[.int .u8 (inp (k+j))]else[])) false false
def old22:Blk:=.map 83 60 0 (fun _=>false) (fun _=>i18 0 0 0 0 0)
theorem p22 (bi:Bool) (k L C T:Nat) (sz:Nat) (inp:Nat->Int) (hL:bi=false->L=0) (h1:L<=sz) (h2:sz<=4194304) (hT:bi=true->k+L<=T) :
  walk (lookF FL) noSc 1000 x22 (argTm 0 [vI bi k L C,.int .i64 (sz:Int)]) (mkH (exI bi (inB T inp))) 100 j0_ ⟨[4,5],[.id 100,.id 101,.id 102],[],exJ' bi⟩ j0_ =
   some ⟨⟨[some (true,.pointer (some ⟨102,0,some 0⟩)),some (true,.int .i64 0)],[(100,some (mem22 bi k L inp sz)),(101,some old22),(102,some ((newM k L inp sz).mAt 100 101))],.ret,103⟩,none⟩:=by
 cases bi with
 |false =>
  have hL0:=hL rfl
  subst hL0
  have e:walk (lookF FL) noSc 1000 x22 (argTm 0 [vI false k 0 C,.int .i64 (sz:Int)]) (mkH (exI false (inB T inp))) 100 j0_ ⟨[4,5],[.id 100,.id 101,.id 102],[],exJ' false⟩ j0_ =
   bif bif decide ((sz:Int)<0)then true else decide ((sz:Int)>4194304)then some ⟨⟨[some (true,.pointer none),some (true,.int .i64 1)],[(100,none),(101,none),(102,none)],.ret,100⟩,none⟩
    else bif decide (0<=(sz:Int))&&decide ((sz:Int)<=(sz:Int))&&decide ((sz:Int)*3<=1099511627776)&&true&&true then bif (0+sz).ble sz&&true&&true then
     some ⟨⟨[some (true,.pointer (some ⟨102,0,some 0⟩)),some (true,.int .i64 0)],[(100,some (mem22 false k 0 inp sz)),(101,some old22),(102,some ((newM k 0 inp sz).mAt 100 101))],.ret,103⟩,none⟩else none else none:=by kernel_rfl
  rw[e]
  simp only[decide_eq_false (show ¬ (sz:Int)<0 by omega),decide_eq_false (show ¬ (sz:Int)>4194304 by omega),decide_eq_true (show 0<=(sz:Int) by omega),decide_eq_true (Int.le_refl (sz:Int)),decide_eq_true (show(sz:Int)*3<=1099511627776 by omega),Nat.zero_add,show sz.ble sz=true by simp]
  rfl
 |true =>
  have e:walk (lookF FL) noSc 1000 x22 (argTm 0 [vI true k L C,.int .i64 (sz:Int)]) (mkH (exI true (inB T inp))) 100 j0_ ⟨[4,5],[.id 100,.id 101,.id 102],[],exJ' true⟩ j0_ =
   bif ((!decide ((sz:Int)<(L:Int))||decide ((sz:Int)<(L:Int)))&&true||false)&&((!decide ((sz:Int)<(L:Int))&&true||!!decide ((sz:Int)<(L:Int)))&&true)then bif bif decide ((sz:Int)<(L:Int))then true else decide ((sz:Int)>4194304)then some ⟨⟨[some (true,.pointer none),some (true,.int .i64 1)],[(100,none),(101,none),(102,none)],.ret,100⟩,none⟩
    else bif decide (0<=(sz:Int))&&decide ((sz:Int)<=(sz:Int))&&decide ((sz:Int)*3<=1099511627776)&&true&&true then bif (k+L).ble T&&true&&(0+sz).ble sz&&true&&true then
     some ⟨⟨[some (true,.pointer (some ⟨102,0,some 0⟩)),some (true,.int .i64 0)],[(100,some (mem22 true k L inp sz)),(101,some old22),(102,some ((newM k L inp sz).mAt 100 101))],.ret,103⟩,none⟩else none else none else none:=by kernel_rfl
  rw[e]
  simp only[decide_eq_false (show ¬ (sz:Int)<(L:Int) by omega),decide_eq_false (show ¬ (sz:Int)>4194304 by omega),decide_eq_true (show 0<=(sz:Int) by omega),decide_eq_true (Int.le_refl (sz:Int)),decide_eq_true (show(sz:Int)*3<=1099511627776 by omega),Nat.zero_add,show sz.ble sz=true by simp,show(k+L).ble T=true by rw[ble_dec];simp;exact hT rfl]
  rfl
theorem bis_mem22 {P:Program}{σ:Nm}{bi:Bool}{k L:Nat}{inp:Nat->Int}{sz:Nat} (hL:bi=false->L=0) (h1:L<=sz):BIs P σ (newM k L inp sz).memB (mem22 bi k L inp sz):=by
 refine⟨rfl,rfl,fun j hj=>?_,by first|exact .inl rfl|exact .inr rfl|exact .inr (.inl rfl),by first|exact .inl rfl|exact .inr rfl⟩
 show rnL _ [.int .u8 (bif Nat.blt j L then inp (k+j)else 0)]=cond (Nat.ble 0 j&&Nat.blt j (0+min (bif bi then L else 0) sz)) (bif bi then[.int .u8 (inp (k+(j-0)))]else[]) [.int .u8 0]
 have h0:Nat.ble 0 j=true:=by simp
 rw[h0,Bool.true_and,Nat.zero_add,Nat.sub_zero]
 cases bi with
 |false =>
  have:=hL rfl
  subst this
  have:Nat.blt j 0=false:=by rw[blt_dec];simp
  rw[this,cond_false,cond_false];simp only[Nat.zero_min,this,cond_false];rfl
 |true =>
  rw[cond_true,Nat.min_eq_left h1,cond_true]
  cases Nat.blt j L<;>rfl
theorem bis_old {P:Program}{σ:Nm}{k L:Nat}{inp:Nat->Int}{sz:Nat}:BIs P σ (newM k L inp sz).kn.blk old22:=⟨rfl,rfl,rfl,fun d q _ _=>⟨rfl,rfl⟩⟩
theorem bis_mAt {P:Program}{σ:Nm}{m:MS} {a b a' b':Nat} (ha:σ a=some a') (hb:σ b=some b'):BIs P σ (m.mAt a b) (m.mAt a' b'):=by
 show ren σ 4 (.slice (some ⟨a,0,none⟩) m.sz m.sz) :: (rnL σ (regs m.x++[.int .u64 m.pl,.int .i64 m.st,.int .u8 m.cd])++[ren σ 4 (.map (some b))])=_
 simp only[ren,renP,ha,hb]
 rfl
def upd22 (m:MS):Hp:=mkH [(100,m.memB),(101,m.kn.blk),(102,m.mAt 100 101)]
theorem b22 {bi:Bool}{k L C T sz:Nat}{inp:Nat->Int} (hL:bi=false->L=0) (h1:L<=sz) (h2:sz<=4194304) (hT:bi=true->k+L<=T) :
  Body Try.prog 15 [vI bi k L C,.int .i64 (sz:Int)] (mkH (exI bi (inB T inp))) (.tuple ⟨[.pointer (some ⟨102,0,some 0⟩),.int .i64 0]⟩) (upd22 (newM k L inp sz)) 100 3:=by
 have e:=p22 bi k L C T sz inp hL h1 h2 hT
 refine body_walk FOK fx22 (by simp) e rfl ⟨mkT [4,5] [.pointer (some ⟨102,0,some 0⟩),.int .i64 0],upd22 (newM k L inp sz)++mkH (exI bi (inB T inp)),103⟩ (fun ρ w hd=>⟨[.pointer (some ⟨102,0,some 0⟩),.int .i64 0],(100,(newM k L inp sz).memB) :: (101,(newM k L inp sz).kn.blk) :: (102,(newM k L inp sz).mAt 100 101) :: exI bi (inB T inp),103,?_,?_,?_,?_⟩) ?_ rfl ?_
 ·cases bi<;>rfl
 ·cases bi<;>rfl
 ·cases bi<;>exact⟨rfl,rfl,trivial⟩
 ·cases bi
  ·exact⟨bis_mem22 hL h1,bis_old,bis_mAt rfl rfl,trivial⟩
  ·exact⟨bis_mem22 hL h1,bis_old,bis_mAt rfl rfl,bis_inB,trivial⟩
 ·cases bi
  ·exact⟨rfl,rfl,rfl,trivial⟩
  ·exact⟨rfl,rfl,rfl,rfl,trivial⟩
 ·cases bi<;>rfl
section
variable (n o:Int) (i N:Nat) (f:Nat->List Value)
end
section
variable {N:Nat}{r:Int} (hN:N<=510) (h0:0<=r) (h1:r<32)
end
def vM3 (a:Nat):Value:=.tuple ⟨[.pointer (some ⟨a,0,some 0⟩),.int .i64 0]⟩
theorem c22_at {L C sz:Nat}{inp:Nat->Int} (h1:L<=sz) (h2:sz<=4194304) (b n:Nat) (hbn:b<n){T:Nat} (hT:L<=T){f:Nat->List Value}{o r:Bool} (hf:∀ j,j<T->f j=[.int .u8 (inp j)]) :
  ADet Try.prog 15 [.slice (some ⟨b,0,none⟩) L C,.int .i64 (sz:Int)] [(b,some (.rows T 1 f o r))] (vM3 (n+2)) (mkH [(n,(newM 0 L inp sz).memB),(n+1,(newM 0 L inp sz).kn.blk),(n+2,(newM 0 L inp sz).mAt n (n+1))]) n 3:=by
 have h:ADet Try.prog 15 [.slice (some ⟨b,0,none⟩) L C,.int .i64 (sz:Int)] [(b,some (.rows T 1 f o true))] (vM3 (n+2)) (mkH [(n,(newM 0 L inp sz).memB),(n+1,(newM 0 L inp sz).kn.blk),(n+2,(newM 0 L inp sz).mAt n (n+1))]) n 3:=by
  have ha:∀ {σ:Nm},BIs Try.prog σ (inB T inp) (.rows T 1 f o true):=⟨rfl,rfl,fun j hj=>by rw[hf j hj];rfl,.inr (.inr rfl),.inl rfl⟩
  have ha':∀ {σ:Nm},BIs Try.prog σ (.rows T 1 f o true) (inB T inp):=⟨rfl,rfl,fun j hj=>by rw[hf j hj];rfl,.inr (.inl rfl),.inl rfl⟩
  have hk:∀ {σ:Nm},BIs Try.prog σ (newM 0 L inp sz).kn.blk (newM 0 L inp sz).kn.blk:=bis_kn
  have b1:=beq_ff (show n≠b by omega)
  have b2:=beq_ff (show n+1≠b by omega)
  have b3:=beq_ff (show n+2≠b by omega)
  have b4:=beq_ff (show b≠n by omega)
  have b5:=beq_ff (show b≠n+1 by omega)
  have b6:=beq_ff (show b≠n+2 by omega)
  have c1:=beq_ff (show n≠n+1 by omega)
  have c2:=beq_ff (show n≠n+2 by omega)
  have c3:=beq_ff (show n+1≠n+2 by omega)
  have c4:=beq_ff (show n+1≠n by omega)
  have c5:=beq_ff (show n+2≠n by omega)
  have c6:=beq_ff (show n+2≠n+1 by omega)
  have bn:=beq_tt n
  have bn1:=beq_tt (n+1)
  have bn2:=beq_tt (n+2)
  have bb:=beq_tt b
  have s1:asc ((n,100) :: (n+1,101) :: (n+2,102) :: flip [(40,b)]) n=some 100:=by simp only[asc,bn,cond_true]
  have s2:asc ((n,100) :: (n+1,101) :: (n+2,102) :: flip [(40,b)]) (n+1)=some 101:=by simp only[asc,c1,bn1,cond_true,cond_false]
  have s3:asc ((n,100) :: (n+1,101) :: (n+2,102) :: flip [(40,b)]) (n+2)=some 102:=by simp only[asc,c2,c3,bn2,cond_true,cond_false]
  have s4:asc ((n,100) :: (n+1,101) :: (n+2,102) :: flip [(40,b)]) b=some 40:=by simp only[flip,asc,b1,b2,b3,bb,cond_true,cond_false]
  refine adet_of_body (b22 (bi:=true) (k:=0) (L:=L) (C:=C) (T:=T) (sz:=sz) (inp:=inp) (fun h=>by cases h) h1 h2 (fun _=>by omega)) [(40,b)] [(n,100),(n+1,101),(n+2,102)] ?_ rfl ?_ rfl ?_ ?_ ?_
  ·refine(show((Nat.blt 40 100&&Nat.beq b b&&true)&&((Nat.ble n n&&Nat.blt n (n+3))&&((Nat.ble n (n+1)&&Nat.blt (n+1) (n+3))&&((Nat.ble n (n+2)&&Nat.blt (n+2) (n+3))&&true)))&&true&&true)=true from ?_)
   simp[lt_blt]
  ·refine⟨?_,trivial⟩
   show(match hget [(b,some (Blk.rows T 1 f o true))] b with|some x=>BIs Try.prog (asc [(40,b)]) (inB T inp) x|none=>False)
   simp only[hget,bb,cond_true]
   exact ha
  ·show(.tuple ⟨[renP _ (n+2) 0 (some 0) _,.int .i64 0]⟩:Value)=_
   simp only[List.cons_append,List.nil_append,renP,s3]
  ·simp only[mkH,List.cons_append,List.nil_append,HsOK,natMem,b1,b2,b3,b4,b5,b6,c1,c2,c3,c4,c5,c6,bn,bn1,bn2,Bool.or_false,Bool.false_or]
   rw[s1,s2,s3,s4]
   exact⟨bis_mem,hk,bis_mAt s1 s2,ha',trivial⟩
  ·simp only[mkH,List.cons_append,List.nil_append,namesOf,natMem,b1,b2,b3,b4,b5,b6,c1,c2,c3,c4,c5,c6,bn,bn1,bn2,Bool.or_false,Bool.false_or]
   rw[s1,s2,s3,s4]
   rfl
 cases r with
 |true=>exact h
 |false=>exact adet_demote h (by simp[mkH,fstL];omega) rfl
structure OKM (m:MS):Prop where
 sz:szB m.sz=true
 pl:uB m.pl=true
 x:∀ j,uB (m.x j)=true
 kn:m.kn.OK
section
variable (m0 m:MS) (mk:Int) (tk:Bool)
end
def e0 (wt:Bool):REnv:=⟨false,0,fun _=>0,0,0,0,wt⟩
theorem base0 {wt:Bool}{m:MS} (h:OKM m):BaseOK (e0 wt) 0 (RSt.init m)/\(RSt.init m).sN<=0:=⟨⟨h.sz,h.pl,h.x,h.kn,fun j hj=>absurd hj (Nat.not_lt_zero _),Nat.le_refl _,Nat.le_refl _,Nat.le_refl _,Nat.le_refl _⟩,Nat.le_refl _⟩
def runM (wt:Bool) (m:MS) (fuel:Nat):RSt × Nat:=runF (stepF (e0 wt)) fuel (RSt.init m) 0
theorem runM_ok {wt:Bool}{m:MS} (h:OKM m){fuel:Nat} (hf:fuel<=1000000000):OKM (runM wt m fuel).1.m/\SeOK (runM wt m fuel).1.sN (runM wt m fuel).1.sf:=by
 have H:=steps_all (e0 wt) (fuel:=(fuel:Int)) (by omega)
 rcases run_ok H fuel 0 (RSt.init m) (by omega) (base0 h)with⟨n',hb,_⟩|⟨n',s1,⟨hb,_⟩,e⟩
 ·exact⟨⟨hb.sz,hb.pl,hb.x,hb.kn⟩,hb.se⟩
 ·unfold runM;rw[e];exact⟨⟨hb.sz,hb.pl,hb.x,hb.kn⟩,hb.se⟩
def inb0:Blk:=inB 0 fun _=>0
theorem run48 (wt:Bool){m:MS} (h:OKM m){fuel:Nat} (hf:fuel<=1000000000){s:RSt}{n:Nat} (hr:runM wt m fuel=(s,n)) :
  Body Try.prog 53 [pM,vI false 0 0 0,.int .i64 (fuel:Int),.bool wt] (mkH (pre48 m false inb0)) (val48 s.m (bO s.oN) (bO s.sN) s.oN s.sN n s.mark) (upd48 s.m (bO s.oN) (bO s.sN) s.oN s.of s.sN s.sf n s.mark) 100 4 :=
 b48 (e0 wt) (fuel:=(fuel:Int)) (by omega) (steps_all (e0 wt) (by omega)) (by omega) m (base0 h) hr
theorem run24 {m:MS} (h:OKM m){fuel:Nat} (hf:fuel<=1000000000){s:RSt}{n:Nat} (hr:runM false m fuel=(s,n)) :
  Body Try.prog 33 [pM,.slice none 0 0,.int .i64 (fuel:Int)] (mkH m.H) (resV24 s.m (vO (bO s.oN) s.oN) n s.mark) (upd24 s.m (bO s.oN) s.oN s.of n s.mark) 100 2:=by
 have hse:=(runM_ok (wt:=false) h hf).2
 rw[hr]at hse
 exact b24 (bi:=false) (k:=0) (L:=0) (C:=0) (T:=0) (inp:=fun _=>0) hse (run48 false h hf hr)
def inK (k:Int):Bool:=bif decide (k>0)then decide (k<32)else false
def setM (m:MS) (k v:Int):MS:=bif inK k then { m with x:=fun j=>bif Nat.beq (j+1) (1+k.toNat*1)then v else m.x j }else m
abbrev pAt (c:Nat):Value:=.pointer (some ⟨c,0,some 0⟩)
def MS.HA (m:MS) (a b c:Nat):List (Nat × Blk):=[(a,m.memB),(b,m.kn.blk),(c,m.mAt a b)]
def upd24g (a b c:Nat) (m:MS) (bo:Bool) (oN:Nat) (of:Nat->Int) (n mk:Int):Hp:=mkH ([(130,resB m (vOa 131 bo oN) n mk),(a,m.memB),(b,m.kn.blk),(c,m.mAt a b)]++extN 131 132 bo false (outB oN of) (outB oN of))
theorem bis_resO {P:Program}{σ:Nm}{m:MS}{bo:Bool}{oN:Nat}{n mk:Int}{a b:Nat} (h:bo=true->σ a=some b):BIs P σ (resB m (vOa a bo oN) n mk) (resB m (vOa b bo oN) n mk):=by
 show[_,_,_,ren σ 4 (vOa a bo oN),_,_]=_
 have:ren σ 4 (vOa a bo oN)=vOa b bo oN:=by
  cases bo with
  |false=>rfl
  |true=>simp only[vOa,cond_true,ren,renP,h rfl]
 rw[this];rfl
theorem c24_0 {m:MS} (h:OKM m){fuel:Nat} (hf:fuel<=1000000000){s:RSt}{n:Nat} (hr:runM false m fuel=(s,n)) :
  AtN 33 [pAt 92,.slice none 0 0,.int .i64 (fuel:Int)] (m.HA 90 91 92) (resV24 s.m (vOa 131 (bO s.oN) s.oN) n s.mark) (upd24g 90 91 92 s.m (bO s.oN) s.oN s.of n s.mark) 130 2:=by
 have hb:=run24 h hf hr
 cases hbo:bO s.oN with
 |false =>
  rw[hbo]at hb
  exact⟨rfl,adet_of_body hb [(90,90),(91,91),(92,92)] [(130,100),(131,101)] rfl rfl ⟨bis_mem,bis_kn,bis_mAt (a:=90) (b:=91) rfl rfl,trivial⟩ rfl rfl ⟨rfl,bis_mem,bis_kn,bis_mAt rfl rfl,trivial,trivial,trivial,trivial⟩ rfl⟩
 |true =>
  rw[hbo]at hb
  exact⟨rfl,adet_of_body hb [(90,90),(91,91),(92,92)] [(130,100),(131,101)] rfl rfl ⟨bis_mem,bis_kn,bis_mAt (a:=90) (b:=91) rfl rfl,trivial⟩ rfl rfl ⟨bis_resO (fun _=>rfl),bis_mem,bis_kn,bis_mAt rfl rfl,bis_outB,trivial,trivial,trivial,trivial⟩ rfl⟩
def setsM (m:MS) (rg:Nat->Int):Nat->MS
 |0=>m
 |k+1=>setM (setsM m rg k) (k:Int) (rg k)
section
variable (bi br:Bool) (p q:Int) (L C R RC:Nat) (inp rg:Nat->Int) (m m2:MS) (sz:Nat) (k:Nat) (hb:bi=false->L=0) (hr:br=false->R=0)
include hb hr
end
section
variable {E:FEnv}{Q:Post} (hP:E.P=Try.prog) (hn:E.B.n=50) (hcl:Cl E.toEnv Q){bi br:Bool}{p q:Int}{L C R RC:Nat}{inp rg:Nat->Int} (m m0:MS) (hb:bi=false->L=0) (hr:br=false->R=0) (hR:R<=40)
include hP hn hcl hb hr hR
end
def m8 (L R:Nat) (inp rg:Nat->Int):MS:=setsM (newM 0 L inp (L+256)) rg R
section
variable {E:FEnv}{Q:Post} (hP:E.P=Try.prog) (hn:E.B.n=50) (hcl:Cl E.toEnv Q){bi br:Bool}{p q:Int}{L C R RC:Nat}{inp rg:Nat->Int}{m:MS} (hm:m=m8 L R inp rg) (hb:bi=false->L=0) (hr:br=false->R=0) (hR:R<=40) (hL:L<=2000)
include hP hn hcl hb hr hR hL hm
end
theorem blt_ff {a b:Nat} (h:¬ a<b):Nat.blt a b=false:=by rw[blt_dec];simp;omega
section
variable {o1:Nat}{of1:Nat->Int}{mk1:Int}{n1:Nat}{sf1:Nat->List Value}
end
section
variable (st cd n mk:Int) (oN oN2:Nat) (of of2:Nat->Int)
end
section
variable (l k:Nat) (f g:Nat->List Value)
end
section
variable {E:FEnv}{Q:Post} (hP:E.P=Try.prog) (hn:E.B.n=50) (hcl:Cl E.toEnv Q){p q:Int}{m:MS}{al x y z:RSt}{na nx ny nz:Nat}{b0 b1 b2 s1 s2:Bool}{fu:Int}{yy:XCode}
 (hs1:∀ {σ:Nm},BIs Try.prog σ (seB x.sN x.sf) (seB x.sN x.sf)) (hs2:∀ {σ:Nm},BIs Try.prog σ (seB y.sN y.sf) (seB y.sN y.sf)) (hs3:∀ {σ:Nm},BIs Try.prog σ (seB z.sN z.sf) (seB z.sN z.sf))
include hP hn hcl hs1 hs2 hs3
end
theorem newM_ok {k L sz:Nat}{inp:Nat->Int} (h:szB sz=true):OKM (newM k L inp sz):=⟨h,rfl,fun _=>rfl,fun w h=>by cases h⟩
section
variable (m:MS) (kk a b o:Int) (tk:Bool)
end
section
variable (x o sk lk n:Int) (m:MS) (oN:Nat) (of:Nat->Int) (s:RSt) (sf:Nat->List Value) (v6 v7 st cd mk:Int) (i:Nat) (g:Nat->Int)
end
theorem u64w (a:Int):IntKind.u64.wrap a=a % 18446744073709551616:=by simp[IntKind.wrap,IntKind.bits,IntKind.signed]
theorem u8w (a:Int):IntKind.u8.wrap a=a % 256:=by simp[IntKind.wrap,IntKind.bits,IntKind.signed]
theorem bv64 (x:Nat) (h:x<18446744073709551616):(BitVec.ofInt 64 (x:Int)).toNat=x:=by
 rw[BitVec.toNat_ofInt];omega
theorem or_add {a b:Int} (n:Nat) (ha0:0<=a) (ha:a<2 ^ n) (hb0:0<=b) (hb:b<18446744073709551616) (hm:b % 2 ^ n=0) (han:a<18446744073709551616) (hs:a+b<18446744073709551616):bits2 .or .u64 a b=a+b:=by
 obtain⟨a,rfl⟩:∃ k:Nat,a=k:=⟨a.toNat,by omega⟩
 obtain⟨b,rfl⟩:∃ k:Nat,b=k:=⟨b.toNat,by omega⟩
 show IntKind.u64.wrap (BitVec.ofInt 64 (a:Int) ||| BitVec.ofInt 64 (b:Int)).toNat=_
 rw[BitVec.toNat_or,bv64 a (by omega),bv64 b (by omega),u64w]
 have ha':a<2 ^ n:=by exact_mod_cast ha
 have hm':b % 2 ^ n=0:=by exact_mod_cast hm
 obtain⟨q,rfl⟩:∃ q,b=2 ^ n*q:=⟨b / 2 ^ n,by rw[Nat.mul_div_cancel' (Nat.dvd_of_mod_eq_zero hm')]⟩
 rw[Nat.or_comm,<- Nat.two_pow_add_eq_or_of_lt ha' q]
 omega
theorem pow2_64 (k:Nat) (h:k<8):(2:Int) ^ min (IntKind.i64.wrap (8*(k:Int))).toNat 64=2 ^ (8*k):=by
 rw[wrap_i (by omega) (by omega),show min (8*(k:Int)).toNat 64=8*k by omega]
theorem byteX_val {x:Int} (h0:0<=x) (k:Nat) (h:k<8):byteX x k=x / 2 ^ (8*k) % 256:=by
 unfold byteX
 rw[pow2_64 k h,u8w,Int.fdiv_eq_ediv_of_nonneg _ (Int.le_of_lt (Int.pow_pos (by decide)))]
theorem num4_val {x:Int} (h0:0<=x) (h1:x<18446744073709551616){f:Nat->Int}{i:Nat} (h:∀ j,j<4->f (i+j)=byteX x j):num4 f i=x % 4294967296:=by
 unfold num4
 rw[h 0 (by omega),h 1 (by omega),h 2 (by omega),h 3 (by omega),byteX_val h0 0 (by omega),byteX_val h0 1 (by omega),byteX_val h0 2 (by omega),byteX_val h0 3 (by omega)]
 simp only[u64w,Nat.mul_zero,Nat.mul_one,Int.reducePow,Nat.reduceMul]
 rw[show bits2 .or .u64 0 (x / 1 % 256 % 18446744073709551616*1 % 18446744073709551616)=(x % 256) by rw[or_add 0 (by omega) (by omega) (by omega) (by omega) (by omega) (by omega) (by omega)];omega]
 rw[show bits2 .or .u64 (x % 256) (x / 256 % 256 % 18446744073709551616*256 % 18446744073709551616)=(x % 65536) by rw[or_add 8 (by omega) (by omega) (by omega) (by omega) (by omega) (by omega) (by omega)];omega]
 rw[show bits2 .or .u64 (x % 65536) (x / 65536 % 256 % 18446744073709551616*65536 % 18446744073709551616)=(x % 16777216) by rw[or_add 16 (by omega) (by omega) (by omega) (by omega) (by omega) (by omega) (by omega)];omega]
 rw[show bits2 .or .u64 (x % 16777216) (x / 16777216 % 256 % 18446744073709551616*16777216 % 18446744073709551616)=(x % 4294967296) by rw[or_add 24 (by omega) (by omega) (by omega) (by omega) (by omega) (by omega) (by omega)];omega]
theorem num8_val {x:Int} (h0:0<=x) (h1:x<18446744073709551616){f:Nat->Int}{i:Nat} (h:∀ j,j<8->f (i+j)=byteX x j):num8 f i=x:=by
 unfold num8
 rw[num4_val h0 h1 fun j hj=>h j (by omega),h 4 (by omega),h 5 (by omega),h 6 (by omega),h 7 (by omega),byteX_val h0 4 (by omega),byteX_val h0 5 (by omega),byteX_val h0 6 (by omega),byteX_val h0 7 (by omega)]
 simp only[u64w,Int.reducePow,Nat.reduceMul]
 rw[show bits2 .or .u64 (x % 4294967296) (x / 4294967296 % 256 % 18446744073709551616*4294967296 % 18446744073709551616)=(x % 1099511627776) by rw[or_add 32 (by omega) (by omega) (by omega) (by omega) (by omega) (by omega) (by omega)];omega]
 rw[show bits2 .or .u64 (x % 1099511627776) (x / 1099511627776 % 256 % 18446744073709551616*1099511627776 % 18446744073709551616)=(x % 281474976710656) by rw[or_add 40 (by omega) (by omega) (by omega) (by omega) (by omega) (by omega) (by omega)];omega]
 rw[show bits2 .or .u64 (x % 281474976710656) (x / 281474976710656 % 256 % 18446744073709551616*281474976710656 % 18446744073709551616)=(x % 72057594037927936) by rw[or_add 48 (by omega) (by omega) (by omega) (by omega) (by omega) (by omega) (by omega)];omega]
 rw[show bits2 .or .u64 (x % 72057594037927936) (x / 72057594037927936 % 256 % 18446744073709551616*72057594037927936 % 18446744073709551616)=x by rw[or_add 56 (by omega) (by omega) (by omega) (by omega) (by omega) (by omega) (by omega)];omega]
theorem p2le {n:Nat} (h:n<=61):(2:Int) ^ n<=2305843009213693952:=by
 have:(2:Nat) ^ n<=2 ^ 61:=Nat.pow_le_pow_right (by decide) h
 have:((2 ^ n:Nat):Int)<=((2 ^ 61:Nat):Int):=by exact_mod_cast this
 simpa using this
section
variable (op:Int)
end
end Go.X
