import Derived.Test.YtkghggngmpmigaaD44
set_option linter.all false
namespace Go.X
open Go Go.Proofs
def dB (d:Nat->Int):Nat->Int:=fun j=>byteX (d (j / 8)) (j % 8)
structure RA where
 p:Nat
 x:Nat->Int
 d:Nat->Int
def amX (a:RA):MS:=⟨0,fun _=>0,a.x,4*(a.p:Int),0,0,⟨0,fun _=>false⟩⟩
def Ins.c (i:Ins):Cand:=⟨i.rd,i.rs1,i.rs2,i.imm⟩
def aAt (a:RA) (i:Ins):Int:=IntKind.u64.wrap (a.x i.rs1.toNat+ofF i.imm)
def aStep (S C:Nat) (i:Ins) (a:RA):Option RA :=
 bif plainB i.op then
  bif nextF (amX a) i.op i.c % 4==0 then some ⟨(nextF (amX a) i.op i.c).toNat / 4,putR a.x i.rd (valF (amX a) i.op i.c),a.d⟩else none
 else bif i.op==41 then
  bif plB S (aAt a i) 8&&decide (i.rd.toNat<32)then some ⟨a.p+1,zeroX fun j=>bif Nat.beq (j+1) (1+i.rd.toNat*1)then a.d ((aAt a i).toNat / 8)else a.x j,a.d⟩else none
 else bif i.op==44 then
  bif plB S (aAt a i) 8&&decide (C<=(aAt a i).toNat)then some ⟨a.p+1,zeroX a.x,fun k=>bif Nat.beq k ((aAt a i).toNat / 8)then a.x i.rs2.toNat else a.d k⟩else none
 else none
structure AtR (S:Nat) (L:List Ins) (s:RSt) (a:RA):Prop where
 mem:s.m.mem=dB a.d
 sz:s.m.sz=S
 pl:s.m.pl=4*(a.p:Int)
 st:s.m.st=0
 oN:s.oN=0
 x:s.m.x=a.x
 x0:a.x 0=0
 xr:∀ j,uB (a.x j)=true
 dr:∀ k,uB (a.d k)=true
 code:∀ i,i<L.length->num4 (dB a.d) (4*i)=(L.map encW).getD i 0
theorem valF_congr {m m':MS} (hx:m.x=m'.x) (hp:m.pl=m'.pl) (op:Int) (c:Cand):valF m op c=valF m' op c:=by
 unfold valF nxt;rw[hx,hp]
theorem nextF_congr {m m':MS} (hx:m.x=m'.x) (hp:m.pl=m'.pl) (op:Int) (c:Cand):nextF m op c=nextF m' op c:=by
 unfold nextF nxt;rw[hx,hp]
theorem nar64 {v:Int} (h:uB v=true):narF 64 true v=v:=by
 have h:=uB_iff.1 h
 show IntKind.u64.wrap ((IntKind.i64.wrap (IntKind.u64.wrap (v*1))).fdiv 1)=v
 rw[Int.mul_one,Int.fdiv_one,u64w v,Int.emod_eq_of_lt h.1 h.2,u64w]
 have:IntKind.i64.wrap v=v\/IntKind.i64.wrap v=v-18446744073709551616:=by
  simp only[IntKind.wrap,IntKind.signed,IntKind.bits]
  simp
  omega
 omega
theorem dB_at {d:Nat->Int}{k j:Nat} (h:j<8):dB d (8*k+j)=byteX (d k) j:=by
 unfold dB
 rw[show(8*k+j) / 8=k by omega,show(8*k+j) % 8=j by omega]
section
variable {S:Nat}{L:List Ins} (hL:L.all okI=true) (h4:4*L.length<=S) (hS:S<9000000000000000000){s:RSt}{a:RA} (h:AtR S L s a){i:Ins} (hi:L[a.p]?=some i)
include hL h4 hS h hi
theorem decR:a.p<L.length/\plB s.m.sz s.m.pl 4=true/\decA (w32 s.m)=⟨i.op,i.c,0⟩:=by
 obtain⟨hp,he⟩:=List.getElem?_eq_some_iff.1 hi
 refine⟨hp,?_,?_⟩
 ·rw[h.sz,h.pl]
  show((4*(a.p:Int)) % 4==0&&(decide ((0:Int)<=4*(a.p:Int))&&decide (4*(a.p:Int)+4<=(S:Int))))=true
  rw[decide_eq_true (by omega),decide_eq_true (by omega),show(4*(a.p:Int)) % 4=0 by omega];rfl
 ·have hw:(L.map encW).getD a.p 0=encW i:=by
   rw[List.getD_eq_getElem?_getD,List.getElem?_map,hi];rfl
  have hr:0<=encW i/\encW i<4294967296:=encF_rng _ _ _ _ _
  have hc:=h.code a.p hp
  rw[hw]at hc
  unfold w32
  rw[h.mem,h.pl,show(4*(a.p:Int)).toNat*1=4*a.p by omega,hc,show IntKind.u32.wrap (encW i)=encW i from by rw[u32_wrap];omega]
  refine okI_dec (List.all_eq_true.1 hL i ?_)
  rw[<- he];exact List.getElem_mem _
theorem aStep_ok {C:Nat} (hC:4*L.length<=C) {a':RA} (he:aStep S C i a=some a'):∃ s',stepF (e0 false) s=(true,s')/\AtR S L s' a':=by
 obtain⟨hp,hpl,hd⟩:=decR hL h4 hS h hi
 have nx:∀ {m:MS},m.pl=s.m.pl->nxt m=4*((a.p+1:Nat):Int):=fun {m} hm=>by unfold nxt;rw[hm,h.pl,u64w];omega
 unfold aStep at he
 cases h1:plainB i.op with
 |true =>
  rw[h1,cond_true]at he
  cases h2:nextF (amX a) i.op i.c % 4==0 with
  |false=>rw[h2]at he;cases he
  |true =>
   rw[h2,cond_true]at he
   cases he
   have hx:(amX a).x=s.m.x:=h.x.symm
   have hpp:(amX a).pl=s.m.pl:=h.pl.symm
   refine⟨_,stepP1 hpl hd h1,h.mem,h.sz,?_,h.st,h.oN,?_,?_,?_,h.dr,h.code⟩
   ·show nextF s.m i.op i.c=_
    rw[<- nextF_congr hx hpp]
    have:=uB_iff.1 (uB_next (m:=amX a) h1 i.c)
    have h2:=eq_of_beq h2
    show _=4*(((nextF (amX a) i.op i.c).toNat / 4:Nat):Int)
    omega
   ·show putR s.m.x i.rd (valF s.m i.op i.c)=putR a.x i.rd (valF (amX a) i.op i.c)
    rw[<- valF_congr hx hpp,h.x]
   ·show putR a.x i.rd _ 0=0
    cases valF (amX a) i.op i.c<;>rfl
   ·exact uB_put h.xr _ (uB_val (m:=amX a) h.xr h1 _)
 |false =>
  rw[h1,cond_false]at he
  have mem1:∀ {q:Int},i.op=q->(q==55)=false->plB S (aAt a i) (sizeF q)=true->stepF (e0 false) s=(true,{ s with m:=finM s.m (memM s.m q i.c) s.m.kn' true }):=fun {q} hq h2 hm=>by
   subst hq
   unfold stepF stepG
   rw[hpl,hd]
   simp only[cond_true,show((0:Int)==0)=true from rfl,h1,h2,cond_false]
   unfold memF
   have ha:atM s.m i.c=aAt a i:=by show IntKind.u64.wrap (s.m.x _+_)=_;rw[h.x];rfl
   simp only[ha,h.sz,hm,cond_true]
   rfl
  have ha:atM s.m i.c=aAt a i:=by show IntKind.u64.wrap (s.m.x _+_)=_;rw[h.x];rfl
  cases h2:i.op==41 with
  |true =>
   have h2:=eq_of_beq h2
   rw[h2]at he
   simp only[show((41:Int)==41)=true from rfl,cond_true]at he
   cases h3:plB S (aAt a i) 8 with
   |false=>rw[h3]at he;cases he
   |true =>
    rw[h3,Bool.true_and]at he
    by_cases hr:i.rd.toNat<32
    ·rw[decide_eq_true hr,cond_true]at he
     cases he
     have h3':=h3
     unfold plB at h3'
     simp only[Bool.and_eq_true,beq_iff_eq,decide_eq_true_eq]at h3'
     obtain⟨k,hk⟩:∃ k:Nat,(aAt a i).toNat=8*k:=⟨(aAt a i).toNat / 8,by omega⟩
     have hv:numF 8 s.m.mem ((aAt a i).toNat*1)=a.d k:=by
      rw[hk,h.mem,Nat.mul_one]
      have:=uB_iff.1 (h.dr k)
      exact num8_val this.1 this.2 fun j hj=>dB_at hj
     have hm:memM s.m 41 i.c=putX s.m i.rd (a.d k):=by
      show putX s.m i.rd (narF 64 true (numF 8 s.m.mem ((atM s.m i.c).toNat*1)))=_
      rw[ha,hv,nar64 (h.dr k)]
     have hpx:(putX s.m i.rd (a.d k)).pl=s.m.pl:=by
      show(bif Nat.beq 33 (1+i.rd.toNat*1)then _ else s.m.pl)=_
      rw[beq_ff (by omega)];rfl
     refine⟨_,mem1 h2 rfl h3,?_⟩
     rw[hm]
     have hx:zeroX (putX s.m i.rd (a.d k)).x=zeroX fun j=>bif Nat.beq (j+1) (1+i.rd.toNat*1)then a.d ((aAt a i).toNat / 8)else a.x j:=by
      rw[hk,show 8*k / 8=k by omega]
      show zeroX (fun j=>bif Nat.beq (j+1) (1+i.rd.toNat*1)then a.d k else s.m.x j)=_
      rw[h.x]
     refine⟨h.mem,h.sz,nx rfl,h.st,h.oN,hx,rfl,fun j=>?_,h.dr,h.code⟩
     show uB (bif Nat.beq j 0 then 0 else bif Nat.beq (j+1) (1+i.rd.toNat*1)then a.d ((aAt a i).toNat / 8)else a.x j)=true
     cases Nat.beq j 0
     ·cases Nat.beq (j+1) (1+i.rd.toNat*1)
      ·exact h.xr j
      ·exact h.dr _
     ·rfl
    ·rw[decide_eq_false hr]at he;cases he
  |false =>
   rw[h2,cond_false]at he
   cases h4':i.op==44 with
   |false=>rw[h4']at he;cases he
   |true =>
    have h4':=eq_of_beq h4'
    rw[h4']at he
    simp only[show((44:Int)==44)=true from rfl,cond_true]at he
    cases h3:plB S (aAt a i) 8 with
    |false=>rw[h3]at he;cases he
    |true =>
     rw[h3,Bool.true_and]at he
     by_cases hc:C<=(aAt a i).toNat
     ·rw[decide_eq_true hc,cond_true]at he
      cases he
      have h3':=h3
      unfold plB at h3'
      simp only[Bool.and_eq_true,beq_iff_eq,decide_eq_true_eq]at h3'
      obtain⟨k,hk⟩:∃ k:Nat,(aAt a i).toNat=8*k:=⟨(aAt a i).toNat / 8,by omega⟩
      have hm:memM s.m 44 i.c=stB s.m (8*k) (a.x i.rs2.toNat) 8:=by
       show stB s.m ((atM s.m i.c).toNat*1) (s.m.x i.rs2.toNat) 8=_
       rw[ha,hk,h.x,Nat.mul_one]
      have hs:=stB_same s.m (8*k) (a.x i.rs2.toNat) 8
      have hmem:(stB s.m (8*k) (a.x i.rs2.toNat) 8).mem=dB fun j=>bif Nat.beq j ((aAt a i).toNat / 8)then a.x i.rs2.toNat else a.d j:=by
       funext j
       rw[stB_mem,hk,show 8*k / 8=k by omega,h.mem,ble_dec,blt_dec]
       show _=byteX (bif Nat.beq (j / 8) k then a.x i.rs2.toNat else a.d (j / 8)) (j % 8)
       unfold dB
       by_cases hj:j / 8=k
       ·rw[beq_dec,decide_eq_true hj,decide_eq_true (by omega),decide_eq_true (by omega),show j-8*k=j % 8 by omega];rfl
       ·rw[beq_dec,decide_eq_false hj]
        have:(decide (8*k<=j)&&decide (j<8*k+8))=false:=by
         by_cases h1:8*k<=j
         ·rw[decide_eq_true h1,decide_eq_false (by omega)];rfl
         ·rw[decide_eq_false h1];rfl
        rw[this];rfl
      refine⟨_,mem1 h4' rfl h3,?_⟩
      rw[hm]
      refine⟨hmem,hs.1.trans h.sz,nx rfl,hs.2.2.2.1.trans h.st,h.oN,by show zeroX _=_;rw[hs.2.1,h.x],rfl,fun j=>?_,fun j=>?_,fun j hj=>?_⟩
      ·show uB (bif Nat.beq j 0 then 0 else a.x j)=true
       cases Nat.beq j 0
       ·exact h.xr j
       ·rfl
      ·show uB (bif Nat.beq j ((aAt a i).toNat / 8)then a.x i.rs2.toNat else a.d j)=true
       cases Nat.beq j ((aAt a i).toNat / 8)
       ·exact h.dr j
       ·exact h.xr _
      ·rw[<- h.code j hj]
       refine num4_congr fun t ht=>?_
       unfold dB
       show byteX (bif Nat.beq ((4*j+t) / 8) ((aAt a i).toNat / 8)then _ else _) _=_
       rw[beq_ff (by omega)];rfl
     ·rw[decide_eq_false hc]at he;cases he
end
inductive It
 |l (n:Nat)
 |i (x:Ins)
 |t (op rd rs1 rs2:Int) (n:Nat)
namespace It
def put (op rd rs1 rs2 imm:Int):List It:=[.i ⟨op,rd,rs1,rs2,imm⟩]
def to (op rd rs1 rs2:Int) (n:Nat):List It:=[.t op rd rs1 rs2 n]
def page (rd at_:Int):List It:=put 51 rd 0 0 (at_ / 4096)++(bif at_ % 4096==0 then[]else put 28 rd rd 0 (at_ % 4096))
def back (r:Int):List It:=put 54 0 r 0 0
def lockOf (rd n t:Int):List It:=put 34 rd n 0 5++page t 0x41000++put 1 rd rd t 0
def shadowOf (rd a t:Int):List It:=page t 0x50000++put 2 rd a t 0++put 34 rd rd 0 2++page t 0xc0000++put 1 rd rd t 0
def start (heap:Int):List It :=
 [.l 0]++page 2 0xc0000++page 5 0x40000++put 51 6 0 0 (heap / 4096)++put 28 6 6 0 (heap % 2048 / 16*16) ++
 (bif heap / 2048 % 2==0 then[]else put 28 6 6 0 0x400++put 28 6 6 0 0x400) ++
 put 44 0 5 6 0++put 44 0 5 0 8++put 44 0 5 0 32++put 28 6 0 0 1++put 44 0 5 6 16++page 7 0x41000++put 44 0 7 6 0++put 28 7 7 0 32++put 44 0 5 7 24++to 53 1 0 0 20 ++
 page 5 0x40100++put 41 10 5 0 0++put 28 17 0 0 3++put 55 0 0 0 0
def ends:List It:=[.l 1]++put 28 17 0 0 4++put 55 0 0 0 0++[.l 2]++put 28 17 0 0 5++put 55 0 0 0 0
def lock:List It :=
 [.l 3]++page 6 0x40000++put 41 30 6 0 32++to 45 0 30 0 4++put 41 7 30 0 24++put 44 0 6 7 32++to 53 0 0 0 5 ++
 [.l 4]++put 41 30 6 0 24++page 7 0x50000++to 50 0 30 7 2++put 28 7 30 0 32++put 44 0 6 7 24 ++
 [.l 5]++put 41 31 6 0 16++put 28 31 31 0 1++put 44 0 6 31 16++put 44 0 30 31 0++put 44 0 30 0 8++put 44 0 30 0 16++back 5
def number (rd:Int):List It:=page 6 0x41000++put 2 rd 30 6 0++put 35 rd rd 0 5
def frames:List It :=
 [.l 6]++to 53 5 0 0 3++put 28 10 31 0 0++number 11++back 1++[.l 7]++lockOf 30 10 6 ++
 [.l 8]++page 6 0x40000++put 41 7 6 0 32++put 44 0 30 0 0++put 44 0 30 7 24++put 44 0 6 30 32++back 1
def malloc:List It :=
 [.l 9]++put 28 6 0 0 1++to 47 0 10 6 2++put 51 6 0 0 256++to 47 0 6 10 2++put 28 14 10 0 31++put 33 14 14 0 (-16)++page 6 0x40000++put 28 28 6 0 8 ++
 [.l 10]++put 41 29 28 0 0++to 45 0 29 0 12++put 41 30 29 0 0++put 41 31 29 0 8++to 45 0 30 14 11++put 28 28 29 0 8++to 53 0 0 0 10 ++
 [.l 11]++put 44 0 28 31 0++to 53 0 0 0 13 ++
 [.l 12]++put 41 29 6 0 0++put 1 30 29 14 0++page 31 0x90000++to 49 0 31 30 2++put 44 0 6 30 0++put 44 0 29 14 0 ++
 [.l 13]++put 28 13 10 0 0++put 28 12 1 0 0++put 28 10 29 0 16++put 28 11 14 0 (-16)++put 28 29 10 0 0++to 53 1 0 0 17++put 28 1 12 0 0++to 53 5 0 0 3 ++
 put 28 10 29 0 0++put 28 11 29 0 0++put 1 12 29 13 0++put 44 0 30 11 8++put 44 0 30 12 16++put 28 13 31 0 0++number 14++back 1
def free:List It :=
 [.l 14]++lockOf 30 14 6++put 41 6 30 0 0++to 46 0 6 13 1++put 41 6 30 0 8++to 46 0 6 11 1++put 41 6 30 0 16++to 46 0 6 12 1++to 46 0 10 11 1 ++
 page 6 0x40000++put 28 29 11 0 (-16)++put 41 7 6 0 8++put 44 0 29 7 8++put 44 0 6 29 8++to 53 0 0 0 8
def shadows:List It :=
 [.l 15]++shadowOf 30 10 6++put 41 11 30 0 0++put 41 12 30 0 8++put 41 13 30 0 16++put 41 14 30 0 24++back 1 ++
 [.l 16]++shadowOf 30 10 6++put 44 0 30 11 0++put 44 0 30 12 8++put 44 0 30 13 16++put 44 0 30 14 24++back 1 ++
 [.l 17]++shadowOf 30 10 6++put 1 11 10 11 0++[.l 18]++to 50 0 10 11 19++put 44 0 10 0 0++put 44 0 30 0 0++put 44 0 30 0 8++put 44 0 30 0 16++put 44 0 30 0 24 ++
 put 28 10 10 0 8++put 28 30 30 0 32++to 53 0 0 0 18++[.l 19]++back 1
def all (heap:Int):List It:=start heap++ends++lock++frames++malloc++free++shadows++[.l 20]++to 53 0 0 0 20
def find (n:Nat):List It->Nat->Nat
 |[],k=>k
 | .l m :: r,k=>bif Nat.beq m n then k else find n r k
 |_ :: r,k=>find n r (k+1)
def res (A:List It):List It->Nat->List Ins
 |[],_=>[]
 | .l _ :: r,k=>res A r k
 | .i x :: r,k=>x :: res A r (k+1)
 | .t op rd rs1 rs2 n :: r,k=>⟨op,rd,rs1,rs2,4*(find n A 0:Int)-4*(k:Int)⟩ :: res A r (k+1)
end It
def rtL (heap:Int):List Ins:=It.res (It.all heap) (It.all heap) 0
end Go.X
namespace Go.X
open Go Go.Proofs
def Gs (n:Nat) (s s':RSt):Prop:=∀ f c,runF (stepF (e0 false)) (n+f) s c=runF (stepF (e0 false)) f s' (c+n)
theorem gs_refl (s:RSt):Gs 0 s s:=fun f c=>by rw[Nat.zero_add,Nat.add_zero]
theorem gs_one {s s':RSt} (h0:s.m.st=0) (h:stepF (e0 false) s=(true,s')):Gs 1 s s':=fun f c=>by
 rw[Nat.add_comm 1 f,runF_go (by rw[h0];rfl) h]
theorem gs_trans {a b:Nat}{s t u:RSt} (h1:Gs a s t) (h2:Gs b t u):Gs (a+b) s u:=fun f c=>by
 rw[Nat.add_assoc,h1,h2,Nat.add_assoc]
section
variable (L:List Ins) (S C main:Nat)
inductive Sts:RA->Nat->RA->Prop
 |refl (a:RA):Sts a 0 a
 |step {a a1 a2:RA}{i:Ins}{n:Nat} (hm:a.p≠main) (hi:L[a.p]?=some i) (he:aStep S C i a=some a1) (h:Sts a1 n a2):Sts a (n+1) a2
end
section
variable {L:List Ins}{S C main:Nat}
theorem Sts.trans {a b c:RA}{n k:Nat} (h1:Sts L S C main a n b) (h2:Sts L S C main b k c):Sts L S C main a (n+k) c:=by
 induction h1 with
 |refl=>rw[Nat.zero_add];exact h2
 |step hm hi he _ ih=>rw[Nat.add_right_comm];exact .step hm hi he (ih h2)
theorem Sts.one {a b:RA}{i:Ins} (hm:a.p≠main) (hi:L[a.p]?=some i) (he:aStep S C i a=some b):Sts L S C main a 1 b:=.step hm hi he (.refl _)
theorem sts_goes (hL:L.all okI=true) (h4:4*L.length<=S) (hS:S<9000000000000000000) (hC:4*L.length<=C) {a a':RA}{n:Nat} (h:Sts L S C main a n a') :
  ∀ {s:RSt},AtR S L s a->∀ k,k<=n->∃ s' b,Gs k s s'/\AtR S L s' b/\(k<n->b.p≠main)/\(k=n->b=a'):=by
 induction h with
 |refl a =>
  intro s hs k hk
  obtain rfl:k=0:=by omega
  exact⟨s,a,gs_refl s,hs,fun h=>absurd h (Nat.lt_irrefl _),fun _=>rfl⟩
 |step hm hi he _ ih =>
  intro s hs k hk
  cases k with
  |zero=>exact⟨s,_,gs_refl s,hs,fun _=>hm,fun h=>absurd h (by omega)⟩
  |succ k =>
   obtain⟨s1,e1,h1⟩:=aStep_ok hL h4 hS hs hi hC he
   obtain⟨s2,b,g2,h2,h3,h5⟩:=ih h1 k (by omega)
   refine⟨s2,b,?_,h2,fun h=>h3 (by omega),fun h=>h5 (by omega)⟩
   rw[Nat.add_comm k 1]
   exact gs_trans (gs_one hs.st e1) g2
def sx (x:Nat->Int) (r:Nat) (v:Int):Nat->Int:=fun j=>bif Nat.beq j r then v else x j
def ud (d:Nat->Int) (a:Nat) (v:Int):Nat->Int:=fun k=>bif Nat.beq k a then v else d k
theorem zero_x {x:Nat->Int} (h:x 0=0):zeroX x=x:=funext fun j=>by
 unfold zeroX
 rw[beq_dec]
 by_cases e:j=0
 ·subst e;rw[decide_eq_true rfl,h];rfl
 ·rw[decide_eq_false e];rfl
theorem putR_sx {x:Nat->Int}{rd:Int}{v:Int} (hr:rd.toNat≠0) (h:x 0=0):putR x rd (some v)=sx x rd.toNat v:=funext fun j=>by
 show(bif Nat.beq j 0 then 0 else bif Nat.beq (j+1) (1+rd.toNat*1)then v else x j)=bif Nat.beq j rd.toNat then v else x j
 rw[beq_dec,beq_dec,beq_dec]
 by_cases e:j=0
 ·subst e;rw[decide_eq_true rfl,cond_true,decide_eq_false (show ¬ 0=rd.toNat by omega),cond_false,h]
 ·rw[decide_eq_false e,cond_false]
  by_cases e2:j=rd.toNat
  ·rw[decide_eq_true e2,decide_eq_true (by omega)]
  ·rw[decide_eq_false e2,decide_eq_false (by omega)]
theorem putR_0 {x:Nat->Int}{rd:Int}{v:Int} (hr:rd.toNat=0) (h:x 0=0):putR x rd (some v)=x:=funext fun j=>by
 show(bif Nat.beq j 0 then 0 else bif Nat.beq (j+1) (1+rd.toNat*1)then v else x j)=x j
 rw[beq_dec,beq_dec]
 by_cases e:j=0
 ·subst e;rw[decide_eq_true rfl,cond_true,h]
 ·rw[decide_eq_false e,decide_eq_false (by omega)];rfl
variable {p:Nat}{x d:Nat->Int}{op rd rs1 rs2 imm:Int} (hm:p≠main) (hx:x 0=0) (hi:L[p]?=some ⟨op,rd,rs1,rs2,imm⟩)
include hm hx hi
theorem st_pl (q:Nat) (v:Option Int) (h1:plainB op=true) (hn:nextF (amX ⟨p,x,d⟩) op ⟨rd,rs1,rs2,imm⟩=4*(q:Int)) (hv:valF (amX ⟨p,x,d⟩) op ⟨rd,rs1,rs2,imm⟩=v) :
  Sts L S C main ⟨p,x,d⟩ 1 ⟨q,putR x rd v,d⟩:=by
 refine Sts.one (i:=⟨op,rd,rs1,rs2,imm⟩) hm hi ?_
 unfold aStep
 show cond (plainB op) _ _=_
 rw[h1,cond_true]
 show cond (nextF (amX ⟨p,x,d⟩) op ⟨rd,rs1,rs2,imm⟩ % 4==0) (some (RA.mk ((nextF (amX ⟨p,x,d⟩) op ⟨rd,rs1,rs2,imm⟩).toNat / 4) (putR x rd (valF (amX ⟨p,x,d⟩) op ⟨rd,rs1,rs2,imm⟩)) d)) none=_
 rw[hn,hv,show(4*(q:Int)) % 4=0 by omega,show(4*(q:Int)).toNat / 4=q by omega];rfl
theorem st_op (v:Int) (h1:plainB op=true) (hr:rd.toNat≠0) (hn:nextF (amX ⟨p,x,d⟩) op ⟨rd,rs1,rs2,imm⟩=4*((p+1:Nat):Int)) (hv:valF (amX ⟨p,x,d⟩) op ⟨rd,rs1,rs2,imm⟩=some v) :
  Sts L S C main ⟨p,x,d⟩ 1 ⟨p+1,sx x rd.toNat v,d⟩:=by
 rw[<- putR_sx hr hx];exact st_pl hm hx hi (p+1) (some v) h1 hn hv
theorem st_ld (a:Nat) (h1:op=41) (hr:rd.toNat≠0) (hr2:rd.toNat<32) (ha:IntKind.u64.wrap (x rs1.toNat+ofF imm)=8*(a:Int)) (hS:8*a+8<=S) :
  Sts L S C main ⟨p,x,d⟩ 1 ⟨p+1,sx x rd.toNat (d a),d⟩:=by
 refine Sts.one (i:=⟨op,rd,rs1,rs2,imm⟩) hm hi ?_
 subst h1
 have e:aAt ⟨p,x,d⟩ ⟨41,rd,rs1,rs2,imm⟩=8*(a:Int):=ha
 have e2:plB S (8*(a:Int)) 8=true:=by
  unfold plB
  rw[decide_eq_true (by omega),decide_eq_true (by omega),show(8*(a:Int)) % 8=0 by omega];rfl
 unfold aStep
 show cond (plB S (aAt ⟨p,x,d⟩ ⟨41,rd,rs1,rs2,imm⟩) 8&&decide (rd.toNat<32)) _ _=_
 rw[e,e2,decide_eq_true hr2]
 show some (RA.mk (p+1) (zeroX fun j=>bif Nat.beq (j+1) (1+rd.toNat*1)then d ((8*(a:Int)).toNat / 8)else x j) d)=_
 rw[show(8*(a:Int)).toNat / 8=a by omega,<- putR_sx hr hx];rfl
theorem st_sd (a:Nat) (h1:op=44) (ha:IntKind.u64.wrap (x rs1.toNat+ofF imm)=8*(a:Int)) (hS:8*a+8<=S) (hC:C<=8*a) :
  Sts L S C main ⟨p,x,d⟩ 1 ⟨p+1,x,ud d a (x rs2.toNat)⟩:=by
 refine Sts.one (i:=⟨op,rd,rs1,rs2,imm⟩) hm hi ?_
 subst h1
 have e:aAt ⟨p,x,d⟩ ⟨44,rd,rs1,rs2,imm⟩=8*(a:Int):=ha
 have e2:plB S (8*(a:Int)) 8=true:=by
  unfold plB
  rw[decide_eq_true (by omega),decide_eq_true (by omega),show(8*(a:Int)) % 8=0 by omega];rfl
 unfold aStep
 show cond (plB S (aAt ⟨p,x,d⟩ ⟨44,rd,rs1,rs2,imm⟩) 8&&decide (C<=(aAt ⟨p,x,d⟩ ⟨44,rd,rs1,rs2,imm⟩).toNat)) _ _=_
 rw[e,e2,decide_eq_true (show C<=(8*(a:Int)).toNat by omega)]
 show some (RA.mk (p+1) (zeroX x) fun k=>bif Nat.beq k ((8*(a:Int)).toNat / 8)then x rs2.toNat else d k)=_
 rw[show(8*(a:Int)).toNat / 8=a by omega,zero_x hx];rfl
end
def RtL (L:List Ins):Prop:=∀ p,19<=p->L[p]?=(rtL 0x50000)[p]?
theorem rt139:(rtL 0x50000)[139]?=some ⟨50,0,10,11,36⟩:=by kernel_rfl
theorem rt140:(rtL 0x50000)[140]?=some ⟨44,0,10,0,0⟩:=by kernel_rfl
theorem rt141:(rtL 0x50000)[141]?=some ⟨44,0,30,0,0⟩:=by kernel_rfl
theorem rt142:(rtL 0x50000)[142]?=some ⟨44,0,30,0,8⟩:=by kernel_rfl
theorem rt143:(rtL 0x50000)[143]?=some ⟨44,0,30,0,16⟩:=by kernel_rfl
theorem rt144:(rtL 0x50000)[144]?=some ⟨44,0,30,0,24⟩:=by kernel_rfl
theorem rt145:(rtL 0x50000)[145]?=some ⟨28,10,10,0,8⟩:=by kernel_rfl
theorem rt146:(rtL 0x50000)[146]?=some ⟨28,30,30,0,32⟩:=by kernel_rfl
theorem rt147:(rtL 0x50000)[147]?=some ⟨53,0,0,0,-32⟩:=by kernel_rfl
abbrev Rt (L:List Ins):=Sts L 2621440 262144 149
def clr (d:Nat->Int) (k j n:Nat):Nat->Int:=fun i=>bif (Nat.ble k i&&Nat.blt i (k+n))||(Nat.ble j i&&Nat.blt i (j+4*n))then 0 else d i
theorem clr_0 (d:Nat->Int) (k j:Nat):clr d k j 0=d:=funext fun i=>by
 unfold clr
 rw[ble_dec,ble_dec,blt_dec,blt_dec]
 have:(decide (k<=i)&&decide (i<k+0)||decide (j<=i)&&decide (i<j+4*0))=false:=by simp<;>omega
 rw[this];rfl
theorem clr_succ (d:Nat->Int) (k j n:Nat):clr (ud (ud (ud (ud (ud d k 0) j 0) (j+1) 0) (j+2) 0) (j+3) 0) (k+1) (j+4) n=clr d k j (n+1):=funext fun i=>by
 unfold clr ud
 simp only[ble_dec,blt_dec,beq_dec]
 by_cases h1:k<=i/\i<k+(n+1)\/j<=i/\i<j+4*(n+1)
 ·rw[show(decide (k<=i)&&decide (i<k+(n+1))||decide (j<=i)&&decide (i<j+4*(n+1)))=true by simp;omega,cond_true]
  by_cases h2:i=k\/i=j\/i=j+1\/i=j+2\/i=j+3
  ·cases (decide (k+1<=i)&&decide (i<k+1+n)||decide (j+4<=i)&&decide (i<j+4+4*n))
   ·rw[cond_false]
    rcases h2 with rfl|rfl|rfl|rfl|rfl<;>simp
   ·rfl
  ·rw[show(decide (k+1<=i)&&decide (i<k+1+n)||decide (j+4<=i)&&decide (i<j+4+4*n))=true by simp;omega];rfl
 ·rw[show(decide (k<=i)&&decide (i<k+(n+1))||decide (j<=i)&&decide (i<j+4*(n+1)))=false by simp;omega,
   show(decide (k+1<=i)&&decide (i<k+1+n)||decide (j+4<=i)&&decide (i<j+4+4*n))=false by simp;omega,
   decide_eq_false (show ¬ i=j+3 by omega),decide_eq_false (show ¬ i=j+2 by omega),decide_eq_false (show ¬ i=j+1 by omega),decide_eq_false (show ¬ i=j by omega),decide_eq_false (show ¬ i=k by omega)]
  rfl
theorem addw {a b:Nat} (h:a+b<18446744073709551616):IntKind.u64.wrap ((a:Int)+ofF b)=((a+b:Nat):Int):=by
 unfold ofF;rw[u64w,u64w];omega
section
variable {L:List Ins} (hL:RtL L)
include hL
theorem clr_round {k j e:Nat}{x d:Nat->Int} (hx:x 0=0) (h10:x 10=((8*k:Nat):Int)) (h11:x 11=(e:Int)) (h30:x 30=((8*j:Nat):Int)) (hlt:8*k<e)
  (b1:262144<=8*k) (b2:8*k+8<=2621440) (b3:262144<=8*j) (b4:8*j+32<=2621440) :
  Rt L ⟨139,x,d⟩ 9 ⟨139,sx (sx x 10 ((8*(k+1):Nat):Int)) 30 ((8*(j+4):Nat):Int),ud (ud (ud (ud (ud d k 0) j 0) (j+1) 0) (j+2) 0) (j+3) 0⟩:=by
 have go:∀ {p:Nat},19<=p->L[p]?=(rtL 0x50000)[p]?:=fun {p} h=>hL p h
 have s0:=st_pl (S:=2621440) (C:=262144) (main:=149) (d:=d) (by decide) hx ((go (by decide)).trans rt139) 140 none rfl (by
  show(bif takenF 50 (x 10) (x 11)then IntKind.u64.wrap (4*((139:Nat):Int)+ofF 36)else nxt (amX ⟨139,x,d⟩))=_
  have:takenF 50 (x 10) (x 11)=false:=by
   show(decide (x 10<x 11)==false)=false
   rw[h10,h11,decide_eq_true (by omega)];rfl
  rw[this];rfl) rfl
 rw[show putR x 0 none=x from zero_x hx]at s0
 have s1:Rt L ⟨140,x,d⟩ 1 ⟨141,x,ud d k (x 0)⟩:=st_sd (S:=2621440) (C:=262144) (main:=149) (d:=d) (by decide) hx ((go (by decide)).trans rt140) k rfl (by show IntKind.u64.wrap (x 10+ofF 0)=_;rw[h10];exact(addw (b:=0) (by omega)).trans (by omega)) b2 b1
 have hs:∀ {p c:Nat}{d:Nat->Int},p≠149->L[p]?=some ⟨44,0,30,0,((8*c:Nat):Int)⟩->c<4->Rt L ⟨p,x,d⟩ 1 ⟨p+1,x,ud d (j+c) (x 0)⟩:=fun {p c d} hp hi hc =>
  st_sd (S:=2621440) (C:=262144) (main:=149) (d:=d) hp hx hi (j+c) rfl (by show IntKind.u64.wrap (x 30+ofF _)=_;rw[h30];exact(addw (by omega)).trans (by omega)) (by omega) (by omega)
 have s2:=hs (p:=141) (c:=0) (d:=ud d k (x 0)) (by decide) ((go (by decide)).trans rt141) (by decide)
 have s3:=hs (p:=142) (c:=1) (d:=ud (ud d k (x 0)) j (x 0)) (by decide) ((go (by decide)).trans rt142) (by decide)
 have s4:=hs (p:=143) (c:=2) (d:=ud (ud (ud d k (x 0)) j (x 0)) (j+1) (x 0)) (by decide) ((go (by decide)).trans rt143) (by decide)
 have s5:=hs (p:=144) (c:=3) (d:=ud (ud (ud (ud d k (x 0)) j (x 0)) (j+1) (x 0)) (j+2) (x 0)) (by decide) ((go (by decide)).trans rt144) (by decide)
 rw[hx]at s1 s2 s3 s4 s5
 have s6:=st_op (S:=2621440) (C:=262144) (main:=149) (d:=ud (ud (ud (ud (ud d k 0) j 0) (j+1) 0) (j+2) 0) (j+3) 0) (by decide) hx ((go (by decide)).trans rt145) ((8*(k+1):Nat):Int) rfl (by decide) rfl (by
  show some (IntKind.u64.wrap (x 10+ofF 8))=_
  rw[h10];exact congrArg some ((addw (b:=8) (by omega)).trans (by omega)))
 have s7:=st_op (S:=2621440) (C:=262144) (main:=149) (d:=ud (ud (ud (ud (ud d k 0) j 0) (j+1) 0) (j+2) 0) (j+3) 0) (x:=sx x 10 ((8*(k+1):Nat):Int)) (by decide) hx ((go (by decide)).trans rt146) ((8*(j+4):Nat):Int) rfl (by decide) rfl (by
  show some (IntKind.u64.wrap (x 30+ofF 32))=_
  rw[h30];exact congrArg some ((addw (b:=32) (by omega)).trans (by omega)))
 have s8:=st_pl (S:=2621440) (C:=262144) (main:=149) (d:=ud (ud (ud (ud (ud d k 0) j 0) (j+1) 0) (j+2) 0) (j+3) 0) (x:=sx (sx x 10 ((8*(k+1):Nat):Int)) 30 ((8*(j+4):Nat):Int)) (by decide) hx ((go (by decide)).trans rt147) 139 (some (nxt (amX ⟨147,x,d⟩))) rfl (by show IntKind.u64.wrap (4*((147:Nat):Int)+ofF (-32))=_;unfold ofF;rw[u64w,u64w];omega) rfl
 rw[show ∀ v,putR (sx (sx x 10 ((8*(k+1):Nat):Int)) 30 ((8*(j+4):Nat):Int)) 0 (some v)=sx (sx x 10 ((8*(k+1):Nat):Int)) 30 ((8*(j+4):Nat):Int) from fun v=>putR_0 rfl hx]at s8
 exact s0.trans (s1.trans (s2.trans (s3.trans (s4.trans (s5.trans (s6.trans (s7.trans s8)))))))
theorem clr_loop:∀ (n:Nat){k j:Nat}{x d:Nat->Int},x 0=0->x 10=((8*k:Nat):Int)->x 11=((8*(k+n):Nat):Int)->x 30=((8*j:Nat):Int)->262144<=8*k->8*(k+n)<=2621440->262144<=8*j->8*(j+4*n)<=2621440 ->
  ∃ x',Rt L ⟨139,x,d⟩ (9*n+1) ⟨148,x',clr d k j n⟩/\∀ r,r≠10->r≠30->x' r=x r
 |0,k,j,x,d,hx,h10,h11,h30,b1,b2,b3,b4=>by
  have s0:=st_pl (S:=2621440) (C:=262144) (main:=149) (d:=d) (by decide) hx ((hL 139 (by decide)).trans rt139) 148 none rfl (by
   show(bif takenF 50 (x 10) (x 11)then IntKind.u64.wrap (4*((139:Nat):Int)+ofF 36)else nxt (amX ⟨139,x,d⟩))=_
   have:takenF 50 (x 10) (x 11)=true:=by
    show(decide (x 10<x 11)==false)=true
    rw[h10,h11,decide_eq_false (by omega)];rfl
   rw[this];rfl) rfl
  rw[show putR x 0 none=x from zero_x hx]at s0
  rw[clr_0]
  exact⟨x,s0,fun _ _ _=>rfl⟩
 |n+1,k,j,x,d,hx,h10,h11,h30,b1,b2,b3,b4=>by
  have r:=clr_round hL (d:=d) hx h10 h11 h30 (by omega) b1 (by omega) b3 (by omega)
  obtain⟨x',h1,h2⟩:=clr_loop n (k:=k+1) (j:=j+4) (x:=sx (sx x 10 ((8*(k+1):Nat):Int)) 30 ((8*(j+4):Nat):Int)) (d:=ud (ud (ud (ud (ud d k 0) j 0) (j+1) 0) (j+2) 0) (j+3) 0) hx rfl
   (by show x 11=_;rw[h11];omega) rfl (by omega) (by omega) (by omega) (by omega)
  rw[clr_succ]at h1
  refine⟨x',?_,fun r hr1 hr2=>?_⟩
  ·have:=r.trans h1
   rw[show 9*(n+1)+1=9+(9*n+1) by omega];exact this
  ·rw[h2 r hr1 hr2]
   show(bif Nat.beq r 30 then _ else bif Nat.beq r 10 then _ else x r)=_
   rw[beq_ff hr2,beq_ff hr1];rfl
end
end Go.X
