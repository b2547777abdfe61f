import Derived.Test.YtkghggngmpmigaaD25
set_option linter.all false
namespace Go.X
open Go Go.Proofs
structure LD where
 N:Nat
 C:Nat
 at_:Int
 I:Its
 wd:Nat->Bool
 m:LMap
 pl:Nat->Int
def itsOf (f:Nat->List Value):Its:=⟨fun j=>asS ((f j).getD 0 undefd),fun j=>asS ((f j).getD 6 undefd),fun j=>asI ((f j).getD 1 undefd),fun j=>asI ((f j).getD 2 undefd),fun j=>asI ((f j).getD 3 undefd),
 fun j=>asI ((f j).getD 4 undefd),fun j=>asI ((f j).getD 5 undefd),fun j=>asI ((f j).getD 7 undefd)⟩
def ldOf (b1 b2 b3 b4 b5:Blk):Option LD :=
 match b1,b2,b3,b4,b5 with
 | .var [.slice _ N C,_,.int _ a,_,_],.rows _ _ f _ _,.rows _ _ g _ _,.map _ _ n has val,.rows _ _ p _ _ =>
  some ⟨N,C,a,itsOf f,fun j=>asB ((g j).getD 0 undefd),⟨n,has,fun q=>asI (val q)⟩,fun j=>asI ((p j).getD 0 undefd)⟩
 |_,_,_,_,_=>none
def LD.H (D:LD):List (Nat × Blk):=laidH D.N D.C D.at_ D.I D.wd D.m D.pl
def LD.Is (D:LD) (b1 b2 b3 b4 b5:Blk):Prop :=
 b1=laidB D.N D.C D.at_/\b2=.rows D.N 8 D.I.row false true/\b3=.rows D.N 1 (bools D.wd) false false/\b4=D.m.blk/\b5=.rows D.N 1 (ints D.pl) false false/\D.N<9223372036854775808
def LD.At (D:LD) (h:Hp):Prop :=
 hget h 103=some (laidB D.N D.C D.at_)/\hget h 2=some (.rows D.N 8 D.I.row false true)/\hget h 100=some (.rows D.N 1 (bools D.wd) false false)/\hget h 101=some D.m.blk/\hget h 102=some (.rows D.N 1 (ints D.pl) false false)/\D.N<9223372036854775808
noncomputable def ldAt (h:Hp):Option (LD × Bool) :=
 match hget h 103,hget h 2,hget h 100,hget h 101,hget h 102 with
 |some b1,some b2,some b3,some b4,some b5=>match ldOf b1 b2 b3 b4 b5 with
  |some D=>some (D,decP (D.Is b1 b2 b3 b4 b5))
  |none=>none
 |_,_,_,_,_=>none
theorem ldAt_some {h:Hp}{D:LD} (hx:ldAt h=some (D,true)):D.At h:=by
 unfold ldAt at hx
 split at hx
 ·rename_i b1 b2 b3 b4 b5 h1 h2 h3 h4 h5
  split at hx
  ·simp only[Option.some.injEq,Prod.mk.injEq]at hx
   obtain⟨rfl,hp⟩:=hx
   obtain⟨e1,e2,e3,e4,e5,hN⟩:=of_decP hp
   exact⟨by rw[h1,e1],by rw[h2,e2],by rw[h3,e3],by rw[h4,e4],by rw[h5,e5],hN⟩
  ·cases hx
 ·cases hx
theorem LD.At.pre {D:LD}{h:Hp} (H:D.At h):∀ id∈fstL (mkH D.H),hget h id=hget (mkH D.H) id:=by
 obtain⟨h1,h2,h3,h4,h5,_⟩:=H
 intro id hid
 simp only[LD.H,laidH,mkH,fstL,List.mem_cons,List.not_mem_nil,or_false]at hid
 rcases hid with rfl|rfl|rfl|rfl|rfl
 ·exact h1
 ·exact h2
 ·exact h3
 ·exact h4
 ·exact h5
abbrev idπ:List (Nat × Nat):=[(103,103),(2,2),(100,100),(101,101),(102,102)]
section
variable (N C:Nat) (at_:Int) (I:Its) (wd:Nat->Bool) (m:LMap) (pl:Nat->Int)
theorem hs_laid:HsOK Try.prog (asc idπ) (hget (mkH (laidH N C at_ I wd m pl))) [] (mkH (laidH N C at_ I wd m pl)):=⟨rfl,bis_its,bis_bools,bis_lmap,bis_ints,trivial⟩
theorem c39 (hN:N<9223372036854775808) (n:Nat):ADet Try.prog 21 [pp] (mkH (laidH N C at_ I wd m pl)) (.int .i64 (checkE I at_ N m)) [(101,some (checkM I at_ N m).blk)] n 0 :=
 adet_of_body (b39 N C at_ I wd pl m hN) idπ [] rfl rfl (hs_laid N C at_ I wd m pl) rfl rfl ⟨bis_lmap,rfl,bis_its,bis_bools,trivial,bis_ints,trivial⟩ rfl
theorem c40 (hN:N<9223372036854775808) (n:Nat):ADet Try.prog 22 [pp] (mkH (laidH N C at_ I wd m pl)) (.tuple ⟨[]⟩) [(101,some (layIt I wd ⟨at_,m,pl⟩ N).m.blk),(102,some (.rows N 1 (ints (layIt I wd ⟨at_,m,pl⟩ N).pl) false false))] n 0 :=
 adet_of_body (b40 N C at_ I wd m pl hN) idπ [] rfl rfl (hs_laid N C at_ I wd m pl) rfl rfl ⟨bis_lmap,bis_ints,rfl,bis_its,bis_bools,trivial,trivial,trivial⟩ rfl
theorem c41 (hN:N<9223372036854775808) (n:Nat):ADet Try.prog 23 [pp] (mkH (laidH N C at_ I wd m pl)) (.bool (widIt I m pl ⟨false,wd⟩ N).more) [(100,some (.rows N 1 (bools (widIt I m pl ⟨false,wd⟩ N).wd) false false))] n 0 :=
 adet_of_body (b41 N C at_ I m pl wd hN) idπ [] rfl rfl (hs_laid N C at_ I wd m pl) rfl rfl ⟨bis_bools,rfl,bis_its,trivial,bis_lmap,bis_ints,trivial⟩ rfl
theorem ne_of_ble {n k:Nat} (h:104<=n) (hk:k<104):Nat.beq k n=false/\Nat.beq n k=false:=by
 constructor
 ·cases hb:Nat.beq k n with
  |false=>rfl
  |true=>have:=Nat.eq_of_beq_eq_true hb;omega
 ·cases hb:Nat.beq n k with
  |false=>rfl
  |true=>have:=Nat.eq_of_beq_eq_true hb;omega
theorem c42 (k:Nat) (hk:k<N) (n:Nat) (hn:104<=n):ADet Try.prog 24 [pp,.int .i64 k] (mkH (laidH N C at_ I wd m pl)) (.slice (some ⟨n,0,none⟩) (wordsN I wd k) (wordsN I wd k)) [(n,some (.rows (wordsN I wd k) 5 (wordsR I wd m pl k) false false))] n 1:=by
 obtain⟨a1,b1⟩:=ne_of_ble (k:=103) hn (by omega)
 obtain⟨a2,b2⟩:=ne_of_ble (k:=2) hn (by omega)
 obtain⟨a3,b3⟩:=ne_of_ble (k:=100) hn (by omega)
 obtain⟨a4,b4⟩:=ne_of_ble (k:=101) hn (by omega)
 obtain⟨a5,b5⟩:=ne_of_ble (k:=102) hn (by omega)
 have hnn:Nat.beq n n=true:=by simp
 refine adet_of_body (b42 N C at_ I m pl wd k hk) idπ [(n,104)] ?_ rfl (hs_laid N C at_ I wd m pl) rfl ?_ ?_ ?_
 ·refine(show((true&&(Nat.ble n n&&Nat.blt n (n+1)&&true))&&true&&true)=true from ?_)
  simp[lt_blt]
 ·show renP _ _ _ _ _=_
  simp only[renP,List.cons_append,asc,hnn,cond_true]
 ·have s:∀ x,(Nat.beq n x=false)->asc ((n,104) :: flip idπ) x=asc (flip idπ) x:=fun x hx=>by simp only[asc,hx,cond_false]
  have s0:asc ((n,104) :: flip idπ) n=some 104:=by simp only[asc,hnn,cond_true]
  simp only[List.cons_append,List.nil_append,laidH,mkH,HsOK,natMem,a1,a2,a3,a4,a5,b1,b2,b3,b4,b5,Bool.or_false,Bool.false_or,s _ b1,s _ b2,s _ b3,s _ b4,s _ b5,s0]
  have hb:BIs Try.prog (asc ((n,104) :: flip idπ)) (laidB N C at_) (laidB N C at_):=by
   show renL (ren (asc ((n,104) :: flip idπ)) 4) [.slice (some ⟨2,0,none⟩) N C,.slice (some ⟨100,0,none⟩) N N,.int .i64 at_,.map (some 101),.slice (some ⟨102,0,none⟩) N N]=_
   simp only[renL,ren,renP,s _ b2,s _ b3,s _ b4,s _ b5]
   rfl
  exact⟨bis_rw fun j hj=>by unfold wordsR;cases Nat.beq j 0<;>rfl,hb,bis_its,bis_bools,bis_lmap,bis_ints,trivial⟩
 ·have s:∀ x,(Nat.beq n x=false)->asc ((n,104) :: flip idπ) x=asc (flip idπ) x:=fun x hx=>by simp only[asc,hx,cond_false]
  have s0:asc ((n,104) :: flip idπ) n=some 104:=by simp only[asc,hnn,cond_true]
  simp only[List.cons_append,List.nil_append,laidH,mkH,namesOf,natMem,a1,a2,a3,a4,a5,b1,b2,b3,b4,b5,Bool.or_false,Bool.false_or,s _ b1,s _ b2,s _ b3,s _ b4,s _ b5,s0]
  rfl
end
def laidA (N C:Nat) (at_:Int) (I:Its) (wd:Nat->Bool) (m:LMap) (pl:Nat->Int):List (Nat × Blk) :=
 [(100,.rows N 1 (bools wd) false false),(101,m.blk),(102,.rows N 1 (ints pl) false false),(103,laidB N C at_),(2,.rows N 8 I.row false true)]
def insR (R:Nat->Ins):Nat->List Value:=fun j=>(R j).row
def isPP:List Value->Option (List Value)
 | .pointer (some ⟨103,0,some 0⟩) :: vs=>some vs
 |_=>none
noncomputable def con39:Con Try.prog where
 f:=21
 run:=fun vs h n=>match isPP vs,ldAt h with
  |some [],some (D,hA)=>some (mkH D.H,.int .i64 (checkE D.I D.at_ D.N D.m),[(101,some (checkM D.I D.at_ D.N D.m).blk)],0,hA)
  |_,_=>none
 ok:=fun vs h n pre v upd news hx=>by
  split at hx
  ·rename_i D hA hp hd
   simp only[Option.some.injEq,Prod.mk.injEq]at hx
   obtain⟨rfl,rfl,rfl,rfl,rfl⟩:=hx
   have hA:=ldAt_some hd
   refine⟨hA.pre,?_⟩
   have:vs=[pp]:=by
    unfold isPP at hp;split at hp
    ·cases hp;rfl
    ·cases hp
   subst this
   exact c39 _ _ _ _ _ _ _ hA.2.2.2.2.2 n
  ·cases hx
noncomputable def con40:Con Try.prog where
 f:=22
 run:=fun vs h n=>match isPP vs,ldAt h with
  |some [],some (D,hA)=>some (mkH D.H,.tuple ⟨[]⟩,[(101,some (layIt D.I D.wd ⟨D.at_,D.m,D.pl⟩ D.N).m.blk),(102,some (.rows D.N 1 (ints (layIt D.I D.wd ⟨D.at_,D.m,D.pl⟩ D.N).pl) false false))],0,hA)
  |_,_=>none
 ok:=fun vs h n pre v upd news hx=>by
  split at hx
  ·rename_i D hA hp hd
   simp only[Option.some.injEq,Prod.mk.injEq]at hx
   obtain⟨rfl,rfl,rfl,rfl,rfl⟩:=hx
   have hA:=ldAt_some hd
   refine⟨hA.pre,?_⟩
   have:vs=[pp]:=by
    unfold isPP at hp;split at hp
    ·cases hp;rfl
    ·cases hp
   subst this
   exact c40 _ _ _ _ _ _ _ hA.2.2.2.2.2 n
  ·cases hx
noncomputable def con41:Con Try.prog where
 f:=23
 run:=fun vs h n=>match isPP vs,ldAt h with
  |some [],some (D,hA)=>some (mkH D.H,.bool (widIt D.I D.m D.pl ⟨false,D.wd⟩ D.N).more,[(100,some (.rows D.N 1 (bools (widIt D.I D.m D.pl ⟨false,D.wd⟩ D.N).wd) false false))],0,hA)
  |_,_=>none
 ok:=fun vs h n pre v upd news hx=>by
  split at hx
  ·rename_i D hA hp hd
   simp only[Option.some.injEq,Prod.mk.injEq]at hx
   obtain⟨rfl,rfl,rfl,rfl,rfl⟩:=hx
   have hA:=ldAt_some hd
   refine⟨hA.pre,?_⟩
   have:vs=[pp]:=by
    unfold isPP at hp;split at hp
    ·cases hp;rfl
    ·cases hp
   subst this
   exact c41 _ _ _ _ _ _ _ hA.2.2.2.2.2 n
  ·cases hx
noncomputable def con42:Con Try.prog where
 f:=24
 run:=fun vs h n=>match isPP vs,ldAt h with
  |some [.int .i64 k],some (D,hA)=>some (mkH D.H,.slice (some ⟨n,0,none⟩) (wordsN D.I D.wd k.toNat) (wordsN D.I D.wd k.toNat),[(n,some (.rows (wordsN D.I D.wd k.toNat) 5 (wordsR D.I D.wd D.m D.pl k.toNat) false false))],1,
   hA&&(decide (0<=k)&&(decide (k<D.N)&&Nat.ble 104 n)))
  |_,_=>none
 ok:=fun vs h n pre v upd news hx=>by
  split at hx
  ·rename_i k D hA hp hd
   simp only[Option.some.injEq,Prod.mk.injEq,Bool.and_eq_true,decide_eq_true_eq]at hx
   obtain⟨rfl,rfl,rfl,rfl,rfl,h0,hk,hn⟩:=hx
   have hA:=ldAt_some hd
   have hn:=ble_le hn
   refine⟨hA.pre,?_⟩
   have:vs=[pp,.int .i64 (k.toNat:Int)]:=by
    rw[Int.toNat_of_nonneg h0]
    unfold isPP at hp;split at hp
    ·cases hp;rfl
    ·cases hp
   subst this
   exact c42 _ _ _ _ _ _ _ k.toNat (by omega) n hn
  ·cases hx
noncomputable abbrev scE:Short:=scOf [con39,con40,con41,con42,con43,con18,con44,con52,con54,con55,con56,con71,con53,con51]
theorem FOKE:FnsOK Try.prog (lookF FL) scE:=fok FOK _
end Go.X
