import Derived.Test.YtghpjlmaamnnpaaDoorH09
set_option linter.all false
namespace Go.X
open Go
theorem eqCells_split:∀ (k1 k2:List Nat) (xs ys:List Value) (b:Bool),eqCells (k1++k2) xs ys=some b →
  k1.length ≤ xs.length ∧ k1.length ≤ ys.length ∧ ∃ b1 b2,eqCells k1 (xs.take k1.length) (ys.take k1.length)=some b1 ∧ eqCells k2 (xs.drop k1.length) (ys.drop k1.length)=some b2 ∧ b=(b1&&b2)
 |[],k2,xs,ys,b,h=>⟨by simp,by simp,true,b,by simp[eqCells],by simpa using h,by simp⟩
 |k :: k1,k2,xs,ys,b,h=>by
  simp only[List.cons_append]at h
  unfold eqCells at h
  split at h
  ·rename_i heq;cases heq
  ·rename_i ks q a x q' b' y heq
   cases heq
   split at h
   ·rename_i c hd hc
    simp only[Option.some.injEq]at h
    subst h
    obtain⟨e1,e2,b1,b2,h1,h2,h3⟩:=eqCells_split k1 k2 x y c hc
    refine⟨by simp;omega,by simp;omega,(a==b'&&b1),b2,?_,by simpa using h2,by rw[h3,Bool.and_assoc]⟩
    simp only[List.length_cons,List.take_succ_cons,eqCells,hd,h1]
   ·cases h
  ·rename_i ks a x b' y heq
   cases heq
   split at h
   ·rename_i c hc
    simp only[Option.some.injEq]at h
    subst h
    obtain⟨e1,e2,b1,b2,h1,h2,h3⟩:=eqCells_split k1 k2 x y c hc
    refine⟨by simp;omega,by simp;omega,(a.toList==b'.toList&&b1),b2,?_,by simpa using h2,by rw[h3,Bool.and_assoc]⟩
    simp only[List.length_cons,List.take_succ_cons,eqCells,h1]
   ·cases h
  ·rename_i ks a x b' y heq
   cases heq
   split at h
   ·rename_i c hc
    simp only[Option.some.injEq]at h
    subst h
    obtain⟨e1,e2,b1,b2,h1,h2,h3⟩:=eqCells_split k1 k2 x y c hc
    refine⟨by simp;omega,by simp;omega,(a==b'&&b1),b2,?_,by simpa using h2,by rw[h3,Bool.and_assoc]⟩
    simp only[List.length_cons,List.take_succ_cons,eqCells,h1]
   ·cases h
  ·cases h
theorem eqCells_len:∀ (ks:List Nat) (xs ys:List Value) (b:Bool),eqCells ks xs ys=some b → xs.length=ks.length ∧ ys.length=ks.length:=by
 intro ks
 induction ks with
 |nil =>
  intro xs ys b h
  unfold eqCells at h
  split at h
  ·exact⟨rfl,rfl⟩
  all_goals first|(rename_i heq;cases heq;done)|cases h
 |cons k ks ih =>
  intro xs ys b h
  unfold eqCells at h
  split at h
  ·rename_i heq;cases heq
  ·rename_i heq;cases heq
   split at h
   ·rename_i hc;obtain⟨e1,e2⟩:=ih _ _ _ hc;exact⟨by simp[e1],by simp[e2]⟩
   ·cases h
  ·rename_i heq;cases heq
   split at h
   ·rename_i hc;obtain⟨e1,e2⟩:=ih _ _ _ hc;exact⟨by simp[e1],by simp[e2]⟩
   ·cases h
  ·rename_i heq;cases heq
   split at h
   ·rename_i hc;obtain⟨e1,e2⟩:=ih _ _ _ hc;exact⟨by simp[e1],by simp[e2]⟩
   ·cases h
  ·cases h
def IsVal (P:Program) (t:TypeId) (X:Value) (xs:List Value):Prop:=(aggT P t=some true ∧ X=.agg ⟨xs⟩) ∨ (aggT P t=some false ∧ xs=[X])
theorem eqT_facts {P:Program}:∀ {d:Nat}{t:TypeId}{ks:List Nat},eqT P d t=some ks → sizeT P t=some ks.length ∧ ∃ a,aggT P t=some a ∧ (a=false → ks.length=1):=by
 intro d
 cases d with
 |zero=>intro t ks h;simp[eqT]at h
 |succ d =>
  intro t ks h
  unfold eqT at h
  unfold aggT
  split at h
  ·rename_i k hu
   split at h
   ·rename_i hs;simp only[Option.some.injEq]at h;subst h;exact⟨hs,false,by rw[hu],fun _=>rfl⟩
   ·cases h
  ·rename_i hu
   split at h
   ·rename_i hs;simp only[Option.some.injEq]at h;subst h;exact⟨hs,false,by rw[hu],fun _=>rfl⟩
   ·cases h
  ·rename_i hu
   split at h
   ·rename_i hs;simp only[Option.some.injEq]at h;subst h;exact⟨hs,false,by rw[hu],fun _=>rfl⟩
   ·cases h
  ·rename_i fs hu
   cases hsd:P.stoodInHeld t with
   |true=>simp[hsd]at h
   |false =>
    simp only[hsd,cond_false]at h
    split at h
    ·rename_i ks' n h1 h2
     cases hb:Nat.beq ks'.length n with
     |false=>simp[hb]at h
     |true =>
      simp only[hb,cond_true,Option.some.injEq]at h
      subst h
      exact⟨by rw[h2,Nat.eq_of_beq_eq_true hb],true,by rw[hu],fun h=>by cases h⟩
    ·cases h
  ·rename_i n e hu
   split at h
   ·rename_i ks' s h1 h2
    cases hb:Nat.beq (eqRep n ks').length s with
    |false=>simp[hb]at h
    |true =>
     simp only[hb,cond_true,Option.some.injEq]at h
     subst h
     exact⟨by rw[h2,Nat.eq_of_beq_eq_true hb],true,by rw[hu],fun h=>by cases h⟩
   ·cases h
  ·cases h
theorem part_run {P:Program}{w:World}{t:TypeId}{n off:Nat}{a:Bool}{cs:List Value} (h1:aggT P t=some a) (h2:sizeT P t=some n) (hn:a=false → n=1) (hle:off+n ≤ cs.length) :
  ∃ X,(part t ⟨cs⟩ off).run P w=.ok X w ∧ IsVal P t X (slab cs off n):=by
 cases a with
 |true =>
  refine⟨.agg ((⟨cs⟩:Array Value).extract off (off+n)),by simp only[part,Sem.run_bind,isAgg_run h1,sizeOf_run h2,Result.andThen_ok,if_true,Sem.run_pure],.inl ⟨h1,?_⟩⟩
  congr 1
  apply Array.ext'
  simp[slab,List.extract_eq_take_drop]
 |false =>
  have:=hn rfl
  subst this
  have hlt:off<cs.length:=by omega
  refine⟨cs[off],by simp[part,isAgg_run h1,hlt],.inr ⟨h1,?_⟩⟩
  unfold slab
  rw[List.drop_eq_getElem_cons hlt]
  rfl
theorem eqCells_nil {xs ys:List Value}{b:Bool} (h:eqCells [] xs ys=some b):b=true:=by
 cases xs<;>cases ys<;>simp[eqCells]at h
 exact h
theorem eqCells_int {xs ys:List Value}{b:Bool} (h:eqCells [0] xs ys=some b):∃ k x y,xs=[.int k x] ∧ ys=[.int k y] ∧ b=(x==y):=by
 have hl:=eqCells_len _ _ _ _ h
 obtain⟨x,rfl⟩:=List.length_eq_one_iff.1 hl.1
 obtain⟨y,rfl⟩:=List.length_eq_one_iff.1 hl.2
 cases x<;>cases y<;>simp[eqCells]at h
 rename_i k a k' b'
 by_cases e:k=k'
 ·subst e
  simp at h
  exact⟨k,a,b',rfl,rfl,h.symm⟩
 ·simp[e]at h
theorem eqCells_string {xs ys:List Value}{b:Bool} (h:eqCells [1] xs ys=some b):∃ x y,xs=[.string x] ∧ ys=[.string y] ∧ b=(x.toList==y.toList):=by
 have hl:=eqCells_len _ _ _ _ h
 obtain⟨x,rfl⟩:=List.length_eq_one_iff.1 hl.1
 obtain⟨y,rfl⟩:=List.length_eq_one_iff.1 hl.2
 cases x<;>cases y<;>simp[eqCells]at h
 exact⟨_,_,rfl,rfl,h.symm⟩
theorem eqCells_bool {xs ys:List Value}{b:Bool} (h:eqCells [2] xs ys=some b):∃ x y,xs=[.bool x] ∧ ys=[.bool y] ∧ b=(x==y):=by
 have hl:=eqCells_len _ _ _ _ h
 obtain⟨x,rfl⟩:=List.length_eq_one_iff.1 hl.1
 obtain⟨y,rfl⟩:=List.length_eq_one_iff.1 hl.2
 cases x<;>cases y<;>simp[eqCells]at h
 exact⟨_,_,rfl,rfl,h.symm⟩
theorem isVal_agg {P:Program}{t:TypeId}{X:Value}{xs:List Value} (h:IsVal P t X xs) (ha:aggT P t=some true):X=.agg ⟨xs⟩:=by
 rcases h with⟨_,h⟩|⟨h,_⟩
 ·exact h
 ·rw[ha]at h;cases h
theorem isVal_one {P:Program}{t:TypeId}{X:Value}{xs:List Value} (h:IsVal P t X xs) (ha:aggT P t=some false):xs=[X]:=by
 rcases h with⟨h,_⟩|⟨_,h⟩
 ·rw[ha]at h;cases h
 ·exact h
theorem eqT_run {P:Program}:∀ (d:Nat) (t:TypeId) (ks:List Nat),eqT P d t=some ks → ∀ (D:Nat),d ≤ D → ∀ (w:World) (xs ys:List Value) (b:Bool) (X Y:Value),eqCells ks xs ys=some b → IsVal P t X xs → IsVal P t Y ys →
  (Op.equalIn D t X Y).run P w=.ok b w:=by
 intro d
 induction d with
 |zero=>intro t ks h;simp[eqT]at h
 |succ d ih =>
  intro t ks h D hD w xs ys b X Y he hX hY
  obtain⟨D,rfl⟩:∃ m,D=m+1:=⟨D-1,by omega⟩
  have hfacts:=eqT_facts h
  unfold eqT at h
  split at h
  ·rename_i k hu
   split at h
   ·simp only[Option.some.injEq]at h;subst h
    have ha:aggT P t=some false:=by unfold aggT;rw[hu]
    have hx:=isVal_one hX ha
    have hy:=isVal_one hY ha
    obtain⟨q,x,y,e1,e2,rfl⟩:=eqCells_int he
    rw[hx]at e1;rw[hy]at e2
    cases e1;cases e2
    exact run_equalIn_int w D t q k x y hu
   ·cases h
  ·rename_i hu
   split at h
   ·simp only[Option.some.injEq]at h;subst h
    have ha:aggT P t=some false:=by unfold aggT;rw[hu]
    have hx:=isVal_one hX ha
    have hy:=isVal_one hY ha
    obtain⟨x,y,e1,e2,rfl⟩:=eqCells_string he
    rw[hx]at e1;rw[hy]at e2
    cases e1;cases e2
    exact run_equalIn_string w D t x y hu
   ·cases h
  ·rename_i hu
   split at h
   ·simp only[Option.some.injEq]at h;subst h
    have ha:aggT P t=some false:=by unfold aggT;rw[hu]
    have hx:=isVal_one hX ha
    have hy:=isVal_one hY ha
    obtain⟨x,y,e1,e2,rfl⟩:=eqCells_bool he
    rw[hx]at e1;rw[hy]at e2
    cases e1;cases e2
    exact run_equalIn_bool' w D t x y hu
   ·cases h
  ·rename_i fs hu
   have ha:aggT P t=some true:=by unfold aggT;rw[hu]
   have:=isVal_agg hX ha;subst this
   have:=isVal_agg hY ha;subst this
   cases hsd:P.stoodInHeld t with
   |true=>simp[hsd]at h
   |false =>
    simp only[hsd,cond_false]at h
    split at h
    ·rename_i ks' n h1 h2
     cases hb:Nat.beq ks'.length n with
     |false=>simp[hb]at h
     |true =>
      simp only[hb,cond_true,Option.some.injEq]at h
      subst h
      have hfo:P.fieldsOf t=fs:=by unfold Program.fieldsOf;rw[hu]
      rw[run_equalIn_struct w D t _ _ (by rw[hfo];exact hu) hsd,hfo]
      have gen:∀ (fl:List Field) (o:Nat) (ms:List Nat) (b:Bool),eqFs (eqT P d) fl o=some ms → eqCells ms (xs.drop o) (ys.drop o)=some b → (Op.eqFields D ⟨xs⟩ ⟨ys⟩ fl).run P w=.ok b w:=by
       intro fl
       induction fl with
       |nil =>
        intro o ms b hms hb
        simp only[eqFs,Option.some.injEq]at hms
        subst hms
        have:=eqCells_nil hb;subst this
        simp[Op.eqFields]
       |cons f fl ihf =>
        intro o ms b hms hb
        unfold eqFs at hms
        split at hms
        ·rename_i kf hkf
         cases hc : (Nat.beq f.offset o && f.name != "_") with
         |false=>simp[hc]at hms
         |true =>
          simp only[hc,cond_true]at hms
          simp only[Bool.and_eq_true]at hc
          have ho:=Nat.eq_of_beq_eq_true hc.1
          have hname : f.name ≠ "_" := by simpa using hc.2
          split at hms
          ·rename_i ms' hms'
           simp only[Option.some.injEq]at hms
           subst hms
           obtain⟨e1,e2,b1,b2,q1,q2,rfl⟩:=eqCells_split _ _ _ _ _ hb
           obtain⟨hsz,a,hag,hone⟩:=eqT_facts hkf
           simp only[List.length_drop]at e1 e2
           have hk1:kf.length ≤ xs.length-o:=e1
           by_cases hz:kf.length=0
           ·-- no cells: nothing is asked of the place
            have hkn:kf=[]:=List.length_eq_zero_iff.1 hz
            subst hkn
            cases d with
            |zero=>simp[eqT]at hkf
            |succ d' =>
             have hX':∃ X,(part f.type ⟨xs⟩ f.offset).run P w=.ok X w ∧ IsVal P f.type X []:=by
              cases a with
              |false=>have:=hone rfl;simp at this
              |true =>
               refine⟨.agg ((⟨xs⟩:Array Value).extract f.offset (f.offset+0)),by simp[part,isAgg_run hag,sizeOf_run hsz],.inl ⟨hag,?_⟩⟩
               congr 1
               apply Array.ext'
               simp
             have hY':∃ X,(part f.type ⟨ys⟩ f.offset).run P w=.ok X w ∧ IsVal P f.type X []:=by
              cases a with
              |false=>have:=hone rfl;simp at this
              |true =>
               refine⟨.agg ((⟨ys⟩:Array Value).extract f.offset (f.offset+0)),by simp[part,isAgg_run hag,sizeOf_run hsz],.inl ⟨hag,?_⟩⟩
               congr 1
               apply Array.ext'
               simp
             obtain⟨X',hX1,hX2⟩:=hX'
             obtain⟨Y',hY1,hY2⟩:=hY'
             have hr:=ih f.type [] hkf D (by omega) w [] [] b1 X' Y' (by simpa using q1) hX2 hY2
             have hrest:=ihf (o+0) ms' b2 hms' (by simpa using q2)
             simp only[Op.eqFields]
             rw[if_pos hname]
             simp only[Sem.run_bind,hX1,Result.andThen_ok,hY1,hr]
             cases b1
             ·simp
             ·simpa using hrest
           ·obtain⟨X',hX1,hX2⟩:=part_run (w:=w) (off:=f.offset) (cs:=xs) hag hsz hone (by omega)
            obtain⟨Y',hY1,hY2⟩:=part_run (w:=w) (off:=f.offset) (cs:=ys) hag hsz hone (by omega)
            have hr:=ih f.type kf hkf D (by omega) w _ _ b1 X' Y' (by rw[ho];exact q1) hX2 hY2
            have hrest:=ihf (o+kf.length) ms' b2 hms' (by rw[List.drop_drop,List.drop_drop]at q2;exact q2)
            simp only[Op.eqFields]
            rw[if_pos hname]
            simp only[Sem.run_bind,hX1,Result.andThen_ok,hY1,hr]
            cases b1
            ·simp
            ·simpa using hrest
          ·cases hms
        ·cases hms
      exact gen fs.toList 0 ks' b h1 (by simpa using he)
    ·cases h
  ·rename_i n e hu
   have ha:aggT P t=some true:=by unfold aggT;rw[hu]
   have:=isVal_agg hX ha;subst this
   have:=isVal_agg hY ha;subst this
   split at h
   ·rename_i ks' s h1 h2
    cases hb:Nat.beq (eqRep n ks').length s with
    |false=>simp[hb]at h
    |true =>
     simp only[hb,cond_true,Option.some.injEq]at h
     subst h
     obtain⟨hsz,a,hag,hone⟩:=eqT_facts h1
     have gen:∀ (m i:Nat) (b:Bool),eqCells (eqRep m ks') (xs.drop (i*ks'.length)) (ys.drop (i*ks'.length))=some b →
       (forIn (List.range' i m) ((none,()):Option Bool × Unit) (fun i _=>do
        let x ← part e ⟨xs⟩ (i*ks'.length)
        let y ← part e ⟨ys⟩ (i*ks'.length)
        let r ← Op.equalIn D e x y
        if (!r)=true then pure (ForInStep.done (some false,()))else pure (ForInStep.yield (none,()))):Sem (Option Bool × Unit)).run P w=.ok (if b then(none,())else(some false,())) w:=by
      intro m
      induction m with
      |zero =>
       intro i b hb
       simp only[eqRep]at hb
       have:=eqCells_nil hb;subst this
       simp
      |succ m ihm =>
       intro i b hb
       simp only[eqRep]at hb
       obtain⟨e1,e2,b1,b2,q1,q2,rfl⟩:=eqCells_split _ _ _ _ _ hb
       simp only[List.length_drop]at e1 e2
       have hparts:∃ X' Y',(part e ⟨xs⟩ (i*ks'.length)).run P w=.ok X' w ∧ (part e ⟨ys⟩ (i*ks'.length)).run P w=.ok Y' w ∧ IsVal P e X' (slab xs (i*ks'.length) ks'.length) ∧ IsVal P e Y' (slab ys (i*ks'.length) ks'.length):=by
        by_cases hz:ks'.length=0
        ·cases a with
         |false=>have:=hone rfl;omega
         |true =>
          refine⟨.agg ((⟨xs⟩:Array Value).extract (i*ks'.length) (i*ks'.length+ks'.length)),.agg ((⟨ys⟩:Array Value).extract (i*ks'.length) (i*ks'.length+ks'.length)),
           by simp[part,isAgg_run hag,sizeOf_run hsz],by simp[part,isAgg_run hag,sizeOf_run hsz],.inl ⟨hag,?_⟩,.inl ⟨hag,?_⟩⟩
          ·congr 1;apply Array.ext';simp[slab,List.extract_eq_take_drop]
          ·congr 1;apply Array.ext';simp[slab,List.extract_eq_take_drop]
        ·obtain⟨X',hX1,hX2⟩:=part_run (w:=w) (off:=i*ks'.length) (cs:=xs) hag hsz hone (by omega)
         obtain⟨Y',hY1,hY2⟩:=part_run (w:=w) (off:=i*ks'.length) (cs:=ys) hag hsz hone (by omega)
         exact⟨X',Y',hX1,hY1,hX2,hY2⟩
       obtain⟨X',Y',hX1,hY1,hX2,hY2⟩:=hparts
       have hr:=ih e ks' h1 D (by omega) w _ _ b1 X' Y' q1 hX2 hY2
       have hrest:=ihm (i+1) b2 (by rw[List.drop_drop,List.drop_drop]at q2;rw[Nat.succ_mul];exact q2)
       simp only[List.range'_succ,List.forIn_cons,Sem.run_bind,hX1,Result.andThen_ok,hY1,hr]
       cases b1
       ·simp
       ·simp only[Bool.not_true,Bool.false_eq_true,if_false,Sem.run_pure,Result.andThen_ok,Bool.true_and]
        exact hrest
     have hg:=gen n 0 b (by simpa using he)
     simp only[Op.equalIn,Sem.run_bind,run_underlying hu,Result.andThen_ok,sizeOf_run hsz]
     rw[Std.Legacy.Range.forIn_eq_forIn_range']
     simp only[Std.Legacy.Range.size,Nat.sub_zero,Nat.add_sub_cancel,Nat.div_one]
     rw[hg]
     cases b<;>simp
   ·cases h
  ·cases h
end Go.X
