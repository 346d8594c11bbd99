/- Contracts of functions of the given program, of the reference and of the laws: each says what a call returns, for all arguments that meet the premises that the theorem itself names. -/
import Derived.Test.YthadkoinmohmlaaGreatDoorTots
import Derived.Test.YthadkoinmohmlaaGreatDoorRead
namespace Go.M
open Go Go.Vc
theorem readField_ok (s:ByteArray):(readFieldM s).1.ok:=⟨numI_ok _,numI_ok _⟩
structure ArgsOf (A:TArgs) (p:List UInt8):Prop where
  t:A.trays.length=p.count 116
  n:A.nums.length=p.count 110
  f:A.fields.length=p.count 102
  x:A.texts.length=p.length - p.count 116 - p.count 110 - p.count 102
structure ArgsOk (A:TArgs):Prop where
  t:∀ x∈A.trays,i64ok x
  n:∀ x∈A.nums,i64ok x
  f:∀ x∈A.fields,x.ok
  x:∀ x∈A.texts,x.size≤1048576
theorem arg_ok {A:TArgs} (h:ArgsOk A) (p:UInt8) {w:ByteArray} (hw:w.size≤1048576):ArgsOk (argStep A p w).1:=by
  unfold argStep;split
  · exact ⟨fun x hx=>by rcases List.mem_append.1 hx with hx | hx;exact h.t x hx;rw [List.mem_singleton] at hx;subst hx;exact numI_ok _,h.n,h.f,h.x⟩
  split
  · exact ⟨h.t,fun x hx=>by rcases List.mem_append.1 hx with hx | hx;exact h.n x hx;rw [List.mem_singleton] at hx;subst hx;exact numI_ok _,h.f,h.x⟩
  split
  · exact ⟨h.t,h.n,fun x hx=>by rcases List.mem_append.1 hx with hx | hx;exact h.f x hx;rw [List.mem_singleton] at hx;subst hx;exact readField_ok _,h.x⟩
  · exact ⟨h.t,h.n,h.f,fun x hx=>by rcases List.mem_append.1 hx with hx | hx;exact h.x x hx;rw [List.mem_singleton] at hx;subst hx;exact hw⟩
theorem arg_len (A:TArgs) (p:UInt8) (w:ByteArray):(argStep A p w).1.trays.length=A.trays.length+(if p=116 then 1 else 0)∧(argStep A p w).1.nums.length=A.nums.length+(if p=110 then 1 else 0)∧(argStep A p w).1.fields.length=A.fields.length+(if p=102 then 1 else 0) ∧
    (argStep A p w).1.texts.length=A.texts.length+(if p=116∨p=110∨p=102 then 0 else 1):=by
  unfold argStep;by_cases h1:p=116
  · subst h1;simp
  by_cases h2:p=110
  · subst h2;simp
  by_cases h3:p=102
  · subst h3;simp
  simp [h1,h2,h3]
theorem argSt_take {ps:List (UInt8×ByteArray)} {k:Nat} {p:UInt8} {w:ByteArray} (h:ps[k]? = some (p,w)):argSt (ps.take (k+1))=if (argSt (ps.take k)).2=true then argStep (argSt (ps.take k)).1 p w else argSt (ps.take k):=by
  unfold argSt;rw [List.take_add_one,h,List.foldl_append];rfl
theorem argSt_bad:∀ (ps:List (UInt8×ByteArray)) (st:TArgs×Bool),st.2=false→(ps.foldl (fun st p=>if st.2=true then argStep st.1 p.1 p.2 else st) st).2=false
  | [],_,h=>h
  | p :: ps,st,h=>by
    rw [List.foldl_cons,if_neg (by simp [h])];exact argSt_bad ps st h
theorem argSt_no {ps:List (UInt8×ByteArray)} {k:Nat} (h:(argSt (ps.take k)).2=false):(argSt ps).2=false:=by
  unfold argSt at h ⊢;rw [← List.take_append_drop k ps,List.foldl_append];exact argSt_bad _ _ h
theorem argSt_all:∀ (p:List UInt8) (ws:List ByteArray) (st:TArgs×Bool),p.length=ws.length→(∀ x∈ws,x.size≤1048576)→ArgsOk st.1→st.2=true →
    ((p.zip ws).foldl (fun st p=>if st.2=true then argStep st.1 p.1 p.2 else st) st).2=true →
    ArgsOk ((p.zip ws).foldl (fun st p=>if st.2=true then argStep st.1 p.1 p.2 else st) st).1 ∧
    ((p.zip ws).foldl (fun st p=>if st.2=true then argStep st.1 p.1 p.2 else st) st).1.trays.length=st.1.trays.length+p.count 116 ∧
    ((p.zip ws).foldl (fun st p=>if st.2=true then argStep st.1 p.1 p.2 else st) st).1.nums.length=st.1.nums.length+p.count 110 ∧
    ((p.zip ws).foldl (fun st p=>if st.2=true then argStep st.1 p.1 p.2 else st) st).1.fields.length=st.1.fields.length+p.count 102 ∧
    ((p.zip ws).foldl (fun st p=>if st.2=true then argStep st.1 p.1 p.2 else st) st).1.texts.length=st.1.texts.length+(p.length - p.count 116 - p.count 110 - p.count 102)
  | [],[],st,_,_,h,_,_=>by simpa using h
  | [],_ :: _,_,h,_,_,_,_=>by simp at h
  | _ :: _,[],_,h,_,_,_,_=>by simp at h
  | c :: p,w :: ws,st,hl,hw,h,hs,h0=>by
    simp only [List.zip_cons_cons,List.foldl_cons] at h0 ⊢;rw [if_pos hs] at h0 ⊢;have hq:(argStep st.1 c w).2=true:=by
      cases hb:(argStep st.1 c w).2
      · rw [argSt_bad _ _ hb] at h0;cases h0
      · rfl
    have ih:=argSt_all p ws (argStep st.1 c w) (by simpa using hl) (fun x hx=>hw x (List.mem_cons_of_mem _ hx)) (arg_ok h c (hw w (by simp))) hq h0;obtain ⟨l1,l2,l3,l4⟩:=arg_len st.1 c w;refine ⟨ih.1,?_,?_,?_,?_⟩
    · rw [ih.2.1,l1,List.count_cons];by_cases h1:c=116<;>simp [h1]<;>omega
    · rw [ih.2.2.1,l2,List.count_cons];by_cases h1:c=110<;>simp [h1]<;>omega
    · rw [ih.2.2.2.1,l3,List.count_cons];by_cases h1:c=102<;>simp [h1]<;>omega
    · rw [ih.2.2.2.2,l4,List.count_cons,List.count_cons,List.count_cons,List.length_cons];have hle:p.count 116+p.count 110+p.count 102≤p.length:=by
        clear ih h0 hw hl;induction p with
        | nil=>simp
        | cons d p ih =>
          simp only [List.count_cons,List.length_cons];by_cases h1:d=116
          · subst h1;simp<;>omega
          by_cases h2:d=110
          · subst h2;simp<;>omega
          by_cases h3:d=102
          · subst h3;simp<;>omega
          simp [h1,h2,h3]<;>omega
      by_cases h1:c=116
      · subst h1;simp<;>omega
      by_cases h2:c=110
      · subst h2;simp<;>omega
      by_cases h3:c=102
      · subst h3;simp<;>omega
      simp [h1,h2,h3]<;>omega
theorem args_ok {p:List UInt8} {ws:List ByteArray} (hl:p.length=ws.length) (hw:∀ x∈ws,x.size≤1048576) (h:(argsM p ws).2=0):ArgsOk (argsM p ws).1∧ArgsOf (argsM p ws).1 p∧∀ t∈(argsM p ws).1.trays,0≤t∧t≤5:=by
  unfold argsM at h ⊢;split at h
  · cases h
  rename_i h1;split at h
  · cases h
  rename_i h2;rw [if_neg h1,if_neg h2];have h1:(argSt (p.zip ws)).2=true:=by simpa using h1
  have:=argSt_all p ws (noArgs,true) hl hw ⟨by simp [noArgs],by simp [noArgs],by simp [noArgs],by simp [noArgs]⟩ rfl h1;obtain ⟨q1,q2,q3,q4,q5⟩:=this;refine ⟨q1,⟨?_,?_,?_,?_⟩,fun t ht=>?_⟩
  · simpa [noArgs,argSt] using q2
  · simpa [noArgs,argSt] using q3
  · simpa [noArgs,argSt] using q4
  · simpa [noArgs,argSt] using q5
  · have:=no_any h2 t ht;exact inB_true this
theorem argStep_t (A:TArgs) (w:ByteArray):argStep A 116 w=({ A with trays:=A.trays++[numI w] },numB w):=rfl
theorem argStep_n (A:TArgs) (w:ByteArray):argStep A 110 w=({ A with nums:=A.nums++[numI w] },numB w):=rfl
theorem argStep_f (A:TArgs) (w:ByteArray):argStep A 102 w=({ A with fields:=A.fields++[(readFieldM w).1] },(readFieldM w).2):=rfl
theorem argStep_x {A:TArgs} {c:UInt8} {w:ByteArray} (h1:¬ c=116) (h2:¬ c=110) (h3:¬ c=102):argStep A c w=({ A with texts:=A.texts++[w] },true):=by
  unfold argStep;rw [if_neg h1,if_neg h2,if_neg h3]
theorem zip_at {p:List UInt8} {ws:List ByteArray} {k:Nat} {c:UInt8} {w:ByteArray} (h1:p[k]? = some c) (h2:ws[k]? = some w):(p.zip ws)[k]? = some (c,w):=by
  rw [List.getElem?_zip_eq_some];exact ⟨h1,h2⟩
end Go.M
namespace Go.Proofs.YthadkoinmohmlaaGreatDoor
open Go Go.RowKit Go.Vc Go.M
theorem impl_readField {s:ByteArray} (hs:s.size≤1048576) {w:World} (hT:Pow w) (hE:Errs w) (hM:MaxL w) :
    Does Tryz.prog 61 [.string s] w (fun v w'=>v = .tuple #[.agg ⟨(readFieldM s).1.enc⟩,.bool (readFieldM s).2]∧Ext w w'):=by
  obtain ⟨hc1,hc2⟩:=cut_sizes (c:=45) s;have hC:∀ u,MaxL u→Does Tryz.prog 38 [.string s,.string ⟨#[45]⟩] u (fun v w'=>v = .tuple #[.string (bs (Lib.cut s.data.toList [45]).1),.string (bs (Lib.cut s.data.toList [45]).2.1),.bool (Lib.cut s.data.toList [45]).2.2]∧Ext u w'):=fun u hu=>lib_Cut (by omega) hu;unfold readFieldM;generalize bs (Lib.cut s.data.toList [45]).1=x1 at *;generalize bs (Lib.cut s.data.toList [45]).2.1=x2 at *;generalize (Lib.cut s.data.toList [45]).2.2=fd at *;refine oV Tryz.func61 ?_;refine jN (z := .agg #[.int .i64 0,.int .i64 0]) ?_;intro b3 w3 g3 l3 e3 B3;refine (hC _ (hM.ext e3)).mono ?_;rintro _ w5 ⟨rfl,e4⟩;refine (impl_ReadDecimal (by omega) (hT.ext (xt e3 e4)) (hE.ext (xt e3 e4))).mono ?_;rintro _ w7 ⟨rfl,e6⟩;refine (impl_ReadDecimal (by omega) (hT.ext (xt (xt e3 e4) e6)) (hE.ext (xt (xt e3 e4) e6))).mono ?_;rintro _ w9 ⟨rfl,e8⟩;refine SemK.build st_105 rfl ?_;(conv=>whnf);with_reducible refine IfB.split (fun h10=>?_) (fun h10=>?_)
  · (conv=>whnf);with_reducible refine IfB.split (fun h11=>?_) (fun h11=>?_)
    · (conv=>whnf);with_reducible refine IfB.split (fun h12=>?_) (fun h12=>?_)
      · (conv=>whnf);with_reducible refine IfB.dec (fun h13=>?_) (fun h13=>?_)
        · refine SemK.storeAll (vs:=[Value.int IntKind.i64 (numI x1),Value.int IntKind.i64 (numI x2)]) (by kernel_rfl) (B3.ext (xt (xt e4 e6) e8)) rfl rfl (by simp [cellish]) ?_;intro w14 c14 B14;refine CellK.of (jR (n:=2) rfl B14.cells) ?_;refine ⟨?_,(xb (xt (xt (xt e3 e4) e6) e8) c14.but g3)⟩
          · simp [TField.enc,h10,h11,h12,h13]
        · refine SemK.storeAll (vs:=[Value.int IntKind.i64 (numI x1),Value.int IntKind.i64 (numI x2)]) (by kernel_rfl) (B3.ext (xt (xt e4 e6) e8)) rfl rfl (by simp [cellish]) ?_;intro w15 c15 B15;refine CellK.of (jR (n:=2) rfl B15.cells) ?_;refine ⟨?_,(xb (xt (xt (xt e3 e4) e6) e8) c15.but g3)⟩
          · simp [TField.enc,h10,h11,h12,h13]
      · refine SemK.storeAll (vs:=[Value.int IntKind.i64 (numI x1),Value.int IntKind.i64 (numI x2)]) (by kernel_rfl) (B3.ext (xt (xt e4 e6) e8)) rfl rfl (by simp [cellish]) ?_;intro w16 c16 B16;refine CellK.of (jR (n:=2) rfl B16.cells) ?_;refine ⟨?_,(xb (xt (xt (xt e3 e4) e6) e8) c16.but g3)⟩
        · simp [TField.enc,h10,h11,h12]
    · refine SemK.storeAll (vs:=[Value.int IntKind.i64 (numI x1),Value.int IntKind.i64 (numI x2)]) (by kernel_rfl) (B3.ext (xt (xt e4 e6) e8)) rfl rfl (by simp [cellish]) ?_;intro w17 c17 B17;refine CellK.of (jR (n:=2) rfl B17.cells) ?_;refine ⟨?_,(xb (xt (xt (xt e3 e4) e6) e8) c17.but g3)⟩
      · simp [TField.enc,h10,h11]
  · refine SemK.storeAll (vs:=[Value.int IntKind.i64 (numI x1),Value.int IntKind.i64 (numI x2)]) (by kernel_rfl) (B3.ext (xt (xt e4 e6) e8)) rfl rfl (by simp [cellish]) ?_;intro w18 c18 B18;refine CellK.of (jR (n:=2) rfl B18.cells) ?_;refine ⟨?_,(xb (xt (xt (xt e3 e4) e6) e8) c18.but g3)⟩
    · simp [TField.enc,h10]
theorem impl_patternOf (t:ByteArray) (w:World):Does Tryz.prog 31 [.string t] w (fun v w'=>v = .string (bs (patM t))∧Ext w w'):=by
  refine oV Tryz.func31 ?_;refine IfB.dec (fun h1=>?_) (fun h1=>?_)
  · have hp:patM t=[116,120]:=by unfold patM;simp only [eq_true (show t=w_card from h1),if_true,if_false,true_or,or_true,false_or,or_false]
    rw [hp];exact ⟨rfl,Ext.refl _⟩
  refine IfB.dec (fun h2=>?_) (fun h2=>?_)
  · have hp:patM t=[116]:=by unfold patM;simp only [eq_false (show ¬ t=w_card from h1),eq_true (show t=w_clear from h2),if_true,if_false,true_or,or_true,false_or,or_false]
    rw [hp];refine IfB.yes (by omega) ?_;exact ⟨rfl,Ext.refl _⟩
  refine IfB.dec (fun h3=>?_) (fun h3=>?_)
  · have hp:patM t=[116]:=by unfold patM;simp only [eq_false (show ¬ t=w_card from h1),eq_false (show ¬ t=w_clear from h2),eq_true (show t=w_show from h3),if_true,if_false,true_or,or_true,false_or,or_false]
    rw [hp];exact ⟨rfl,Ext.refl _⟩
  refine IfB.dec (fun h4=>?_) (fun h4=>?_)
  · have hp:patM t=[116,102,116]:=by unfold patM;simp only [eq_false (show ¬ t=w_card from h1),eq_false (show ¬ t=w_clear from h2),eq_false (show ¬ t=w_show from h3),eq_true (show t=w_sort from h4),if_true,if_false,true_or,or_true,false_or,or_false]
    rw [hp];refine IfB.yes (by omega) ?_;exact ⟨rfl,Ext.refl _⟩
  refine IfB.dec (fun h5=>?_) (fun h5=>?_)
  · have hp:patM t=[116,102,116]:=by unfold patM;simp only [eq_false (show ¬ t=w_card from h1),eq_false (show ¬ t=w_clear from h2),eq_false (show ¬ t=w_show from h3),eq_false (show ¬ t=w_sort from h4),eq_true (show t=w_first from h5),if_true,if_false,true_or,or_true,false_or,or_false]
    rw [hp];exact ⟨rfl,Ext.refl _⟩
  refine IfB.dec (fun h6=>?_) (fun h6=>?_)
  · have hp:patM t=[116,116,102,116]:=by unfold patM;simp only [eq_false (show ¬ t=w_card from h1),eq_false (show ¬ t=w_clear from h2),eq_false (show ¬ t=w_show from h3),eq_false (show ¬ t=w_sort from h4),eq_false (show ¬ t=w_first from h5),eq_true (show t=w_merge from h6),if_true,if_false,true_or,or_true,false_or,or_false]
    rw [hp];refine IfB.yes (by omega) ?_;exact ⟨rfl,Ext.refl _⟩
  refine IfB.dec (fun h7=>?_) (fun h7=>?_)
  · have hp:patM t=[116,116,102,116]:=by unfold patM;simp only [eq_false (show ¬ t=w_card from h1),eq_false (show ¬ t=w_clear from h2),eq_false (show ¬ t=w_show from h3),eq_false (show ¬ t=w_sort from h4),eq_false (show ¬ t=w_first from h5),eq_false (show ¬ t=w_merge from h6),eq_true (show t=w_match from h7),if_true,if_false,true_or,or_true,false_or,or_false]
    rw [hp];refine IfB.yes (by omega) ?_;exact ⟨rfl,Ext.refl _⟩
  refine IfB.dec (fun h8=>?_) (fun h8=>?_)
  · have hp:patM t=[116,116,102,116]:=by unfold patM;simp only [eq_false (show ¬ t=w_card from h1),eq_false (show ¬ t=w_clear from h2),eq_false (show ¬ t=w_show from h3),eq_false (show ¬ t=w_sort from h4),eq_false (show ¬ t=w_first from h5),eq_false (show ¬ t=w_merge from h6),eq_false (show ¬ t=w_match from h7),eq_true (show t=w_rest from h8),if_true,if_false,true_or,or_true,false_or,or_false]
    rw [hp];exact ⟨rfl,Ext.refl _⟩
  refine IfB.dec (fun h9=>?_) (fun h9=>?_)
  · have hp:patM t=[116,102,120,116]:=by unfold patM;simp only [eq_false (show ¬ t=w_card from h1),eq_false (show ¬ t=w_clear from h2),eq_false (show ¬ t=w_show from h3),eq_false (show ¬ t=w_sort from h4),eq_false (show ¬ t=w_first from h5),eq_false (show ¬ t=w_merge from h6),eq_false (show ¬ t=w_match from h7),eq_false (show ¬ t=w_rest from h8),eq_true (show t=w_select from h9),if_true,if_false,true_or,or_true,false_or,or_false]
    rw [hp];exact ⟨rfl,Ext.refl _⟩
  refine IfB.dec (fun h10=>?_) (fun h10=>?_)
  · have hp:patM t=[116,102,102]:=by unfold patM;simp only [eq_false (show ¬ t=w_card from h1),eq_false (show ¬ t=w_clear from h2),eq_false (show ¬ t=w_show from h3),eq_false (show ¬ t=w_sort from h4),eq_false (show ¬ t=w_first from h5),eq_false (show ¬ t=w_merge from h6),eq_false (show ¬ t=w_match from h7),eq_false (show ¬ t=w_rest from h8),eq_false (show ¬ t=w_select from h9),eq_true (show t=w_total from h10),if_true,if_false,true_or,or_true,false_or,or_false]
    rw [hp];exact ⟨rfl,Ext.refl _⟩
  refine IfB.dec (fun h11=>?_) (fun h11=>?_)
  · have hp:patM t=[116,102]:=by unfold patM;simp only [eq_false (show ¬ t=w_card from h1),eq_false (show ¬ t=w_clear from h2),eq_false (show ¬ t=w_show from h3),eq_false (show ¬ t=w_sort from h4),eq_false (show ¬ t=w_first from h5),eq_false (show ¬ t=w_merge from h6),eq_false (show ¬ t=w_match from h7),eq_false (show ¬ t=w_rest from h8),eq_false (show ¬ t=w_select from h9),eq_false (show ¬ t=w_total from h10),eq_true (show t=w_passes from h11),if_true,if_false,true_or,or_true,false_or,or_false]
    rw [hp];exact ⟨rfl,Ext.refl _⟩
  refine IfB.dec (fun h12=>?_) (fun h12=>?_)
  · have hp:patM t=[116,102,102]:=by unfold patM;simp only [eq_false (show ¬ t=w_card from h1),eq_false (show ¬ t=w_clear from h2),eq_false (show ¬ t=w_show from h3),eq_false (show ¬ t=w_sort from h4),eq_false (show ¬ t=w_first from h5),eq_false (show ¬ t=w_merge from h6),eq_false (show ¬ t=w_match from h7),eq_false (show ¬ t=w_rest from h8),eq_false (show ¬ t=w_select from h9),eq_false (show ¬ t=w_total from h10),eq_false (show ¬ t=w_passes from h11),eq_true (show t=w_tab from h12),if_true,if_false,true_or,or_true,false_or,or_false]
    rw [hp];exact ⟨rfl,Ext.refl _⟩
  refine IfB.dec (fun h13=>?_) (fun h13=>?_)
  · have hp:patM t=[116,110,120]:=by unfold patM;simp only [eq_false (show ¬ t=w_card from h1),eq_false (show ¬ t=w_clear from h2),eq_false (show ¬ t=w_show from h3),eq_false (show ¬ t=w_sort from h4),eq_false (show ¬ t=w_first from h5),eq_false (show ¬ t=w_merge from h6),eq_false (show ¬ t=w_match from h7),eq_false (show ¬ t=w_rest from h8),eq_false (show ¬ t=w_select from h9),eq_false (show ¬ t=w_total from h10),eq_false (show ¬ t=w_passes from h11),eq_false (show ¬ t=w_tab from h12),eq_true (show t=w_note from h13),if_true,if_false,true_or,or_true,false_or,or_false]
    rw [hp];exact ⟨rfl,Ext.refl _⟩
  (conv=>whnf);have hp:patM t=[]:=by unfold patM;simp only [eq_false (show ¬ t=w_card from h1),eq_false (show ¬ t=w_clear from h2),eq_false (show ¬ t=w_show from h3),eq_false (show ¬ t=w_sort from h4),eq_false (show ¬ t=w_first from h5),eq_false (show ¬ t=w_merge from h6),eq_false (show ¬ t=w_match from h7),eq_false (show ¬ t=w_rest from h8),eq_false (show ¬ t=w_select from h9),eq_false (show ¬ t=w_total from h10),eq_false (show ¬ t=w_passes from h11),eq_false (show ¬ t=w_tab from h12),eq_false (show ¬ t=w_note from h13),if_false,false_or,or_false]
  rw [hp];exact ⟨rfl,Ext.refl _⟩
theorem impl_sizeStr (a:Option Addr) (n c:Nat) (w:World):Does Tryz.prog 136 [.slice a n c] w (fun v w'=>v = .int .i64 n∧w=w'):=by
  refine oV Tryz.func136 ?_;exact ⟨rfl,rfl⟩
theorem impl_listed {w:World} {a:Option Addr} {n c B:Nat} {ls:List ByteArray} (h:Grow eS 1 B 9 w a n c ls) (hB:B≤w.heap.size) (hn:n≤1000000) (hT:Pow w) :
    Does Tryz.prog 72 [.slice a n c] w (fun v w'=>∃ a' c',v = .slice a' (n+1) c'∧Grow eS 1 B 9 w' a' (n+1) c' (listedM ls)∧(∀ q,blkIn a' q→blkIn a q∨w.heap.size≤q)∧Mod (blkIn a) w w'):=by
  have hl:=h.own.arr eS_len;have hll:=hl.len;have hio:i64ok (n:Int):=by unfold i64ok;omega
  have hdl:=decB_len (n:=(n:Int)) (by omega) (by omega);refine oV Tryz.func72 ?_;refine (impl_sizeStr _ _ _ _).mono ?_;rintro _ _ ⟨rfl,rfl⟩;refine (impl_Decimal hio hT).mono ?_;rintro _ w3 ⟨rfl,e2⟩;refine SemK.cat (by simp only [ByteArray.size_append,bs_size,sizeC,sizeT,List.length_cons,List.length_nil];omega) ?_;refine bS mk_24 (vs:=[Value.string ({ data := #[111,107,32] }++decB ↑n)]) ?_;intro b4 w4 g4 l4 e4 B4;have G4:=Grow.of_blk (n:=1) (enc:=eS) (xs:=[{ data := #[111,107,32] }++decB ↑n]) eS_len B4 g4 rfl (by decide);have z2:=e2.size;have z4:=e4.size;refine SemK.appendArr0 (enc:=eS) mk_24 eS_len (h.ext (xt e2 e4)) (G4.own.arr eS_len) (by intro y _;simp [eS,cellish]) (by omega) (by omega) (by omega) ?_;intro a5 c5 w5 G5 m5 i5;exact ⟨_,_,rfl,by unfold listedM;rw [hll];exact G5,fun q hq=>(i5 q hq).imp id (fun h=>by omega),(Ext.mod (xt e2 e4)).trans m5⟩
theorem impl_readArgs1 (x:Int) (w:World):Does Tryz.prog 63 [.int .i64 x] w (fun v w'=>v = .bool (!inB x 0 5)∧Ext w w'):=by
  refine oV Tryz.func63 ?_;refine (impl_isTray _ _).mono ?_;rintro _ _ ⟨rfl,rfl⟩;exact ⟨rfl,Ext.refl _⟩
structure ArgsB (w:World) (B b:Nat) (A:TArgs) (a1 a2 a3 a4:Option Addr) (c1 c2 c3 c4:Nat):Prop where
  blk:Blk w b [.slice a1 A.trays.length c1,.slice a2 A.nums.length c2,.slice a3 A.fields.length c3,.slice a4 A.texts.length c4] 65
  g1:Grow eI 1 B 2 w a1 A.trays.length c1 A.trays
  g2:Grow eI 1 B 2 w a2 A.nums.length c2 A.nums
  g3:Grow TField.enc 2 B 105 w a3 A.fields.length c3 A.fields
  g4:Grow eS 1 B 9 w a4 A.texts.length c4 A.texts
  nb:∀ k,blkIn a1 k∨blkIn a2 k∨blkIn a3 k∨blkIn a4 k→k≠b
  d:∀ k,¬ (blkIn a1 k∧blkIn a2 k)∧¬ (blkIn a1 k∧blkIn a3 k)∧¬ (blkIn a1 k∧blkIn a4 k)∧¬ (blkIn a2 k∧blkIn a3 k)∧¬ (blkIn a2 k∧blkIn a4 k)∧¬ (blkIn a3 k∧blkIn a4 k)
section
variable {w w' w0 w1 w2:World} {B b:Nat} {A:TArgs} {a1 a2 a3 a4:Option Addr} {c1 c2 c3 c4:Nat}
theorem ArgsB.ext (h:ArgsB w B b A a1 a2 a3 a4 c1 c2 c3 c4) (e:Ext w w'):ArgsB w' B b A a1 a2 a3 a4 c1 c2 c3 c4 :=
  ⟨h.blk.ext e,h.g1.ext e,h.g2.ext e,h.g3.ext e,h.g4.ext e,h.nb,h.d⟩
theorem ArgsB.lt (h:ArgsB w B b A a1 a2 a3 a4 c1 c2 c3 c4):b<w.heap.size∧∀ k,blkIn a1 k∨blkIn a2 k∨blkIn a3 k∨blkIn a4 k→k<w.heap.size:=by
  refine ⟨h.blk.lt,fun k hk=>?_⟩;rcases hk with ⟨x,hx,rfl⟩ | ⟨x,hx,rfl⟩ | ⟨x,hx,rfl⟩ | ⟨x,hx,rfl⟩
  · exact (h.g1.blk_lt x hx).2
  · exact (h.g2.blk_lt x hx).2
  · exact (h.g3.blk_lt x hx).2
  · exact (h.g4.blk_lt x hx).2
theorem ArgsB.push1 (h:ArgsB w0 B b A a1 a2 a3 a4 c1 c2 c3 c4) {x:Int} {a:Option Addr} {c:Nat} (g:Grow eI 1 B 2 w1 a (A.trays.length+1) c (A.trays++[x])) (M:Mod (blkIn a1) w0 w1) (hi:∀ k,blkIn a k→blkIn a1 k∨k=w0.heap.size)
    (m:Chg b w1 w2) (B2:Blk w2 b [.slice a (A.trays.length+1) c,.slice a2 A.nums.length c2,.slice a3 A.fields.length c3,.slice a4 A.texts.length c4] 65):ArgsB w2 B b { A with trays:=A.trays++[x] } a a2 a3 a4 c c2 c3 c4:=by
  have hl:=h.lt;have hd:=h.d;have hnb:=h.nb;refine ⟨by simpa using B2,?_,?_,?_,?_,fun k hk=>?_,fun k=>?_⟩
  · simpa using g.mod m.but fun y hy hb=>by
      have:=hi y.block ⟨y,hy,rfl⟩;have hb:y.block=b:=hb;rcases this with h1 | h1
      · exact hnb _ (.inl h1) hb
      · omega
  · exact (h.g2.mod M fun y hy h1=>(hd y.block).1 ⟨h1,⟨y,hy,rfl⟩⟩).mod m.but fun y hy hb=>hnb y.block (.inr (.inl ⟨y,hy,rfl⟩)) hb
  · exact (h.g3.mod M fun y hy h1=>(hd y.block).2.1 ⟨h1,⟨y,hy,rfl⟩⟩).mod m.but fun y hy hb=>hnb y.block (.inr (.inr (.inl ⟨y,hy,rfl⟩))) hb
  · exact (h.g4.mod M fun y hy h1=>(hd y.block).2.2.1 ⟨h1,⟨y,hy,rfl⟩⟩).mod m.but fun y hy hb=>hnb y.block (.inr (.inr (.inr ⟨y,hy,rfl⟩))) hb
  · rcases hk with h1 | h1
    · rcases hi k h1 with h2 | h2
      · exact hnb k (.inl h2)
      · omega
    · exact hnb k (.inr h1)
  · have hk:=hd k;have n2:=fun h=>hl.2 k (.inr (.inl h));have n3:=fun h=>hl.2 k (.inr (.inr (.inl h)));have n4:=fun h=>hl.2 k (.inr (.inr (.inr h)));have hik:=hi k;refine ⟨?_,?_,?_,hk.2.2.2.1,hk.2.2.2.2.1,hk.2.2.2.2.2⟩<;>rintro ⟨q1,q2⟩<;>rcases hik q1 with h2 | h2
    · exact hk.1 ⟨h2,q2⟩
    · have:=n2 q2;omega
    · exact hk.2.1 ⟨h2,q2⟩
    · have:=n3 q2;omega
    · exact hk.2.2.1 ⟨h2,q2⟩
    · have:=n4 q2;omega
theorem ArgsB.push2 (h:ArgsB w0 B b A a1 a2 a3 a4 c1 c2 c3 c4) {x:Int} {a:Option Addr} {c:Nat} (g:Grow eI 1 B 2 w1 a (A.nums.length+1) c (A.nums++[x])) (M:Mod (blkIn a2) w0 w1) (hi:∀ k,blkIn a k→blkIn a2 k∨k=w0.heap.size)
    (m:Chg b w1 w2) (B2:Blk w2 b [.slice a1 A.trays.length c1,.slice a (A.nums.length+1) c,.slice a3 A.fields.length c3,.slice a4 A.texts.length c4] 65):ArgsB w2 B b { A with nums:=A.nums++[x] } a1 a a3 a4 c1 c c3 c4:=by
  have hl:=h.lt;have hd:=h.d;have hnb:=h.nb;refine ⟨by simpa using B2,?_,?_,?_,?_,fun k hk=>?_,fun k=>?_⟩
  · exact (h.g1.mod M fun y hy h1=>(hd y.block).1 ⟨⟨y,hy,rfl⟩,h1⟩).mod m.but fun y hy hb=>hnb y.block (.inl ⟨y,hy,rfl⟩) hb
  · simpa using g.mod m.but fun y hy hb=>by
      have:=hi y.block ⟨y,hy,rfl⟩;have hb:y.block=b:=hb;rcases this with h1 | h1
      · exact hnb _ (.inr (.inl h1)) hb
      · omega
  · exact (h.g3.mod M fun y hy h1=>(hd y.block).2.2.2.1 ⟨h1,⟨y,hy,rfl⟩⟩).mod m.but fun y hy hb=>hnb y.block (.inr (.inr (.inl ⟨y,hy,rfl⟩))) hb
  · exact (h.g4.mod M fun y hy h1=>(hd y.block).2.2.2.2.1 ⟨h1,⟨y,hy,rfl⟩⟩).mod m.but fun y hy hb=>hnb y.block (.inr (.inr (.inr ⟨y,hy,rfl⟩))) hb
  · rcases hk with h1 | h1 | h1
    · exact hnb k (.inl h1)
    · rcases hi k h1 with h2 | h2
      · exact hnb k (.inr (.inl h2))
      · omega
    · exact hnb k (.inr (.inr h1))
  · have hk:=hd k;have n1:=fun h=>hl.2 k (.inl h);have n3:=fun h=>hl.2 k (.inr (.inr (.inl h)));have n4:=fun h=>hl.2 k (.inr (.inr (.inr h)));have hik:=hi k;refine ⟨?_,hk.2.1,hk.2.2.1,?_,?_,hk.2.2.2.2.2⟩
    · rintro ⟨q2,q1⟩;rcases hik q1 with h2 | h2
      · exact hk.1 ⟨q2,h2⟩
      · have:=n1 q2;omega
    · rintro ⟨q1,q2⟩;rcases hik q1 with h2 | h2
      · exact hk.2.2.2.1 ⟨h2,q2⟩
      · have:=n3 q2;omega
    · rintro ⟨q1,q2⟩;rcases hik q1 with h2 | h2
      · exact hk.2.2.2.2.1 ⟨h2,q2⟩
      · have:=n4 q2;omega
theorem ArgsB.push3 (h:ArgsB w0 B b A a1 a2 a3 a4 c1 c2 c3 c4) {x:TField} {a:Option Addr} {c:Nat} (g:Grow TField.enc 2 B 105 w1 a (A.fields.length+1) c (A.fields++[x])) (M:Mod (blkIn a3) w0 w1) (hi:∀ k,blkIn a k→blkIn a3 k∨k=w0.heap.size)
    (m:Chg b w1 w2) (B2:Blk w2 b [.slice a1 A.trays.length c1,.slice a2 A.nums.length c2,.slice a (A.fields.length+1) c,.slice a4 A.texts.length c4] 65):ArgsB w2 B b { A with fields:=A.fields++[x] } a1 a2 a a4 c1 c2 c c4:=by
  have hl:=h.lt;have hd:=h.d;have hnb:=h.nb;refine ⟨by simpa using B2,?_,?_,?_,?_,fun k hk=>?_,fun k=>?_⟩
  · exact (h.g1.mod M fun y hy h1=>(hd y.block).2.1 ⟨⟨y,hy,rfl⟩,h1⟩).mod m.but fun y hy hb=>hnb y.block (.inl ⟨y,hy,rfl⟩) hb
  · exact (h.g2.mod M fun y hy h1=>(hd y.block).2.2.2.1 ⟨⟨y,hy,rfl⟩,h1⟩).mod m.but fun y hy hb=>hnb y.block (.inr (.inl ⟨y,hy,rfl⟩)) hb
  · simpa using g.mod m.but fun y hy hb=>by
      have:=hi y.block ⟨y,hy,rfl⟩;have hb:y.block=b:=hb;rcases this with h1 | h1
      · exact hnb _ (.inr (.inr (.inl h1))) hb
      · omega
  · exact (h.g4.mod M fun y hy h1=>(hd y.block).2.2.2.2.2 ⟨h1,⟨y,hy,rfl⟩⟩).mod m.but fun y hy hb=>hnb y.block (.inr (.inr (.inr ⟨y,hy,rfl⟩))) hb
  · rcases hk with h1 | h1 | h1 | h1
    · exact hnb k (.inl h1)
    · exact hnb k (.inr (.inl h1))
    · rcases hi k h1 with h2 | h2
      · exact hnb k (.inr (.inr (.inl h2)))
      · omega
    · exact hnb k (.inr (.inr (.inr h1)))
  · have hk:=hd k;have n1:=fun h=>hl.2 k (.inl h);have n2:=fun h=>hl.2 k (.inr (.inl h));have n4:=fun h=>hl.2 k (.inr (.inr (.inr h)));have hik:=hi k;refine ⟨hk.1,?_,hk.2.2.1,?_,hk.2.2.2.2.1,?_⟩
    · rintro ⟨q2,q1⟩;rcases hik q1 with h2 | h2
      · exact hk.2.1 ⟨q2,h2⟩
      · have:=n1 q2;omega
    · rintro ⟨q2,q1⟩;rcases hik q1 with h2 | h2
      · exact hk.2.2.2.1 ⟨q2,h2⟩
      · have:=n2 q2;omega
    · rintro ⟨q1,q2⟩;rcases hik q1 with h2 | h2
      · exact hk.2.2.2.2.2 ⟨h2,q2⟩
      · have:=n4 q2;omega
theorem ArgsB.push4 (h:ArgsB w0 B b A a1 a2 a3 a4 c1 c2 c3 c4) {x:ByteArray} {a:Option Addr} {c:Nat} (g:Grow eS 1 B 9 w1 a (A.texts.length+1) c (A.texts++[x])) (M:Mod (blkIn a4) w0 w1) (hi:∀ k,blkIn a k→blkIn a4 k∨k=w0.heap.size)
    (m:Chg b w1 w2) (B2:Blk w2 b [.slice a1 A.trays.length c1,.slice a2 A.nums.length c2,.slice a3 A.fields.length c3,.slice a (A.texts.length+1) c] 65):ArgsB w2 B b { A with texts:=A.texts++[x] } a1 a2 a3 a c1 c2 c3 c:=by
  have hl:=h.lt;have hd:=h.d;have hnb:=h.nb;refine ⟨by simpa using B2,?_,?_,?_,?_,fun k hk=>?_,fun k=>?_⟩
  · exact (h.g1.mod M fun y hy h1=>(hd y.block).2.2.1 ⟨⟨y,hy,rfl⟩,h1⟩).mod m.but fun y hy hb=>hnb y.block (.inl ⟨y,hy,rfl⟩) hb
  · exact (h.g2.mod M fun y hy h1=>(hd y.block).2.2.2.2.1 ⟨⟨y,hy,rfl⟩,h1⟩).mod m.but fun y hy hb=>hnb y.block (.inr (.inl ⟨y,hy,rfl⟩)) hb
  · exact (h.g3.mod M fun y hy h1=>(hd y.block).2.2.2.2.2 ⟨⟨y,hy,rfl⟩,h1⟩).mod m.but fun y hy hb=>hnb y.block (.inr (.inr (.inl ⟨y,hy,rfl⟩))) hb
  · simpa using g.mod m.but fun y hy hb=>by
      have:=hi y.block ⟨y,hy,rfl⟩;have hb:y.block=b:=hb;rcases this with h1 | h1
      · exact hnb _ (.inr (.inr (.inr h1))) hb
      · omega
  · rcases hk with h1 | h1 | h1 | h1
    · exact hnb k (.inl h1)
    · exact hnb k (.inr (.inl h1))
    · exact hnb k (.inr (.inr (.inl h1)))
    · rcases hi k h1 with h2 | h2
      · exact hnb k (.inr (.inr (.inr h2)))
      · omega
  · have hk:=hd k;have n1:=fun h=>hl.2 k (.inl h);have n2:=fun h=>hl.2 k (.inr (.inl h));have n3:=fun h=>hl.2 k (.inr (.inr (.inl h)));have hik:=hi k;refine ⟨hk.1,hk.2.1,?_,hk.2.2.2.1,?_,?_⟩
    · rintro ⟨q2,q1⟩;rcases hik q1 with h2 | h2
      · exact hk.2.2.1 ⟨q2,h2⟩
      · have:=n1 q2;omega
    · rintro ⟨q2,q1⟩;rcases hik q1 with h2 | h2
      · exact hk.2.2.2.2.1 ⟨q2,h2⟩
      · have:=n2 q2;omega
    · rintro ⟨q2,q1⟩;rcases hik q1 with h2 | h2
      · exact hk.2.2.2.2.2 ⟨q2,h2⟩
      · have:=n3 q2;omega
end
theorem impl_readArgs {w:World} {a:Option Addr} {n c:Nat} {ws:List ByteArray} (h:Arr eS 1 w a n ws) {p:List UInt8} (hp:p.length=n) (hs:∀ x∈ws,x.size≤1048576) (hn4:n≤4) (hT:Pow w) (hE:Errs w) (hM:MaxL w) :
    Does Tryz.prog 32 [.string (bs p),.slice a n c] w (fun v w'=>∃ a1 n1 c1 a2 n2 c2 a3 n3 c3 a4 n4 c4,v = .tuple #[.agg #[.slice a1 n1 c1,.slice a2 n2 c2,.slice a3 n3 c3,.slice a4 n4 c4],.int .i64 (argsM p ws).2] ∧
      ((argsM p ws).2=0→Arr eI 1 w' a1 n1 (argsM p ws).1.trays∧Arr eI 1 w' a2 n2 (argsM p ws).1.nums∧Arr TField.enc 2 w' a3 n3 (argsM p ws).1.fields∧Arr eS 1 w' a4 n4 (argsM p ws).1.texts∧NewAt w.heap.size a1∧NewAt w.heap.size a2∧NewAt w.heap.size a3∧NewAt w.heap.size a4)∧Ext w w'):=by
  have hn:=h.len;refine oV Tryz.func32 ?_;refine jN (z := .agg #[.slice none 0 0,.slice none 0 0,.slice none 0 0,.slice none 0 0]) ?_;intro b5 w5 g5 l5 e5 B5;refine SemK.build st_65 rfl ?_;refine jN (z := .agg #[.slice none 0 0,.slice none 0 0,.slice none 0 0,.slice none 0 0]) ?_;intro b6 w6 g6 l6 e6 B6;refine jS (vs:=[Value.slice none 0 0,Value.slice none 0 0,Value.slice none 0 0,Value.slice none 0 0]) B6 rfl rfl (by simp [cellish]) ?_;intro w7 c7 B7;have z5:=e5.size;have z6:=e6.size;have z7:=c7.but.size;have hzl:(p.zip ws).length=n:=by rw [List.length_zip];omega
  have hA7:ArgsB w7 w6.heap.size b6 noArgs none none none none 0 0 0 0:=⟨B7,Grow.nil,Grow.nil,Grow.nil,Grow.nil,(by
    rintro k (⟨x,hx,_⟩ | ⟨x,hx,_⟩ | ⟨x,hx,_⟩ | ⟨x,hx,_⟩)<;>cases hx),(fun k=>by
    refine ⟨?_,?_,?_,?_,?_,?_⟩<;>(rintro ⟨⟨x,hx,_⟩,_⟩;cases hx))⟩
  have B57:Blk w7 b5 [.slice none 0 0,.slice none 0 0,.slice none 0 0,.slice none 0 0] 65:=(B5.ext e6).mod c7.but (fun hq=>by have hq:b5=b6:=hq;omega);have E7:Ext w w7:=xb (xt e5 e6) c7.but (by omega);refine lR [0,4,6,15,16,17] (fun (k:Nat) vs w'=>∃ a1 a2 a3 a4 c1 c2 c3 c4,vs=[.string (bs p),.pointer (some ⟨b5,0,none⟩),.pointer (some ⟨b6,0,none⟩),.slice a n c,.int .i64 n,.int .i64 k]∧k≤n∧(argSt ((p.zip ws).take k)).2=true∧ArgsB w' w6.heap.size b6 (argSt ((p.zip ws).take k)).1 a1 a2 a3 a4 c1 c2 c3 c4∧Blk w' b5 [.slice none 0 0,.slice none 0 0,.slice none 0 0,.slice none 0 0] 65∧Ext w w'∧w6.heap.size≤w'.heap.size∧(argSt ((p.zip ws).take k)).1.trays.length≤k∧(argSt ((p.zip ws).take k)).1.nums.length≤k∧(argSt ((p.zip ws).take k)).1.fields.length≤k∧(argSt ((p.zip ws).take k)).1.texts.length≤k) (fun k=>n - k) 0 ⟨none,none,none,none,0,0,0,0,rfl,by omega,rfl,hA7,B57,E7,by omega,Nat.le_refl _,Nat.le_refl _,Nat.le_refl _,Nat.le_refl _⟩ ?_;rintro k g _ w8 ⟨a1,a2,a3,a4,c1,c2,c3,c4,rfl,hk,hok,hA,B58,hX,hs8,n1,n2,n3,n4⟩;rcases Nat.lt_or_ge k n with hkn | hkn
  · obtain ⟨ch,hch⟩:=get_of_lt (l:=p) (k:=k) (by omega);obtain ⟨x,hx⟩:=get_of_lt (l:=ws) (k:=k) (by omega);have hnt:=argSt_take (zip_at hch hx);rw [if_pos hok] at hnt;have hno:(argSt ((p.zip ws).take (k+1))).2=false→argsM p ws=(noArgs,7):=fun h=>by unfold argsM;rw [if_pos (argSt_no h)]
    have hxs:=hs x (List.mem_of_getElem? hx);generalize (argSt ((p.zip ws).take k)).1=A at *;have hchar:(bs p).data.toList[k]? = some ch:=hch;have hl:=hA.lt;by_cases q1:ch=116
    · subst q1;rw [argStep_t] at hnt;refine IfB.yes (by omega) ?_;refine jI (h.ext hX) k rfl hx ?_;intro b9 o9 ha9 hb9;refine jO hb9 rfl ?_;refine jC (s:=bs p) k rfl hchar ?_;refine (impl_ReadDecimal (by omega) (hT.ext hX) (hE.ext hX)).mono ?_;rintro _ w10 ⟨rfl,e10⟩;refine jC (s:=bs p) k rfl hchar ?_;refine jL (hA.ext e10).blk.cells (k:=0) rfl ?_;refine SemK.buildSlice mk_62 (vs:=[Value.int .i64 (numI x)]) (by rfl) (by rfl) (by simp [Value.cells,TField.enc]) (by decide) ?_;intro b11 w11 g11 l11 e11 B11;have hA11:=hA.ext (xt e10 e11);have z10:=e10.size;have z11:=e11.size;refine SemK.appendAt (enc:=eI) mk_62 eI_len hA11.g1 (ys:=[numI x]) (m:=1) B11.cells rfl (by simp [flat,eI,eS,TField.enc,cellish]) (by omega) (by omega) (by omega) ?_;intro a12 c12 w12 G12 m12 i12;have hB12:=hA11.blk.mod m12 (fun hq=>hA11.nb _ (.inl hq) rfl);refine jT hB12 (k:=0) (by simp) rfl ?_;intro w13 c13 B13;have hA13:=hA11.push1 G12 m12 i12 c13 B13;have z12:=m12.size;have z13:=c13.but.size;have B513:=((B58.ext (xt e10 e11)).mod m12 (fun hq=>by
        obtain ⟨y,hy,he⟩:=hq;have:=hA11.g1.new y hy;omega)).mod c13.but (fun hq=>by have hq:b5=b6:=hq;omega)
      have E13:Ext w w13:=xb (xm (xt hX (xt e10 e11)) m12 (fun q hq=>by
        have:=blkIn_new hA11.g1.new q hq;omega)) c13.but (by omega)
      refine IfB.nsplit (fun hgd=>?_) (fun hgd=>?_)
      · rw [hno (by rw [hnt];exact hgd)];refine SemK.build st_65 rfl ?_;refine jS (vs:=[.slice none 0 0,.slice none 0 0,.slice none 0 0,.slice none 0 0]) B513 rfl rfl (by simp [cellish]) ?_;intro w14 c14 B14;refine CellK.of (jR (n:=4) rfl B14.cells) ?_;exact ⟨_,_,_,_,_,_,_,_,_,_,_,_,rfl,(fun h=>by cases h),xb E13 c14.but (by omega)⟩
      · refine SemK.add (((k+1:Nat):Int)) (by omega) (by omega) (by omega) ?_;refine ⟨k+1,by omega,a12,a2,a3,a4,c12,c2,c3,c4,rfl,by omega,?_⟩;rw [hnt];exact ⟨hgd,hA13,B513,E13,by omega,by simp only [List.length_append,List.length_singleton];omega,Nat.le_succ_of_le n2,Nat.le_succ_of_le n3,Nat.le_succ_of_le n4⟩
    · by_cases q2:ch=110
      · subst q2;rw [argStep_n] at hnt;refine IfB.yes (by omega) ?_;refine jI (h.ext hX) k rfl hx ?_;intro b9 o9 ha9 hb9;refine jO hb9 rfl ?_;refine jC (s:=bs p) k rfl hchar ?_;refine (impl_ReadDecimal (by omega) (hT.ext hX) (hE.ext hX)).mono ?_;rintro _ w10 ⟨rfl,e10⟩;refine jC (s:=bs p) k rfl hchar ?_;refine jL (hA.ext e10).blk.cells (k:=1) rfl ?_;refine SemK.buildSlice mk_62 (vs:=[Value.int .i64 (numI x)]) (by rfl) (by rfl) (by simp [Value.cells,TField.enc]) (by decide) ?_;intro b11 w11 g11 l11 e11 B11;have hA11:=hA.ext (xt e10 e11);have z10:=e10.size;have z11:=e11.size;refine SemK.appendAt (enc:=eI) mk_62 eI_len hA11.g2 (ys:=[numI x]) (m:=1) B11.cells rfl (by simp [flat,eI,eS,TField.enc,cellish]) (by omega) (by omega) (by omega) ?_;intro a12 c12 w12 G12 m12 i12;have hB12:=hA11.blk.mod m12 (fun hq=>hA11.nb _ (.inr (.inl hq)) rfl);refine jT hB12 (k:=1) (by simp) rfl ?_;intro w13 c13 B13;have hA13:=hA11.push2 G12 m12 i12 c13 B13;have z12:=m12.size;have z13:=c13.but.size;have B513:=((B58.ext (xt e10 e11)).mod m12 (fun hq=>by
          obtain ⟨y,hy,he⟩:=hq;have:=hA11.g2.new y hy;omega)).mod c13.but (fun hq=>by have hq:b5=b6:=hq;omega)
        have E13:Ext w w13:=xb (xm (xt hX (xt e10 e11)) m12 (fun q hq=>by
          have:=blkIn_new hA11.g2.new q hq;omega)) c13.but (by omega)
        refine IfB.nsplit (fun hgd=>?_) (fun hgd=>?_)
        · rw [hno (by rw [hnt];exact hgd)];refine SemK.build st_65 rfl ?_;refine jS (vs:=[.slice none 0 0,.slice none 0 0,.slice none 0 0,.slice none 0 0]) B513 rfl rfl (by simp [cellish]) ?_;intro w14 c14 B14;refine CellK.of (jR (n:=4) rfl B14.cells) ?_;exact ⟨_,_,_,_,_,_,_,_,_,_,_,_,rfl,(fun h=>by cases h),xb E13 c14.but (by omega)⟩
        · refine SemK.add (((k+1:Nat):Int)) (by omega) (by omega) (by omega) ?_;refine ⟨k+1,by omega,a1,a12,a3,a4,c1,c12,c3,c4,rfl,by omega,?_⟩;rw [hnt];exact ⟨hgd,hA13,B513,E13,by omega,Nat.le_succ_of_le n1,by simp only [List.length_append,List.length_singleton];omega,Nat.le_succ_of_le n3,Nat.le_succ_of_le n4⟩
      · by_cases q3:ch=102
        · subst q3;rw [argStep_f] at hnt;refine IfB.yes (by omega) ?_;refine jI (h.ext hX) k rfl hx ?_;intro b9 o9 ha9 hb9;refine jO hb9 rfl ?_;refine jC (s:=bs p) k rfl hchar ?_;refine (impl_readField hxs (hT.ext hX) (hE.ext hX) (hM.ext hX)).mono ?_;rintro _ w9 ⟨rfl,e9⟩;refine jN (z := .agg #[.int .i64 0,.int .i64 0]) ?_;intro b10 w10a g10 l10 e10a B10a;refine SemK.storeAll (vs:=(readFieldM x).1.enc) (by kernel_rfl) B10a rfl rfl (by simp [TField.enc,cellish]) ?_;intro w10 c10 B10;have e10:Ext w8 w10:=xb (xt e9 e10a) c10.but (Nat.le_trans e9.size g10);refine jL (hA.ext e10).blk.cells (k:=2) rfl ?_;refine jA (n:=2) B10.cells rfl ?_;refine SemK.buildSlice mk_63 (vs:=[.agg ⟨(readFieldM x).1.enc⟩]) (by rfl) (by rfl) (by simp [Value.cells,TField.enc]) (by decide) ?_;intro b11 w11 g11 l11 e11 B11;have hA11:=hA.ext (xt e10 e11);have z10:=e10.size;have z11:=e11.size;refine SemK.appendAt (enc:=TField.enc) mk_63 TField.enc_len hA11.g3 (ys:=[(readFieldM x).1]) (m:=1) B11.cells rfl (by simp [flat,eI,eS,TField.enc,cellish]) (by omega) (by omega) (by omega) ?_;intro a12 c12 w12 G12 m12 i12;have hB12:=hA11.blk.mod m12 (fun hq=>hA11.nb _ (.inr (.inr (.inl hq))) rfl);refine jT hB12 (k:=2) (by simp) rfl ?_;intro w13 c13 B13;have hA13:=hA11.push3 G12 m12 i12 c13 B13;have z12:=m12.size;have z13:=c13.but.size;have B513:=((B58.ext (xt e10 e11)).mod m12 (fun hq=>by
            obtain ⟨y,hy,he⟩:=hq;have:=hA11.g3.new y hy;omega)).mod c13.but (fun hq=>by have hq:b5=b6:=hq;omega)
          have E13:Ext w w13:=xb (xm (xt hX (xt e10 e11)) m12 (fun q hq=>by
            have:=blkIn_new hA11.g3.new q hq;omega)) c13.but (by omega)
          refine IfB.nsplit (fun hgd=>?_) (fun hgd=>?_)
          · rw [hno (by rw [hnt];exact hgd)];refine SemK.build st_65 rfl ?_;refine jS (vs:=[.slice none 0 0,.slice none 0 0,.slice none 0 0,.slice none 0 0]) B513 rfl rfl (by simp [cellish]) ?_;intro w14 c14 B14;refine CellK.of (jR (n:=4) rfl B14.cells) ?_;exact ⟨_,_,_,_,_,_,_,_,_,_,_,_,rfl,(fun h=>by cases h),xb E13 c14.but (by omega)⟩
          · refine SemK.add (((k+1:Nat):Int)) (by omega) (by omega) (by omega) ?_;refine ⟨k+1,by omega,a1,a2,a12,a4,c1,c2,c12,c4,rfl,by omega,?_⟩;rw [hnt];exact ⟨hgd,hA13,B513,E13,by omega,Nat.le_succ_of_le n1,Nat.le_succ_of_le n2,by simp only [List.length_append,List.length_singleton];omega,Nat.le_succ_of_le n4⟩
        · rw [argStep_x q1 q2 q3] at hnt;have k1:¬ ((ch.toNat:Int)=116):=fun h=>q1 (UInt8.toNat_inj.1 (by show ch.toNat=116;omega));have k2:¬ ((ch.toNat:Int)=110):=fun h=>q2 (UInt8.toNat_inj.1 (by show ch.toNat=110;omega));have k3:¬ ((ch.toNat:Int)=102):=fun h=>q3 (UInt8.toNat_inj.1 (by show ch.toNat=102;omega));refine IfB.yes (by omega) ?_;refine jI (h.ext hX) k rfl hx ?_;intro b9 o9 ha9 hb9;refine jO hb9 rfl ?_;refine jC (s:=bs p) k rfl hchar ?_;refine IfB.no k1 ?_;refine IfB.no k2 ?_;refine IfB.no k3 ?_;have e10:Ext w8 w8:=Ext.refl _;refine jL (hA.ext e10).blk.cells (k:=3) rfl ?_;refine SemK.buildSlice mk_24 (vs:=[Value.string x]) (by rfl) (by rfl) (by simp [Value.cells,TField.enc]) (by decide) ?_;intro b11 w11 g11 l11 e11 B11;have hA11:=hA.ext (xt e10 e11);have z10:=e10.size;have z11:=e11.size;refine SemK.appendAt (enc:=eS) mk_24 eS_len hA11.g4 (ys:=[x]) (m:=1) B11.cells rfl (by simp [flat,eI,eS,TField.enc,cellish]) (by omega) (by omega) (by omega) ?_;intro a12 c12 w12 G12 m12 i12;have hB12:=hA11.blk.mod m12 (fun hq=>hA11.nb _ (.inr (.inr (.inr hq))) rfl);refine jT hB12 (k:=3) (by simp) rfl ?_;intro w13 c13 B13;have hA13:=hA11.push4 G12 m12 i12 c13 B13;have z12:=m12.size;have z13:=c13.but.size;have B513:=((B58.ext (xt e10 e11)).mod m12 (fun hq=>by
            obtain ⟨y,hy,he⟩:=hq;have:=hA11.g4.new y hy;omega)).mod c13.but (fun hq=>by have hq:b5=b6:=hq;omega)
          have E13:Ext w w13:=xb (xm (xt hX (xt e10 e11)) m12 (fun q hq=>by
            have:=blkIn_new hA11.g4.new q hq;omega)) c13.but (by omega)
          refine SemK.add (((k+1:Nat):Int)) (by omega) (by omega) (by omega) ?_;refine ⟨k+1,by omega,a1,a2,a3,a12,c1,c2,c3,c12,rfl,by omega,?_⟩;rw [hnt];exact ⟨rfl,hA13,B513,E13,by omega,Nat.le_succ_of_le n1,Nat.le_succ_of_le n2,Nat.le_succ_of_le n3,by simp only [List.length_append,List.length_singleton];omega⟩
  · obtain rfl:k=n:=by omega
    rw [List.take_of_length_le (by omega)] at hA hok;generalize hst:argSt (p.zip ws)=st at *;obtain ⟨A,okk⟩:=st;dsimp only at hA hok;subst hok;refine IfB.no (by omega) ?_;refine jL hA.blk.cells (k:=0) rfl ?_;refine (lib_ContainsFuncInt (g:=63) (p:=fun t=>!inB t 0 5) (cap:=[]) (hA.g1.own.arr eI_len) (fun x hx w' e=>impl_readArgs1 x w')).mono ?_;rintro _ w9 ⟨rfl,e9⟩;refine IfB.split (fun hany=>?_) (fun hany=>?_)
    · have hr:argsM p ws=(noArgs,2):=by unfold argsM;rw [hst];simp [hany]
      rw [hr];refine SemK.build st_65 rfl ?_;refine jS (vs:=[.slice none 0 0,.slice none 0 0,.slice none 0 0,.slice none 0 0]) (B58.ext e9) rfl rfl (by simp [cellish]) ?_;intro w10 c10 B10;refine CellK.of (jR (n:=4) rfl B10.cells) ?_;exact ⟨_,_,_,_,_,_,_,_,_,_,_,_,rfl,(fun h=>by cases h),xb (xt hX e9) c10.but (by omega)⟩
    · have hr:argsM p ws=(A,0):=by unfold argsM;rw [hst];simp [hany]
      rw [hr];refine jA (n:=4) (hA.ext e9).blk.cells rfl ?_;refine jS (vs:=[.slice a1 A.trays.length c1,.slice a2 A.nums.length c2,.slice a3 A.fields.length c3,.slice a4 A.texts.length c4]) (B58.ext e9) rfl rfl (by simp [cellish]) ?_;intro w10 c10 B10;refine CellK.of (jR (n:=4) rfl B10.cells) ?_;have hb:∀ (y:Addr),w6.heap.size≤y.block→¬ y.block=b5:=fun y hy hq=>by omega
      exact ⟨_,_,_,_,_,_,_,_,_,_,_,_,rfl,fun _=>⟨((hA.g1.ext e9).mod c10.but fun y hy=>hb y (hA.g1.new y hy)).own.arr eI_len,((hA.g2.ext e9).mod c10.but fun y hy=>hb y (hA.g2.new y hy)).own.arr eI_len,((hA.g3.ext e9).mod c10.but fun y hy=>hb y (hA.g3.new y hy)).own.arr TField.enc_len,((hA.g4.ext e9).mod c10.but fun y hy=>hb y (hA.g4.new y hy)).own.arr eS_len,hA.g1.new.mono (by omega),hA.g2.new.mono (by omega),hA.g3.new.mono (by omega),hA.g4.new.mono (by omega)⟩,xb (xt hX e9) c10.but (by omega)⟩
end Go.Proofs.YthadkoinmohmlaaGreatDoor
