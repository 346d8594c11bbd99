/- Contracts of functions of the given program, of the reference and of the laws: each says what a call returns, for all arguments that meet the premises that the theorem itself names. -/
import Derived.Test.YthadkoinmohmlaaGreatDoorStepM
namespace Go.M
open Go Go.Vc
theorem deckB_of {d:List (List Int)} {W:Nat} (h40:d.length≤40) (h:∀ c∈d,cardB c=true∧c.length=W):deckB d=true:=by
  unfold deckB;rw [Bool.and_eq_true];refine ⟨?_,decide_eq_true h40⟩;rw [List.all_eq_true];intro i hi;rw [List.mem_range] at hi;obtain ⟨c,hc⟩:=get_of_lt hi;rw [cardAt_of hc,Bool.and_eq_true];refine ⟨(h c (List.mem_of_getElem? hc)).1,decide_eq_true ?_⟩;rw [(h c (List.mem_of_getElem? hc)).2];cases d with
  | nil=>simp at hi
  | cons x xs=>exact ((h x (by simp)).2).symm
theorem office_of {X:List (List (List Int))} {m W:Nat} (h6:X.length=6) (hm:m≤20) (h:∀ d∈X,d.length≤40∧∀ c∈d,cardB c=true∧c.length=W):officeB X m=true:=by
  unfold officeB;simp only [Bool.and_eq_true,decide_eq_true_eq];refine ⟨⟨?_,h6⟩,hm⟩;have hW:∀ d∈X,d≠[]→offWidth X=W:=by
    intro d hd hne;have key:∀ X:List (List (List Int)),(∀ d∈X,∀ c∈d,c.length=W)→(∃ d∈X,d≠[])→offWidth X=W:=by
      intro X;induction X with
      | nil=>rintro _ ⟨d,hd,_⟩;simp at hd
      | cons y ys ih =>
        intro h1 h2;cases y with
        | nil =>
          obtain ⟨d,hd,hn⟩:=h2;rcases List.mem_cons.1 hd with rfl | hd
          · exact absurd rfl hn
          · exact ih (fun d hd=>h1 d (List.mem_cons_of_mem _ hd)) ⟨d,hd,hn⟩
        | cons c cs=>exact h1 (c :: cs) (by simp) c (by simp)
    exact key X (fun d hd c hc=>((h d hd).2 c hc).2) ⟨d,hd,hne⟩
  rw [List.all_eq_true];intro d hd;unfold trayB;rw [Bool.and_eq_true];refine ⟨deckB_of (h d hd).1 (h d hd).2,?_⟩;cases d with
  | nil=>rfl
  | cons c cs =>
    simp only [List.headD_cons,Bool.or_eq_true,decide_eq_true_eq];right;rw [hW (c :: cs) hd (by simp)];exact decide_eq_true ((h (c :: cs) hd).2 c (by simp)).2
theorem office_all2 {X:List (List (List Int))} {m:Nat} (h:officeB X m=true):X.length=6∧m≤20∧∀ d∈X,d.length≤40∧∀ c∈d,cardB c=true∧c.length=offWidth X:=by
  have h':=h;unfold officeB at h';simp only [Bool.and_eq_true,decide_eq_true_eq,List.all_eq_true] at h';refine ⟨h'.1.2,h'.2,fun d hd=>?_⟩;have ht:=h'.1.1 d hd;unfold trayB at ht;rw [Bool.and_eq_true] at ht;have hb:=deckB_mem ht.1;refine ⟨hb.1,fun c hc=>⟨(hb.2 c hc).1,?_⟩⟩;cases d with
  | nil=>simp at hc
  | cons x xs =>
    have h2:=ht.2;simp only [List.headD_cons,Bool.or_eq_true,decide_eq_true_eq] at h2;rw [(hb.2 c hc).2];rcases h2 with h2 | h2
    · simp at h2
    · exact of_decide_eq_true h2
theorem getD_mem {α:Type} {l:List α} {i:Nat} {z:α} (h:i<l.length):l.getD i z∈l:=by
  rw [List.getD_eq_getElem?_getD,List.getElem?_eq_getElem h];exact List.getElem_mem h
theorem deckOf_in {a b:List (List Int)} {x:TStep} (ha:a.length≤40):(deckOfM a b x).1.length≤40∧∀ c∈(deckOfM a b x).1,c∈a∨c∈b:=by
  unfold deckOfM;split
  · unfold sortM;split
    · simp
    · exact ⟨by simp only [sd_len];omega,fun c hc=>.inl ((sd_perm _ _).subset hc)⟩
  split
  · unfold mergeM;split
    · simp
    · split
      · simp
      · split
        · simp
        · split
          · simp
          · refine ⟨?_,fun c hc=>?_⟩
            · simp only [sd_len,List.length_append];omega
            · exact List.mem_append.1 ((sd_perm _ _).subset hc)
  split
  · unfold selectM;split
    · simp
    · refine ⟨?_,fun c hc=>.inl ((List.mem_filter.1 hc).1)⟩;have:=List.length_filter_le (fun c=>decide (textCmp x.field c x.text=0)) a;simp only;omega
  split
  · unfold firstM;split
    · simp
    · refine ⟨?_,fun c hc=>?_⟩
      · have:(starts (a.map (ckey x.field))).length≤(a.map (ckey x.field)).length:=by
          unfold starts startsN;refine Nat.le_trans (List.length_filter_le _ _) ?_;simp
        rw [List.length_map] at this;simp only [List.length_map];omega
      · obtain ⟨i,hi,rfl⟩:=List.mem_map.1 hc;have:=(starts_mem.1 hi).1;rw [List.length_map] at this;exact .inl (getD_mem this)
  · split
    · simp
    · refine ⟨?_,fun c hc=>.inl ((List.mem_filter.1 hc).1)⟩;unfold matchedM;have:=List.length_filter_le (fun c=>decide (eqIn b c x.field=decide (x.kind=3))) a;simp only;omega
theorem getD_in {X:List (List (List Int))} {m:Nat} (h:officeB X m=true) (k:Nat):(X.getD k []).length≤40∧∀ c∈X.getD k [],cardB c=true∧c.length=offWidth X:=by
  rcases Nat.lt_or_ge k X.length with hk | hk
  · exact (office_all2 h).2.2 _ (getD_mem hk)
  · rw [List.getD_eq_getElem?_getD,List.getElem?_eq_none hk];simp
theorem office_set {X:List (List (List Int))} {m k:Nat} {d:List (List Int)} (h:officeB X m=true) (h40:d.length≤40) (hd:∀ c∈d,cardB c=true∧c.length=offWidth X):officeB (X.set k d) m=true:=by
  have ho:=office_all2 h;refine office_of (W:=offWidth X) (by rw [List.length_set];exact ho.1) ho.2.1 fun y hy=>?_;rcases List.mem_or_eq_of_mem_set hy with hy | rfl
  · exact ho.2.2 y hy
  · exact ⟨h40,hd⟩
theorem step_valid {X:List (List (List Int))} {Y:List (List TTotal)} {x:TStep} (h:officeB X Y.length=true) (h0:(stepM X Y (offWidth X) x).2=0) :
    officeB (stepM X Y (offWidth X) x).1.1 (stepM X Y (offWidth X) x).1.2.length=true:=by
  have ho:=office_all2 h;unfold stepM at h0 ⊢;split at h0
  · cases h0
  rename_i q1;rw [if_neg q1];split at h0
  · cases h0
  rename_i q2;rw [if_neg q2];split at h0
  · rename_i q3;split at h0
    · rename_i q4;exact absurd h0 q4
    rename_i q4;rw [if_pos q3,if_neg q4];refine office_of (W:=offWidth X) ho.1 ?_ ho.2.2;have hne:Y.length≠20:=fun e=>q2 ⟨q3,e⟩;have:=ho.2.1;simp only [List.length_append,List.length_cons,List.length_nil];omega
  · rename_i q3;split at h0
    · rename_i q4;exact absurd h0 q4
    rename_i q4;rw [if_neg q3,if_neg q4];have ga:=getD_in h x.a.toNat;have gb:=getD_in h x.b.toNat;have hd:=deckOf_in (x:=x) (b:=X.getD x.b.toNat []) ga.1;refine office_set h hd.1 fun c hc=>?_;rcases hd.2 c hc with hc | hc
    · exact ga.2 c hc
    · exact gb.2 c hc
theorem desk_parts {X:List (List (List Int))} {m:Nat} {s:ByteArray}:deskB X m s=true↔officeB X m=true∧journalCode s=0:=by simp [deskB]
theorem cards_code (s:ByteArray):(cardsM s).2=journalCode s:=by
  unfold cardsM;split<;>simp [*]
theorem exec_valid {D:TDesk} {w:ByteArray} {a:TArgs} (h:deskB D.X D.Y.length D.s=true) (h0:(execM D w a).2=0) :
    deskB (execM D w a).1.1.X (execM D w a).1.1.Y.length (execM D w a).1.1.s=true∧(execM D w a).1.2≠[]:=by
  obtain ⟨hO,hJ⟩:=desk_parts.1 h;have hl:∀ l,listedM l≠[]:=fun l=>by simp [listedM]
  unfold execM at h0 ⊢;by_cases c1:w=w_log
  · rw [if_pos c1];exact ⟨h,hl _⟩
  rw [if_neg c1] at h0 ⊢;by_cases c2:w=w_card
  · rw [if_pos c2] at h0 ⊢;by_cases c3:punchCode (a.texts.getD 0 ⟨#[]⟩)≠0
    · rw [if_pos c3] at h0;exact absurd h0 c3
    rw [if_neg c3] at h0 ⊢;by_cases c4:officeB (D.X.set (a.trays.getD 0 0).toNat (D.X.getD (a.trays.getD 0 0).toNat []++[punchL (a.texts.getD 0 ⟨#[]⟩)])) D.Y.length=false
    · rw [if_pos c4] at h0;cases h0
    rw [if_neg c4];exact ⟨desk_parts.2 ⟨by simpa using c4,hJ⟩,by simp⟩
  rw [if_neg c2] at h0 ⊢;by_cases c3:w=w_clear
  · rw [if_pos c3];exact ⟨desk_parts.2 ⟨office_set hO (by simp) (by simp),hJ⟩,by simp⟩
  rw [if_neg c3] at h0 ⊢;by_cases c4:w=w_show
  · rw [if_pos c4] at h0 ⊢;cases hf:(D.X.getD (a.trays.getD 0 0).toNat []).find? (fun c=>decide (readCode c≠0)) with
    | some c =>
      rw [hf] at h0;have:=List.find?_some hf;simp only [decide_eq_true_eq] at this;exact absurd h0 this
    | none=>exact ⟨h,hl _⟩
  rw [if_neg c4] at h0 ⊢;by_cases c5:w=w_note
  · rw [if_pos c5] at h0 ⊢;split at h0
    · rename_i q;exact absurd h0 q
    · rename_i q;rw [if_neg q];refine ⟨desk_parts.2 ⟨hO,?_⟩,by simp⟩;simp only at h0;rw [cards_code] at h0;exact h0
  rw [if_neg c5] at h0 ⊢;by_cases c6:w=w_passes
  · rw [if_pos c6];exact ⟨h,by simp⟩
  rw [if_neg c6] at h0 ⊢;by_cases c7:w=w_tab
  · rw [if_pos c7];exact ⟨h,hl _⟩
  rw [if_neg c7] at h0 ⊢;by_cases c8:(stepM D.X D.Y (offWidth D.X) (stepOfM w a)).2≠0
  · rw [if_pos c8] at h0;exact absurd h0 c8
  rw [if_neg c8];have hs:=step_valid hO (by simpa using c8);split
  · exact ⟨desk_parts.2 ⟨hs,hJ⟩,by simp⟩
  · exact ⟨desk_parts.2 ⟨hs,hJ⟩,by simp⟩
theorem cmd_valid {D:TDesk} (line:ByteArray) (h:deskB D.X D.Y.length D.s=true) :
    (cmdM D line).2=7∨((cmdM D line).2=0∧deskB (cmdM D line).1.1.X (cmdM D line).1.1.Y.length (cmdM D line).1.1.s=true∧(cmdM D line).1.2≠[]):=by
  unfold cmdM;rw [if_neg (by simp [h])];split
  · exact .inl rfl
  · split
    · exact .inr ⟨rfl,h,by simp⟩
    · split
      · exact .inr ⟨rfl,h,by simp⟩
      · rename_i q;have hq:(execM D ((splitS 32 line).headD ⟨#[]⟩) (argsM (patM ((splitS 32 line).headD ⟨#[]⟩)) ((splitS 32 line).drop 1)).1).2=0:=by simpa using q
        exact .inr ⟨hq,exec_valid h hq⟩
end Go.M
