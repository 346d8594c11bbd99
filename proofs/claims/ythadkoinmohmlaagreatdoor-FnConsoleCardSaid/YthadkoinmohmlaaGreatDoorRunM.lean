/- Contracts of functions of the given program, of the reference and of the laws: each says what a call returns, for all arguments that meet the premises that the theorem itself names. -/
import Derived.Test.YthadkoinmohmlaaGreatDoorStepL
import Derived.Test.YthadkoinmohmlaaGreatDoorFew
import Derived.Test.YthadkoinmohmlaaGreatDoorTots
namespace Go.M
open Go Go.Vc
structure SmallL (l:List ByteArray):Prop where
  n:l.length≤4001
  s:∀ x∈l,x.size≤40000
theorem small_nil:SmallL []:=⟨by simp,by simp⟩
theorem small_one {x:ByteArray} (h:x.size≤40000):SmallL [x]:=⟨by simp,by simpa using h⟩
theorem partOf_le (c:List Int) (f:TField):(partOf c f).length≤c.length:=by
  unfold partOf;simp;omega
theorem ckey_len0 (f:TField) (c:List Int):(ckey f c).length=(partOf c f).length:=by simp [ckey,ranks]
theorem dec_small {n:Int} (h0 : -40000000000000≤n) (h1:n≤40000000000000):(decB n).size≤21:=decB_len (by omega) (by omega)
theorem listed_small {l:List ByteArray} (hl:l.length≤4000) (hs:∀ x∈l,x.size≤40000):SmallL (listedM l):=by
  unfold listedM;refine ⟨by simp;omega,fun x hx=>?_⟩;rcases List.mem_append.1 hx with hx | hx
  · exact hs x hx
  · rw [List.mem_singleton] at hx;subst hx;have:=dec_small (n:=(l.length:Int)) (by omega) (by omega);rw [ByteArray.size_append,bs_size];simp;omega
theorem headKey_small {g:List (List Int)} {f:TField} (h0:g≠[]) (h20:∀ c∈g,c.length≤20):(headKey g f).size≤20:=by
  unfold headKey;rw [txt_size,ckey_len0];cases g with
  | nil=>exact absurd rfl h0
  | cons c cs =>
    have:=partOf_le c f;have:=h20 c (by simp);simp only [List.headD_cons];omega
theorem groups_mem {d g:List (List Int)} {f:TField} (h:g∈groupsM d f):g≠[]∧g.length≤d.length∧∀ c∈g,c∈d:=by
  obtain ⟨k,hk⟩:=List.mem_iff_getElem?.1 h;exact group_ok hk
theorem deck_20 {d:List (List Int)} (hd:deckB d=true):∀ c∈d,c.length≤20:=fun c hc=>(cardB_b ((deckB_mem hd).2 c hc).1).2.1
theorem sum_small {d g:List (List Int)} {s:TField} (hd:deckB d=true) (hs:numFieldB s (widthOf d)=true) (hl:g.length≤d.length) (hg:∀ c∈g,c∈d) : -40000000000000≤sumM g s∧sumM g s≤40000000000000 :=
  sumM_b (fun c hc=>(part12 (by rw [((deckB_mem hd).2 c (hg c hc)).2];exact hs)).1) (by have:=(deckB_mem hd).1;omega)
theorem tab_small (d:List (List Int)) (f s:TField):SmallL (listedM (tabM d f s).1):=by
  unfold tabM;by_cases hz:tabCode d f s=0
  · rw [if_neg (by simp [hz])];obtain ⟨hd,hf,hs,_,_⟩:=tab_inv hz;have h40:=(deckB_mem hd).1;have hgl:=groups_le d f;refine listed_small (by simp;omega) fun x hx=>?_;rcases List.mem_append.1 hx with hx | hx
    · obtain ⟨g,hg,rfl⟩:=List.mem_map.1 hx;obtain ⟨g0,g1,g2⟩:=groups_mem hg;have h1:=headKey_small (f:=f) g0 fun c hc=>deck_20 hd c (g2 c hc);have h2:=sum_small hd hs g1 g2;have h3:=dec_small h2.1 h2.2;unfold tabLine;simp only [ByteArray.size_append,bs_size,List.length_cons,List.length_nil];omega
    · rw [List.mem_singleton] at hx;subst hx;have h2:=sum_small hd hs (Nat.le_refl _) fun c hc=>hc;have h3:=dec_small h2.1 h2.2;simp only [ByteArray.size_append,bs_size,List.length_cons,List.length_nil];omega
  · rw [if_pos hz];exact listed_small (by simp) (by simp)
theorem joinB_small {B:Nat} (c:UInt8) (l:List ByteArray) (h:∀ x∈l,x.size≤B):(joinB c l).size≤l.length * (B+1):=by
  unfold joinB;rw [bs_size];have:=join_le c (l.map (·.data.toList)) (B:=B) (fun y hy=>by
    obtain ⟨z,hz,rfl⟩:=List.mem_map.1 hy;have:=h z hz;simpa using this)
  simpa using this
theorem dash_small {s:ByteArray} (h:s.size≤40000):(dashB s).size≤40000:=by
  unfold dashB;split
  · rw [bs_size];simp
  · exact h
theorem tot_ok {d:List (List Int)} {f s:TField} (hd:deckB d=true) (hs:numFieldB s (widthOf d)=true):(totListM d f s).1.length≤40∧∀ x∈(totListM d f s).1,x.name.size≤20∧-40000000000000≤x.sum∧x.sum≤40000000000000:=by
  unfold totListM;split
  · exact ⟨by simp,by simp⟩
  · have h40:=(deckB_mem hd).1;have hgl:=groups_le d f;refine ⟨by simp;omega,fun x hx=>?_⟩;obtain ⟨g,hg,rfl⟩:=List.mem_map.1 hx;obtain ⟨g0,g1,g2⟩:=groups_mem hg;exact ⟨headKey_small g0 fun c hc=>deck_20 hd c (g2 c hc),sum_small hd hs g1 g2⟩
theorem totals_small {l:List TTotal} (hn:l.length≤40) (h:∀ x∈l,x.name.size≤20∧-40000000000000≤x.sum∧x.sum≤40000000000000):(totalsS l).size≤40000:=by
  unfold totalsS;have:=joinB_small (B:=42) 59 (l.map totalWord) (fun x hx=>by
    obtain ⟨t,ht,rfl⟩:=List.mem_map.1 hx;have h1:=h t ht;have h2:=dec_small h1.2.1 h1.2.2;unfold totalWord;simp only [ByteArray.size_append,bs_size,List.length_cons,List.length_nil];omega)
  rw [List.length_map] at this;omega
theorem counts_small {X:List (List (List Int))} (h6:X.length=6) (h:∀ d∈X,d.length≤41):(lineS (countsOf X)).size≤40000:=by
  unfold lineS;split
  · rw [bs_size];simp
  · rw [bs_size];unfold jn;have:=join_le 32 ((countsOf X).map Lib.itoa) (B:=21) (fun y hy=>by
      obtain ⟨n,hn,rfl⟩:=List.mem_map.1 hy;unfold countsOf at hn;obtain ⟨d,hd,rfl⟩:=List.mem_map.1 hn;have:=h d hd;have h2:=dec_small (n:=(d.length:Int)) (by omega) (by omega);unfold decB at h2;rw [bs_size] at h2;exact h2)
    rw [List.length_map,countsOf_len] at this;omega
theorem step_inv {X:List (List (List Int))} {Y:List (List TTotal)} {W:Nat} {x:TStep} (h0:(stepM X Y W x).2=0) :
    stepB x W=true∧((x.kind=7∧(stepM X Y W x).1=(X,Y++[(totListM (X.getD x.a.toNat []) x.field x.sum).1]))∨(x.kind≠7∧(stepM X Y W x).1=(X.set x.dst.toNat (deckOfM (X.getD x.a.toNat []) (X.getD x.b.toNat []) x).1,Y))):=by
  unfold stepM at h0 ⊢;split at h0
  · cases h0
  rename_i h1;rw [if_neg h1];split at h0
  · cases h0
  rename_i h2;rw [if_neg h2];split at h0
  · rename_i h3;rw [if_pos h3];split at h0
    · rename_i h4;exact absurd h0 h4
    · rename_i h4;rw [if_neg h4];exact ⟨by simpa using h1,.inl ⟨h3,rfl⟩⟩
  · rename_i h3;rw [if_neg h3];split at h0
    · rename_i h4;exact absurd h0 h4
    · rename_i h4;rw [if_neg h4];exact ⟨by simpa using h1,.inr ⟨h3,rfl⟩⟩
theorem stepB_sum {x:TStep} {W:Int} (h:stepB x W=true) (h7:x.kind=7):numFieldB x.sum W=true:=by
  unfold stepB at h;split at h
  · cases h
  split at h
  · cases h
  split at h
  · cases h
  · rename_i h3;simp only [not_or,not_and,Bool.not_eq_false] at h3;exact h3.1 h7
theorem notes_small (s:ByteArray):SmallL (listedM ((notesOfM s).1.map wordsB)):=by
  have hl:=notesOfM_len s;refine listed_small (by simpa using hl) fun x hx=>?_;obtain ⟨n,hn,rfl⟩:=List.mem_map.1 hx;unfold notesOfM at hn;split at hn
  · have:=(readJ_ok _ s.data.toList 0 (Nat.le_refl _) (by decide) (by decide)).1 n hn;have h1:=words_size (noteB_ok this);have h2:=noteB_what this;omega
  · cases hn
theorem cards_b (s:ByteArray):0≤(cardsM s).1∧(cardsM s).1≤600000:=by
  unfold cardsM;split
  · have:=sumTo_b (l:=(readJ s.data.toList 0).1) (fun x hx=>(readJ_ok _ s.data.toList 0 (Nat.le_refl _) (by decide) (by decide)).1 x hx) 6;simpa using this
  · simp
theorem few_inv {d:List (List Int)} {f:TField}:(fewM d f).1.length≤8∧∀ p∈(fewM d f).1,0≤p.col∧p.col<20∧(p.mode=1∨p.mode=2):=by
  unfold fewM;split
  · exact ⟨by simp,by simp⟩
  rename_i h1;split
  · exact ⟨by simp,by simp⟩
  rename_i h2;have hk:(keysM d f).2=0:=by simpa using h1
  have hin:=keys_inv hk;have hw:=width_b hin.1;have hb:=fieldB_b hin.2.1;have hfl:(fLen f:Int)=f.to_ - f.from_:=by unfold fLen;omega
  have hl:=full_len f;have hbl:=best_len d (sdM d f) (fullM f) (2 ^ (fullM f).length);refine ⟨?_,fun p hp=>?_⟩
  · unfold pickL bestM;rw [List.length_map];omega
  · have:=full_ok hin.2.1 (pick_mem (best_ok d (sdM d f) (fullM f) _) hp);exact ⟨this.1,by omega,this.2.2⟩
theorem passes_small (d:List (List Int)) (f:TField):SmallL [dashB (joinB 32 ((fewM d f).1.map passWord))]:=by
  obtain ⟨h1,h2⟩:=few_inv (d:=d) (f:=f);refine small_one (dash_small ?_);have:=joinB_small (B:=22) 32 ((fewM d f).1.map passWord) (fun x hx=>by
    obtain ⟨p,hp,rfl⟩:=List.mem_map.1 hx;have h3:=h2 p hp;have h4:=dec_small (n:=p.col) (by omega) (by omega);unfold passWord;rw [ByteArray.size_append];split<;>rw [bs_size]<;>simp<;>omega)
  rw [List.length_map] at this;omega
theorem exec_small {D:TDesk} {w:ByteArray} {a:TArgs} (h:deskB D.X D.Y.length D.s=true):SmallL (execM D w a).1.2∧((∀ y∈D.Y,y.length≤1048576)→∀ y∈(execM D w a).1.1.Y,y.length≤1048576):=by
  obtain ⟨hO,hJ⟩:=desk_parts.1 h;have hX:=office_mem hO;have h40:∀ d∈D.X,d.length≤40:=fun d hd=>(deckB_mem (hX.2 d hd)).1;have hg:=getD_in hO;have hset:∀ (k:Nat) (d:List (List Int)),d.length≤41→(lineS (countsOf (D.X.set k d))).size≤40000:=fun k d hd=>counts_small (by simp [hX.1]) fun e he=>by
    rcases List.mem_or_eq_of_mem_set he with he | rfl
    · have:=h40 e he;omega
    · exact hd
  unfold execM;by_cases c1:w=w_log
  · rw [if_pos c1];exact ⟨notes_small _,fun h=>h⟩
  rw [if_neg c1];by_cases c2:w=w_card
  · rw [if_pos c2];by_cases c3:punchCode (a.texts.getD 0 ⟨#[]⟩)≠0
    · rw [if_pos c3];exact ⟨small_nil,fun h=>h⟩
    rw [if_neg c3];by_cases c4:officeB (D.X.set (a.trays.getD 0 0).toNat (D.X.getD (a.trays.getD 0 0).toNat []++[punchL (a.texts.getD 0 ⟨#[]⟩)])) D.Y.length=false
    · rw [if_pos c4];exact ⟨small_nil,fun h=>h⟩
    rw [if_neg c4];exact ⟨small_one (hset _ _ (by have:=(hg (a.trays.getD 0 0).toNat).1;rw [List.length_append];simp only [List.length_singleton];omega)),fun h=>h⟩
  rw [if_neg c2];by_cases c3:w=w_clear
  · rw [if_pos c3];exact ⟨small_one (hset _ _ (by simp)),fun h=>h⟩
  rw [if_neg c3];by_cases c4:w=w_show
  · rw [if_pos c4];cases hf:(D.X.getD (a.trays.getD 0 0).toNat []).find? (fun c=>decide (readCode c≠0)) with
    | some c=>exact ⟨small_nil,fun h=>h⟩
    | none =>
      refine ⟨listed_small (by have:=(hg (a.trays.getD 0 0).toNat).1;rw [List.length_map];omega) fun x hx=>?_,fun h=>h⟩;obtain ⟨c,hc,rfl⟩:=List.mem_map.1 hx;have:=(cardB_b ((hg (a.trays.getD 0 0).toNat).2 c hc).1).2.1;rw [txt_size,ranks_len];omega
  rw [if_neg c4];by_cases c5:w=w_note
  · rw [if_pos c5];by_cases c6:(addNoteM D.s ⟨a.trays.getD 0 0,(D.X.getD (a.trays.getD 0 0).toNat []).length,a.nums.getD 0 0,a.texts.getD 0 ⟨#[]⟩⟩).2≠0
    · rw [if_pos c6];exact ⟨small_nil,fun h=>h⟩
    · rw [if_neg c6];refine ⟨small_one ?_,fun h=>h⟩;have:=cards_b (addNoteM D.s ⟨a.trays.getD 0 0,(D.X.getD (a.trays.getD 0 0).toNat []).length,a.nums.getD 0 0,a.texts.getD 0 ⟨#[]⟩⟩).1;have:=dec_small (n:=(cardsM (addNoteM D.s ⟨a.trays.getD 0 0,(D.X.getD (a.trays.getD 0 0).toNat []).length,a.nums.getD 0 0,a.texts.getD 0 ⟨#[]⟩⟩).1).1) (by omega) (by omega);omega
  rw [if_neg c5];by_cases c6:w=w_passes
  · rw [if_pos c6];exact ⟨passes_small _ _,fun h=>h⟩
  rw [if_neg c6];by_cases c7:w=w_tab
  · rw [if_pos c7];exact ⟨tab_small _ _ _,fun h=>h⟩
  rw [if_neg c7];by_cases q:(stepM D.X D.Y (offWidth D.X) (stepOfM w a)).2≠0
  · rw [if_pos q];exact ⟨small_nil,fun h=>h⟩
  rw [if_neg q];have q0:(stepM D.X D.Y (offWidth D.X) (stepOfM w a)).2=0:=by simpa using q
  obtain ⟨hB,hr⟩:=step_inv q0;have hdeck:∀ k,deckB (D.X.getD k [])=true:=fun k=>deckB_of (W:=offWidth D.X) (hg k).1 (hg k).2;have hw7:∀ (k:Nat) f s,numFieldB s (offWidth D.X)=true→(totListM (D.X.getD k []) f s).1.length≤40∧∀ x∈(totListM (D.X.getD k []) f s).1,x.name.size≤20∧-40000000000000≤x.sum∧x.sum≤40000000000000:=fun k f s hs=>by
    cases hd:D.X.getD k [] with
    | nil=>exact ⟨by unfold totListM;split<;>simp [groupsM,starts,startsN],fun x hx=>by unfold totListM at hx;split at hx<;>simp [groupsM,starts,startsN] at hx⟩
    | cons c cs =>
      have h1:=(hg k).2 c (by rw [hd];simp);have h2:=hdeck k;rw [hd] at h2;exact tot_ok h2 (by show numFieldB s ((c.length:Nat):Int)=true;rw [h1.2];exact hs)
  have hY:(∀ y∈D.Y,y.length≤1048576)→∀ y∈(stepM D.X D.Y (offWidth D.X) (stepOfM w a)).1.2,y.length≤1048576:=by
    rcases hr with ⟨k7,he⟩ | ⟨k7,he⟩
    · rw [he];intro h y hy;rcases List.mem_append.1 hy with hy | hy
      · exact h y hy
      · rw [List.mem_singleton] at hy;subst hy;have:=(hw7 (stepOfM w a).a.toNat (stepOfM w a).field _ (stepB_sum hB k7)).1;omega
    · rw [he];exact fun h=>h
  by_cases hnt:w≠w_total
  · rw [if_pos hnt];refine ⟨small_one ?_,hY⟩;rcases hr with ⟨k7,he⟩ | ⟨k7,he⟩
    · rw [he];exact counts_small hX.1 fun d hd=>by have:=h40 d hd;omega
    · rw [he];have:=deckOf_in (a:=D.X.getD (stepOfM w a).a.toNat []) (b:=D.X.getD (stepOfM w a).b.toNat []) (x:=stepOfM w a) (hg _).1;exact hset _ _ (by omega)
  · rw [if_neg hnt];have hwt:w=w_total:=Classical.not_not.1 hnt;have k7:(stepOfM w a).kind=7:=by rw [hwt];rfl
    refine ⟨small_one (dash_small ?_),hY⟩;rcases hr with ⟨_,he⟩ | ⟨k7',he⟩
    · rw [he];rw [List.getLastD_eq_getLast?,List.getLast?_append];simp only [List.getLast?_singleton,Option.some_or,Option.getD_some];have:=hw7 (stepOfM w a).a.toNat (stepOfM w a).field _ (stepB_sum hB k7);exact totals_small this.1 this.2
    · exact absurd k7 k7'
theorem codeName_size (k:Int):(codeNameM k).size≤9:=by
  unfold codeNameM;split
  · decide
  · have:∀ i:Nat,(codeNamesM.getD i ⟨#[]⟩).size≤9:=fun i=>by
      rcases Nat.lt_or_ge i 11 with h | h
      · have key:∀ i:Fin 11,(codeNamesM.getD i.val ⟨#[]⟩).size≤9:=by decide
        exact key ⟨i,h⟩
      · rw [List.getD_eq_getElem?_getD,List.getElem?_eq_none (by exact h)];decide
    exact this _
theorem err_small (k:Int):SmallL [errLine k]:=by
  refine small_one ?_;have:=codeName_size k;unfold errLine;rw [ByteArray.size_append,bs_size];simp;omega
theorem cmd_small {D:TDesk} (line:ByteArray) (h:deskB D.X D.Y.length D.s=true):SmallL (cmdM D line).1.2∧((cmdM D line).2=0→(∀ y∈D.Y,y.length≤1048576)→∀ y∈(cmdM D line).1.1.Y,y.length≤1048576):=by
  unfold cmdM;rw [if_neg (by simp [h])];split
  · exact ⟨small_nil,fun h0=>by cases h0⟩
  split
  · exact ⟨err_small _,fun _ h=>h⟩
  split
  · exact ⟨err_small _,fun _ h=>h⟩
  · have:=exec_small (D:=D) (w:=(splitS 32 line).headD ⟨#[]⟩) (a:=(argsM (patM ((splitS 32 line).headD ⟨#[]⟩)) ((splitS 32 line).drop 1)).1) h;exact ⟨this.1,fun _=>this.2⟩
def desk0:TDesk:=⟨List.replicate 6 [],[],⟨#[]⟩⟩
noncomputable def stepR (st:TDesk×List UInt8) (line:ByteArray):TDesk×List UInt8 :=
  if (cmdM st.1 line).2≠0 then (st.1,st.2++[63,10]) else ((cmdM st.1 line).1.1,st.2++linesT (cmdM st.1 line).1.2)
noncomputable def runSt (ls:List ByteArray):TDesk×List UInt8:=ls.foldl stepR (desk0,[])
def cutF:Nat→List UInt8→List ByteArray
  | 0,_=>[]
  | k+1,l=>if l=[] then [] else bs (Lib.cut l [10]).1 :: cutF k (Lib.cut l [10]).2.1
def cutL (l:List UInt8):List ByteArray:=cutF l.length l
theorem cut_less {l:List UInt8} (h:l≠[]):(Lib.cut l [10]).2.1.length<l.length:=by
  by_cases hm:(10:UInt8)∈l
  · obtain ⟨p,r,rfl,hp⟩:=List.eq_append_cons_of_mem hm;rw [cut_at hp];simp;omega
  · rw [cut_no hm];exact List.length_pos_iff.2 h
theorem cutF_more:∀ (k g:Nat) (l:List UInt8),l.length≤k→l.length≤g→cutF k l=cutF g l
  | 0,g,l,h,_=>by
    have:l=[]:=List.eq_nil_of_length_eq_zero (by omega);subst this;cases g<;>simp [cutF]
  | k+1,g,l,h,hg=>by
    by_cases hl:l=[]
    · subst hl;cases g<;>simp [cutF]
    · have:=cut_less hl;have:=List.length_pos_iff.2 hl;obtain ⟨g,rfl⟩:∃ g',g=g'+1:=⟨g - 1,by omega⟩;simp only [cutF,if_neg hl];rw [cutF_more k g _ (by omega) (by omega)]
theorem cutL_nil:cutL []=[]:=rfl
theorem cutL_cons {l:List UInt8} (h:l≠[]):cutL l=bs (Lib.cut l [10]).1 :: cutL (Lib.cut l [10]).2.1:=by
  have h1:=cut_less h;have h2:=List.length_pos_iff.2 h;unfold cutL;obtain ⟨k,hk⟩:∃ k,l.length=k+1:=⟨l.length - 1,by omega⟩;rw [hk];simp only [cutF,if_neg h];rw [cutF_more k _ _ (by omega) (Nat.le_refl _)]
theorem cutL_lines:∀ ls:List ByteArray,(∀ x∈ls,(10:UInt8)∉x.data.toList)→cutL (linesT ls)=ls
  | [],_=>rfl
  | x :: ls,h=>by
    have e:linesT (x :: ls)=x.data.toList++10 :: linesT ls:=by simp [linesT]
    rw [e,cutL_cons (by simp),cut_at (h x (by simp))];simp only;rw [cutL_lines ls fun y hy=>h y (List.mem_cons_of_mem _ hy)];congr 1
noncomputable def runM (s:ByteArray):ByteArray :=
  if (cutL s.data.toList).length≤60 then bs (runSt (cutL s.data.toList)).2 else bs ((runSt ((cutL s.data.toList).take 60)).2++[101,114,114,111,114,32,102,117,108,108,10])
theorem runSt_snoc (ls:List ByteArray) (x:ByteArray):runSt (ls++[x])=stepR (runSt ls) x:=by
  unfold runSt;rw [List.foldl_append];rfl
theorem lines_small {l:List ByteArray} (h:SmallL l):(linesT l).length≤160044001:=by
  have key:∀ l:List ByteArray,(∀ x∈l,x.size≤40000)→(linesT l).length≤l.length * 40001:=by
    intro l;induction l with
    | nil=>intro _;simp [linesT]
    | cons x l ih =>
      intro h;have h1:=ih fun y hy=>h y (List.mem_cons_of_mem _ hy);have h2:=h x (by simp);have e:linesT (x :: l)=x.data.toList++10 :: linesT l:=by simp [linesT]
      rw [e,List.length_append,List.length_cons,List.length_cons,Nat.add_mul];have h3:x.data.toList.length≤40000:=by simpa using h2
      omega
  have h1:=key l h.s;have h2:=h.n;have h3:l.length * 40001≤4001 * 40001:=Nat.mul_le_mul_right _ h2;omega
structure RunOk (st:TDesk×List UInt8) (k:Nat):Prop where
  v:deskB st.1.X st.1.Y.length st.1.s=true
  y:∀ y∈st.1.Y,y.length≤1048576
  s:st.2.length≤k * 200000000
theorem run_ok0:RunOk (desk0,[]) 0:=⟨by decide +kernel,by simp [desk0],by simp⟩
theorem run_next {st:TDesk×List UInt8} {k:Nat} (h:RunOk st k) (line:ByteArray):RunOk (stepR st line) (k+1):=by
  have hs:=h.s;unfold stepR;split
  · exact ⟨h.v,h.y,by simp;omega⟩
  · rename_i q;have q0:(cmdM st.1 line).2=0:=by simpa using q
    have h1:=cmd_small line h.v;have h3:=lines_small h1.1;rcases cmd_valid line h.v with h2 | ⟨_,h2,_⟩
    · rw [q0] at h2;cases h2
    · exact ⟨h2,h1.2 q0 h.y,by rw [List.length_append];omega⟩
theorem run_ok (ls:List ByteArray):RunOk (runSt ls) ls.length:=by
  have key:∀ (ls:List ByteArray) (st:TDesk×List UInt8) (k:Nat),RunOk st k→RunOk (ls.foldl stepR st) (k+ls.length):=by
    intro ls;induction ls with
    | nil=>intro st k h;exact h
    | cons x ls ih =>
      intro st k h;have:=ih _ _ (run_next h x);rw [List.foldl_cons,List.length_cons];rw [show k+(ls.length+1)=k+1+ls.length by omega];exact this
  have:=key ls (desk0,[]) 0 run_ok0;rw [Nat.zero_add] at this;exact this
theorem runM_lines {ls:List ByteArray} (h:∀ x∈ls,(10:UInt8)∉x.data.toList) (hl:ls.length≤60):runM (bs (linesT ls))=bs (runSt ls).2:=by
  unfold runM;rw [bs_toList,cutL_lines ls h,if_pos hl]
theorem run_end {s:ByteArray} {ls:List ByteArray} (h:cutL s.data.toList=ls++cutL []) (hk:ls.length≤60):runM s=bs (runSt ls).2:=by
  rw [cutL_nil,List.append_nil] at h;unfold runM;rw [h,if_pos hk]
theorem run_full {s:ByteArray} {ls:List ByteArray} {l:List UInt8} (h:cutL s.data.toList=ls++cutL l) (hk:ls.length=60) (hl:l≠[]):runM s=bs ((runSt ls).2++[101,114,114,111,114,32,102,117,108,108,10]):=by
  unfold runM;have h1:(cutL s.data.toList).length=60+(cutL l).length:=by rw [h,List.length_append,hk]
  have h2:(cutL l).length≠0:=by rw [cutL_cons hl];simp
  rw [if_neg (by omega),h,List.take_left' hk]
theorem run_step {s:ByteArray} {ls:List ByteArray} {l:List UInt8} (h:cutL s.data.toList=ls++cutL l) (hl:l≠[]):cutL s.data.toList=(ls++[bs (Lib.cut l [10]).1])++cutL (Lib.cut l [10]).2.1:=by
  rw [h,cutL_cons hl,List.append_assoc];rfl
theorem stepR_no {st:TDesk×List UInt8} {line:ByteArray} (h:(cmdM st.1 line).2≠0):stepR st line=(st.1,st.2++[63,10]):=if_pos h
theorem stepR_yes {st:TDesk×List UInt8} {line:ByteArray} (h:(cmdM st.1 line).2=0):stepR st line=((cmdM st.1 line).1.1,st.2++linesT (cmdM st.1 line).1.2):=if_neg (by simp [h])
theorem lines_take {l:List ByteArray} {k:Nat} {x:ByteArray} (h:l[k]? = some x):linesT (l.take (k+1))=linesT (l.take k)++(x.data.toList++[10]):=by
  unfold linesT;rw [List.take_add_one,h,List.map_append,List.flatten_append];simp
theorem lines_take_le (l:List ByteArray) (k:Nat):(linesT (l.take k)).length≤(linesT l).length:=by
  have e:linesT l=linesT (l.take k)++linesT (l.drop k):=by
    unfold linesT;rw [← List.flatten_append,← List.map_append,List.take_append_drop]
  rw [e,List.length_append];omega
theorem bs_app (a b:List UInt8):bs (a++b)=bs a++bs b:=by
  apply bytes_ext;simp [bs]
end Go.M
