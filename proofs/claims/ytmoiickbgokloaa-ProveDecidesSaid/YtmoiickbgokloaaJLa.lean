/- Words and walks that the kit's printer wrote for this claim, less what the proofs do not use. -/
import Derived.Test.YtmoiickbgokloaaJLUx0
import Derived.Test.YtmoiickbgokloaaJSb
